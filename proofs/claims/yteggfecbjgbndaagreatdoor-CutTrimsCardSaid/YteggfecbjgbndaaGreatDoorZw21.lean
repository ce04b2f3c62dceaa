/- Merged -/
import Derived.Test.YteggfecbjgbndaaGreatDoorZw20
set_option linter.all false
set_option maxHeartbeats 8000000
set_option maxRecDepth 100000
open Go.Value renaming int→C,slice→E,bool→G,pointer→J,agg→O
open Go.IntKind renaming i64→D
open Go.Proofs.Tryz renaming prog→H
open Option renaming none→I,some→M
open Go.Obj renaming cells→L
open Go.Mv renaming zhd→N
open Go.Mv.Blk renaming new→P0,other→P1
open Go.Instr renaming makeFunc→P2
open Go.RowKit.Below renaming setCell→P3
namespace Go.Proofs.YteggfecbjgbndaaGreatDoor
open Go.RowKit Go.Mv
theorem zng (t:Tup) (v:Value) (p:Nat) (w:World) (hE:Es w v t.log) (Hb:t.log.length≤4000000) (hB:Blk w p 44 (zbK t v)) :
  Calls H 87 #[J (M ⟨p,0,I⟩)] w fun en w'=>en=zgT t∧Ext w w':=by
 obtain ⟨A,c,rfl,_,_⟩:=xO hE;obtain ⟨m0,m1,m2,m3,m4,m5,m6,m7⟩:=zib hB;have key:=zkD t _ w hE Hb;unfold zbK at key;have H7:=N key;clear key
 cases hr:zbf t with
 | true =>
  rw[zin hr] at H7 ⊢
  go_enter Tryz.func87,Tryz.ntmps87
  go_wp2_with fail
  refine H7.out.mono ?_
  rintro e w1 ⟨rfl,H3⟩;clear m0 m1 m2 m3 m4 m5 m6 m7;go_wp2_with fail
  go_end0
  exact ⟨rfl,H3⟩
 | false =>
  rw[zfs hr] at H7 ⊢
  go_enter Tryz.func87,Tryz.ntmps87
  go_wp2_with fail
  refine H7.out.mono ?_
  rintro e w1 ⟨rfl,H3⟩
  exact ⟨rfl,rfl,H3⟩
theorem zrW (t:Tup) (v:Value) (p:Nat) (w:World) (hE:Es w v t.log) (Hb:t.log.length≤4000000) (hB:Blk w p 44 (zbK t v)) :
  Calls H 86 #[.func (.func 87) #[] #[J (M ⟨p,0,I⟩)]] w fun en w'=>en=.returned (C D (if zbf t then 0 else 2))∧Ext w w':=by
 have Hp:∀ (fn:Fn) (first cap:Array Value) (w:World),(P2 fn first cap).run H w=.ok (.func fn first cap) w:=fun _ _ _ _=>rfl
 have hX:Ext w (w.alloc (L #[C D 0] 45)):=xA (xR _) _
 have he:=P0 w 45 #[C D 0];have key:=zng t v p _ (SlR.ext hE hX) Hb (hB.ext hX);have HX:=N hX;have He:=N he;clear hB hX he hE
 cases hr:zbf t with
 | false =>
  rw[zfs hr] at key;have H7:=N key;clear key hr
  go_enter_defers Tryz.func86,Tryz.ntmps86
  go_wp2_with fail
  refine H7.out.mono ?_
  rintro e w1 ⟨rfl,H3⟩;have H8:=He.out.ext H3
  refine leaves_cons (f:=152) (args:=#[J (M ⟨w.heap.size,0,I⟩)]) (by simp) (by simp[go_sem]) ?_
  refine (zqe ⟨w.heap.size,0,I⟩ _ 2 [] _ (H8.cell 0 rfl) (H8.frozen 0)).mono ?_
  rintro e u' w2 ⟨rfl,rfl,rfl⟩;have hs:=H8.set 0 (C D 2);have hc:=hs.cell 0 rfl
  simp[Leaves,settle,results,Tryz.results86,go_sem,hc]
  exact P3 (p:=⟨w.heap.size,0,I⟩) (xT HX.out H3) (xN _) _
 | true =>
  rw[zin hr] at key;have H7:=N key;clear key hr
  go_enter_defers Tryz.func86,Tryz.ntmps86
  go_wp2_with fail
  refine H7.out.mono ?_
  rintro e w1 ⟨rfl,H3⟩;have H8:=He.out.ext H3;have f0:=H8.frozen 0;have g0:=H8.cell 0 rfl;have HE:=N (xT HX.out H3);have HL:=N H8;clear H3 H8;go_wp2_with fail
  refine leaves_cons (f:=152) (args:=#[J (M ⟨w.heap.size,0,I⟩)]) (by simp) (by simp[go_sem]) ?_
  refine (ziY ⟨w.heap.size,0,I⟩ _).mono ?_
  rintro e u' w4 ⟨rfl,rfl,rfl⟩;have hs:=HL.out.set 0 (C D 0)
  have hc:(w1.setCell ⟨w.heap.size,0,I⟩ (C D 0)).cell? ⟨w.heap.size,0,I⟩=M (C D 0):=hs.cell 0 rfl
  simp[Leaves,settle,results,Tryz.results86,go_sem,hc]
  exact P3 (p:=⟨w.heap.size,0,I⟩) HE.out (xN _) _
theorem zoV (t:Tup) (v:Value) (w:World) (hE:Es w v t.log) (Hb:t.log.length≤4000000) :
  Calls H 39 #[O #[C D t.s.idx,C D t.s.term,C D t.s.sum,C D t.s.lvl,G t.s.fin,v,C D t.term,C D t.vote]] w fun en w'=>en=.returned (G (zbf t))∧Ext w w':=by
 have Hp:∀ (fn:Fn) (first cap:Array Value) (w:World),(P2 fn first cap).run H w=.ok (.func fn first cap) w:=fun _ _ _ _=>rfl
 obtain ⟨A,c,rfl,_,_⟩:=xO hE
 have hX:Ext w (w.alloc (L (zbK t (E A t.log.length c)) 44)):=xA (xR _) _
 have key:=zrW t _ w.heap.size _ (SlR.ext hE hX) Hb (P0 w 44 (zbK t (E A t.log.length c)))
 unfold zbK at *
 have HX:=N hX;clear hX hE
 cases hr:zbf t with
 | false =>
  rw[hr] at key;have H7:=N key;clear key hr
  go_enter Tryz.func39,Tryz.ntmps39
  go_wp2_with fail
  refine H7.out.mono ?_
  rintro e w1 ⟨rfl,H3⟩;simp only[Bool.false_eq_true,if_false];go_wp2_with fail;go_ret
  exact ⟨rfl,xT HX.out H3⟩
 | true =>
  rw[hr] at key;have H7:=N key;clear key hr
  go_enter Tryz.func39,Tryz.ntmps39
  go_wp2_with fail
  refine H7.out.mono ?_
  rintro e w1 ⟨rfl,H3⟩;simp only[if_true];go_wp2_with fail;go_ret
  exact ⟨rfl,xT HX.out H3⟩
def zcf:World→Nat→Nat→List Value→World
 | W,_,_,[]=>W
 | W,b,k,v::l=>zcf (W.setCell ⟨b,k,I⟩ v) b (k+1) l
def zkl:Array Value→Nat→List Value→Array Value
 | cs,_,[]=>cs
 | cs,k,v::l=>zkl (cs.setIfInBounds k v) (k+1) l
theorem zdW:∀ (l:List Value) {W:World} {b k:Nat} {t:TypeId} {cs:Array Value},Blk W b t cs→Blk (zcf W b k l) b t (zkl cs k l)
 | [],_,_,_,_,_,h=>h
 | v::l,_,_,k,_,_,h=>zdW l (h.set k v)
theorem zb2:∀ (l:List Value) {W:World} {b c k:Nat} {t:TypeId} {cs:Array Value},Blk W b t cs→b≠c→Blk (zcf W c k l) b t cs
 | [],_,_,_,_,_,_,h,_=>h
 | v::l,_,_,_,k,_,_,h,hn=>zb2 l (h.other hn k v) hn
theorem zc4:∀ (l:List Value) {w W:World} {b k:Nat},Ext w W→w.heap.size≤b→Ext w (zcf W b k l)
 | [],_,_,_,_,h,_=>h
 | v::l,_,_,b,k,h,hb=>zc4 l (P3 (p:=⟨b,k,I⟩) h hb v) hb
theorem zl4 (W:World) (A:Option Addr) {c:Nat} (hc:c≤9223372036854775807):Es W (E A 0 c) [] :=
 ⟨rfl,A,c,rfl,Nat.zero_le _,hc,fun h=>absurd h (Nat.lt_irrefl _)⟩
theorem ziG (A:Option Addr) (c:Nat) (w:World) (hc:c≤9223372036854775807):Calls H 227 #[E A 0 c] w fun e w'=>∃ A' c',e=.returned (E A' 0 c')∧c'≤9223372036854775807∧Ext w w':=by
 obtain ⟨i0,hi,Kr,Ks,Kt⟩:=info_parts zeq
 have Km:=fun (W:World)=>Lib.run_eql_slice_nil (P:=H) W
 cases A with
 | none =>
  go_enter Tryz.func227,Tryz.ntmps227
  go_wp2
  go_ret
  exact ⟨_,_,rfl,by omega,xR _⟩
 | some a =>
  have HQ:(w.alloc (L #[] 54)).ownsRow w.heap.size 54 3 (E (M ⟨w.heap.size,0,I⟩) 0 0) 0 []:=⟨by simp,.inr ⟨w.heap.size,0,#[],rfl,xN _,heap_alloc_new w _,xN _,by simp[maxLen],by simp,by simp⟩⟩
  go_enter Tryz.func227,Tryz.ntmps227
  go_wp2_with (at_builtin;refine zm6 rfl (.tmp 5) (.tmp 6) rfl w.heap.size (E (M ⟨w.heap.size,0,I⟩) 0 0) [] rfl HQ (E (some a) 0 c) [] rfl (zl4 _ _ hc) (by simp) (by simp) ?_;intro A1 c1 w1 Kn HA)
  go_ret;obtain ⟨A2,c2,e2,_,Kp⟩:=xO (OwnE.es Kn)
  injection e2 with e3 e4 e5
  exact ⟨_,_,rfl,by omega,HA _ (xA (xR w) _) (xN _)⟩
theorem ztk (tmps:Array Value) (W:World) (b:Nat) (cs:Array Value) (h4:tmps.getD 2 undef=J (M ⟨b,0,I⟩)) (hb:Blk W b 44 cs) (hs:cs.size=8):(results Tryz.f224 tmps).run H W=.ok (.agg cs) W:=by
 have hl:=hb.load (P:=H) zc7 rfl (by rw[hs];kernel_rfl)
 have Hh:tmps[2]?.getD undef=J (M ⟨b,0,I⟩):=by simpa using h4
 simp[results,Tryz.results224,Hh,asAddr,hl]
theorem zqB (s:Sta) (tm vt:Int) (A:Option Addr) (c:Nat) (w:World) (hc:c≤9223372036854775807) :
  Calls H 224 #[O #[C D s.idx,C D s.term,C D s.sum,C D s.lvl,G s.fin,E A 0 c,C D tm,C D vt]] w fun e w' =>
   ∃ A' c',e=.returned (O #[C D s.idx,C D s.term,C D s.sum,C D s.lvl,G s.fin,E A' 0 c',C D tm,C D vt])∧c'≤9223372036854775807∧Ext w w':=by
 have b0:=(P0 w 44 #[C D s.idx,C D s.term,C D s.sum,C D s.lvl,G s.fin,E A 0 c,C D tm,C D vt]).alloc (L #[C D 0,C D 0,C D 0,C D 0,G false,E none 0 0,C D 0,C D 0] 44);have b1:=P0 (w.alloc (L #[C D s.idx,C D s.term,C D s.sum,C D s.lvl,G s.fin,E A 0 c,C D tm,C D vt] 44)) 44 #[C D 0,C D 0,C D 0,C D 0,G false,E none 0 0,C D 0,C D 0];rw[xS] at b1
 have hX:Ext w ((w.alloc (L #[C D s.idx,C D s.term,C D s.sum,C D s.lvl,G s.fin,E A 0 c,C D tm,C D vt] 44)).alloc (L #[C D 0,C D 0,C D 0,C D 0,G false,E none 0 0,C D 0,C D 0] 44)):=xA (xA (xR _) _) _
 have B0:=N b0;have B1:=N b1;have HX:=N hX;obtain ⟨q0,q1,q2,q3,q4,q5,q6,q7⟩:=zaQ b0;clear b0 b1 hX
 go_enter Tryz.func224,Tryz.ntmps224
 go_wp2_with fail
 refine (ziG A c _ hc).mono ?_
 rintro e w1 ⟨A1,c1,rfl,Hz,H3⟩;have Hv:=B0.out.ext H3;have HR:=B1.out.ext H3
 have HU:Blk (w1.setCell ⟨w.heap.size,5,I⟩ (E A1 0 c1)) w.heap.size 44 #[C D s.idx,C D s.term,C D s.sum,C D s.lvl,G s.fin,E A1 0 c1,C D tm,C D vt]:=Hv.set 5 _
 have Hw:=HR.other (show w.heap.size+1≠w.heap.size by omega) 5 (E A1 0 c1)
 have Hc:Ext w (w1.setCell ⟨w.heap.size,5,I⟩ (E A1 0 c1)):=P3 (p:=⟨w.heap.size,5,I⟩) (xT HX.out H3) (xN _) _
 have f5:=Hv.frozen 5;have g5:=Hv.cell 5 rfl;obtain ⟨p0,p1,p2,p3,p4,p5,p6,p7⟩:=zaQ HU;obtain ⟨r0,r1,r2,r3,r4,r5,r6,r7⟩:=zaQ Hw;obtain ⟨j0,j1,j2,j3,j4,j5,j6,j7⟩:=za9 Hw;have HG:=N Hw;have Hl:=N Hc;clear Hv HR HU Hw H3 Hc q0 q1 q2 q3 q4 q5 q6 q7;go_wp2_with fail
 refine bodyPost_ret (ztk _ _ (w.heap.size+1) _ rfl (zbY HG.out _ _ _ _ _ _ _ _) rfl) rfl ?_
 exact ⟨_,_,rfl,Hz,zbA Hl.out (by omega) _ _ _ _ _ _ _ _⟩
def cW (A:Option Addr) (c:Nat) (tm vt:Int):Array Value:=#[C D 0,C D 0,C D 0,C D 1,G false,E A 0 c,C D tm,C D vt]
def tW (tm vt:Int):Tup:=⟨⟨0,0,0,1,false⟩,[],tm,vt⟩
theorem zuw (tm vt:Int) (hr:zbf (tW tm vt)=true) (A:Option Addr) (c:Nat) (w:World) (hc:c≤9223372036854775807) :
  Calls H 88 #[O #[C D 0,C D 0,C D 0,C D 1,G false,E A 0 c,C D tm,C D vt]] w fun en w'=>en=.returned (.tuple #[])∧Ext w w':=by
 have h:=zkD (tW tm vt) (E A 0 c) w (zl4 w A hc) (by simp[tW]);rw[zin hr] at h
 exact h
theorem zfR (A:Option Addr) (c:Nat) (tm vt:Int) (w:World) :
  Calls H 126 #[O #[C D 0,C D 0,C D 0,C D 1,G false,E A 0 c,C D tm,C D vt]] w fun en w'=>en=.returned (C D 0)∧Ext w w':=by
 have b0:=P0 w 44 #[C D 0,C D 0,C D 0,C D 1,G false,E A 0 c,C D tm,C D vt];obtain ⟨q0,q1,q2,q3,q4,q5,q6,q7⟩:=zaQ b0;clear b0
 go_enter Tryz.func126,Tryz.ntmps126
 go_wp2
 go_ret
 exact ⟨rfl,xA (xR _) _⟩
theorem znh (A:Option Addr) (c:Nat) (tm vt:Int) (w:World) :
  Calls H 226 #[O #[C D 0,C D 0,C D 0,C D 1,G false,E A 0 c,C D tm,C D vt],C D 0] w fun en w'=>en=.returned (.tuple #[C D 0,G true])∧Ext w w':=by
 have b0:=P0 w 44 #[C D 0,C D 0,C D 0,C D 1,G false,E A 0 c,C D tm,C D vt];obtain ⟨q0,q1,q2,q3,q4,q5,q6,q7⟩:=zaQ b0;clear b0
 go_enter Tryz.func226,Tryz.ntmps226
 go_wp2
 go_ret2
 exact ⟨rfl,xA (xR _) _⟩
def UpdP (b:Nat) (tm vt:Int) (W:World) (en:Ending) (W':World):Prop :=
 en=.returned (.tuple #[])∧(∃ B d,d≤9223372036854775807∧Blk W' b 44 (cW B d tm vt))∧zcz b W W'∧∀ b' t cs,b'≠b→Blk W b' t cs→Blk W' b' t cs
theorem zr2 (F:Nat) (Hm:F=187∨F=188∨F=189) (cap:Array Value) (tm vt tm' vt':Int) (hr:zbf (tW tm vt)=true) (Hu:zbf (tW tm' vt')=true) (A:Option Addr) (c:Nat) (hc:c≤9223372036854775807) (B:Option Addr) (d:Nat) (hd:d≤9223372036854775807) (bw bd bo:Nat) (w:World)
  (Ho:Blk w bw 44 (cW A c tm vt)) (Hr:Blk w bd 232 #[.func (.func F) #[] cap]) (Hn:Blk w bo 44 (cW B d tm vt)) (hn:bw≠bo) (Ht:bd≠bo)
  (hF:∀ W,Ext w W→Calls H F (#[J (M ⟨bo,0,I⟩)]++cap) W (UpdP bo tm' vt' W)) :
  Calls H 225 #[J (M ⟨bw,0,I⟩),J (M ⟨bd,0,I⟩),J (M ⟨bo,0,I⟩)] w (UpdP bo tm' vt' w):=by
 unfold cW at Ho Hn;obtain ⟨q0,q1,q2,q3,q4,q5,q6,q7⟩:=zaQ Ho;have HD:=N Hr;have HF:=N hF;clear Ho Hr Hn hF
 go_enter Tryz.func225,Tryz.ntmps225
 go_wp2_with fail
 refine (zuw tm vt hr A c _ hc).mono ?_
 rintro e w1 ⟨rfl,H3⟩;have Hg:=N H3;have d0:=(HD.out.ext H3).cell 0 rfl;clear q0 q1 q2 q3 q4 q5 q6 q7 H3
 rcases Hm with rfl | rfl | rfl
 all_goals
  go_wp2_with fail
  refine (HF.out w1 Hg.out).mono ?_
  rintro e w2 ⟨rfl,⟨B2,d2,HO,Hd⟩,Hs,K7⟩;unfold cW at Hd;obtain ⟨q0,q1,q2,q3,q4,q5,q6,q7⟩:=zaQ Hd;have H6:=N Hd;have Kc:=N Hs;have Kf:=N K7;clear Hd Hs K7 d0;go_wp2_with fail
  refine (zuw tm' vt' Hu B2 d2 _ HO).mono ?_
  rintro e w3 ⟨rfl,K5⟩;clear q0 q1 q2 q3 q4 q5 q6 q7;have HI:=N K5;clear K5;go_wp2_with fail
  go_end0
  exact ⟨rfl,⟨B2,d2,HO,H6.out.ext HI.out⟩,fun W0 h0 hl=>xT (Kc.out W0 (xT h0 Hg.out) hl) HI.out,fun b' t cs H9 hb=>(Kf.out _ _ _ H9 (hb.ext Hg.out)).ext HI.out⟩
theorem UpdP.mk {b:Nat} {tm vt:Int} {W W':World} {B:Option Addr} {d:Nat} (hd:d≤9223372036854775807) (h1:Blk W' b 44 (cW B d tm vt)) (h2:zcz b W W') (h3:∀ b' t cs,b'≠b→Blk W b' t cs→Blk W' b' t cs):UpdP b tm vt W (.returned (.tuple #[])) W':=⟨rfl,⟨B,d,hd,h1⟩,h2,h3⟩
theorem zqf (F:Nat) (Hm:F=187∨F=188∨F=189) (cap:Array Value) (tm vt tm' vt':Int) (hr:zbf (tW tm vt)=true) (Hu:zbf (tW tm' vt')=true) (A:Option Addr) (c:Nat) (hc:c≤9223372036854775807) (B:Option Addr) (d:Nat) (hd:d≤9223372036854775807) (bw bd bo:Nat) (w:World)
  (Ho:Blk w bw 44 (cW A c tm vt)) (Hr:Blk w bd 232 #[.func (.func F) #[] cap]) (Hn:Blk w bo 44 (cW B d tm vt)) (hn:bw≠bo) (Ht:bd≠bo)
  (hF:∀ W,Ext w W→Calls H F (#[J (M ⟨bo,0,I⟩)]++cap) W (UpdP bo tm' vt' W)) :
  Calls H 86 #[.func (.func 225) #[] #[J (M ⟨bw,0,I⟩),J (M ⟨bd,0,I⟩),J (M ⟨bo,0,I⟩)]] w fun en w'=>en=.returned (C D 0)∧UpdP bo tm' vt' w (.returned (.tuple #[])) w':=by
 have Hp:∀ (fn:Fn) (first cap:Array Value) (w:World),(P2 fn first cap).run H w=.ok (.func fn first cap) w:=fun _ _ _ _=>rfl
 have hX:Ext w (w.alloc (L #[C D 0] 45)):=xA (xR _) _
 have he:=P0 w 45 #[C D 0]
 have Kq:bo<w.heap.size:=Hn.lt
 have key:=zr2 F Hm cap tm vt tm' vt' hr Hu A c hc B d hd bw bd bo _ (Ho.ext hX) (Hr.ext hX) (Hn.ext hX) hn Ht (fun W h=>hF W (xT hX h))
 have H7:=N key;have HX:=N hX;have He:=N he;clear key Ho Hr Hn hX he hF
 go_enter_defers Tryz.func86,Tryz.ntmps86
 go_wp2_with fail
 refine H7.out.mono ?_
 rintro e w1 ⟨rfl,⟨B1,d1,Kk,K6⟩,HA,HP⟩;have H8:=HP _ _ _ (by omega:w.heap.size≠bo) He.out;have f0:=H8.frozen 0;have g0:=H8.cell 0 rfl;have HL:=N H8;have Hf:=N K6;have Kb:=N HA;have Ke:=N HP;clear K6 HA HP H8;go_wp2_with fail
 refine leaves_cons (f:=152) (args:=#[J (M ⟨w.heap.size,0,I⟩)]) (by simp) (by simp[go_sem]) ?_
 refine (ziY ⟨w.heap.size,0,I⟩ _).mono ?_
 rintro e u' w4 ⟨rfl,rfl,rfl⟩;have hs:=HL.out.set 0 (C D 0)
 have hc:(w1.setCell ⟨w.heap.size,0,I⟩ (C D 0)).cell? ⟨w.heap.size,0,I⟩=M (C D 0):=hs.cell 0 rfl
 simp[Leaves,settle,results,Tryz.results86,go_sem,hc]
 refine UpdP.mk Kk (Hf.out.other (by omega) 0 _) (fun W0 h0 hl=>P3 (p:=⟨w.heap.size,0,I⟩) (Kb.out W0 (xT h0 HX.out) hl) h0.size _) (fun b' t cs H9 hb=>P1 (Ke.out _ _ _ H9 (hb.ext HX.out)) (by have:=hb.lt;omega) 0 _)
theorem zub (tmps:Array Value) (W:World) (b:Nat) (cs:Array Value) (u:Value) (h4:tmps.getD 4 undef=J (M ⟨b,0,I⟩)) (h5:tmps.getD 5 undef=u) (hb:Blk W b 44 cs) (hs:cs.size=8):(results Tryz.f186 tmps).run H W=.ok (.tuple #[.agg cs,u]) W:=by
 have hl:=hb.load (P:=H) zc7 rfl (by rw[hs];kernel_rfl)
 have Hh:tmps[4]?.getD undef=J (M ⟨b,0,I⟩):=by simpa using h4
 have Hj:tmps[5]?.getD undef=u:=by simpa using h5
 simp[results,Tryz.results186,Hh,Hj,asAddr,hl]
def zoE (tm vt:Int) (w:World) (e:Ending) (w':World):Prop:=∃ A c,e=.returned (.tuple #[O #[C D 0,C D 0,C D 0,C D 1,G false,E A 0 c,C D tm,C D vt],C D 0])∧Ext w w'
theorem zj5 (F:Nat) (Hm:F=187∨F=188∨F=189) (cap:Array Value) (tm vt tm' vt':Int) (hr:zbf (tW tm vt)=true) (Hu:zbf (tW tm' vt')=true) (A:Option Addr) (c:Nat) (hc:c≤9223372036854775807) (w:World)
  (hF:∀ W b B d,Ext w W→w.heap.size≤b→d≤9223372036854775807→Blk W b 44 (cW B d tm vt)→Calls H F (#[J (M ⟨b,0,I⟩)]++cap) W (UpdP b tm' vt' W)) :
  Calls H 186 #[O #[C D 0,C D 0,C D 0,C D 1,G false,E A 0 c,C D tm,C D vt],.func (.func F) #[] cap] w (zoE tm' vt' w):=by
 have Hp:∀ (fn:Fn) (first cap:Array Value) (w:World),(P2 fn first cap).run H w=.ok (.func fn first cap) w:=fun _ _ _ _=>rfl
 obtain ⟨W0,H4⟩:∃ W0,((w.alloc (L #[C D 0,C D 0,C D 0,C D 1,G false,E A 0 c,C D tm,C D vt] 44)).alloc (L #[.func (.func F) #[] cap] 232)).alloc (L #[C D 0,C D 0,C D 0,C D 0,G false,E none 0 0,C D 0,C D 0] 44)=W0:=⟨_,rfl⟩
 have Ha:Ext w W0:=by rw[←H4];exact xA (xA (xA (xR _) _) _) _
 have h0:Blk W0 w.heap.size 44 #[C D 0,C D 0,C D 0,C D 1,G false,E A 0 c,C D tm,C D vt]:=by rw[←H4];exact ((P0 w _ _).alloc _).alloc _
 have h1:Blk W0 (w.heap.size+1) 232 #[.func (.func F) #[] cap]:=by
  rw[←H4]
  have:=(P0 (w.alloc (L #[C D 0,C D 0,C D 0,C D 1,G false,E A 0 c,C D tm,C D vt] 44)) 232 #[.func (.func F) #[] cap]).alloc (L #[C D 0,C D 0,C D 0,C D 0,G false,E none 0 0,C D 0,C D 0] 44)
  rwa [xS] at this
 have h2:Blk W0 (w.heap.size+1+1) 44 #[C D 0,C D 0,C D 0,C D 0,G false,E none 0 0,C D 0,C D 0]:=by
  rw[←H4]
  have:=P0 ((w.alloc (L #[C D 0,C D 0,C D 0,C D 1,G false,E A 0 c,C D tm,C D vt] 44)).alloc (L #[.func (.func F) #[] cap] 232)) 44 #[C D 0,C D 0,C D 0,C D 0,G false,E none 0 0,C D 0,C D 0]
  rwa [xS,xS] at this
 obtain ⟨q0,q1,q2,q3,q4,q5,q6,q7⟩:=zaQ h0;have Hi:=N Ha;have H0:=N h0;have H1:=N h1;have H2:=N h2;have HF:=N hF;have Ka:=N Hm;clear Ha h0 h1 h2 hF Hm
 go_enter Tryz.func186,Tryz.ntmps186
 go_wp2_with fail
 refine (zqB ⟨0,0,0,1,false⟩ tm vt A c _ hc).mono ?_
 rintro e w1 ⟨A1,c1,rfl,Hz,H3⟩;have g2:=H2.out.ext H3;obtain ⟨f0,f1,f2,f3,f4,f5,f6,f7⟩:=za9 g2;obtain ⟨r0,r1,r2,r3,r4,r5,r6,r7⟩:=zaQ g2;have G2:=N (zbY g2 (C D 0) (C D 0) (C D 0) (C D 1) (G false) (E A1 0 c1) (C D tm) (C D vt));have G1:=N (zbX (H1.out.ext H3) (by omega:w.heap.size+1≠w.heap.size+1+1) (C D 0) (C D 0) (C D 0) (C D 1) (G false) (E A1 0 c1) (C D tm) (C D vt));have G0:=N (zbX (H0.out.ext H3) (by omega:w.heap.size≠w.heap.size+1+1) (C D 0) (C D 0) (C D 0) (C D 1) (G false) (E A1 0 c1) (C D tm) (C D vt));have GE:=N (zbA (xT Hi.out H3) (by omega:w.heap.size≤w.heap.size+1+1) (C D 0) (C D 0) (C D 0) (C D 1) (G false) (E A1 0 c1) (C D tm) (C D vt));clear H4 g2 H3 q0 q1 q2 q3 q4 q5 q6 q7 H0 H1 H2 Hi;go_wp2_with fail;unfold zb8 at G2 G1 G0 GE
 refine (zqf F Ka.out cap tm vt tm' vt' hr Hu A c hc A1 c1 Hz _ _ _ _ G0.out G1.out G2.out (by omega) (by omega) (fun W h=>HF.out W _ A1 c1 (xT GE.out h) (by omega) Hz (G2.out.ext h))).mono ?_
 rintro e w2 ⟨rfl,_,⟨B2,d2,HO,Hd⟩,Hs,_⟩;have Hc:=Hs w GE.out (by omega);unfold cW at Hd;clear f0 f1 f2 f3 f4 f5 f6 f7 r0 r1 r2 r3 r4 r5 r6 r7 Hs;obtain ⟨f0,f1,f2,f3,f4,f5,f6,f7⟩:=za9 Hd;obtain ⟨r0,r1,r2,r3,r4,r5,r6,r7⟩:=zaQ Hd;have H6:=N Hd;have Hl:=N Hc;clear Hd Hc;go_wp2_with fail
 refine bodyPost_ret (zub _ _ (w.heap.size+1+1) _ _ rfl rfl (zbY H6.out _ _ _ _ _ _ _ _) rfl) rfl ?_
 exact ⟨_,_,rfl,zbA Hl.out (by omega) _ _ _ _ _ _ _ _⟩
theorem zhS {W W':World} {b:Nat} (hE:Ext W W') (k:Nat) (v:Value):zcz b W (W'.setCell ⟨b,k,I⟩ v):=fun W0 h0 hl=>P3 (p:=⟨b,k,I⟩) (xT h0 hE) hl v
theorem zqA (B:Option Addr) (d bf bo:Nat) (hd:d≤9223372036854775807) (w:World) (hb:Blk w bo 44 (cW B d 0 0)) (hf:Blk w bf 3 #[C D 1]) (hn:bf≠bo) :
  Calls H 187 #[J (M ⟨bo,0,I⟩),J (M ⟨bf,0,I⟩)] w (UpdP bo 0 0 w):=by
 unfold cW at hb;obtain ⟨q0,q1,q2,q3,q4,q5,q6,q7⟩:=zaQ hb;have p0:=hf.cell 0 rfl;have HB:=N hb;have HF:=N hf;clear hb hf
 go_enter Tryz.func187,Tryz.ntmps187
 go_wp2_with fail
 refine wp_region_held_drew (S:=fun W=>W.cell? ⟨bf,0,I⟩=M (C D 1)∧W.cell? ⟨bo,0,I⟩=M (C D 0)∧W.cell? ⟨bo,1,I⟩=M (C D 0)∧W.cell? ⟨bo,2,I⟩=M (C D 0)∧W.cell? ⟨bo,3,I⟩=M (C D 1)∧W.cell? ⟨bo,4,I⟩=M (G false)∧W.cell? ⟨bo,5,I⟩=M (E B 0 d)∧W.cell? ⟨bo,6,I⟩=M (C D 0)∧W.cell? ⟨bo,7,I⟩=M (C D 0)) (by kernel_rfl) ⟨p0,q0,q1,q2,q3,q4,q5,q6,q7⟩ (fun _=>?_)
 refine tkN 0 ?_;refine tkN 1 ?_;refine tkN 2 ?_;refine tkN 3 ?_;refine tkN 4 ?_;refine tkN 5 ?_;refine tkN 6 ?_;refine tkN 7 ?_;refine tkN 8 ?_;refine tkN 9 ?_;refine tkN 10 ?_;refine tkN 11 ?_
 refine ar1 12 (fun K hK=>?_)
 go_simp
 refine (zfR B d 0 0 _).mono ?_
 rintro e w1 ⟨rfl,H3⟩;have H5:=xT (xD (xR w)) H3;have Hf:=N (HB.out.ext H5);have K0:=N (HF.out.ext H5);have Hg:=N H5;clear q0 q1 q2 q3 q4 q5 q6 q7 p0 HB HF H3 H5;obtain ⟨q0,q1,q2,q3,q4,q5,q6,q7⟩:=zaQ Hf.out;have p0:=K0.out.cell 0 rfl
 refine shK hK _ _ ⟨p0,q0,q1,q2,q3,q4,q5,q6,q7⟩ (fun _=>?_)
 refine tkN 13 ?_;refine tkN 14 ?_;refine tkN 15 ?_
 refine ar1 16 (fun K hK=>?_)
 go_simp
 refine (zdY _).mono ?_
 rintro e w2 ⟨rfl,rfl⟩
 refine shK hK _ _ ⟨p0,q0,q1,q2,q3,q4,q5,q6,q7⟩ (fun _=>?_)
 refine wdD ?_;go_wp2_with fail
 refine wp_region_held_drew (S:=fun W=>W.cell? ⟨bf,0,I⟩=M (C D 1)∧W.cell? ⟨bo,0,I⟩=M (C D 0)∧W.cell? ⟨bo,5,I⟩=M (E B 0 d)) (by kernel_rfl) ⟨p0,q0,q5⟩ (fun _=>?_)
 have hw:IntKind.i64.wrap (IntKind.i64.wrap 1-1)=0:=by decide
 have Kj:(0:Int)≤(d:Int):=Int.natCast_nonneg d
 refine tkN 0 ?_;refine tkN 1 ?_;refine tkN 2 ?_;refine tkN 3 ?_;refine tkN 4 ?_;refine tkN 5 ?_;refine tkN 6 ?_;refine tkN 7 ?_;refine tkN 8 ?_;refine tkN 9 ?_;refine tkN 10 ?_;refine tkN 11 ?_;refine tkN 12 ?_;refine tkN 13 ?_;refine tkN 14 ?_;refine tkN 15 ?_;have f5:=Hf.out.frozen 5
 refine ar1 16 (fun K hK=>?_)
 go_simp
 have H6:Hid (Blk ((w1.drew).setCell ⟨bo,5,I⟩ (E B 0 d)) bo 44 (cW B d 0 0)):=N ((Hf.out.ext (xD (xR _))).set 5 (E B 0 d))
 have K9:=N (P1 (K0.out.ext (xD (xR _))) hn 5 (E B 0 d))
 refine shK hK _ _ ⟨K9.out.cell 0 rfl,H6.out.cell 0 rfl,H6.out.cell 5 rfl⟩ (fun _=>?_)
 refine wdD ?_;go_wp2_with fail
 go_end0
 exact UpdP.mk hd H6.out (zhS (xD Hg.out) 5 _) (fun b' t cs H9 Hk=>P1 (Hk.ext (xD Hg.out)) H9 5 _)
theorem ztj (tmps:Array Value) (W:World) (b:Nat) (cs:Array Value) (u:Value) (h4:tmps.getD 4 undef=J (M ⟨b,0,I⟩)) (h5:tmps.getD 5 undef=u) (hb:Blk W b 44 cs) (hs:cs.size=8):(results Tryz.f125 tmps).run H W=.ok (.tuple #[.agg cs,u]) W:=by
 have hl:=hb.load (P:=H) zc7 rfl (by rw[hs];kernel_rfl)
 have Hh:tmps[4]?.getD undef=J (M ⟨b,0,I⟩):=by simpa using h4
 have Hj:tmps[5]?.getD undef=u:=by simpa using h5
 simp[results,Tryz.results125,Hh,Hj,asAddr,hl]
theorem zlS (A:Option Addr) (c:Nat) (hc:c≤9223372036854775807) (w:World):Calls H 125 #[O #[C D 0,C D 0,C D 0,C D 1,G false,E A 0 c,C D 0,C D 0],C D 1] w (zoE 0 0 w):=by
 have Hp:∀ (fn:Fn) (first cap:Array Value) (w:World),(P2 fn first cap).run H w=.ok (.func fn first cap) w:=fun _ _ _ _=>rfl
 obtain ⟨W0,H4⟩:∃ W0,((w.alloc (L #[C D 0,C D 0,C D 0,C D 1,G false,E A 0 c,C D 0,C D 0] 44)).alloc (L #[C D 1] 3)).alloc (L #[C D 0,C D 0,C D 0,C D 0,G false,E none 0 0,C D 0,C D 0] 44)=W0:=⟨_,rfl⟩
 have Ha:Ext w W0:=by rw[←H4];exact xA (xA (xA (xR _) _) _) _
 have h0:Blk W0 w.heap.size 44 #[C D 0,C D 0,C D 0,C D 1,G false,E A 0 c,C D 0,C D 0]:=by rw[←H4];exact ((P0 w _ _).alloc (L #[C D 1] 3)).alloc _
 have h1:Blk W0 (w.heap.size+1) 3 #[C D 1]:=by
  rw[←H4]
  have:=(P0 (w.alloc (L #[C D 0,C D 0,C D 0,C D 1,G false,E A 0 c,C D 0,C D 0] 44)) 3 #[C D 1]).alloc (L #[C D 0,C D 0,C D 0,C D 0,G false,E none 0 0,C D 0,C D 0] 44)
  rwa [xS] at this
 have hz:Blk W0 (w.heap.size+1+1) 44 #[C D 0,C D 0,C D 0,C D 0,G false,E none 0 0,C D 0,C D 0]:=by
  rw[←H4]
  have:=P0 ((w.alloc (L #[C D 0,C D 0,C D 0,C D 1,G false,E A 0 c,C D 0,C D 0] 44)).alloc (L #[C D 1] 3)) 44 #[C D 0,C D 0,C D 0,C D 0,G false,E none 0 0,C D 0,C D 0]
  rwa [xS,xS] at this
 obtain ⟨q0,q1,q2,q3,q4,q5,q6,q7⟩:=zaQ h0;have Hi:=N Ha;have HZ:=N hz;have H1:=N h1;clear Ha h0 hz h1
 go_enter Tryz.func125,Tryz.ntmps125
 go_wp2_with fail
 refine (zj5 187 (.inl rfl) #[J (M ⟨w.heap.size+1,0,I⟩)] 0 0 0 0 (by decide) (by decide) A c hc _ (fun W b B d hE K8 hd hb=>zqA B d _ b hd W hb (H1.out.ext hE) (by have:=H1.out.lt;omega))).mono ?_
 rintro e w1 ⟨A1,c1,rfl,H3⟩;have g2:=HZ.out.ext H3;obtain ⟨f0,f1,f2,f3,f4,f5,f6,f7⟩:=za9 g2;obtain ⟨r0,r1,r2,r3,r4,r5,r6,r7⟩:=zaQ g2;have G2:=N g2;have GE:=N (xT Hi.out H3);clear H4 g2 H3 q0 q1 q2 q3 q4 q5 q6 q7;go_wp2_with fail
 refine bodyPost_ret (ztj _ _ (w.heap.size+1+1) _ _ rfl rfl (zbY G2.out _ _ _ _ _ _ _ _) rfl) rfl ?_
 exact ⟨_,_,rfl,zbA GE.out (by omega) _ _ _ _ _ _ _ _⟩
theorem zoU (B:Option Addr) (d bt bv bo:Nat) (hd:d≤9223372036854775807) (w:World) (hb:Blk w bo 44 (cW B d 0 0)) (ht:Blk w bt 3 #[C D 3]) (hv:Blk w bv 3 #[C D 2]) (hn:bt≠bo) (Ht:bv≠bo) :
  Calls H 188 #[J (M ⟨bo,0,I⟩),J (M ⟨bt,0,I⟩),J (M ⟨bv,0,I⟩)] w (UpdP bo 3 2 w):=by
 unfold cW at hb;have q6:=hb.cell 6 rfl;have p0:=ht.cell 0 rfl;have p1:=hv.cell 0 rfl;have HB:=N hb;have HT:=N ht;have HV:=N hv;clear hb ht hv
 go_enter Tryz.func188,Tryz.ntmps188
 go_wp2_with fail
 refine wp_region_held_drew (S:=fun W=>W.cell? ⟨bt,0,I⟩=M (C D 3)∧W.cell? ⟨bo,6,I⟩=M (C D 0)) (by kernel_rfl) ⟨p0,q6⟩ (fun _=>?_)
 refine tkN 0 ?_;refine tkN 1 ?_;refine tkN 2 ?_;refine tkN 3 ?_;refine tkN 4 ?_;refine tkN 5 ?_;refine tkN 6 ?_;refine tkS 7 ?_;refine tkS 8 ?_;refine tkS 9 ?_;refine tkS 10 ?_;refine tkS 11 ?_;refine tkS 12 ?_;refine tkS 13 ?_;refine tkS 14 ?_;refine tkS 15 ?_;refine tkS 16 ?_;refine tkS 17 ?_;refine tkS 18 ?_;refine tkS 19 ?_;refine tkS 20 ?_;refine tkS 21 ?_;refine tkS 22 ?_;refine tkS 23 ?_;refine tkS 24 ?_;refine tkS 25 ?_;refine tkS 26 ?_;refine tkS 27 ?_;refine tkN 28 ?_
 refine ar1 29 (fun K hK=>?_)
 go_simp
 refine (zdY _).mono ?_
 rintro e w2 ⟨rfl,rfl⟩
 refine shK hK _ _ ⟨p0,q6⟩ (fun _=>?_)
 refine wdD ?_;go_wp2_with fail;have f6:=HB.out.frozen 6;have f7:=HB.out.frozen 7;have q7:=HB.out.cell 7 rfl
 refine wp_region_held_drew (S:=fun W=>W.cell? ⟨bt,0,I⟩=M (C D 3)∧W.cell? ⟨bv,0,I⟩=M (C D 2)) (by kernel_rfl) ⟨p0,p1⟩ (fun _=>?_)
 refine tkN 0 ?_;refine tkN 1 ?_;refine tkN 2 ?_;refine tkN 3 ?_;refine tkN 4 ?_;refine tkN 5 ?_
 refine ar1 6 (fun K hK=>?_)
 go_simp
 have H6:Hid (Blk ((w.drew.drew).setCell ⟨bo,6,I⟩ (C D 3)) bo 44 (cW B d 3 0)):=N ((HB.out.ext (xD (xD (xR _)))).set 6 (C D 3))
 have K3:=N (P1 (HT.out.ext (xD (xD (xR _)))) hn 6 (C D 3));have K4:=N (P1 (HV.out.ext (xD (xD (xR _)))) Ht 6 (C D 3))
 refine shK hK _ _ ⟨K3.out.cell 0 rfl,K4.out.cell 0 rfl⟩ (fun _=>?_)
 have g7:=H6.out.frozen 7;have r7:=H6.out.cell 7 rfl;refine tkN 7 ?_;refine tkN 8 ?_
 refine ar1 9 (fun K hK=>?_)
 go_simp
 have HG:=N (H6.out.set 7 (C D 2));have Kh:=N (K3.out.other hn 7 (C D 2));have Ki:=N (K4.out.other Ht 7 (C D 2))
 refine shK hK _ _ ⟨Kh.out.cell 0 rfl,Ki.out.cell 0 rfl⟩ (fun _=>?_)
 refine wdD ?_;go_wp2_with fail
 go_end0
 exact UpdP.mk hd HG.out (fun W0 h0 hl=>zc4 [C D 3,C D 2] (k:=6) (xT h0 (xD (xD (xR w)))) hl) (fun b' t cs H9 Hk=>zb2 [C D 3,C D 2] (W:=w.drew.drew) (k:=6) (Hk.ext (xD (xD (xR w)))) H9)
theorem zrR (tmps:Array Value) (W:World) (b:Nat) (cs:Array Value) (u:Value) (h4:tmps.getD 6 undef=J (M ⟨b,0,I⟩)) (h5:tmps.getD 7 undef=u) (hb:Blk W b 44 cs) (hs:cs.size=8):(results Tryz.f130 tmps).run H W=.ok (.tuple #[.agg cs,u]) W:=by
 have hl:=hb.load (P:=H) zc7 rfl (by rw[hs];kernel_rfl)
 have Hh:tmps[6]?.getD undef=J (M ⟨b,0,I⟩):=by simpa using h4
 have Hj:tmps[7]?.getD undef=u:=by simpa using h5
 simp[results,Tryz.results130,Hh,Hj,asAddr,hl]
theorem zkA (A:Option Addr) (c:Nat) (hc:c≤9223372036854775807) (w:World):Calls H 130 #[O #[C D 0,C D 0,C D 0,C D 1,G false,E A 0 c,C D 0,C D 0],C D 3,C D 2] w (zoE 3 2 w):=by
 have Hp:∀ (fn:Fn) (first cap:Array Value) (w:World),(P2 fn first cap).run H w=.ok (.func fn first cap) w:=fun _ _ _ _=>rfl
 obtain ⟨W0,H4⟩:∃ W0,(((w.alloc (L #[C D 0,C D 0,C D 0,C D 1,G false,E A 0 c,C D 0,C D 0] 44)).alloc (L #[C D 3] 3)).alloc (L #[C D 2] 3)).alloc (L #[C D 0,C D 0,C D 0,C D 0,G false,E none 0 0,C D 0,C D 0] 44)=W0:=⟨_,rfl⟩
 have Ha:Ext w W0:=by rw[←H4];exact xA (xA (xA (xA (xR _) _) _) _) _
 have h0:Blk W0 w.heap.size 44 #[C D 0,C D 0,C D 0,C D 1,G false,E A 0 c,C D 0,C D 0]:=by rw[←H4];exact (((P0 w _ _).alloc (L #[C D 3] 3)).alloc (L #[C D 2] 3)).alloc _
 have h1:Blk W0 (w.heap.size+1) 3 #[C D 3]:=by
  rw[←H4]
  have:=((P0 (w.alloc (L #[C D 0,C D 0,C D 0,C D 1,G false,E A 0 c,C D 0,C D 0] 44)) 3 #[C D 3]).alloc (L #[C D 2] 3)).alloc (L #[C D 0,C D 0,C D 0,C D 0,G false,E none 0 0,C D 0,C D 0] 44)
  rwa [xS] at this
 have h2:Blk W0 (w.heap.size+1+1) 3 #[C D 2]:=by
  rw[←H4]
  have:=(P0 ((w.alloc (L #[C D 0,C D 0,C D 0,C D 1,G false,E A 0 c,C D 0,C D 0] 44)).alloc (L #[C D 3] 3)) 3 #[C D 2]).alloc (L #[C D 0,C D 0,C D 0,C D 0,G false,E none 0 0,C D 0,C D 0] 44)
  rwa [xS,xS] at this
 have hz:Blk W0 (w.heap.size+1+1+1) 44 #[C D 0,C D 0,C D 0,C D 0,G false,E none 0 0,C D 0,C D 0]:=by
  rw[←H4]
  have:=P0 (((w.alloc (L #[C D 0,C D 0,C D 0,C D 1,G false,E A 0 c,C D 0,C D 0] 44)).alloc (L #[C D 3] 3)).alloc (L #[C D 2] 3)) 44 #[C D 0,C D 0,C D 0,C D 0,G false,E none 0 0,C D 0,C D 0]
  rwa [xS,xS,xS] at this
 obtain ⟨q0,q1,q2,q3,q4,q5,q6,q7⟩:=zaQ h0;have Hi:=N Ha;have HZ:=N hz;have H1:=N h1;have H2:=N h2;clear Ha h0 hz h1 h2
 go_enter Tryz.func130,Tryz.ntmps130
 go_wp2_with fail
 refine (zj5 188 (.inr (.inl rfl)) #[J (M ⟨w.heap.size+1,0,I⟩),J (M ⟨w.heap.size+1+1,0,I⟩)] 0 0 3 2 (by decide) (by decide) A c hc _ (fun W b B d hE K8 hd hb=>zoU B d _ _ b hd W hb (H1.out.ext hE) (H2.out.ext hE) (by have:=H1.out.lt;omega) (by have:=H2.out.lt;omega))).mono ?_
 rintro e w1 ⟨A1,c1,rfl,H3⟩;have g2:=HZ.out.ext H3;obtain ⟨f0,f1,f2,f3,f4,f5,f6,f7⟩:=za9 g2;obtain ⟨r0,r1,r2,r3,r4,r5,r6,r7⟩:=zaQ g2;have G2:=N g2;have GE:=N (xT Hi.out H3);clear H4 g2 H3 q0 q1 q2 q3 q4 q5 q6 q7;go_wp2_with fail
 refine bodyPost_ret (zrR _ _ (w.heap.size+1+1+1) _ _ rfl rfl (zbY G2.out _ _ _ _ _ _ _ _) rfl) rfl ?_
 exact ⟨_,_,rfl,zbA GE.out (by omega) _ _ _ _ _ _ _ _⟩
theorem zrU (B:Option Addr) (d bo:Nat) (hd:d≤9223372036854775807) (w:World) (hb:Blk w bo 44 (cW B d 0 0)) :
  Calls H 190 #[J (M ⟨bo,0,I⟩),O #[C D 0,C D 0,C D 0,C D 1,G false]] w (UpdP bo 0 0 w):=by
 unfold cW at hb
 have hX:Ext w (w.alloc (L #[C D 0,C D 0,C D 0,C D 1,G false] 41)):=xA (xR _) _
 have hs:=P0 w 41 #[C D 0,C D 0,C D 0,C D 1,G false]
 have hn:w.heap.size≠bo:=by have:=hb.lt;omega
 have HM:=hb.ext hX;have HB:=N HM;have HS:=N hs;have HX:=N hX;have HN:=N hn;obtain ⟨q0,q1,q2,q3,q4,q5,q6,q7⟩:=zaQ HM;obtain ⟨p0,p1,p2,p3,p4⟩:=zaa hs;clear hb hs hX HM hn
 go_enter Tryz.func190,Tryz.ntmps190
 go_wp2_with fail
 refine wp_region_held_drew (S:=fun W=>W.cell? ⟨w.heap.size,0,I⟩=M (C D 0)∧W.cell? ⟨bo,0,I⟩=M (C D 0)∧W.cell? ⟨bo,1,I⟩=M (C D 0)∧W.cell? ⟨bo,2,I⟩=M (C D 0)∧W.cell? ⟨bo,3,I⟩=M (C D 1)∧W.cell? ⟨bo,4,I⟩=M (G false)∧W.cell? ⟨bo,5,I⟩=M (E B 0 d)∧W.cell? ⟨bo,6,I⟩=M (C D 0)∧W.cell? ⟨bo,7,I⟩=M (C D 0)) (by kernel_rfl) ⟨p0,q0,q1,q2,q3,q4,q5,q6,q7⟩ (fun _=>?_)
 refine tkN 0 ?_;refine tkN 1 ?_;refine tkN 2 ?_;refine tkN 3 ?_;refine tkN 4 ?_
 refine ar1 5 (fun K hK=>?_)
 go_simp
 refine (znh B d 0 0 _).mono ?_
 rintro e w1 ⟨rfl,H3⟩;have H5:=xT (xD (xR (w.alloc (L #[C D 0,C D 0,C D 0,C D 1,G false] 41)))) H3;have Hf:=N (HB.out.ext H5);have HJ:=N (HS.out.ext H5);have Hg:=N (xT HX.out H5);clear q0 q1 q2 q3 q4 q5 q6 q7 p0 p1 p2 p3 p4 HB HS H3 H5;obtain ⟨q0,q1,q2,q3,q4,q5,q6,q7⟩:=zaQ Hf.out;obtain ⟨p0,p1,p2,p3,p4⟩:=zaa HJ.out
 refine shK hK _ _ ⟨p0,q0,q1,q2,q3,q4,q5,q6,q7⟩ (fun _=>?_)
 refine tkN 6 ?_;refine tkN 7 ?_;refine tkN 8 ?_;refine tkN 9 ?_;refine tkN 10 ?_;refine wdD ?_;go_wp2_with fail
 refine (zdV ⟨0,0,0,1,false⟩ _).mono ?_
 rintro e w2 ⟨rfl,Hc⟩;have H6:=N (Hf.out.ext Hc);have HK:=N (HJ.out.ext Hc);have Hl:=N (xT Hg.out Hc);clear q0 q1 q2 q3 q4 q5 q6 q7 p0 p1 p2 p3 p4 Hf HJ Hg Hc
 have Ko:(Sta.ok ⟨0,0,0,1,false⟩)=true:=by decide
 go_wp2_with fail
 refine (zdY _).mono ?_
 rintro e w3 ⟨rfl,rfl⟩;clear Ko;have q0:=H6.out.cell 0 rfl;have q5:=H6.out.cell 5 rfl;obtain ⟨p0,p1,p2,p3,p4⟩:=zaa HK.out;go_wp2_with fail
 refine wp_region_held_drew (S:=fun W=>W.cell? ⟨bo,0,I⟩=M (C D 0)∧W.cell? ⟨w.heap.size,0,I⟩=M (C D 0)∧W.cell? ⟨w.heap.size,1,I⟩=M (C D 0)∧W.cell? ⟨w.heap.size,2,I⟩=M (C D 0)∧W.cell? ⟨w.heap.size,3,I⟩=M (C D 1)∧W.cell? ⟨w.heap.size,4,I⟩=M (G false)) (by kernel_rfl) ⟨q0,p0,p1,p2,p3,p4⟩ (fun _=>?_)
 have hw:IntKind.i64.wrap 0=0:=by decide
 have Kj:(0:Int)≤(d:Int):=Int.natCast_nonneg d
 refine tkN 0 ?_;refine tkN 1 ?_;refine tkN 2 ?_;refine tkN 3 ?_;refine tkN 4 ?_;refine tkN 6 ?_;refine tkN 7 ?_;refine tkN 8 ?_;refine tkN 9 ?_;refine tkN 10 ?_;refine tkN 11 ?_;refine tkN 12 ?_;refine tkN 13 ?_;refine tkN 16 ?_
 refine ar1 5 (fun K hK=>?_)
 go_simp
 refine shK hK _ _ ⟨q0,p0,p1,p2,p3,p4⟩ (fun _=>?_)
 refine tkN 14 ?_
 refine ar1 15 (fun K hK=>?_)
 go_simp
 refine (ziG _ _ _ (by omega)).mono ?_
 rintro e w4 ⟨B4,d4,rfl,Kl,Hy⟩;have Hx:=N (H6.out.ext (xT (xD (xR w2)) Hy));have K1:=N (HK.out.ext (xT (xD (xR w2)) Hy));have HY:=N (xT Hl.out (xT (xD (xR w2)) Hy));clear q0 q5 p0 p1 p2 p3 p4 H6 HK Hl Hy;have q0:=Hx.out.cell 0 rfl;have q5:=Hx.out.cell 5 rfl;have f5:=Hx.out.frozen 5;obtain ⟨p0,p1,p2,p3,p4⟩:=zaa K1.out
 refine shK hK _ _ ⟨q0,p0,p1,p2,p3,p4⟩ (fun _=>?_)
 refine tkN 17 ?_;refine tkN 18 ?_
 refine ar1 19 (fun K hK=>?_)
 go_simp
 have HH:Hid (Blk (w4.setCell ⟨bo,5,I⟩ (E B4 0 d4)) bo 44 #[C D 0,C D 0,C D 0,C D 1,G false,E B4 0 d4,C D 0,C D 0]):=N (Hx.out.set 5 _)
 have K2:=N (K1.out.other HN.out 5 (E B4 0 d4));clear q0 q5 f5 p0 p1 p2 p3 p4;obtain ⟨q0,q1,q2,q3,q4,q5,q6,q7⟩:=zaQ HH.out;obtain ⟨f0,f1,f2,f3,f4,_,_,_⟩:=za9 HH.out;obtain ⟨p0,p1,p2,p3,p4⟩:=zaa K2.out
 refine shK hK _ _ ⟨q0,p0,p1,p2,p3,p4⟩ (fun _=>?_)
 have Kd:Hid (zcz bo w (w4.setCell ⟨bo,5,I⟩ (E B4 0 d4))):=N (zhS HY.out 5 _)
 have Kg:Hid (∀ b' t cs,b'≠bo→Blk w b' t cs→Blk (w4.setCell ⟨bo,5,I⟩ (E B4 0 d4)) b' t cs):=N fun b' t cs H9 Hk=>(Hk.ext HY.out).other H9 5 _
 generalize w4.setCell ⟨bo,5,I⟩ (E B4 0 d4)=w5 at *
 refine tkN 20 ?_;refine tkN 21 ?_
 refine ar1 22 (fun K hK=>?_)
 go_simp
 have HW:Hid (Blk (zcf w5 bo 0 [C D 0,C D 0,C D 0,C D 1,G false]) bo 44 #[C D 0,C D 0,C D 0,C D 1,G false,E B4 0 d4,C D 0,C D 0]):=N (zdW _ HH.out)
 have Hq:=N (zb2 [C D 0,C D 0,C D 0,C D 1,G false] (k:=0) K2.out HN.out)
 refine shK hK _ _ ⟨HW.out.cell 0 rfl,Hq.out.cell 0 rfl,Hq.out.cell 1 rfl,Hq.out.cell 2 rfl,Hq.out.cell 3 rfl,Hq.out.cell 4 rfl⟩ (fun _=>?_)
 refine wdD ?_;go_wp2_with fail
 go_end0
 exact UpdP.mk Kl HW.out (fun W0 h0 hl=>zc4 [C D 0,C D 0,C D 0,C D 1,G false] (W:=w5) (k:=0) (Kd.out W0 h0 hl) hl) (fun b' t cs H9 Hk=>zb2 [C D 0,C D 0,C D 0,C D 1,G false] (W:=w5) (k:=0) (Kg.out _ _ _ H9 Hk) H9)
theorem zoW (B:Option Addr) (d bs bo:Nat) (hd:d≤9223372036854775807) (w:World) (hb:Blk w bo 44 (cW B d 0 0)) (hs:Blk w bs 41 #[C D 0,C D 0,C D 0,C D 1,G false]) :
  Calls H 189 #[J (M ⟨bo,0,I⟩),J (M ⟨bs,0,I⟩)] w (UpdP bo 0 0 w):=by
 obtain ⟨p0,p1,p2,p3,p4⟩:=zaa hs;have H7:=N (zrU B d bo hd w hb);clear hb hs
 go_enter Tryz.func189,Tryz.ntmps189
 go_wp2_with fail
 refine H7.out.mono ?_
 rintro e w1 ⟨rfl,h1,h2,h3⟩;clear p0 p1 p2 p3 p4;go_wp2_with fail
 go_end0
 exact ⟨rfl,h1,h2,h3⟩
theorem zrV (tmps:Array Value) (W:World) (b:Nat) (cs:Array Value) (u:Value) (h4:tmps.getD 4 undef=J (M ⟨b,0,I⟩)) (h5:tmps.getD 5 undef=u) (hb:Blk W b 44 cs) (hs:cs.size=8):(results Tryz.f132 tmps).run H W=.ok (.tuple #[.agg cs,u]) W:=by
 have hl:=hb.load (P:=H) zc7 rfl (by rw[hs];kernel_rfl)
 have Hh:tmps[4]?.getD undef=J (M ⟨b,0,I⟩):=by simpa using h4
 have Hj:tmps[5]?.getD undef=u:=by simpa using h5
 simp[results,Tryz.results132,Hh,Hj,asAddr,hl]
theorem zkB (A:Option Addr) (c:Nat) (hc:c≤9223372036854775807) (w:World):Calls H 132 #[O #[C D 0,C D 0,C D 0,C D 1,G false,E A 0 c,C D 0,C D 0],O #[C D 0,C D 0,C D 0,C D 1,G false]] w (zoE 0 0 w):=by
 have Hp:∀ (fn:Fn) (first cap:Array Value) (w:World),(P2 fn first cap).run H w=.ok (.func fn first cap) w:=fun _ _ _ _=>rfl
 obtain ⟨W0,H4⟩:∃ W0,((w.alloc (L #[C D 0,C D 0,C D 0,C D 1,G false,E A 0 c,C D 0,C D 0] 44)).alloc (L #[C D 0,C D 0,C D 0,C D 1,G false] 41)).alloc (L #[C D 0,C D 0,C D 0,C D 0,G false,E none 0 0,C D 0,C D 0] 44)=W0:=⟨_,rfl⟩
 have Ha:Ext w W0:=by rw[←H4];exact xA (xA (xA (xR _) _) _) _
 have h0:Blk W0 w.heap.size 44 #[C D 0,C D 0,C D 0,C D 1,G false,E A 0 c,C D 0,C D 0]:=by rw[←H4];exact ((P0 w _ _).alloc (L #[C D 0,C D 0,C D 0,C D 1,G false] 41)).alloc _
 have h1:Blk W0 (w.heap.size+1) 41 #[C D 0,C D 0,C D 0,C D 1,G false]:=by
  rw[←H4]
  have:=(P0 (w.alloc (L #[C D 0,C D 0,C D 0,C D 1,G false,E A 0 c,C D 0,C D 0] 44)) 41 #[C D 0,C D 0,C D 0,C D 1,G false]).alloc (L #[C D 0,C D 0,C D 0,C D 0,G false,E none 0 0,C D 0,C D 0] 44)
  rwa [xS] at this
 have hz:Blk W0 (w.heap.size+1+1) 44 #[C D 0,C D 0,C D 0,C D 0,G false,E none 0 0,C D 0,C D 0]:=by
  rw[←H4]
  have:=P0 ((w.alloc (L #[C D 0,C D 0,C D 0,C D 1,G false,E A 0 c,C D 0,C D 0] 44)).alloc (L #[C D 0,C D 0,C D 0,C D 1,G false] 41)) 44 #[C D 0,C D 0,C D 0,C D 0,G false,E none 0 0,C D 0,C D 0]
  rwa [xS,xS] at this
 obtain ⟨q0,q1,q2,q3,q4,q5,q6,q7⟩:=zaQ h0;have Hi:=N Ha;have HZ:=N hz;have H1:=N h1;clear Ha h0 hz h1
 go_enter Tryz.func132,Tryz.ntmps132
 go_wp2_with fail
 refine (zj5 189 (.inr (.inr rfl)) #[J (M ⟨w.heap.size+1,0,I⟩)] 0 0 0 0 (by decide) (by decide) A c hc _ (fun W b B d hE K8 hd hb=>zoW B d _ b hd W hb (H1.out.ext hE))).mono ?_
 rintro e w1 ⟨A1,c1,rfl,H3⟩;have g2:=HZ.out.ext H3;obtain ⟨f0,f1,f2,f3,f4,f5,f6,f7⟩:=za9 g2;obtain ⟨r0,r1,r2,r3,r4,r5,r6,r7⟩:=zaQ g2;have G2:=N g2;have GE:=N (xT Hi.out H3);clear H4 g2 H3 q0 q1 q2 q3 q4 q5 q6 q7;go_wp2_with fail
 refine bodyPost_ret (zrV _ _ (w.heap.size+1+1) _ _ rfl rfl (zbY G2.out _ _ _ _ _ _ _ _) rfl) rfl ?_
 exact ⟨_,_,rfl,zbA GE.out (by omega) _ _ _ _ _ _ _ _⟩
end Go.Proofs.YteggfecbjgbndaaGreatDoor
