/- Merged -/
import Derived.Test.YtgonhdeochgkoaaGreatDoorZx17
import Derived.Test.YtgonhdeochgkoaaGreatDoorZx18
import Derived.Defers
import Derived.Recover
set_option linter.all false
set_option maxHeartbeats 8000000
set_option maxRecDepth 100000
open Go.RowKit.Below renaming heap_setCell→P0
open Bool renaming and_eq_true→P1,or_eq_true→P2,false_eq_true→P3,eq_iff_iff→P4
open Array renaming replicate→P5
open Go.Mv.Blk renaming new→P6
open List renaming getElem?_eq_getElem→P7,getElem?_append_right→P8,mem_take_iff_getElem→P9,getElem?_append_left→Pa,flatMap_append→Pb,all_append→Pc
namespace Go.Proofs.YtgonhdeochgkoaaGreatDoor
open Go.RowKit Go.Mv
def zib (fs:List Fil):Bool:=decide (40<fs.length)||(fs.take 41).any (fun f=>decide (900<f.2.length∨60<f.1.length))
theorem zvj (v:Value) (fs:List Fil) (w:World) (hF:Fs w v fs) (hl:fs.length≤4000000):Calls Tryz.prog 30 #[v] w fun e w'=>e=.returned (.bool (zib fs))∧Ext w w':=by
 obtain ⟨A,c,rfl,h1,h2⟩:=Fs.open_ hF;obtain ⟨R,hR⟩:∃ R,zib fs=R:=⟨_,rfl⟩;rw[hR];have HR:=zhd hR;have HF:=zhd hF;clear hR hF
 go_enter Tryz.func30,Tryz.ntmps30
 go_wp2_with fail
 go_loopw [3] (fun i wr=>∃ j:Nat,j≤fs.length∧j≤41∧i=.int .i64 j∧Hid (∀ q (_:q<j) (h2:q<fs.length),fs[q].2.length≤900∧fs[q].1.length≤60)∧w=wr) (fun i _=>fs.length-(intOf i).toNat)
 case atStart=>exact ⟨0,by omega,by omega,rfl,zhd fun q hq=>by omega,rfl⟩
 case round =>
  obtain ⟨j,hj,Ko,rfl,Hn,rfl⟩:=hrel
  by_cases hlt:j<fs.length
  ·by_cases h40:j≤40
   ·obtain ⟨_,b,K3,rfl,hc⟩:=HF.out.at_ (by omega)
    obtain ⟨HP,B2,d2,HQ,Ha⟩:=hc j hlt
    have HT:(j:Int)<(fs.length:Int):=by omega
    have hp:(900<fs[j].2.length∨60<fs[j].1.length)→R=true:=fun h=>by
     rw[←HR.out];unfold zib
     rw[P2];right
     rw[List.any_eq_true]
     exact ⟨fs[j],P9.2 ⟨j,by omega,rfl⟩,by simpa using h⟩
    have hq:fs[j].2.length≤900∧fs[j].1.length≤60→∀ q (_:q<j+1) (h2:q<fs.length),fs[q].2.length≤900∧fs[q].1.length≤60:=fun h q h3 h2=>by
     by_cases e:q=j
     ·subst e;exact h
     ·exact Hn.out q (by omega) h2
    have Hp:=zhd hp;have Hq:=zhd hq;clear hc hp hq HR Hn
    generalize fs[j].2.length=n2 at *
    generalize hx:fs[j].1=x at *
    simp only[sv] at HP;clear Ha
    by_cases c1:900<n2
    ·have:=Hp.out (.inl c1)
     subst this
     have K7:(900:Int)<(n2:Int):=by omega
     go_wp2_with fail;go_ret
     exact ⟨rfl,xR _⟩
    ·have K7:¬ (900:Int)<(n2:Int):=by omega
     by_cases c2:60<x.length
     ·have:=Hp.out (.inr c2)
      subst this
      have K8:(60:Int)<(x.length:Int):=by omega
      go_wp2_with fail;go_ret
      exact ⟨rfl,xR _⟩
     ·have K8:¬ (60:Int)<(x.length:Int):=by omega
      have K6:=zhd (Hq.out ⟨by omega,by omega⟩)
      go_wp2_with fail
      go_roundw
      case rel=>exact ⟨j+1,by omega,by omega,by go_num,K6,trivial⟩
      case measure=>simp[intOf];omega
   ·have hR:R=true:=by rw[←HR.out];unfold zib;rw[decide_eq_true (by omega)];rfl
    subst hR
    have HT:(j:Int)<(fs.length:Int):=by omega
    have K9:¬ ((j:Int)≤40):=by omega
    have Kn:(40:Int)<(fs.length:Int):=by omega
    go_wp2_with fail;go_ret
    exact ⟨ret_bool (by simp),xR _⟩
  ·obtain rfl:j=fs.length:=by omega
   have hR:R=decide ((40:Int)<(fs.length:Int)):=by
    rw[←HR.out];unfold zib
    have:((fs.take 41).any (fun f=>decide (900<f.2.length∨60<f.1.length)))=false:=by
     rw[List.any_eq_false];intro f hf;obtain ⟨q,hq,rfl⟩:=P9.1 hf
     have:=Hn.out q (by omega) (by omega)
     simp;omega
    rw[this,Bool.or_false,P4];simp;omega
   subst hR;clear HR Hn;go_wp2_with fail;go_ret
   exact ⟨rfl,xR _⟩
structure Tup where
 s:Sta
 log:List Ent
 term:Int
 vote:Int
def zci (t:Tup):Bool:=t.s.ok&&decide (t.s.idx≤1073740824)&&decide (t.log.length≤200)&&decide (0≤t.vote)&&decide (t.vote≤5)
def goT:Int→List Ent→Option Int
 | c,[]=>some c
 | c,e::l=>if okB e.t e.k e.v&&decide (c≤e.t) then goT e.t l else none
def zbF (t:Tup):Bool:=zci t&&(match goT t.s.term t.log with | none=>false | some x=>decide (x≤t.term)&&decide (0≤t.term)&&decide (t.term≤1073741824))
theorem zbW {W:World} {b:Nat} {t:TypeId} {a v u x y z p q:Value} (h:Blk W b t #[a,v,u,x,y,z,p,q]):W.cell? ⟨b,0,none⟩=some a∧W.cell? ⟨b,1,none⟩=some v∧W.cell? ⟨b,2,none⟩=some u∧W.cell? ⟨b,3,none⟩=some x∧W.cell? ⟨b,4,none⟩=some y∧W.cell? ⟨b,5,none⟩=some z∧W.cell? ⟨b,6,none⟩=some p∧W.cell? ⟨b,7,none⟩=some q :=
 ⟨h.cell 0 rfl,h.cell 1 rfl,h.cell 2 rfl,h.cell 3 rfl,h.cell 4 rfl,h.cell 5 rfl,h.cell 6 rfl,h.cell 7 rfl⟩
theorem zo1 (t:Tup) (v:Value) (w:World) (hE:Es w v t.log):Calls Tryz.prog 21 #[.agg #[.int .i64 t.s.idx,.int .i64 t.s.term,.int .i64 t.s.sum,.int .i64 t.s.lvl,.bool t.s.fin,v,.int .i64 t.term,.int .i64 t.vote]] w fun e w'=>e=.returned (.bool (zbF t))∧Ext w w':=by
 obtain ⟨A,c,rfl,HQ,Kl⟩:=xO hE;obtain ⟨s,l,tm,vt⟩:=t
 dsimp only at *
 obtain ⟨R,hR⟩:∃ R,zbF ⟨s,l,tm,vt⟩=R:=⟨_,rfl⟩;rw[hR];have H3:=P6 w 56 #[.int .i64 s.idx,.int .i64 s.term,.int .i64 s.sum,.int .i64 s.lvl,.bool s.fin,.slice A l.length c,.int .i64 tm,.int .i64 vt]
 have hX:Ext w (w.alloc (.cells #[.int .i64 s.idx,.int .i64 s.term,.int .i64 s.sum,.int .i64 s.lvl,.bool s.fin,.slice A l.length c,.int .i64 tm,.int .i64 vt] 56)):=xA (xR _) _
 obtain ⟨m0,m1,m2,m3,m4,m5,m6,m7⟩:=zbW H3;have HX:=zhd hX;have Hb:=zhd H3;have HE:=zhd hE
 have Hu:zci ⟨s,l,tm,vt⟩=false→false=R:=fun h=>by rw[←hR];unfold zbF;rw[h];rfl
 have H4:=zhd Hu;have HR:=zhd hR;clear hX H3 hE Hu hR
 go_enter Tryz.func21,Tryz.ntmps21
 go_wp2_with fail
 refine (zqf s _).mono ?_
 rintro e w1 ⟨rfl,H1⟩;have Hm:=zhd (xT HX.out H1);have HU:=zhd (Hb.out.ext H1);obtain ⟨p0,p1,p2,p3,p4,p5,p6,p7⟩:=zbW HU.out;clear m0 m1 m2 m3 m4 m5 m6 m7 H1
 cases h1:s.ok with
 | false =>
  obtain rfl:=H4.out (by unfold zci;simp[h1])
  go_wp2_with fail;go_ret
  exact ⟨rfl,Hm.out⟩
 | true =>
 by_cases h2:s.idx≤1073740824
 case neg =>
  obtain rfl:=H4.out (by unfold zci;simp[h2])
  go_wp2_with fail;go_ret
  exact ⟨rfl,Hm.out⟩
 by_cases h3:(l.length:Int)≤200
 case neg =>
  obtain rfl:=H4.out (by unfold zci;simp;omega)
  go_wp2_with fail;go_ret
  exact ⟨rfl,Hm.out⟩
 by_cases h4:0≤vt
 case neg =>
  obtain rfl:=H4.out (by unfold zci;simp[h4])
  go_wp2_with fail;go_ret
  exact ⟨rfl,Hm.out⟩
 by_cases h5:vt≤5
 case neg =>
  obtain rfl:=H4.out (by unfold zci;simp[h5])
  go_wp2_with fail;go_ret
  exact ⟨rfl,Hm.out⟩
 have Hi:zci ⟨s,l,tm,vt⟩=true:=by unfold zci;simp[h1,h2,h4,h5];omega
 have Hz:Hid ((match goT s.term l with | none=>false | some x=>decide (x≤tm)&&decide (0≤tm)&&decide (tm≤1073741824))=R):=zhd (by rw[←HR.out];unfold zbF;rw[Hi];simp)
 clear Hi H4 HR;go_wp2_with fail
 go_loopw [3,4] (fun vc x W=>∃ (j:Nat) (H9:Int),j≤l.length∧x=.int .i64 j∧vc=.int .i64 H9∧Hid (goT s.term l=goT H9 (l.drop j))∧Ext w1 W) (fun _ x _=>l.length-(intOf x).toNat)
 case atStart=>exact ⟨0,s.term,by omega,rfl,rfl,zhd rfl,xR _⟩
 case round =>
  obtain ⟨j,H9,hj,rfl,rfl,HG,HH⟩:=hrel;have K4:=zhd HH;have Hx:=zhd (xT Hm.out HH);obtain ⟨_,_,_,_,_,g5,g6,_⟩:=zbW (HU.out.ext HH);clear p0 p1 p2 p3 p4 p5 p6 p7 HH
  by_cases hlt:j<l.length
  ·obtain ⟨_,b,K3,rfl,hc⟩:=Es.at_ (HE.out.ext Hx.out) (by omega)
   obtain ⟨k0,k1,k2⟩:=hc j hlt;have hG:=HG.out;rw[List.drop_eq_getElem_cons hlt,goT] at hG
   have HT:(j:Int)<(l.length:Int):=by omega
   clear hc HG
   generalize l[j]=e at *
   have HG:=zhd hG;clear hG;go_wp2_with fail
   refine (zm0 _ _ _ _).mono ?_
   rintro e2 w5 ⟨rfl,Ho⟩
   have Ho:Ext wr w5:=Ho
   have HJ:=zhd Ho;have Kj:=Ho.cell g5;have Kp:=Ho.cell k0;clear g5 k0 k1 k2 g6 Ho
   cases ho:okB e.t e.k e.v with
   | false =>
    have hR:R=false:=by rw[←Hz.out,HG.out,ho];rfl
    subst hR;go_wp2_with fail;go_ret
    exact ⟨rfl,xT Hx.out HJ.out⟩
   | true =>
    by_cases hcur:H9≤e.t
    ·have HK:=HG.out
     rw[if_pos (by simp[ho,hcur])] at HK
     have K5:=zhd HK
     have Kb:¬ (e.t<H9):=by omega
     clear HK HG;go_wp2_with fail
     go_roundw
     case rel=>exact ⟨j+1,e.t,by omega,by go_num,rfl,K5,xT K4.out HJ.out⟩
     case measure=>simp[intOf];omega
    ·have hR:R=false:=by rw[←Hz.out,HG.out,if_neg (by simp[hcur])]
     subst hR
     have Kb:e.t<H9:=by omega
     go_wp2_with fail;go_ret
     exact ⟨rfl,xT Hx.out HJ.out⟩
  ·obtain rfl:j=l.length:=by omega
   have hR:R=(decide (H9≤tm)&&decide (0≤tm)&&decide (tm≤1073741824)):=by
    rw[←Hz.out,HG.out,List.drop_length];rfl
   subst hR;clear Hz HG;go_wp2_with fail
   all_goals go_ret
   all_goals (refine ⟨ret_bool ?_,Hx.out⟩;rw[P4];simp;try omega)
def zkw (a b:Tup):Bool:=zew a.s b.s&&decide (a.term=b.term)&&decide (a.vote=b.vote)&&decide (a.log=b.log)
theorem zqr (a b:Tup) (va vb:Value) (w:World) (hA:Es w va a.log) (hB:Es w vb b.log) :
  Calls Tryz.prog 20 #[.agg #[.int .i64 a.s.idx,.int .i64 a.s.term,.int .i64 a.s.sum,.int .i64 a.s.lvl,.bool a.s.fin,va,.int .i64 a.term,.int .i64 a.vote],.agg #[.int .i64 b.s.idx,.int .i64 b.s.term,.int .i64 b.s.sum,.int .i64 b.s.lvl,.bool b.s.fin,vb,.int .i64 b.term,.int .i64 b.vote]] w fun e w'=>e=.returned (.bool (zkw a b))∧Ext w w':=by
 obtain ⟨A,c,rfl,_,_⟩:=xO hA;obtain ⟨B,d,rfl,_,_⟩:=xO hB;obtain ⟨s1,l1,t1,v1⟩:=a;obtain ⟨s2,l2,t2,v2⟩:=b
 dsimp only at *
 obtain ⟨x1,Ke⟩:∃ x:Array Value,#[.int .i64 s1.idx,.int .i64 s1.term,.int .i64 s1.sum,.int .i64 s1.lvl,.bool s1.fin,.slice A l1.length c,.int .i64 t1,.int .i64 v1]=x:=⟨_,rfl⟩;obtain ⟨x2,Kf⟩:∃ x:Array Value,#[.int .i64 s2.idx,.int .i64 s2.term,.int .i64 s2.sum,.int .i64 s2.lvl,.bool s2.fin,.slice B l2.length d,.int .i64 t2,.int .i64 v2]=x:=⟨_,rfl⟩;have H3:=P6 w 56 x1;have Ht:=H3.alloc (.cells x2 56);have H8:=P6 (w.alloc (.cells x1 56)) 56 x2;rw[xS] at H8
 have hX:Ext w ((w.alloc (.cells x1 56)).alloc (.cells x2 56)):=xA (xA (xR _) _) _
 subst Ke Kf;obtain ⟨m0,m1,m2,m3,m4,m5,m6,m7⟩:=zbW Ht;obtain ⟨p0,p1,p2,p3,p4,p5,p6,p7⟩:=zbW H8;have Ka:=zis s1 s2;obtain ⟨R,hR⟩:∃ R,zkw ⟨s1,l1,t1,v1⟩ ⟨s2,l2,t2,v2⟩=R:=⟨_,rfl⟩;rw[hR];unfold zkw at hR;dsimp only at hR;have key:=zsh (.slice A l1.length c) (.slice B l2.length d) l1 l2 _ (hA.ext hX) (hB.ext hX);obtain ⟨q,hq⟩:∃ q,zew s1 s2=q:=⟨_,rfl⟩;rw[hq] at hR Ka;have HR:=zhd hR;have H5:=zhd key;have HX:=zhd hX;have Km:=zjP;clear hR key hX H3 Ht H8 hA hB hq
 go_enter Tryz.func20,Tryz.ntmps20
 cases q with
 | false =>
  have:R=false:=by rw[←HR.out];rfl
  subst this;go_wp2_with fail;go_ret
  exact ⟨rfl,xA (xA (xR _) _) _⟩
 | true =>
  by_cases h2:t1=t2
  case neg =>
   have:R=false:=by rw[←HR.out];simp[h2]
   subst this;go_wp2_with fail;go_ret
   exact ⟨rfl,xA (xA (xR _) _) _⟩
  by_cases h3:v1=v2
  case neg =>
   have:R=false:=by rw[←HR.out];simp[h3]
   subst this;go_wp2_with fail;go_ret
   exact ⟨rfl,xA (xA (xR _) _) _⟩
  have:R=decide (l1=l2):=by rw[←HR.out];simp[h2,h3]
  subst this h2 h3;clear HR;go_wp2_with fail
  refine H5.out.mono ?_
  rintro e w1 ⟨rfl,H1⟩
  have H1:Ext _ w1:=H1
  go_wp2_with fail;go_ret
  exact ⟨rfl,xT HX.out H1⟩
def zfi:Tup:=⟨zpW,[],0,0⟩
structure Rd where
 err:Int
 t:Tup
 m:Mf
def zbS (e:Int):Rd:=⟨e,zfi,mf0⟩
def zbB (fs:List Fil):Rd:=match zao fs (zas 1 0 0) with
 | none=>zbS 42
 | some b=>match zbe b with
  | none=>zbS 130
  | some m=>match zcS fs m with
   | none=>zbS 130
   | some s=>if (zeH fs m s.idx).2&&zbF ⟨s,(zeH fs m s.idx).1,m.term,m.vote⟩ then ⟨0,⟨s,(zeH fs m s.idx).1,m.term,m.vote⟩,m⟩ else zbS 130
def zbT (t:Tup) (v:Value):Array Value:=#[.int .i64 t.s.idx,.int .i64 t.s.term,.int .i64 t.s.sum,.int .i64 t.s.lvl,.bool t.s.fin,v,.int .i64 t.term,.int .i64 t.vote]
def zo6 (w:World) (r:Rd) (e:Ending) (w':World):Prop:=∃ vl vs,e=.returned (.tuple #[.agg #[.int .i64 r.t.s.idx,.int .i64 r.t.s.term,.int .i64 r.t.s.sum,.int .i64 r.t.s.lvl,.bool r.t.s.fin,vl,.int .i64 r.t.term,.int .i64 r.t.vote],.agg #[.int .i64 r.m.next,.int .i64 r.m.term,.int .i64 r.m.vote,.int .i64 r.m.sq,.int .i64 r.m.sf,vs],.int .i64 r.err])∧Es w' vl r.t.log∧Sgs w' vs r.m.segs∧Ext w w'
def TellO (w:World) (r:Rd) (e:Ending) (w':World):Prop:=∃ vl vs,e=.returned (.tuple #[.agg #[.int .i64 r.t.s.idx,.int .i64 r.t.s.term,.int .i64 r.t.s.sum,.int .i64 r.t.s.lvl,.bool r.t.s.fin,vl,.int .i64 r.t.term,.int .i64 r.t.vote],.agg #[.int .i64 r.m.next,.int .i64 r.m.term,.int .i64 r.m.vote,.int .i64 r.m.sq,.int .i64 r.m.sf,vs],.int .i64 r.err])∧OwnE w' w.heap.size vl r.t.log∧OwnS w' w.heap.size vs r.m.segs∧Ext w w'
theorem TellO.tell {w:World} {r:Rd} {e:Ending} {w':World} (h:TellO w r e w'):zo6 w r e w':=by
 obtain ⟨vl,vs,h1,h2,h3,h4⟩:=h
 exact ⟨vl,vs,h1,OwnE.es h2,OwnS.sgs h3,h4⟩
theorem zd1 {b:List UInt8} {m:Mf} (h:zbe b=some m):zax m=true∧zbs m=some b:=by
 unfold zbe at h
 split at h
 ·cases h
 ·split at h
  ·cases h
  ·split at h
   ·rename_i hp
    cases h
    refine ⟨?_,hp⟩
    unfold zbs at hp
    split at hp
    ·assumption
    ·cases hp
   ·cases h
theorem zi1 {m:Mf} (h:zax m=true):∀ s∈m.segs,1≤s.first∧s.first≤1073741820∧-1≤s.count∧s.count≤4:=by
 intro s hs;unfold zax at h;rw[P1] at h
 exact zgp h.2 s (by rw[List.take_length];exact hs)
theorem zpX {fs:List Fil} {m:Mf} {s:Sta} (h:zcS fs m=some s):s.ok=true∧0≤s.idx∧s.idx≤1073741824:=by
 have K0:s.ok=true:=by
  unfold zcS at h
  split at h
  ·cases h;rfl
  ·split at h
   ·cases h
   ·exact (zp2 h).1
 have:=(Sta.okP K0).1
 unfold zaE at this
 simp at this
 exact ⟨K0,this⟩
theorem zj2 {W:World} {b:Nat} {t:TypeId} {cs:Array Value} (h:Blk W b t cs):W.frozen? ⟨b,0,none⟩=false∧W.frozen? ⟨b,1,none⟩=false∧W.frozen? ⟨b,2,none⟩=false∧W.frozen? ⟨b,3,none⟩=false∧W.frozen? ⟨b,4,none⟩=false∧W.frozen? ⟨b,5,none⟩=false∧W.frozen? ⟨b,6,none⟩=false∧W.frozen? ⟨b,7,none⟩=false :=
 ⟨h.frozen 0,h.frozen 1,h.frozen 2,h.frozen 3,h.frozen 4,h.frozen 5,h.frozen 6,h.frozen 7⟩
def zdj (W:World) (b:Nat) (a v u x y z p q:Value):World:=(((((((W.setCell ⟨b,0,none⟩ a).setCell ⟨b,1,none⟩ v).setCell ⟨b,2,none⟩ u).setCell ⟨b,3,none⟩ x).setCell ⟨b,4,none⟩ y).setCell ⟨b,5,none⟩ z).setCell ⟨b,6,none⟩ p).setCell ⟨b,7,none⟩ q
theorem zgU {W:World} {b:Nat} {t:TypeId} {a v u x y z p q:Value} (h:Blk W b t #[a,v,u,x,y,z,p,q]) (a' v' u' x' y' z' p' q':Value):Blk (zdj W b a' v' u' x' y' z' p' q') b t #[a',v',u',x',y',z',p',q']:=by
 have h0:Blk _ b t #[a',v,u,x,y,z,p,q]:=h.set 0 a'
 have h1:Blk _ b t #[a',v',u,x,y,z,p,q]:=h0.set 1 v'
 have h2:Blk _ b t #[a',v',u',x,y,z,p,q]:=h1.set 2 u'
 have h3:Blk _ b t #[a',v',u',x',y,z,p,q]:=h2.set 3 x'
 have h4:Blk _ b t #[a',v',u',x',y',z,p,q]:=h3.set 4 y'
 have h5:Blk _ b t #[a',v',u',x',y',z',p,q]:=h4.set 5 z'
 have h6:Blk _ b t #[a',v',u',x',y',z',p',q]:=h5.set 6 p'
 have h7:Blk _ b t #[a',v',u',x',y',z',p',q']:=h6.set 7 q'
 exact h7
theorem zeE {W:World} {b c:Nat} {t:TypeId} {cs:Array Value} (h:Blk W b t cs) (H0:b≠c) (a' v' u' x' y' z' p' q':Value):Blk (zdj W c a' v' u' x' y' z' p' q') b t cs :=
 (((((((h.other H0 0 a').other H0 1 v').other H0 2 u').other H0 3 x').other H0 4 y').other H0 5 z').other H0 6 p').other H0 7 q'
theorem zg4 {w W:World} (h:Ext w W) {b:Nat} (hb:w.heap.size≤b) (a' v' u' x' y' z' p' q':Value):Ext w (zdj W b a' v' u' x' y' z' p' q') :=
 (((((((Below.setCell h hb a').setCell hb v').setCell hb u').setCell hb x').setCell hb y').setCell hb z').setCell hb p').setCell hb q'
def zbY (W:World) (b:Nat) (a v u x y z:Value):World:=(((((W.setCell ⟨b,0,none⟩ a).setCell ⟨b,1,none⟩ v).setCell ⟨b,2,none⟩ u).setCell ⟨b,3,none⟩ x).setCell ⟨b,4,none⟩ y).setCell ⟨b,5,none⟩ z
theorem zeD {W:World} {b c:Nat} {t:TypeId} {cs:Array Value} (h:Blk W b t cs) (H0:b≠c) (a' v' u' x' y' z':Value):Blk (zbY W c a' v' u' x' y' z') b t cs :=
 (((((h.other H0 0 a').other H0 1 v').other H0 2 u').other H0 3 x').other H0 4 y').other H0 5 z'
theorem zfD {W:World} {b:Nat} {t:TypeId} {cs:Array Value} (hB:Blk W b t cs) {e:TypeId} (H2:t≠e) {base size k:Nat} {vv:Value} {xs:List Value} (hr:W.ownsRow base e size vv k xs) (a' v' u' x' y' z' p' q':Value):(zdj W b a' v' u' x' y' z' p' q').ownsRow base e size vv k xs:=by
 have r0:=hr.kept (zab _ b 0 a') (.inr (hB.not_row H2 hr).symm);have b0:=hB.set 0 a';have r1:=r0.kept (zab _ b 1 v') (.inr (b0.not_row H2 r0).symm);have b1:=b0.set 1 v';have r2:=r1.kept (zab _ b 2 u') (.inr (b1.not_row H2 r1).symm);have b2:=b1.set 2 u';have r3:=r2.kept (zab _ b 3 x') (.inr (b2.not_row H2 r2).symm);have b3:=b2.set 3 x';have r4:=r3.kept (zab _ b 4 y') (.inr (b3.not_row H2 r3).symm);have b4:=b3.set 4 y';have r5:=r4.kept (zab _ b 5 z') (.inr (b4.not_row H2 r4).symm);have b5:=b4.set 5 z';have r6:=r5.kept (zab _ b 6 p') (.inr (b5.not_row H2 r5).symm);have b6:=b5.set 6 p';have r7:=r6.kept (zab _ b 7 q') (.inr (b6.not_row H2 r6).symm);have b7:=b6.set 7 q'
 exact r7
theorem zc6 {W:World} {b:Nat} {t:TypeId} {cs:Array Value} (hB:Blk W b t cs) {e:TypeId} (H2:t≠e) {base size k:Nat} {vv:Value} {xs:List Value} (hr:W.ownsRow base e size vv k xs) (a' v' u' x' y' z':Value):(zbY W b a' v' u' x' y' z').ownsRow base e size vv k xs:=by
 have r0:=hr.kept (zab _ b 0 a') (.inr (hB.not_row H2 hr).symm);have b0:=hB.set 0 a';have r1:=r0.kept (zab _ b 1 v') (.inr (b0.not_row H2 r0).symm);have b1:=b0.set 1 v';have r2:=r1.kept (zab _ b 2 u') (.inr (b1.not_row H2 r1).symm);have b2:=b1.set 2 u';have r3:=r2.kept (zab _ b 3 x') (.inr (b2.not_row H2 r2).symm);have b3:=b2.set 3 x';have r4:=r3.kept (zab _ b 4 y') (.inr (b3.not_row H2 r3).symm);have b4:=b3.set 4 y';have r5:=r4.kept (zab _ b 5 z') (.inr (b4.not_row H2 r4).symm);have b5:=b4.set 5 z'
 exact r5
theorem znj:Tryz.prog.underlying 56=some (.struct (Tryz.prog.fieldsOf 56)):=by kernel_rfl
open Go.RowKit Go.Mv Go.Shelf
attribute [local go_sem] Oper.semAt_some
theorem zko {W:World} {base:Nat} {e:TypeId} {size:Nat} {v:Value} {n:Nat} {xs:List Value} (h:W.ownsRow base e size v n xs) {D:Nat} {o:Obj} (hD:W.heap[D]?=some o) (hc:o.isCells=false) (o':Obj):(W.putObj D o').ownsRow base e size v n xs:=by
 refine ⟨h.1,?_⟩
 rcases h.2 with hn | ⟨g,cap,H9,hv,hb,hg,rest⟩
 ·exact .inl hn
 ·exact .inr ⟨g,cap,H9,hv,hb,zfk (W:=W) (b:=g) (t:=e) (cs:=H9) hg hD hc o',rest⟩
theorem mcSt1a0 {P:Prop} (h:P:=by
 have Hr:(r.err==0)=true:=by simpa using he
 have HS:((r.first:Int)==s.first)=true:=by simpa using hf
 have He:=zhd he;have Hf:=zhd hf;clear he hf;go_wp2_with fail
 with_reducible refine (zb1 _ _).mono ?_
 rintro e6 w6 ⟨rfl,rfl⟩
 cases hcb:zcp r.log.length s.count with
 | true =>
  obtain rfl:none=R:=by rw[←HR.out,if_pos (by unfold zcc;simp[hcb])]
  have H0:(((r.log.length:Nat):Int)==s.count)=false:=by
   unfold zcp at hcb;simp only[P2,P1,decide_eq_true_eq] at hcb
   simp;omega
  by_cases c1:s.count = -1
  ·have HV:(s.count == -1)=true:=by simpa using c1
   have Hv:r.log.length<1∨4<r.log.length:=by
    unfold zcp at hcb;simp only[P2,P1,decide_eq_true_eq] at hcb;omega
   clear c1
   by_cases n1:r.log.length<1
   ·have K2:¬ ((1:Int)≤(r.log.length:Int)):=by omega
    clear n1 Hv;go_wp2_with fail
    try rw[decide_eq_false (show ¬ ((r.log.length:Int)≤4) by omega)]
    with_reducible refine (zaY _ _).mono ?_
    rintro e6 w6 ⟨rfl,rfl⟩
    exact ⟨rfl,rfl,HE.out⟩
   ·have K2:(1:Int)≤(r.log.length:Int):=by omega
    have Ki:¬ ((r.log.length:Int)≤4):=by omega
    clear n1 Hv;go_wp2_with fail
    try rw[decide_eq_false (show ¬ ((r.log.length:Int)≤4) by omega)]
    with_reducible refine (zaY _ _).mono ?_
    rintro e6 w6 ⟨rfl,rfl⟩
    exact ⟨rfl,rfl,HE.out⟩
  ·have HV:(s.count == -1)=false:=by simpa using c1
   clear c1;go_wp2_with fail
   with_reducible refine (zaY _ _).mono ?_
   rintro e6 w6 ⟨rfl,rfl⟩
   exact ⟨rfl,rfl,HE.out⟩
 | false =>
  obtain rfl:some r.log=R:=by rw[←HR.out,if_neg (by unfold zcc;simp[He.out,Hf.out,hcb])]
  by_cases ce:(r.log.length:Int)=s.count
  ·have H0:(((r.log.length:Nat):Int)==s.count)=true:=by simpa using ce
   clear ce;go_wp2_with fail
   with_reducible refine (zb1 _ _).mono ?_
   rintro e6 w6 ⟨rfl,rfl⟩;go_wp2_with fail;go_ret
   exact ⟨⟨_,rfl,HO.out⟩,HE.out⟩
  ·have H0:(((r.log.length:Nat):Int)==s.count)=false:=by simpa using ce
   have hh:s.count = -1∧1≤r.log.length∧r.log.length≤4:=by
    unfold zcp at hcb;simp only[Bool.or_eq_false_iff,Bool.and_eq_false_iff,decide_eq_false_iff_not] at hcb;omega
   have HV:(s.count == -1)=true:=by simpa using hh.1
   have K2:(1:Int)≤(r.log.length:Int):=by omega
   have Ki:(r.log.length:Int)≤4:=by omega
   clear hh ce;go_wp2_with fail
   with_reducible refine (zb1 _ _).mono ?_
   rintro e6 w6 ⟨rfl,rfl⟩;go_wp2_with fail;go_ret
   exact ⟨⟨_,rfl,HO.out⟩,HE.out⟩):P:=h
theorem mcSt1a1 {P:Prop} (h:P:=by
 go_wp2_with fail
 with_reducible refine (zaY _ _).mono ?_
 rintro e6 w6 ⟨rfl,rfl⟩
 exact ⟨rfl,rfl,HE.out⟩):P:=h
def pan (e:Int):Ending:=.panicked [{ v:=.iface 32 (.int .i64 e),recovered:=false }]
theorem zb1 (e:Int) (w:World):Calls Tryz.prog 62 #[.bool true,.int .i64 e] w fun en w'=>en=.returned (.tuple #[])∧w=w':=by
 go_enter Tryz.func62,Tryz.ntmps62
 go_wp2
 go_end0
 exact ⟨rfl,rfl⟩
theorem zaY (e:Int) (w:World):Calls Tryz.prog 62 #[.bool false,.int .i64 e] w fun en w'=>en=pan e∧w=w':=by
 go_enter Tryz.func62,Tryz.ntmps62
 go_wp2
 exact ⟨rfl,rfl,rfl⟩
def ztN (w:World) (r:Option (List UInt8)) (e:Int) (en:Ending) (w':World):Prop:=(match r with
 | some b=>∃ v,en=.returned v∧Bs w' v b
 | none=>en=pan e)∧Ext w w'
theorem zfj (v:Value) (fs:List Fil) (k s f e:Int) (w:World) (hS:StW w) (hF:Fs w v fs) (hl:fs.length≤4000000):Calls Tryz.prog 61 #[v,.agg #[.int .u8 k,.int .i64 s,.int .i64 f],.int .i64 e] w (ztN w (zao fs (zas k s f)) e):=by
 obtain ⟨A,c,rfl,h1,h2⟩:=Fs.open_ hF
 have hX:Ext w (w.alloc (.cells #[.int .u8 k,.int .i64 s,.int .i64 f] 49)):=xA (xR _) _
 have key:=zsc _ fs k s f _ (hS.ext hX) (hF.ext hX) hl;obtain ⟨r,hr⟩:∃ r,zas k s f=r:=⟨_,rfl⟩
 rw[hr] at key ⊢
 obtain ⟨m0,m1,m2⟩:=zds (P6 w 49 #[.int .u8 k,.int .i64 s,.int .i64 f]);have H5:=zhd key;have HF:=zhd (hF.ext hX);have HX:=zhd hX;clear key hF hX hS hr;obtain ⟨R,hR⟩:∃ R,zao fs r=R:=⟨_,rfl⟩;rw[hR];unfold zao at hR;have HR:=zhd hR;clear hR
 by_cases hneg:zb4 fs r<0
 ·obtain rfl:none=R:=by have:=HR.out;rwa [if_pos hneg] at this
  obtain ⟨x,hx⟩:∃ x,zb4 fs r=x:=⟨_,rfl⟩;rw[hx] at H5 hneg
  go_enter Tryz.func61,Tryz.ntmps61
  go_wp2_with fail
  refine H5.out.mono ?_
  rintro e1 w1 ⟨rfl,H1⟩
  have Kd:¬ (0≤x):=by omega
  have HE:=zhd (xT HX.out H1);go_wp2_with fail
  rw[decide_eq_false (show ¬ (0≤x) by omega)]
  with_reducible refine (zaY _ _).mono ?_
  rintro e2 w2 ⟨rfl,rfl⟩
  exact ⟨rfl,rfl,HE.out⟩
 ·obtain ⟨i,hi,HZ⟩:=zjx fs r hneg
  have HL:=HR.out;rw[if_neg hneg,hi] at HL
  rw[show ((i:Int).toNat)=i from by omega,P7 HZ] at HL
  obtain rfl:some fs[i].2=R:=HL
  rw[hi] at H5;obtain ⟨y,hy⟩:∃ y,fs[i].2=y:=⟨_,rfl⟩;rw[hy];have Hy:=zhd hy;clear HR hneg hi hy
  go_enter Tryz.func61,Tryz.ntmps61
  go_wp2_with fail
  refine H5.out.mono ?_
  rintro e1 w1 ⟨rfl,H1⟩
  have H1:Ext _ w1:=H1
  have HE:=zhd (xT HX.out H1)
  have Kd:(0:Int)≤(i:Int):=by omega
  obtain ⟨_,b,K3,rfl,hc⟩:=(HF.out.ext H1).at_ (by omega);obtain ⟨HP,B2,d2,HQ,Ha⟩:=hc i HZ
  have HT:(i:Int)<(fs.length:Int):=by omega
  rw[Hy.out] at Ha HQ;have HB:=zhd Ha;clear hc Ha HP H1;go_wp2_with fail
  with_reducible refine (zb1 _ _).mono ?_
  rintro e2 w2 ⟨rfl,rfl⟩;go_wp2_with fail;go_ret
  exact ⟨⟨.slice B2 y.length d2,rfl,HB.out⟩,HE.out⟩
def ztB (w:World) (r:Option (List Ent)) (en:Ending) (w':World):Prop:=(match r with
 | some x=>∃ v,en=.returned v∧OwnE w' w.heap.size v x
 | none=>en=pan 130)∧Ext w w'
theorem zlE (v:Value) (fs:List Fil) (s:Sg4) (w:World) (hS:StW w) (hF:Fs w v fs) (hl:fs.length≤4000000) (hn:zao fs (zas 3 s.seq s.fmt)=none) :
  Calls Tryz.prog 76 #[v,.agg #[.int .i64 s.seq,.int .i64 s.fmt,.int .i64 s.first,.int .i64 s.count]] w fun en w'=>en=pan 130∧Ext w w':=by
 obtain ⟨A,c,rfl,h1,h2⟩:=Fs.open_ hF
 have hX:Ext w (w.alloc (.cells #[.int .i64 s.seq,.int .i64 s.fmt,.int .i64 s.first,.int .i64 s.count] 74)):=xA (xR _) _
 have H3:=P6 w 74 #[.int .i64 s.seq,.int .i64 s.fmt,.int .i64 s.first,.int .i64 s.count]
 have key:=fun W (h:Ext w W)=>zfj (.slice A fs.length c) fs 3 s.seq s.fmt 130 W (hS.ext h) (hF.ext h) hl
 rw[hn] at key;have H5:=zhd key;have HX:=zhd hX;have HA:=zhd H3;obtain ⟨m0,m1,m2,m3⟩:=zay H3;clear hX H3 key hF hS hn
 go_enter Tryz.func76,Tryz.ntmps76
 go_wp2_with fail
 refine wp_region_held_drew (S:=fun W=>W.cell? ⟨w.heap.size,0,none⟩=some (.int .i64 s.seq)∧W.cell? ⟨w.heap.size,1,none⟩=some (.int .i64 s.fmt)) (by kernel_rfl) ⟨m0,m1⟩ (fun _=>?_)
 clear m0 m1 m2 m3;refine tkN 0 rfl ?_;refine tkN 1 rfl ?_;refine tkN 2 rfl ?_;refine tkN 3 rfl ?_;refine tkN 4 rfl ?_;refine tkN 5 rfl ?_;refine tkN 7 rfl ?_;refine tkN 8 rfl ?_
 refine AllReadyH.two (i:=6) (j:=13) rfl rfl (by kernel_rfl) (by rfl) (by rfl) (fun K hK=>?_) (fun K hK=>?_)
 ·go_simp
  refine (H5.out _ (xD HX.out)).mono ?_
  rintro e w2 ⟨rfl,H6⟩
  exact ⟨rfl,rfl,xT HX.out (xT (xD (xR _)) H6)⟩
 ·go_simp
  have HY:Ext w ((w.alloc (.cells #[.int .i64 s.seq,.int .i64 s.fmt,.int .i64 s.first,.int .i64 s.count] 74)).alloc (.cells #[.int .i64 0,.slice none 0 0,.int .i64 0] 121)).drew:=xD (xA HX.out _)
  obtain ⟨m0,m1,m2,m3⟩:=zay (HA.out.ext (xD (xA (xR _) (.cells #[.int .i64 0,.slice none 0 0,.int .i64 0] 121))))
  refine shK hK _ _ ⟨m0,m1⟩ (fun _=>?_)
  refine ar1 6 rfl (fun K hK=>?_)
  go_simp
  refine (H5.out _ HY).mono ?_
  rintro e w2 ⟨rfl,H6⟩
  exact ⟨rfl,rfl,xT HY H6⟩
def zcc (s:Sg4) (r:zf1):Bool:=decide (r.err≠0)||decide (r.first≠s.first)||zcp r.log.length s.count
theorem znO {fs:List Fil} {s:Sg4} {b:List UInt8} (h:zao fs (zas 3 s.seq s.fmt)=some b):zbo fs s=if zcc s (zc4 rT b s.fmt) then none else some (zc4 rT b s.fmt).log:=by
 unfold zbo zcc;rw[h];dsimp only
 by_cases h1:(zc4 rT b s.fmt).err≠0
 ·simp[h1]
 ·by_cases h2:(zc4 rT b s.fmt).first≠s.first
  ·simp[h1,h2]
  ·cases h3:zcp (zc4 rT b s.fmt).log.length s.count <;> simp[h1,h2,h3]
theorem zlF (v:Value) (fs:List Fil) (s:Sg4) (b:List UInt8) (w:World) (hS:StW w) (hF:Fs w v fs) (hl:fs.length≤4000000) (hn:zao fs (zas 3 s.seq s.fmt)=some b) (HI:b.length≤2000000) :
  Calls Tryz.prog 76 #[v,.agg #[.int .i64 s.seq,.int .i64 s.fmt,.int .i64 s.first,.int .i64 s.count]] w (ztB w (zbo fs s)):=by
 rw[znO hn];obtain ⟨A,c,rfl,h1,h2⟩:=Fs.open_ hF
 have hX:Ext w (w.alloc (.cells #[.int .i64 s.seq,.int .i64 s.fmt,.int .i64 s.first,.int .i64 s.count] 74)):=xA (xR _) _
 have H3:=P6 w 74 #[.int .i64 s.seq,.int .i64 s.fmt,.int .i64 s.first,.int .i64 s.count]
 have key:=fun W (h:Ext w W)=>zfj (.slice A fs.length c) fs 3 s.seq s.fmt 130 W (hS.ext h) (hF.ext h) hl
 rw[hn] at key
 have Hl:=fun W (u:Value) (h:Ext w W) (hB:Bs W u b)=>zqu (T:=rT) u b s.fmt W hB HI (hS.ext h).tab
 obtain ⟨r,hr⟩:∃ r,zc4 rT b s.fmt=r:=⟨_,rfl⟩
 rw[hr] at Hl ⊢
 have H5:=zhd key;have Hj:=zhd Hl;have HX:=zhd hX;have HA:=zhd H3;obtain ⟨m0,m1,m2,m3⟩:=zay H3;obtain ⟨R,hR⟩:∃ R,(if zcc s r then none else some r.log)=R:=⟨_,rfl⟩;rw[hR];have HR:=zhd hR;clear hX H3 key Hl hF hS hn hr HI hR
 go_enter Tryz.func76,Tryz.ntmps76
 go_wp2_with fail
 refine wp_region_held_drew (S:=fun W=>W.cell? ⟨w.heap.size,0,none⟩=some (.int .i64 s.seq)∧W.cell? ⟨w.heap.size,1,none⟩=some (.int .i64 s.fmt)) (by kernel_rfl) ⟨m0,m1⟩ (fun _=>?_)
 clear m0 m1 m2 m3;refine tkN 0 rfl ?_;refine tkN 1 rfl ?_;refine tkN 2 rfl ?_;refine tkN 3 rfl ?_;refine tkN 4 rfl ?_;refine tkN 5 rfl ?_;refine tkN 7 rfl ?_;refine tkN 8 rfl ?_
 refine AllReadyH.two (i:=6) (j:=13) rfl rfl (by kernel_rfl) (by rfl) (by rfl) (fun K hK=>?_) (fun K hK=>?_)
 ·go_simp
  refine (H5.out _ (xD HX.out)).mono ?_
  rintro e w2 ⟨⟨v2,rfl,Ha⟩,H6⟩
  have H6:Ext (w.alloc (.cells #[.int .i64 s.seq,.int .i64 s.fmt,.int .i64 s.first,.int .i64 s.count] 74)) w2:=xT (xD (xR _)) H6
  have E2:=xT HX.out H6;have H8:=HA.out.ext H6;obtain ⟨m0,m1,m2,m3⟩:=zay H8
  refine shK hK _ _ ⟨m0,m1⟩ (fun _=>?_)
  refine AllReadyH.two (i:=9) (j:=13) rfl rfl (by kernel_rfl) (by rfl) (by rfl) (fun K hK=>?_) (fun K hK=>?_)
  ·go_simp
   refine (Hj.out _ _ E2 Ha).mono ?_
   rintro e w3 ⟨v3,rfl,Hd,H7⟩;obtain ⟨A3,c3,rfl,_,_⟩:=xO (xW Hd);have hb3:=H8.ext H7;have E3:=xT E2 H7;clear m0 m1 m2 m3;obtain ⟨m0,m1,m2,m3⟩:=zay hb3
   refine shK hK _ _ ⟨m0,m1⟩ (fun _=>?_)
   refine tkN 10 rfl ?_;refine tkN 11 rfl ?_;refine tkN 12 rfl ?_
   refine ar1 13 rfl (fun K hK=>?_)
   go_simp
   have HD:Ext w3 (w3.alloc (.cells #[.int .i64 0,.slice none 0 0,.int .i64 0] 121)):=xA (xR _) _
   have Hh:=hb3.ext HD;have Hc:=P6 w3 121 #[.int .i64 0,.slice none 0 0,.int .i64 0];have E4:=xT E3 HD;have Kc:=zaf Hd HD
   have Kk:w2.heap.size≤w3.heap.size:=H7.size
   have Hw:w.heap.size≤w2.heap.size:=E2.size
   clear m0 m1 m2 m3;obtain ⟨m0,m1,m2,m3⟩:=zay Hh
   refine shK hK _ _ ⟨m0,m1⟩ (fun _=>?_)
   obtain ⟨g0,g1,g2,f0,f1,f2⟩:=zbi Hc
   refine ar1 14 rfl (fun K hK=>?_)
   go_simp
   have Hs:Hid (Blk (w3.alloc (.cells #[.int .i64 r.first,.slice A3 r.log.length c3,.int .i64 r.used] 121)) w3.heap.size 121 #[.int .i64 r.first,.slice A3 r.log.length c3,.int .i64 r.used]):=zhd (P6 w3 _ _)
   have Hg:=zhd (hb3.ext (xA (xR w3) (.cells #[.int .i64 r.first,.slice A3 r.log.length c3,.int .i64 r.used] 121)));have HE:=zhd (xT E3 (xA (xR w3) (.cells #[.int .i64 r.first,.slice A3 r.log.length c3,.int .i64 r.used] 121)))
   have HO:Hid (OwnE _ w.heap.size _ r.log):=zhd (zai (zaf Hd (xA (xR w3) (.cells #[.int .i64 r.first,.slice A3 r.log.length c3,.int .i64 r.used] 121))) Hw)
   clear m0 m1 m2 m3 g0 g1 g2 f0 f1 f2 Hh Hc E4 Kc HD;obtain ⟨m0,m1,m2,m3⟩:=zay Hg.out
   refine shK hK _ _ ⟨m0,m1⟩ (fun _=>?_)
   refine tkN 15 rfl ?_;refine wpAnyH_done (by kernel_rfl) ?_ _;clear m0 m1 m2 m3;obtain ⟨g0,g1,g2,_,_,_⟩:=zbi Hs.out;obtain ⟨m0,m1,m2,m3⟩:=zay Hg.out
   by_cases he:r.err=0
   case neg =>
    have Hr:(r.err==0)=false:=by simpa using he
    obtain rfl:none=R:=by rw[←HR.out,if_pos (by unfold zcc;simp[he])]
    exact mcSt1a1
   by_cases hf:(r.first:Int)=s.first
   case neg =>
    have Hr:(r.err==0)=true:=by simpa using he
    clear he
    have HS:((r.first:Int)==s.first)=false:=by simpa using hf
    obtain rfl:none=R:=by rw[←HR.out,if_pos (by unfold zcc;simp[hf])]
    exact mcSt1a1
   exact mcSt1a0
  ·go_simp
   have HM:Ext w2 (w2.alloc (.cells #[.int .i64 0,.slice none 0 0,.int .i64 0] 121)):=xA (xR _) _
   have Kh:=P6 w2 121 #[.int .i64 0,.slice none 0 0,.int .i64 0];have hb3:=H8.ext HM;have E3:=xT E2 HM
   have Hw:w.heap.size≤(w2.alloc (.cells #[.int .i64 0,.slice none 0 0,.int .i64 0] 121)).heap.size:=E3.size
   have Hk:w.heap.size≠w2.heap.size:=by have:=H8.lt;omega
   have HN:w.heap.size≤w2.heap.size:=E2.size
   obtain ⟨m0,m1,m2,m3⟩:=zay hb3
   refine shK hK _ _ ⟨m0,m1⟩ (fun _=>?_)
   clear m0 m1 m2 m3
   refine ar1 9 rfl (fun K hK=>?_)
   go_simp
   refine (Hj.out _ _ E3 (Ha.ext HM)).mono ?_
   rintro e w3 ⟨v3,rfl,Hd,H7⟩;obtain ⟨A3,c3,rfl,_,_⟩:=xO (xW Hd);have Hh:=hb3.ext H7;have Hc:=Kh.ext H7;have E4:=xT E3 H7;obtain ⟨m0,m1,m2,m3⟩:=zay Hh
   refine shK hK _ _ ⟨m0,m1⟩ (fun _=>?_)
   clear m0 m1 m2 m3;refine tkN 10 rfl ?_;refine tkN 11 rfl ?_;refine tkN 12 rfl ?_;obtain ⟨g0,g1,g2,f0,f1,f2⟩:=zbi Hc
   refine ar1 14 rfl (fun K hK=>?_)
   go_simp
   show K _ (zdt w3 w2.heap.size (.int .i64 r.first) (.slice A3 r.log.length c3) (.int .i64 r.used))
   have Hs:Hid (Blk (zdt w3 w2.heap.size (.int .i64 r.first) (.slice A3 r.log.length c3) (.int .i64 r.used)) w2.heap.size 121 #[.int .i64 r.first,.slice A3 r.log.length c3,.int .i64 r.used]):=zhd (zbj Hc _ _ _)
   have Hg:Hid (Blk (zdt w3 w2.heap.size (.int .i64 r.first) (.slice A3 r.log.length c3) (.int .i64 r.used)) w.heap.size 74 _):=zhd (((Hh.other Hk 0 _).other Hk 1 _).other Hk 2 _)
   have HE:Hid (Ext w (zdt w3 w2.heap.size (.int .i64 r.first) (.slice A3 r.log.length c3) (.int .i64 r.used))):=zhd (zcA E4 HN _ _ _)
   have HO:Hid (OwnE (zdt w3 w2.heap.size (.int .i64 r.first) (.slice A3 r.log.length c3) (.int .i64 r.used)) w.heap.size _ r.log):=zhd (zai (zea Hc (by decide) Hd _ _ _) Hw)
   generalize zdt w3 w2.heap.size (.int .i64 r.first) (.slice A3 r.log.length c3) (.int .i64 r.used)=w5 at *
   clear g0 g1 g2 f0 f1 f2;obtain ⟨m0,m1,m2,m3⟩:=zay Hg.out
   refine shK hK _ _ ⟨m0,m1⟩ (fun _=>?_)
   refine tkN 15 rfl ?_;refine wpAnyH_done (by kernel_rfl) ?_ _;clear m0 m1 m2 m3;obtain ⟨g0,g1,g2,_,_,_⟩:=zbi Hs.out;obtain ⟨m0,m1,m2,m3⟩:=zay Hg.out
   by_cases he:r.err=0
   case neg =>
    have Hr:(r.err==0)=false:=by simpa using he
    obtain rfl:none=R:=by rw[←HR.out,if_pos (by unfold zcc;simp[he])]
    exact mcSt1a1
   by_cases hf:(r.first:Int)=s.first
   case neg =>
    have Hr:(r.err==0)=true:=by simpa using he
    clear he
    have HS:((r.first:Int)==s.first)=false:=by simpa using hf
    obtain rfl:none=R:=by rw[←HR.out,if_pos (by unfold zcc;simp[hf])]
    exact mcSt1a1
   exact mcSt1a0
 ·go_simp
  have HW:Ext (w.alloc (.cells #[.int .i64 s.seq,.int .i64 s.fmt,.int .i64 s.first,.int .i64 s.count] 74)) ((w.alloc (.cells #[.int .i64 s.seq,.int .i64 s.fmt,.int .i64 s.first,.int .i64 s.count] 74)).alloc (.cells #[.int .i64 0,.slice none 0 0,.int .i64 0] 121)).drew:=xD (xA (xR _) _)
  have K1:=(P6 (w.alloc (.cells #[.int .i64 s.seq,.int .i64 s.fmt,.int .i64 s.first,.int .i64 s.count] 74)) 121 #[.int .i64 0,.slice none 0 0,.int .i64 0]).ext (xD (xR _));rw[xS] at K1;have Ht:=HA.out.ext HW;have E1:=xT HX.out HW
  have Hk:w.heap.size≠w.heap.size+1:=by omega
  have HN:w.heap.size≤w.heap.size+1:=by omega
  obtain ⟨m0,m1,m2,m3⟩:=zay Ht
  refine shK hK _ _ ⟨m0,m1⟩ (fun _=>?_)
  clear m0 m1 m2 m3
  refine ar1 6 rfl (fun K hK=>?_)
  go_simp
  refine (H5.out _ E1).mono ?_
  rintro e w2 ⟨⟨v2,rfl,Ha⟩,H6⟩;have H8:=Ht.ext H6;have Kg:=K1.ext H6;have E2:=xT E1 H6
  have Hw:w.heap.size≤w2.heap.size:=E2.size
  obtain ⟨m0,m1,m2,m3⟩:=zay H8
  refine shK hK _ _ ⟨m0,m1⟩ (fun _=>?_)
  clear m0 m1 m2 m3
  refine ar1 9 rfl (fun K hK=>?_)
  go_simp
  refine (Hj.out _ _ E2 Ha).mono ?_
  rintro e w3 ⟨v3,rfl,Hd,H7⟩;obtain ⟨A3,c3,rfl,_,_⟩:=xO (xW Hd);have Hh:=H8.ext H7;have Hc:=Kg.ext H7;have E4:=xT E2 H7;obtain ⟨m0,m1,m2,m3⟩:=zay Hh
  refine shK hK _ _ ⟨m0,m1⟩ (fun _=>?_)
  clear m0 m1 m2 m3;refine tkN 10 rfl ?_;refine tkN 11 rfl ?_;refine tkN 12 rfl ?_;obtain ⟨g0,g1,g2,f0,f1,f2⟩:=zbi Hc
  refine ar1 14 rfl (fun K hK=>?_)
  go_simp
  show K _ (zdt w3 (w.heap.size+1) (.int .i64 r.first) (.slice A3 r.log.length c3) (.int .i64 r.used))
  have Hs:Hid (Blk (zdt w3 (w.heap.size+1) (.int .i64 r.first) (.slice A3 r.log.length c3) (.int .i64 r.used)) (w.heap.size+1) 121 #[.int .i64 r.first,.slice A3 r.log.length c3,.int .i64 r.used]):=zhd (zbj Hc _ _ _)
  have Hg:Hid (Blk (zdt w3 (w.heap.size+1) (.int .i64 r.first) (.slice A3 r.log.length c3) (.int .i64 r.used)) w.heap.size 74 _):=zhd (((Hh.other Hk 0 _).other Hk 1 _).other Hk 2 _)
  have HE:Hid (Ext w (zdt w3 (w.heap.size+1) (.int .i64 r.first) (.slice A3 r.log.length c3) (.int .i64 r.used))):=zhd (zcA E4 HN _ _ _)
  have HO:Hid (OwnE (zdt w3 (w.heap.size+1) (.int .i64 r.first) (.slice A3 r.log.length c3) (.int .i64 r.used)) w.heap.size _ r.log):=zhd (zai (zea Hc (by decide) Hd _ _ _) Hw)
  generalize zdt w3 (w.heap.size+1) (.int .i64 r.first) (.slice A3 r.log.length c3) (.int .i64 r.used)=w5 at *
  clear g0 g1 g2 f0 f1 f2;obtain ⟨m0,m1,m2,m3⟩:=zay Hg.out
  refine shK hK _ _ ⟨m0,m1⟩ (fun _=>?_)
  refine tkN 15 rfl ?_;refine wpAnyH_done (by kernel_rfl) ?_ _;clear m0 m1 m2 m3;obtain ⟨g0,g1,g2,_,_,_⟩:=zbi Hs.out;obtain ⟨m0,m1,m2,m3⟩:=zay Hg.out
  by_cases he:r.err=0
  case neg =>
   have Hr:(r.err==0)=false:=by simpa using he
   obtain rfl:none=R:=by rw[←HR.out,if_pos (by unfold zcc;simp[he])]
   exact mcSt1a1
  by_cases hf:(r.first:Int)=s.first
  case neg =>
   have Hr:(r.err==0)=true:=by simpa using he
   have HS:((r.first:Int)==s.first)=false:=by simpa using hf
   obtain rfl:none=R:=by rw[←HR.out,if_pos (by unfold zcc;simp[hf])]
   exact mcSt1a1
  exact mcSt1a0
theorem znd (e:Int) (w:World):(Instr.typeAssert (.iface 32 (.int .i64 e)) 20 32 true).run Tryz.prog w=.ok (.tuple #[.int .i64 e,.bool true]) w:=by kernel_rfl
theorem zrW (w:World):(Instr.typeAssert .nilIface 20 32 true).run Tryz.prog w=.ok (.tuple #[.int .i64 0,.bool false]) w:=by kernel_rfl
theorem zr2 (p:Addr) (y:Value) (e:Int) (older:List PanicEntry) (w:World) (hc:w.cell? p=some y) (hz:w.frozen? p=false) :
  CallsD Tryz.prog 101 #[.pointer (some p)] (.panicking ({ v:=.iface 32 (.int .i64 e),recovered:=false }::older)) w fun en u' w' =>
   en=.returned (.tuple #[])∧u'=.panicking ({ v:=.iface 32 (.int .i64 e),recovered:=true }::older)∧w'=w.setCell p (.int .i64 e):=by
 refine callsD_of_wpS Tryz.func101 rfl fun c₀ cs hu=>?_
 have h1:=znd e
 apply wpS_seq
 apply wpS_region
 simp[wpOpsS,go_sem,recoverD,hu,Tryz.ntmps101,Exit.thenS,h1]
 apply wpS_seq
 apply wpS_region
 simp[wpOpsS,go_sem,Exit.thenS,P5]
 refine wpS_cond (t:=true) (by simp[Act.eval,P5]) ?_
 simp only[if_true]
 apply wpS_region
 simp[wpOpsS,go_sem,hc,hz,bodyPostS,results,Tryz.results101,P5]
theorem zp8 (p:Addr) (w:World) :
  CallsD Tryz.prog 101 #[.pointer (some p)] .returning w fun en u' w'=>en=.returned (.tuple #[])∧u'=.returning∧w'=w:=by
 refine callsD_of_wpS Tryz.func101 rfl fun c₀ cs hu=>?_
 have h1:=zrW
 apply wpS_seq
 apply wpS_region
 simp[wpOpsS,go_sem,recoverD,hu,Tryz.ntmps101,Exit.thenS,h1]
 apply wpS_seq
 apply wpS_region
 simp[wpOpsS,go_sem,Exit.thenS,P5]
 refine wpS_cond (t:=false) (by simp[Act.eval,P5]) ?_
 simp only[P3,if_false]
 refine wpS_of_wp ?_
 cases c₀
 simp_all [wp_skip,bodyPostS,results,Tryz.results101]
theorem zl9 (v:Value) (fs:List Fil) (s:Sg4) (w:World) (hS:StW w) (hF:Fs w v fs) (hl:fs.length≤4000000) (HI:∀ f∈fs,f.2.length≤2000000) :
  Calls Tryz.prog 76 #[v,.agg #[.int .i64 s.seq,.int .i64 s.fmt,.int .i64 s.first,.int .i64 s.count]] w (ztB w (zbo fs s)):=by
 cases hn:zao fs (zas 3 s.seq s.fmt) with
 | none =>
  have:zbo fs s=none:=by unfold zbo;rw[hn]
  rw[this]
  exact (zlE v fs s w hS hF hl hn).mono fun en w' h=>⟨h.1,h.2⟩
 | some b =>
  obtain ⟨f,hf,rfl⟩:=zpb hn
  exact zlF v fs s _ w hS hF hl hn (HI f hf)
/-! Names -/
theorem zrm {k s f:Int} {n:List UInt8} (hk:k=3∨k=4) (hn:zas k s f=some n):n≠[77]:=by
 unfold zas at hn
 split at hn
 ·cases hn
  unfold zf8;rw[if_neg (by omega),if_neg (by omega)];intro h
  injection h with h _
  rcases hk with rfl | rfl <;> simp at h
 ·cases hn
theorem zkn:zas 1 0 0=some [77]:=rfl
/-! Files -/
theorem znz (f:Fil) (fs:List Fil) (n:List UInt8):zao (f::fs) (some n)=if f.1=n then some f.2 else zao fs (some n):=by
 unfold zao zb4 zbz;simp only[List.findIdx?_cons]
 by_cases h:f.1=n
 ·simp[h]
 ·have hb:(f.1==n)=false:=by simpa using h
  rw[if_neg h,hb];simp only[P3,if_false]
  cases hi:fs.findIdx? (fun f=>f.1==n) with
  | none=>simp
  | some i =>
   simp only[Option.map_some];rw[if_neg (by omega),if_neg (by omega)]
   have e1:((i+1:Nat):Int).toNat=i+1:=by omega
   have e2:((i:Nat):Int).toNat=i:=by omega
   rw[e1,e2,List.getElem?_cons_succ]
/-! Manifests -/
theorem zky:∀ (l:List Sg4) (acc:List Sg4),zav (zaX l)=true→zb6 l.length acc (zaj (zaX l))=some (acc++l)
 | [],acc,_=>by simp[zb6]
 | s::l,acc,h=>by
  have e:zaX (s::l)=[s.seq,s.fmt,s.first,s.count+1]++zaX l:=rfl
  rw[e] at h ⊢
  unfold zav at h;rw[Pc,P1] at h;have ht:=zgs [s.seq,s.fmt,s.first,s.count+1] h.1 [] (zaj (zaX l));rw[xI] at ht
  have ht:zae 4 [] (zaj [s.seq,s.fmt,s.first,s.count+1]++zaj (zaX l))=(0,[s.seq,s.fmt,s.first,s.count+1],zaj (zaX l)):=ht
  have hs:zaj ([s.seq,s.fmt,s.first,s.count+1]++zaX l)=zaj [s.seq,s.fmt,s.first,s.count+1]++zaj (zaX l):=by unfold zaj;rw[Pb]
  rw[xC,zb6,hs,ht];simp only[if_true];rw[zky l _ h.2,List.append_assoc];obtain ⟨a,b,c,d⟩:=s
  simp
theorem zrH {m:Mf} (h:zax m=true):zdS (77::zaj (zbD m))=some m:=by
 have hn:=zgY h;obtain ⟨_,_,_,hl,_,_⟩:=zd8 h;unfold zdS;rw[if_neg (by simp)]
 have e:zbD m=[m.next,m.term,m.vote,m.sq,m.sf,(m.segs.length:Int)]++zaX m.segs:=rfl
 rw[e] at hn ⊢
 unfold zav at hn;rw[Pc,P1] at hn;have ht:=zgs [m.next,m.term,m.vote,m.sq,m.sf,(m.segs.length:Int)] hn.1 [] (zaj (zaX m.segs));rw[xI] at ht
 have ht:zae 6 [] (zaj [m.next,m.term,m.vote,m.sq,m.sf,(m.segs.length:Int)]++zaj (zaX m.segs))=(0,[m.next,m.term,m.vote,m.sq,m.sf,(m.segs.length:Int)],zaj (zaX m.segs)):=ht
 have hs:zaj ([m.next,m.term,m.vote,m.sq,m.sf,(m.segs.length:Int)]++zaX m.segs)=zaj [m.next,m.term,m.vote,m.sq,m.sf,(m.segs.length:Int)]++zaj (zaX m.segs):=by unfold zaj;rw[Pb]
 rw[hs,List.drop_succ_cons,List.drop_zero,ht];unfold zfx;have hg:=zky m.segs [] hn.2;rw[xI] at hg;simp only[List.getD_cons_zero,List.getD_cons_succ,ne_eq,not_true_eq_false,if_false,Int.toNat_natCast,hg,Option.map_some];rw[if_neg (by omega)]
theorem zr0 {m:Mf} {c:List UInt8} (h:zbs m=some c):zbe c=some m:=by
 have hc:zax m=true:=by
  unfold zbs at h
  split at h
  ·assumption
  ·cases h
 have h0:=h;unfold zbs at h0;rw[if_pos hc] at h0
 cases h0
 unfold zbe;rw[znG];simp only[zrH hc];rw[if_pos h]
/-! Segments -/
/-! A step -/
theorem zuw {fs:List Fil} {t:Tup} {m:Mf} (h:zbB fs=⟨0,t,m⟩):∃ b s,zao fs (some [77])=some b∧zbe b=some m∧zcS fs m=some s∧(zeH fs m s.idx).2=true∧zbF ⟨s,(zeH fs m s.idx).1,m.term,m.vote⟩=true∧t=⟨s,(zeH fs m s.idx).1,m.term,m.vote⟩:=by
 unfold zbB at h;rw[zkn] at h
 cases hb:zao fs (some [77]) with
 | none=>rw[hb] at h;cases h
 | some b =>
  rw[hb] at h;dsimp only at h
  cases hm:zbe b with
  | none=>rw[hm] at h;cases h
  | some m' =>
   rw[hm] at h;dsimp only at h
   cases hs:zcS fs m' with
   | none=>rw[hs] at h;cases h
   | some s =>
    rw[hs] at h;dsimp only at h
    split at h
    ·rename_i hc
     rw[P1] at hc
     cases h
     exact ⟨b,s,rfl,hm,hs,hc.1,hc.2,rfl⟩
    ·cases h
inductive zgQ (m:Mf):Int→Int→Int→Prop
 | snap:m.sq≠0→zgQ m 4 m.sq m.sf
 | seg (j:Nat) (h:j<m.segs.length):zgQ m 3 m.segs[j].seq m.segs[j].fmt
theorem zoB {m:Mf} {k s f:Int} (hm:zax m=true) (h:zgQ m k s f):(k=3∨k=4)∧(1≤s∧s≤1073741824)∧(f=1∨f=2):=by
 obtain ⟨h1,_,_,_,h5,h6⟩:=zd8 hm
 cases h with
 | snap hq =>
  rcases h5 with ⟨h7,_⟩ | ⟨h7,h8,h9⟩
  ·exact absurd h7 hq
  ·exact ⟨.inr rfl,⟨h7,by omega⟩,h9⟩
 | seg j hj =>
  obtain ⟨h7,h8,h9⟩:=zeF (ziK (h6 j hj)).1
  exact ⟨.inl rfl,⟨h7,by omega⟩,h9⟩
/-! What a shadow says -/
theorem zq1 (W:World):Fs W (.slice none 0 0) []:=⟨[],SlR.nil W 2,fun i hi=>absurd hi (by simp)⟩
theorem zuR (W:World) (n b:List UInt8) (v:Value) (h:Bs W v b):Fs (W.alloc (.cells #[sv n,v] 51)) (.slice (some ⟨W.heap.size,0,none⟩) 1 1) [(n,b)]:=by
 refine ⟨[sv n,v],⟨rfl,_,1,rfl,xN _,by simp[maxLen],fun _=>⟨W.heap.size,0,rfl,fun j u hu=>?_⟩⟩,fun i hi=>?_⟩
 ·rw[Nat.zero_add]
  have hb:=P6 W 51 #[sv n,v]
  exact hb.cell j (by simpa using hu)
 ·have:i=0:=by simp at hi;omega
  subst this
  exact ⟨rfl,v,rfl,h.ext (xA (xR _) _)⟩
theorem zsW:(Tryz.prog.info? 51).map (fun i=>(i.zero,i.size,i.bytes))=some (some (.agg #[.string ⟨#[]⟩,.slice none 0 0]),2,40):=by kernel_rfl
def FRow (W:World) (xs:List Value) (fs:List Fil):Prop:=xs.length=fs.length*2∧∀ (i:Nat) (hi:i<fs.length),xs[i*2]?=some (sv fs[i].1)∧∃ u,xs[i*2+1]?=some u∧Bs W u fs[i].2
theorem FRow.ext {W W':World} {xs:List Value} {fs:List Fil} (h:FRow W xs fs) (hE:Ext W W'):FRow W' xs fs:=⟨h.1,fun i hi=>by
 obtain ⟨h3,u,h4,h5⟩:=h.2 i hi
 exact ⟨h3,u,h4,h5.ext hE⟩⟩
theorem FRow.one {W:World} {xs:List Value} {fs:List Fil} (h:FRow W xs fs):∀ u∈xs,u.oneCell'=true:=by
 intro u hu;obtain ⟨j,hj,rfl⟩:=List.mem_iff_getElem.1 hu;have hl:=h.1;obtain ⟨h3,v,h4,h5⟩:=h.2 (j / 2) (by omega)
 rcases Nat.mod_two_eq_zero_or_one j with hm | hm
 ·have e:j / 2*2=j:=by omega
  rw[e,P7 hj] at h3
  injection h3 with h3
  rw[h3];rfl
 ·have e:j / 2*2+1=j:=by omega
  rw[e,P7 hj] at h4
  injection h4 with h4
  rw[h4];obtain ⟨A,c,rfl,_,_⟩:=xO h5;rfl
theorem FRow.append {W:World} {xs ys:List Value} {fs gs:List Fil} (h1:FRow W xs fs) (h2:FRow W ys gs):FRow W (xs++ys) (fs++gs):=by
 refine ⟨by rw[xL,xL,h1.1,h2.1];omega,fun i hi=>?_⟩
 have hl:=h1.1;rw[xL] at hi
 by_cases h:i<fs.length
 ·rw[Pa (by omega),Pa (by omega)]
  simp only[List.getElem_append_left h]
  exact h1.2 i h
 ·have e1:i*2-xs.length=(i-fs.length)*2:=by omega
  have e2:i*2+1-xs.length=(i-fs.length)*2+1:=by omega
  rw[P8 (by omega),P8 (by omega),e1,e2];simp only[List.getElem_append_right (Nat.le_of_not_lt h)]
  exact h2.2 (i-fs.length) (by omega)
theorem FRow.one' {W:World} {n1 b1:List UInt8} {v1:Value} (h1:Bs W v1 b1):FRow W [sv n1,v1] [(n1,b1)]:=by
 refine ⟨rfl,fun i hi=>?_⟩
 match i,hi with
 | 0,_=>exact ⟨rfl,v1,rfl,h1⟩
theorem zfP (w:World) (cs:List Value) (m:Nat) (hm:cs.length=m*2) (hl:m≤maxLen) {base:Nat} (hb:base≤w.heap.size):(w.alloc (.cells cs.toArray 51)).ownsRow base 51 2 (.slice (some ⟨w.heap.size,0,none⟩) m m) m cs :=
 ⟨hm,.inr ⟨w.heap.size,m,cs.toArray,rfl,hb,heap_alloc_new w _,xN _,hl,by simp[hm],by simp[←hm]⟩⟩
/-! A manifest laid into an old box -/
theorem ze2 {W:World} {b:Nat} {p:Addr} {u:Value} (h:W.cell? p=some u) (hp:p.block≠b) (a' v' u' x' y' z':Value):(zbY W b a' v' u' x' y' z').cell? p=some u:=by
 have hh:(zbY W b a' v' u' x' y' z').heap[p.block]?=W.heap[p.block]?:=by
  unfold zbY;rw[P0 _ _ _ _ hp,P0 _ _ _ _ hp,P0 _ _ _ _ hp,P0 _ _ _ _ hp,P0 _ _ _ _ hp,P0 _ _ _ _ hp]
 unfold World.cell? at h ⊢
 rw[hh]
 exact h
theorem zov {W:World} {b:Nat} {t:TypeId} {cs:Array Value} (h:Blk W b t cs) {k:Nat} {u:Value} (hc:W.cell? ⟨b,k,none⟩=some u):cs[k]?=some u:=by
 simpa [World.cell?,show W.heap[b]?=_ from h] using hc
end Go.Proofs.YtgonhdeochgkoaaGreatDoor
