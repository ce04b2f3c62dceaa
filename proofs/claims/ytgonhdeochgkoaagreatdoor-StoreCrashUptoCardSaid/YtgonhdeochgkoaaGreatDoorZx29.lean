/- Merged -/
import Derived.Test.YtgonhdeochgkoaaGreatDoorZx19
set_option linter.all false
set_option maxHeartbeats 8000000
set_option maxRecDepth 100000
open List renaming take_succ_eq_append_getElem→P0,append_assoc→P1,take_length→P2,map_append→P3,take_zero→P4,cons_append→P5
open Go.Mv.Blk renaming new→P6
open Nat renaming zero_le→P7,le_succ→P8,le_trans→P9
open Go.Mv.Ext renaming grownOwn→Pa
open And renaming intro→Pb
namespace Go.Proofs.YtgonhdeochgkoaaGreatDoor
open Go.RowKit Go.Mv Go.Shelf
theorem mcKeepa0 {P:Prop} (h:P:=by
 rw[H1] at H3;obtain ⟨_,bs,of,rfl,H0⟩:=Sgs.at_ HS.out (by omega);obtain ⟨d0,d1,_,_⟩:=H0 k hlt;have c0:=H2.out.cell d0;have c1:=H2.out.cell d1;have D0:=zhd d0;have D1:=zhd d1;clear H0 d0 d1;go_wp2_with fail
 refine wp_region_held_drew (S:=fun W=>W.cell? ⟨w.heap.size,5,none⟩=some (.slice (some ⟨bs,of,none⟩) sg.length c)∧W.cell? ⟨bs,of+k*4,none⟩=some (.int .i64 sg[k].seq)∧W.cell? ⟨bs,of+k*4+1,none⟩=some (.int .i64 sg[k].fmt)) (by kernel_rfl) ⟨m5,c0,c1⟩ (fun _=>?_)
 refine tkN 0 rfl ?_;refine tkN 1 rfl ?_;refine tkN 2 rfl ?_;refine tkN 3 rfl ?_;refine tkN 4 rfl ?_;refine tkN 5 rfl ?_;refine tkN 6 rfl ?_;refine tkN 7 rfl ?_;refine tkN 8 rfl ?_;refine tkN 9 rfl ?_;refine tkN 10 rfl ?_;refine tkN 11 rfl ?_;refine tkN 12 rfl ?_;refine tkN 13 rfl ?_
 refine ar1 14 rfl (fun K hK=>?_)
 go_simp
 have X1:Ext wr (wr.alloc (.cells #[.int .u8 3,.int .i64 sg[k].seq,.int .i64 sg[k].fmt] 49)).drew:=xD (xA (xR _) _)
 have Jx:SlR (wr.alloc (.cells #[.int .u8 3,.int .i64 sg[k].seq,.int .i64 sg[k].fmt] 49)).drew 3 (.slice (some ⟨wr.heap.size,0,none⟩) 1 1) 1 (idCells [zaW sg[k]]):=SlR.ext (xW (zfa wr (zaW sg[k]))) (xD (xR _))
 have X2:=xT H2.out X1;have Hp:=zaf H3.out X1;have Hz:=Kd.out.ext X1
 refine shK hK _ _ ⟨X1.cell m5,X1.cell c0,X1.cell c1⟩ (fun _=>?_)
 obtain ⟨i0,hi,HH,HI,Hi⟩:=info_parts zkQ
 refine ar1 15 rfl (fun K hK=>?_)
 refine zcK _ (.tmp 28) (.tmp 42) 43 (by rfl) w.heap.size 49 i0 _ 3 24 Tryz.underlying43 hi HH HI Hi rfl (by decide) _ _ _ (by rfl) Hp _ 1 (idCells [zaW sg[k]]) (by rfl) Jx (zmJ _) (by rw[H1];unfold maxLen;omega) (by rw[H1];omega) X2.size ?_
 intro v7 w7 KL KJ
 have E7:Ext w w7:=Pa X2 Hp KJ
 have KF:=Hz.kept KJ (Hz.not_row (by decide) Hp)
 refine shK hK _ _ ⟨KF.cell 5 rfl,E7.cell D0.out,E7.cell D1.out⟩ (fun _=>?_)
 obtain ⟨A7,c7,rfl,_,_⟩:=xO (xW KL);refine tkN 16 rfl ?_;refine wpAnyH_done (by kernel_rfl) ?_ _;have JO:=zhd E7;have JJ:=zhd KF;have JW:=zhd KL;clear E7 KF KL KJ Hp Hz X2 X1 Jx;go_wp2_with fail
 go_roundw
 case rel =>
  refine ⟨k+1,by omega,by go_num,?_,JJ,JO⟩
  have:=JW.out
  rw[H1] at this;unfold Hid zdr
  rw[P0 hlt,P3,List.map_cons,List.map_nil,←P1,xL,H1,show ∀ a b:List (Int×Int×Int),idCells (a++b)=idCells a++idCells b from fun a b=>by simp[idCells]]
  exact this
 case measure=>simp[intOf];omega):P:=h
def idC (x:Int×Int×Int):List Value:=[.int .u8 x.1,.int .i64 x.2.1,.int .i64 x.2.2]
def idCells (l:List (Int×Int×Int)):List Value:=l.flatMap idC
def zdr (w:World) (base:Nat) (v:Value) (l:List (Int×Int×Int)):Prop:=w.ownsRow base 49 3 v l.length (idCells l)
theorem zkQ:(Tryz.prog.info? 49).map (fun i=>(i.zero,i.size,i.bytes))=some (some (.agg #[.int .u8 0,.int .i64 0,.int .i64 0]),3,24):=by kernel_rfl
theorem zmJ (l:List (Int×Int×Int)):∀ u∈idCells l,u.oneCell'=true:=by
 intro u hu;obtain ⟨s,_,hu⟩:=List.mem_flatMap.1 hu;simp only[idC,List.mem_cons,List.not_mem_nil,or_false] at hu
 rcases hu with rfl | rfl | rfl <;> rfl
theorem zfa (W:World) (x:Int×Int×Int):zdr (W.alloc (.cells #[.int .u8 x.1,.int .i64 x.2.1,.int .i64 x.2.2] 49)) W.heap.size (.slice (some ⟨W.heap.size,0,none⟩) 1 1) [x] :=
 ⟨rfl,.inr ⟨W.heap.size,1,#[.int .u8 x.1,.int .i64 x.2.1,.int .i64 x.2.2],rfl,xN _,heap_alloc_new W _,xN _,by simp[maxLen],rfl,rfl⟩⟩
theorem zd7 {ops:Array Oper} {rest:List Oper} {o:Oper} {a:Act} {w:World} {Q:Exit→Act→World→Prop} (G3:o.guard=none) (s x:Operand)
  (ho:o.op=.call { callee:=.builtin .append,args:=#[s,x],argTypes:=#[43,43] })
  (base:Nat) (v:Value) (bs:List (Int×Int×Int)) (hs:a.eval s=v) (KM:zdr w base v bs) (vx:Value) (c:Int×Int×Int) (hx:a.eval x=vx) (hr:SlR w 3 vx 1 (idCells [c]))
  (H1:bs.length≤2000000) (K1:base≤w.heap.size)
  (h:∀ A cc w',zdr w' base (.slice A (bs.length+1) cc) (bs++[c])→w.grownBy w' v.ownBlock→wpList Tryz.prog ops Q rest (a.put o.dst (.slice A (bs.length+1) cc)) w'):wpList Tryz.prog ops Q (o::rest) a w:=by
 obtain ⟨i0,hi,HH,HI,Hi⟩:=info_parts zkQ
 refine zbd _ G3 s x 43 ho base 49 i0 _ 3 24 Tryz.underlying43 hi HH HI Hi rfl (by decide) v bs.length (idCells bs) hs KM vx 1 (idCells [c]) hx hr (zmJ _) (by unfold maxLen;omega) (by omega) K1 ?_
 intro v' w' h1 h2;obtain ⟨A,cc,rfl,_,_⟩:=xO (xW h1)
 refine h A cc w' ?_ h2
 unfold zdr
 rw[xL,show idCells (bs++[c])=idCells bs++idCells [c] from by simp[idCells]]
 exact h1
def zeT (m:Mf):List (Int×Int×Int):=(1,0,0)::(if m.sq=0 then [] else [(4,m.sq,m.sf)])
def zaW (s:Sg4):Int×Int×Int:=(3,s.seq,s.fmt)
def zaO (m:Mf):List (Int×Int×Int):=zeT m++m.segs.map zaW
theorem zrd (m:Mf):(zeT m).length≤2:=by unfold zeT;split <;> simp
theorem zjl (m:Mf) (v:Value) (w:World) (hS:Sgs w v m.segs) (hl:m.segs.length≤1000000) :
  Calls Tryz.prog 16 #[.agg #[.int .i64 m.next,.int .i64 m.term,.int .i64 m.vote,.int .i64 m.sq,.int .i64 m.sf,v]] w fun e w'=>∃ v',e=.returned v'∧zdr w' w.heap.size v' (zaO m)∧Ext w w':=by
 obtain ⟨A,c,rfl,_,_⟩:=hS.open_;have HS:=zhd hS;clear hS;obtain ⟨nx,tm,vt,sq,sf,sg⟩:=m
 dsimp only at *
 have hb:=P6 w 30 #[.int .i64 nx,.int .i64 tm,.int .i64 vt,.int .i64 sq,.int .i64 sf,.slice A sg.length c]
 have hX:Ext w ((w.alloc (.cells #[.int .i64 nx,.int .i64 tm,.int .i64 vt,.int .i64 sq,.int .i64 sf,.slice A sg.length c] 30)).alloc (.cells #[.int .u8 1,.int .i64 0,.int .i64 0] 49)):=xA (xA (xR _) _) _
 have Hb:Blk ((w.alloc (.cells #[.int .i64 nx,.int .i64 tm,.int .i64 vt,.int .i64 sq,.int .i64 sf,.slice A sg.length c] 30)).alloc (.cells #[.int .u8 1,.int .i64 0,.int .i64 0] 49)) w.heap.size 30 #[.int .i64 nx,.int .i64 tm,.int .i64 vt,.int .i64 sq,.int .i64 sf,.slice A sg.length c]:=hb.alloc _
 have Hs:zdr ((w.alloc (.cells #[.int .i64 nx,.int .i64 tm,.int .i64 vt,.int .i64 sq,.int .i64 sf,.slice A sg.length c] 30)).alloc (.cells #[.int .u8 1,.int .i64 0,.int .i64 0] 49)) w.heap.size (.slice (some ⟨w.heap.size+1,0,none⟩) 1 1) [(1,0,0)]:=by
  have:=zfa (w.alloc (.cells #[.int .i64 nx,.int .i64 tm,.int .i64 vt,.int .i64 sq,.int .i64 sf,.slice A sg.length c] 30)) (1,0,0)
  rw[xS] at this
  exact zai this (P8 _)
 by_cases hq:sq=0
 ·subst hq
  have H8:zaO ⟨nx,tm,vt,0,sf,sg⟩=[(1,0,0)]++sg.map zaW:=by unfold zaO zeT;rw[if_pos rfl]
  rw[H8];obtain ⟨m0,m1,m2,m3,m4,m5⟩:=zan Hb;have HX:=zhd hX;have HB:=zhd Hb;have HO:=zhd Hs;clear hb hX Hb Hs H8
  go_enter Tryz.func16,Tryz.ntmps16
  go_wp2_with fail;clear m0 m1 m2 m3 m4 m5
  go_loopw [3,4] (fun v3 v4 wr=>∃ k:Nat,k≤sg.length∧v4=.int .i64 k∧Hid (zdr wr w.heap.size v3 ([(1,0,0)]++(sg.take k).map zaW))∧Hid (Blk wr w.heap.size 30 #[.int .i64 nx,.int .i64 tm,.int .i64 vt,.int .i64 0,.int .i64 sf,.slice A sg.length c])∧Hid (Ext w wr)) (fun _ v4 _=>sg.length-(intOf v4).toNat)
  case atStart=>exact ⟨0,P7 _,rfl,HO,HB,HX⟩
  case round =>
   obtain ⟨k,hk,rfl,H3,Kd,H2⟩:=hrel;obtain ⟨m0,m1,m2,m3,m4,m5⟩:=zan Kd.out;obtain ⟨Ao,co,rfl,_,_⟩:=xO (xW H3.out)
   by_cases hlt:k<sg.length
   ·have H1:([(1,0,0)]++(sg.take k).map zaW).length=k+1:=by simp;omega
    exact mcKeepa0
   ·obtain rfl:k=sg.length:=by omega
    have ek:[(1,0,0)]++(sg.take sg.length).map zaW=[(1,0,0)]++sg.map zaW:=by rw[P2]
    have EK:=zhd ek;clear ek;go_wp2_with fail;go_ret
    refine ⟨_,rfl,?_,H2.out⟩
    show zdr _ _ _ ([(1,0,0)]++sg.map zaW)
    rw[←EK.out]
    exact H3.out
 ·have H8:zaO ⟨nx,tm,vt,sq,sf,sg⟩=[(1,0,0),(4,sq,sf)]++sg.map zaW:=by unfold zaO zeT;rw[if_neg hq]
  rw[H8];have hn:=zfa ((w.alloc (.cells #[.int .i64 nx,.int .i64 tm,.int .i64 vt,.int .i64 sq,.int .i64 sf,.slice A sg.length c] 30)).alloc (.cells #[.int .u8 1,.int .i64 0,.int .i64 0] 49)) (4,sq,sf)
  have X1:Ext ((w.alloc (.cells #[.int .i64 nx,.int .i64 tm,.int .i64 vt,.int .i64 sq,.int .i64 sf,.slice A sg.length c] 30)).alloc (.cells #[.int .u8 1,.int .i64 0,.int .i64 0] 49)) (((w.alloc (.cells #[.int .i64 nx,.int .i64 tm,.int .i64 vt,.int .i64 sq,.int .i64 sf,.slice A sg.length c] 30)).alloc (.cells #[.int .u8 1,.int .i64 0,.int .i64 0] 49)).alloc (.cells #[.int .u8 4,.int .i64 sq,.int .i64 sf] 49)):=xA (xR _) _
  have Hx:=Hb.ext X1;have H9:=zaf Hs X1;obtain ⟨m0,m1,m2,m3,m4,m5⟩:=zan Hb;have HX:=zhd (xT hX X1);have HB:=zhd Hx;have HO:=zhd H9;rw[xS,xS] at hn;have HN:=zhd (xW hn);have Hq:=zhd hq;clear hb hX Hb Hs H8 hn X1 Hx H9
  go_enter Tryz.func16,Tryz.ntmps16
  go_wp2_with (at_builtin;refine zd7 rfl (.tmp 11) (.tmp 19) rfl w.heap.size _ [(1,0,0)] rfl HO.out _ (4,sq,sf) rfl HN.out (by decide) HX.out.size ?_;intro A1 c1 w1 H9 Hc)
  replace HB:=zhd (HB.out.kept Hc (HB.out.not_row (by decide) HO.out))
  replace HX:=zhd (Pa HX.out HO.out Hc)
  replace HO:=zhd H9
  clear m0 m1 m2 m3 m4 m5 H9 Hc HN
  go_loopw [3,4] (fun v3 v4 wr=>∃ k:Nat,k≤sg.length∧v4=.int .i64 k∧Hid (zdr wr w.heap.size v3 ([(1,0,0),(4,sq,sf)]++(sg.take k).map zaW))∧Hid (Blk wr w.heap.size 30 #[.int .i64 nx,.int .i64 tm,.int .i64 vt,.int .i64 sq,.int .i64 sf,.slice A sg.length c])∧Hid (Ext w wr)) (fun _ v4 _=>sg.length-(intOf v4).toNat)
  case atStart=>exact ⟨0,P7 _,rfl,HO,HB,HX⟩
  case round =>
   obtain ⟨k,hk,rfl,H3,Kd,H2⟩:=hrel;obtain ⟨m0,m1,m2,m3,m4,m5⟩:=zan Kd.out;obtain ⟨Ao,co,rfl,_,_⟩:=xO (xW H3.out)
   by_cases hlt:k<sg.length
   ·have H1:([(1,0,0),(4,sq,sf)]++(sg.take k).map zaW).length=k+2:=by simp;omega
    exact mcKeepa0
   ·obtain rfl:k=sg.length:=by omega
    have ek:[(1,0,0),(4,sq,sf)]++(sg.take sg.length).map zaW=[(1,0,0),(4,sq,sf)]++sg.map zaW:=by rw[P2]
    have EK:=zhd ek;clear ek;go_wp2_with fail;go_ret
    refine ⟨_,rfl,?_,H2.out⟩
    show zdr _ _ _ ([(1,0,0),(4,sq,sf)]++sg.map zaW)
    rw[←EK.out]
    exact H3.out
open Go.RowKit Go.Mv
def zng (m:Mf):List (Int×Int×Int):=(if m.sq=0 then [] else [(4,m.sq,m.sf)])++m.segs.map zaW
theorem znU (m:Mf):zaO m=(1,0,0)::zng m:=rfl
theorem ztr {m:Mf} {x:Int×Int×Int} (h:x∈zng m):zgQ m x.1 x.2.1 x.2.2:=by
 unfold zng at h
 rcases List.mem_append.1 h with h | h
 ·split at h
  ·cases h
  ·rename_i hq
   rw[List.mem_singleton] at h;subst h
   exact .snap hq
 ·obtain ⟨s,hs,rfl⟩:=List.mem_map.1 h
  obtain ⟨j,hj,rfl⟩:=List.mem_iff_getElem.1 hs
  exact .seg j hj
theorem ztk (A:Option Addr) (n c:Nat) (vs:Value) (m:Mf) (w:World):Calls Tryz.prog 64 #[.slice A n c,.agg (mfC m vs)] w fun e w'=>e=.returned (.func (.func 109) #[] #[.pointer (some ⟨w.heap.size+1,0,none⟩),.pointer (some ⟨w.heap.size,0,none⟩)])∧(w.alloc (.cells #[.slice A n c] 22)).alloc (.cells (mfC m vs) 30)=w':=by
 have Gb:∀ (fn:Fn) (first cap:Array Value) (w:World),(Instr.makeFunc fn first cap).run Tryz.prog w=.ok (.func fn first cap) w:=fun _ _ _ _=>rfl
 unfold mfC
 go_enter Tryz.func64,Tryz.ntmps64
 go_wp2
 go_ret
 exact ⟨rfl,rfl⟩
def zeb (e:Int):List PanicEntry:=[{ v:=.iface 32 (.int .i64 e),recovered:=false }]
theorem zqB {fs:List Fil} {l:List Sg4} {j:Nat} (h:j<l.length) (hk:(zaQ fs (l.take j)).2=true) {x:List Ent} (he:zbo fs l[j]=some x) {k:Nat} (hx:k<x.length):∃ Ha,(zaQ fs l).1=((zaQ fs (l.take j)).1++(zct l[j].first x).take k)++(l[j].first+(k:Int),x[k])::Ha:=by
 obtain ⟨Ha,hp⟩:=zsq fs l j h hk he
 refine ⟨(zct l[j].first x).drop (k+1)++Ha,?_⟩
 have hl:k<(zct l[j].first x).length:=by rw[zhq];exact hx
 have hg:=zjO x l[j].first k hx;rw[List.getElem?_eq_getElem hl] at hg
 injection hg with hg
 have hd:=List.drop_eq_getElem_cons hl;rw[hg] at hd;have ht:=(List.take_append_drop k (zct l[j].first x)).symm;rw[hp];rw[hd] at ht
 generalize List.take k (zct l[j].first x)=P at *
 generalize List.drop (k+1) (zct l[j].first x)=Q at *
 rw[ht];simp only[P1,P5]
structure SaI (w0 W0:World) (n1 pl:Nat) (v:Value) (G:Nat→Prop) (W:World):Prop where
 g:∀ k,G k→w0.heap.size≤k∧(k<n1∨W0.heap.size≤k)
 hc:HC w0 W
 bl:Blk W pl 22 #[v]
 sz:W0.heap.size≤W.heap.size
theorem SaI.ext {w0 W0 W W':World} {n1 pl:Nat} {v:Value} {G:Nat→Prop} (h:SaI w0 W0 n1 pl v G W) (hE:Ext W W'):SaI w0 W0 n1 pl v G W' :=
 ⟨h.g,Kept.trans h.hc (HC.of_ext hE),h.bl.ext hE,P9 h.sz hE.size⟩
theorem SaI.kept {w0 W0 W W':World} {n1 pl:Nat} {v:Value} {G G':Nat→Prop} (h:SaI w0 W0 n1 pl v G W) (hp:n1≤pl) (Gc:pl<W0.heap.size) (h0:w0.heap.size≤W0.heap.size) (hk:Kept (zad (KG G) W0.heap.size) W W') (hG:∀ k,G' k→G k∨W.heap.size≤k):SaI w0 W0 n1 pl v G' W':=by
 have hs:=h.sz
 refine ⟨fun k HD=>?_,h.hc.keptG hk fun k hg=>(h.g k hg).1,Blk.keptG h.bl hk fun hg=>?_,P9 hs hk.size⟩
 ·rcases hG k HD with h1 | h1
  ·exact h.g k h1
  ·exact ⟨by omega,.inr (by omega)⟩
 ·have:=(h.g _ hg).2
  omega
attribute [local go_sem] Oper.semAt_some in
theorem zso (w0 W0:World) (v vs:Value) (fs:List Fil) (m:Mf) (hS:StW w0) (hF:Fs w0 v fs) (hG:Sgs w0 vs m.segs) (hl:fs.length≤4000000) (K2:∀ f∈fs,f.2.length≤2000000)
  (K9:∀ s∈m.segs,1≤s.first∧s.first≤1073741820∧-1≤s.count∧s.count≤4) (hn:m.segs.length≤60) (Ky:Ext w0 W0) (pl pm n1:Nat) (Jw:n1≤pl) (Kw:Blk W0 pl 22 #[v]) (Hk:Blk W0 pm 30 (mfC m vs)) :
  zuI Tryz.prog 109 #[.pointer (some ⟨pm,0,none⟩),.pointer (some ⟨pl,0,none⟩)] (fun (x:Int×Ent) av _=>av = #[.int .i64 x.1,.agg #[.int .i64 x.2.t,.int .i64 x.2.k,.int .i64 x.2.v]]) (fun _ _=>False) (zaQ fs m.segs).1 (if (zaQ fs m.segs).2=true then none else some (zeb 130)) (fun G=>∀ k,G k→w0.heap.size≤k∧k<n1) W0:=by
 intro lp J hJ Jg hY G0 Kz h0;obtain ⟨A,c,rfl,_,_⟩:=hG.open_;obtain ⟨A1,c1,rfl,_,_⟩:=Fs.open_ hF;obtain ⟨XS,Kh⟩:∃ X,(zaQ fs m.segs).1=X:=⟨_,rfl⟩;obtain ⟨PN,KA⟩:∃ X,(if (zaQ fs m.segs).2=true then none else some (zeb 130))=X:=⟨_,rfl⟩;rw[Kh] at hY;rw[Kh,KA]
 refine (callsIn_wd (ro:=none) (n:=9)).1 ?_
 refine callsIn_of_wp Tryz.func109 rfl trivial ?_ rfl
 simp only[Tryz.ntmps109,List.size_toArray,xC,List.length_nil,Nat.reduceAdd,Nat.reduceSub,Array.replicate_succ,Array.replicate_zero,List.push_toArray,List.append_toArray,xI,P5]
 have Jd:SaI w0 W0 n1 pl (.slice A1 fs.length c1) G0 W0:=⟨fun k hk=>⟨(Kz k hk).1,.inl (Kz k hk).2⟩,HC.of_ext Ky,Kw,xN _⟩
 have Jn:J G0 (zaQ fs (m.segs.take 0)).1 W0:=by rw[P4];exact h0
 have Jc:(zaQ fs (m.segs.take 0)).2=true:=by rw[P4];rfl
 have K7:pl<W0.heap.size:=Kw.lt
 have HH:w0.heap.size≤W0.heap.size:=Ky.size
 obtain ⟨_,_,_,_,_,m5⟩:=zan (show Blk W0 pm 30 #[.int .i64 m.next,.int .i64 m.term,.int .i64 m.vote,.int .i64 m.sq,.int .i64 m.sf,.slice A m.segs.length c] from Hk)
 have JX:=zhd (Pb Jw (Pb K7 HH));have HS:=zhd hS;have HF:=zhd hF;have HG:=zhd hG;have JL:=zhd K2;have Ks:=zhd K9;have HN:=zhd hn;have HY:=zhd hY;have HJ:=zhd hJ;have JS:=zhd Jg;have Ku:=zhd Kh;have J9:=zhd KA;have KU:=zhd Jd;have J0:=zhd Jn;have KT:=zhd Jc;have HL:=zhd hl;clear hS hF hG K2 K9 hn hY hJ Jg Kh KA Jd Jn h0 Kz Ky Kw Hk Jw K7 HH Jc hl
 gi_wp2
 gi_loopw [11] (fun KP W=>∃ (j:Nat) (G:Nat→Prop),j≤m.segs.length∧KP=.int .i64 j∧Hid (J G (zaQ fs (m.segs.take j)).1 W)∧Hid ((zaQ fs (m.segs.take j)).2=true)∧Hid (SaI w0 W0 n1 pl (.slice A1 fs.length c1) G W)) (fun KP _=>m.segs.length-(intOf KP).toNat)
 case atStart=>exact ⟨0,G0,P7 _,rfl,J0,KT,KU⟩
 case round =>
  clear J0 KT KU m5;obtain ⟨j,G,hj,rfl,Kp,Kc,JE⟩:=hrel
  by_cases hlt:j<m.segs.length
  ·have KD:=JE.out
   obtain ⟨_,b,Ge,rfl,Hg⟩:=(Sgs.hc HG.out KD.hc).at_ (by omega);obtain ⟨s0,s1,s2,s3⟩:=Hg j hlt;obtain ⟨k1,k2,k3,k4⟩:=Ks.out _ (List.getElem_mem hlt)
   have Kl:=fun x he k hx=>zqB (fs:=fs) hlt Kc.out (x:=x) he (k:=k) hx
   have hbd:=zsp fs m.segs j hlt Kc.out;have H6:=zqA fs m.segs j hlt Kc.out;obtain ⟨s,hs⟩:∃ s,m.segs[j]=s:=⟨_,rfl⟩;rw[hs] at s0 s1 s2 s3 k1 k2 k3 k4 hbd H6;simp only[hs] at Kl
   have KB:Ext wr (wr.alloc (.cells #[.int .i64 s.seq,.int .i64 s.fmt,.int .i64 s.first,.int .i64 s.count] 74)):=xA (xR _) _
   have HZ:=KD.ext KB;have KH:=P6 wr 74 #[.int .i64 s.seq,.int .i64 s.fmt,.int .i64 s.first,.int .i64 s.count];have Jo:=HJ.out _ _ _ _ Kp.out (Moves.of_ext KB)
   have Jf:∀ k,G k→k<wr.heap.size:=fun k h=>JS.out _ _ _ Kp.out k h
   have key:=zl9 (.slice A1 fs.length c1) fs s _ (HS.out.hc HZ.hc) (HF.out.hc HZ.hc) HL.out JL.out;obtain ⟨rx,Kk⟩:∃ r,zbo fs s=r:=⟨_,rfl⟩;rw[Kk] at key hbd H6;simp only[Kk] at Kl
   have Jr:=fun x (h:rx=some x)=>zkd (Kk.trans h)
   have l1:=HZ.bl.cell 0 rfl;obtain ⟨x0,x1,x2,x3⟩:=zay KH;have HU:=zhd key;have JY:=zhd Kl;have JK:=zhd hbd;have Kf:=zhd H6;have Ke:=zhd Jr;have JF:=zhd HZ;have JP:=zhd Jo;have KY:=zhd Jf;have JM:=zhd KH;have HK:=zhd (Pb k1 (Pb k2 (Pb k3 k4)));clear KD Hg Kl hbd H6 KB HZ KH Jo Jf key Kk Jr k1 k2 k3 k4 hs
   gi_wp2
   refine ⟨trivial,(callsIn_wd.2 HU.out).mono ?_⟩
   rintro e w2 ⟨hr,H4⟩;have ha3:=JF.out.ext H4;have Ki:=HJ.out _ _ _ _ JP.out (Moves.of_ext H4);have K3:=JM.out.ext H4;have Hi:=H4.size;rw[xS] at Hi
   cases rx with
   | none =>
    obtain rfl:=hr
    have hb:=JK.out rfl
    have Kj:PN=some (zeb 130):=by rw[←J9.out,hb];rfl
    have Ka:=Ku.out;rw[hb] at Ka
    rw[show (zaQ fs (m.segs.take j)).1=XS from Ka] at Ki
    exact ⟨rfl,G,Ki,.inr ⟨_,Kj,rfl⟩⟩
   | some x =>
    obtain ⟨v1,rfl,ho⟩:=hr;obtain ⟨A3,c3,rfl,_,_⟩:=xO (xW ho);obtain ⟨JB,JC⟩:=Ke.out x rfl
    have Jz:x.length≤4:=by
     obtain ⟨_,_,_,h4⟩:=HK.out
     by_cases h:s.count = -1
     ·exact (JB h).2
     ·have:=JC h;omega
    rw[xS] at ho
    have Jv:∀ q,(Value.slice A3 x.length c3).ownBlock=some q→¬ G q:=fun q hq hg=>by
     have h1:=KY.out q hg;have h2:=ho.1
     rcases ho.2 with ⟨hn,_⟩ | ⟨g,cap,cur,e,hb,_⟩
     ·rw[hn] at hq;cases hq
     ·rw[e] at hq
      have hq:g=q:=by simpa [Value.ownBlock] using hq
      omega
    have Jm:¬ G wr.heap.size:=fun h=>by have:=KY.out _ h;omega
    have KV:=zhd ha3
    have J1:Hid (J G ((zaQ fs (m.segs.take j)).1++(zct s.first x).take 0) w2):=zhd (by rw[P4,List.append_nil];exact Ki)
    have HM:=zhd K3;have HO:=zhd ho;have J8:=zhd Jv;have KZ:=zhd Jm;have Jb:=zhd Jz;clear ha3 Ki K3 ho Jv Jm JB JC Jz H4 s0 s1 s2 s3 l1 x0 x1 x2 x3 Hi
    gi_wp2
    gi_loopw [19] (fun KQ W=>∃ (k:Nat) (G':Nat→Prop),k≤x.length∧KQ=.int .i64 k∧Hid (J G' ((zaQ fs (m.segs.take j)).1++(zct s.first x).take k) W)∧Hid (SaI w0 W0 n1 pl (.slice A1 fs.length c1) G' W)∧Hid (OwnE W (wr.heap.size+1) (.slice A3 x.length c3) x)∧Hid (∀ q,(Value.slice A3 x.length c3).ownBlock=some q→¬ G' q)∧Hid (Blk W wr.heap.size 74 #[.int .i64 s.seq,.int .i64 s.fmt,.int .i64 s.first,.int .i64 s.count])∧Hid (¬ G' wr.heap.size)) (fun KQ _=>x.length-(intOf KQ).toNat)
    case atStart=>exact ⟨0,G,P7 _,rfl,J1,KV,HO,J8,HM,KZ⟩
    case round =>
     rename World=>wo
     clear J1 KV HO J8 HM KZ;obtain ⟨k,G',hk,rfl,J2,KW,J6,HT,Km,HQ⟩:=hrel
     by_cases hkl:k<x.length
     ·obtain ⟨_,bx,ox,rfl,Jl⟩:=Es.at_ (OwnE.es J6.out) (by omega)
      obtain ⟨d0,d1,d2⟩:=Jl k hkl;obtain ⟨Ha,H5⟩:=JY.out x rfl k hkl;rw[Ku.out] at H5;have Hu:=zrN x s.first k hkl;obtain ⟨e,he⟩:∃ e,x[k]=e:=⟨_,rfl⟩;rw[he] at d0 d1 d2 H5 Hu
      have HW:Ext wo (wo.alloc (.cells #[.int .i64 e.t,.int .i64 e.k,.int .i64 e.v] 79)):=xA (xR _) _
      have Jp:=HJ.out _ _ _ _ J2.out (Moves.of_ext HW);have KC:=KW.out.ext HW;have hy:=HY.out G' _ (s.first+(k:Int),e) Ha H5 _ #[.int .i64 (s.first+(k:Int)),.agg #[.int .i64 e.t,.int .i64 e.k,.int .i64 e.v]] Jp KC.sz rfl;have Ju:=OwnE.ext J6.out HW;have KE:=Km.out.ext HW;have Jj:=P6 wo 79 #[.int .i64 e.t,.int .i64 e.k,.int .i64 e.v];obtain ⟨y0,y1,y2⟩:=zds Jj;obtain ⟨x0,x1,x2,x3⟩:=zay KE;obtain ⟨q1,q2,_,_⟩:=HK.out
      have Gd:IntKind.i64.wrap (s.first+(k:Int))=s.first+(k:Int):=by rw[IntKind.wrap_i64];have:=Jb.out;omega
      have G7:wrap64 (s.first+(k:Int))=s.first+(k:Int):=by unfold wrap64;have:=Jb.out;omega
      have Ga:(k:Int)<(x.length:Int):=by omega
      have Hy:=zhd hy;have JG:=zhd KC;have J7:=zhd Ju;have KX:=zhd KE;have Kt:=zhd Hu;have J3:=zhd hkl;clear hy KC Ju KE Hu hkl Jj Jp HW H5 Jl q1 q2 he
      gi_wp2
      refine zbb Hy.out ?_
      rintro e' W' ⟨rfl,HD,G2,Kg,HA⟩
      refine ⟨true,rfl,?_⟩
      obtain ⟨p1,p2,p3⟩:=JX.out;have Ji:=JG.out.kept p1 p2 p3 HD Kg
      have Hp:OwnE W' (wr.heap.size+1) (.slice (some ⟨bx,ox,none⟩) x.length c3) x:=OwnE.keptG J7.out HD HT.out
      have Hz:=Blk.keptG KX.out HD HQ.out
      have K6:∀ q,(Value.slice (some ⟨bx,ox,none⟩) x.length c3).ownBlock=some q→¬ G2 q:=fun q hq hg=>by
       rcases Kg q hg with h | h
       ·exact HT.out q hq h
       ·have:=(J7.out.lt q hq).2
        omega
      have K4:¬ G2 wr.heap.size:=fun hg=>by
       rcases Kg _ hg with h | h
       ·exact HQ.out h
       ·have:=KX.out.lt
        omega
      have Jq:J G2 ((zaQ fs (m.segs.take j)).1++(zct s.first x).take (k+1)) W':=by
       rw[Kt.out,←P1];exact HA
      have JH:=zhd Ji;have JV:=zhd Hp;have JI:=zhd Hz;have Kq:=zhd K6;have Ko:=zhd K4;have JR:=zhd Jq;clear Ji Hp Hz K6 K4 HA Jq HD Kg Hy d0 d1 d2 x0 x1 x2 x3 y0 y1 y2 p1 p2 p3
      gi_wp2
      exact ⟨⟨k+1,G2,J3.out,by go_num,JR,JH,JV,Kq,JI,Ko⟩,by have:=J3.out;simp[intOf];omega⟩
     ·obtain rfl:k=x.length:=by omega
      have HA:=J2.out;have G4:=zhq x s.first;rw[List.take_of_length_le (l:=zct s.first x) (by omega)] at HA;have H6:=Kf.out
      have JQ:Hid (J G' (zaQ fs (m.segs.take (j+1))).1 wo):=zhd (by rw[H6];exact HA)
      have JD:Hid ((zaQ fs (m.segs.take (j+1))).2=true):=zhd (by rw[H6])
      have J4:=zhd hlt;clear HA H6 G4
      gi_wp2
      exact ⟨⟨j+1,G',J4.out,by go_num,JQ,JD,KW⟩,by have:=J4.out;simp[intOf];omega⟩
  ·obtain rfl:j=m.segs.length:=by omega
   have hj:=Kp.out;have h2:=Kc.out;rw[P2] at hj h2;have HJ:=zhd hj
   have Kj:PN=none:=by rw[←J9.out,if_pos h2]
   have Kr:=zhd Kj;have Ka:=Ku.out;rw[Ka] at hj;have JT:=zhd hj;clear hj h2 Kj Ka
   gi_wp2
   refine bodyPost_end (results_none rfl _ _ _) rfl ?_
   exact ⟨G,JT.out,.inl ⟨Kr.out,_,rfl⟩⟩
theorem mcSStatea0 {P:Prop} (h:P:=by
 obtain ⟨m0,m1⟩:=zdk KK
 refine shK hK _ _ ⟨m0,m1⟩ (fun _=>?_)
 refine tkN 15 rfl ?_;refine wpAnyH_done (by kernel_rfl) ?_ _;clear m0 m1;obtain ⟨p0,p1,p2,p3,p4⟩:=zac Kn.out;obtain ⟨f0,f1,f2,f3,f4⟩:=zdK HP.out;obtain ⟨g0,g1,g2,g3,g4⟩:=zac HP.out
 rcases KI with ⟨hr,rfl⟩ | ⟨hr,rfl⟩
 ·obtain rfl:some s=R:=by rw[←HR.out];exact hr.symm
  go_wp2_with fail
  with_reducible refine (zb1 _ _).mono ?_
  rintro e6 w6 ⟨rfl,rfl⟩;go_wp2_with fail
  refine bodyPost_ret (zfz _ _ _ _ rfl (zcz HP.out _ _ _ _ _) rfl) rfl ?_
  exact ⟨rfl,zcB HE.out (P8 _) _ _ _ _ _⟩
 ·obtain rfl:none=R:=by rw[←HR.out];exact hr.symm
  go_wp2_with fail
  with_reducible refine (zaY _ _).mono ?_
  rintro e6 w6 ⟨rfl,rfl⟩
  exact ⟨rfl,rfl,HE.out⟩):P:=h
def zuH (w:World) (r:Option Sta) (en:Ending) (w':World):Prop:=(match r with
 | some s=>en=.returned (.agg #[.int .i64 s.idx,.int .i64 s.term,.int .i64 s.sum,.int .i64 s.lvl,.bool s.fin])
 | none=>en=pan 130)∧Ext w w'
theorem zdk {W:World} {b:Nat} {t:TypeId} {a v:Value} (h:Blk W b t #[a,v]):W.cell? ⟨b,0,none⟩=some a∧W.cell? ⟨b,1,none⟩=some v:=⟨h.cell 0 rfl,h.cell 1 rfl⟩
theorem zfz (tmps:Array Value) (W:World) (b:Nat) (cs:Array Value) (h4:tmps.getD 4 undef=.pointer (some ⟨b,0,none⟩)) (hb:Blk W b 53 cs) (hs:cs.size=5):(results Tryz.f63 tmps).run Tryz.prog W=.ok (.agg cs) W:=by
 have hl:=hb.load (P:=Tryz.prog) zfV rfl (by rw[hs];kernel_rfl)
 have G1:tmps[4]?.getD undef=.pointer (some ⟨b,0,none⟩):=by simpa using h4
 simp[results,Tryz.results63,G1,asAddr,hl]
theorem zgq {w:World} {r:Option Sta} {e:Ending} {w':World} (h:zlX w r e w'):∃ (s:Sta) (ev:Int),e=.returned (.tuple #[.agg #[.int .i64 s.idx,.int .i64 s.term,.int .i64 s.sum,.int .i64 s.lvl,.bool s.fin],.int .i64 ev])∧((r=some s∧ev=0)∨(r=none∧ev=11))∧Ext w w':=by
 obtain ⟨h1,h2⟩:=h
 cases r with
 | none=>exact ⟨zpW,11,h1,.inr ⟨rfl,rfl⟩,h2⟩
 | some s=>exact ⟨s,0,h1,.inl ⟨rfl,rfl⟩,h2⟩
theorem zeC {W:World} {b c:Nat} {t:TypeId} {cs:Array Value} (h:Blk W b t cs) (Hf:b≠c) (a' v' u' x' y':Value):Blk (((((W.setCell ⟨c,0,none⟩ a').setCell ⟨c,1,none⟩ v').setCell ⟨c,2,none⟩ u').setCell ⟨c,3,none⟩ x').setCell ⟨c,4,none⟩ y') b t cs :=
 ((((h.other Hf 0 a').other Hf 1 v').other Hf 2 u').other Hf 3 x').other Hf 4 y'
theorem zo2 (v:Value) (fs:List Fil) (m:Mf) (w:World) (hS:StW w) (hF:Fs w v fs) (hl:fs.length≤4000000) (K2:∀ f∈fs,f.2.length≤2000000) :
  Calls Tryz.prog 63 #[v,.agg #[.int .i64 m.sq,.int .i64 m.sf]] w (zuH w (zcS fs m)):=by
 obtain ⟨A,c,rfl,_,_⟩:=Fs.open_ hF;obtain ⟨x2,G8⟩:∃ x:Array Value,#[.int .i64 0,.int .i64 0,.int .i64 0,.int .i64 0,.bool false]=x:=⟨_,rfl⟩;have Hx:=(P6 w 27 #[.int .i64 m.sq,.int .i64 m.sf]).alloc (.cells x2 53);have K0:=P6 (w.alloc (.cells #[.int .i64 m.sq,.int .i64 m.sf] 27)) 53 x2;rw[xS] at K0
 have hX:Ext w ((w.alloc (.cells #[.int .i64 m.sq,.int .i64 m.sf] 27)).alloc (.cells x2 53)):=xA (xA (xR _) _) _
 subst G8
 have key:=fun W (h:Ext w W)=>zfj (.slice A fs.length c) fs 4 m.sq m.sf 130 W (hS.ext h) (hF.ext h) hl
 have Kb:=fun W (u:Value) (b:List UInt8) (h:Ext w W) (hB:Bs W u b) (hb:b.length≤2000000)=>zqq u b m.sf W (hS.ext h).tab hB hb
 have Hn:∀ b,zao fs (zas 4 m.sq m.sf)=some b→b.length≤2000000:=fun b h=>by
  obtain ⟨f,hf,rfl⟩:=ziY h;exact K2 f hf
 obtain ⟨R,hR⟩:∃ R,zcS fs m=R:=⟨_,rfl⟩;rw[hR];unfold zcS at hR;obtain ⟨rb,Jy⟩:∃ r,zao fs (zas 4 m.sq m.sf)=r:=⟨_,rfl⟩;rw[Jy] at key hR Hn;obtain ⟨m0,m1⟩:=zdk Hx;have Hm:=zhd Hx;have Hr:=zhd K0;have HX:=zhd hX;have HU:=zhd key;have Hd:=zhd Kb;have Hj:=zhd Hn;clear Hx hX key Kb hF hS K2 Hn Jy
 go_enter Tryz.func63,Tryz.ntmps63
 by_cases hq:m.sq=0
 ·rw[if_pos hq] at hR
  subst hR
  have G5:(m.sq==0)=true:=by simpa using hq
  clear hq HU Hd;go_wp2_with fail
  refine (zk1 _).mono ?_
  rintro e w1 ⟨rfl,Je⟩;have Kv:=zhd (K0.ext Je);have JN:=zhd (xT HX.out Je);obtain ⟨f0,f1,f2,f3,f4⟩:=zdK Kv.out;obtain ⟨g0,g1,g2,g3,g4⟩:=zac Kv.out;clear K0 m0 m1;go_wp2_with fail
  refine bodyPost_ret (zfz _ _ _ _ rfl (zcz Kv.out _ _ _ _ _) rfl) rfl ?_
  exact ⟨rfl,zcB JN.out (by omega) _ _ _ _ _⟩
 ·rw[if_neg hq] at hR
  have G5:(m.sq==0)=false:=by simpa using hq
  have HR:=zhd hR;clear hR K0 hq;go_wp2_with fail
  refine wp_region_held_drew (S:=fun W=>W.cell? ⟨w.heap.size,0,none⟩=some (.int .i64 m.sq)∧W.cell? ⟨w.heap.size,1,none⟩=some (.int .i64 m.sf)) (by kernel_rfl) ⟨m0,m1⟩ (fun _=>?_)
  clear m0 m1;refine tkN 0 rfl ?_;refine tkN 1 rfl ?_;refine tkN 2 rfl ?_;refine tkN 3 rfl ?_;refine tkN 4 rfl ?_;refine tkN 5 rfl ?_;refine tkN 7 rfl ?_;refine tkN 8 rfl ?_
  refine AllReadyH.two (i:=6) (j:=13) rfl rfl (by kernel_rfl) (by rfl) (by rfl) (fun K hK=>?_) (fun K hK=>?_)
  ·go_simp
   refine (HU.out _ (xD HX.out)).mono ?_
   rintro e w2 ⟨h2,HV⟩;have H4:=xT (xD (xR _)) HV;have E2:=xT HX.out H4
   cases rb with
   | none =>
    obtain rfl:=h2
    obtain rfl:none=R:=HR.out
    exact ⟨rfl,rfl,E2⟩
   | some b =>
    obtain ⟨v2,rfl,Hk⟩:=h2;have Hh:=Hm.out.ext H4;have Ht:=Hr.out.ext H4;clear HV;obtain ⟨m0,m1⟩:=zdk Hh
    refine shK hK _ _ ⟨m0,m1⟩ (fun _=>?_)
    refine AllReadyH.two (i:=9) (j:=13) rfl rfl (by kernel_rfl) (by rfl) (by rfl) (fun K hK=>?_) (fun K hK=>?_)
    ·go_simp
     refine (Hd.out _ _ b E2 Hk (Hj.out b rfl)).mono ?_
     rintro e w3 h3;obtain ⟨s,ev,rfl,KI,H7⟩:=zgq h3;have He:=Hh.ext H7;have K8:=Ht.ext H7;have E3:=xT E2 H7;clear m0 m1 h3;obtain ⟨m0,m1⟩:=zdk He
     refine shK hK _ _ ⟨m0,m1⟩ (fun _=>?_)
     refine tkN 10 rfl ?_;refine tkN 11 rfl ?_;refine tkN 12 rfl ?_
     refine ar1 13 rfl (fun K hK=>?_)
     go_simp
     have Jt:=He.alloc (.cells #[.int .i64 0,.int .i64 0,.int .i64 0,.int .i64 0,.bool false] 53);have JA:=P6 w3 53 #[.int .i64 0,.int .i64 0,.int .i64 0,.int .i64 0,.bool false];clear m0 m1;obtain ⟨m0,m1⟩:=zdk Jt
     refine shK hK _ _ ⟨m0,m1⟩ (fun _=>?_)
     obtain ⟨f0,f1,f2,f3,f4⟩:=zdK JA
     refine ar1 14 rfl (fun K hK=>?_)
     go_simp
     have Kn:Hid (Blk (w3.alloc (.cells #[.int .i64 s.idx,.int .i64 s.term,.int .i64 s.sum,.int .i64 s.lvl,.bool s.fin] 53)) w3.heap.size 53 #[.int .i64 s.idx,.int .i64 s.term,.int .i64 s.sum,.int .i64 s.lvl,.bool s.fin]):=zhd (P6 w3 _ _)
     have HP:=zhd (K8.alloc (.cells #[.int .i64 s.idx,.int .i64 s.term,.int .i64 s.sum,.int .i64 s.lvl,.bool s.fin] 53));have HE:=zhd (xT E3 (xA (xR w3) (.cells #[.int .i64 s.idx,.int .i64 s.term,.int .i64 s.sum,.int .i64 s.lvl,.bool s.fin] 53)));have KK:=He.alloc (.cells #[.int .i64 s.idx,.int .i64 s.term,.int .i64 s.sum,.int .i64 s.lvl,.bool s.fin] 53);clear m0 m1 f0 f1 f2 f3 f4 JA Jt
     exact mcSStatea0
    ·go_simp
     have KO:=P6 w2 53 #[.int .i64 0,.int .i64 0,.int .i64 0,.int .i64 0,.bool false]
     have hA:Ext w2 (w2.alloc (.cells #[.int .i64 0,.int .i64 0,.int .i64 0,.int .i64 0,.bool false] 53)):=xA (xR _) _
     have K5:=Hh.ext hA;have KN:=Ht.ext hA;have KR:=xT E2 hA;have Kx:=Bs.ext Hk hA
     have Hl:w.heap.size+2≤w2.heap.size:=by have:=Ht.lt;omega
     clear m0 m1;obtain ⟨m0,m1⟩:=zdk K5
     refine shK hK _ _ ⟨m0,m1⟩ (fun _=>?_)
     refine ar1 9 rfl (fun K hK=>?_)
     go_simp
     refine (Hd.out _ _ b KR Kx (Hj.out b rfl)).mono ?_
     rintro e w3 h3;obtain ⟨s,ev,rfl,KI,H7⟩:=zgq h3;have He:=K5.ext H7;have K8:=KN.ext H7;have Hv:=KO.ext H7;have E3:=xT KR H7;clear m0 m1 h3;obtain ⟨m0,m1⟩:=zdk He
     refine shK hK _ _ ⟨m0,m1⟩ (fun _=>?_)
     refine tkN 10 rfl ?_;refine tkN 11 rfl ?_;refine tkN 12 rfl ?_;obtain ⟨f0,f1,f2,f3,f4⟩:=zdK Hv;obtain ⟨g0,g1,g2,g3,g4⟩:=zac Hv
     refine ar1 14 rfl (fun K hK=>?_)
     go_simp
     have Hf:w.heap.size≠w2.heap.size:=by have:=Hh.lt;have:=Hl;omega
     have Ho:w.heap.size+1≠w2.heap.size:=by have:=Ht.lt;have:=Hl;omega
     have Kn:=zhd (zcz Hv (.int .i64 s.idx) (.int .i64 s.term) (.int .i64 s.sum) (.int .i64 s.lvl) (.bool s.fin));have HP:=zhd (zeC K8 Ho (.int .i64 s.idx) (.int .i64 s.term) (.int .i64 s.sum) (.int .i64 s.lvl) (.bool s.fin))
     have HE:=zhd (zcB E3 (show w.heap.size≤w2.heap.size by have:=Hl;omega) (.int .i64 s.idx) (.int .i64 s.term) (.int .i64 s.sum) (.int .i64 s.lvl) (.bool s.fin))
     have KK:=zeC He Hf (.int .i64 s.idx) (.int .i64 s.term) (.int .i64 s.sum) (.int .i64 s.lvl) (.bool s.fin);clear m0 m1 f0 f1 f2 f3 f4 g0 g1 g2 g3 g4
     exact mcSStatea0
  ·go_simp
   have hA:Ext ((w.alloc (.cells #[.int .i64 m.sq,.int .i64 m.sf] 27)).alloc (.cells #[.int .i64 0,.int .i64 0,.int .i64 0,.int .i64 0,.bool false] 53)) (((w.alloc (.cells #[.int .i64 m.sq,.int .i64 m.sf] 27)).alloc (.cells #[.int .i64 0,.int .i64 0,.int .i64 0,.int .i64 0,.bool false] 53)).alloc (.cells #[.int .i64 0,.int .i64 0,.int .i64 0,.int .i64 0,.bool false] 53)).drew:=xD (xA (xR _) _)
   have HI:=(P6 ((w.alloc (.cells #[.int .i64 m.sq,.int .i64 m.sf] 27)).alloc (.cells #[.int .i64 0,.int .i64 0,.int .i64 0,.int .i64 0,.bool false] 53)) 53 #[.int .i64 0,.int .i64 0,.int .i64 0,.int .i64 0,.bool false]).ext (xD (xR _));rw[xS,xS] at HI;have Js:=Hm.out.ext hA;have G6:=Hr.out.ext hA;have E1:=xT HX.out hA;obtain ⟨m0,m1⟩:=zdk Js
   refine shK hK _ _ ⟨m0,m1⟩ (fun _=>?_)
   refine ar1 6 rfl (fun K hK=>?_)
   go_simp
   refine (HU.out _ E1).mono ?_
   rintro e w2 ⟨h2,H4⟩;have E2:=xT E1 H4
   cases rb with
   | none =>
    obtain rfl:=h2
    obtain rfl:none=R:=HR.out
    exact ⟨rfl,rfl,E2⟩
   | some b =>
    obtain ⟨v2,rfl,Hk⟩:=h2;have Hh:=Js.ext H4;have Ht:=G6.ext H4;have Hi:=HI.ext H4
    have Hl:w.heap.size+2≤w.heap.size+1+1:=by omega
    clear m0 m1;obtain ⟨m0,m1⟩:=zdk Hh
    refine shK hK _ _ ⟨m0,m1⟩ (fun _=>?_)
    refine ar1 9 rfl (fun K hK=>?_)
    go_simp
    refine (Hd.out _ _ b E2 Hk (Hj.out b rfl)).mono ?_
    rintro e w3 h3;obtain ⟨s,ev,rfl,KI,H7⟩:=zgq h3;have He:=Hh.ext H7;have K8:=Ht.ext H7;have Hv:=Hi.ext H7;have E3:=xT E2 H7;clear m0 m1 h3;obtain ⟨m0,m1⟩:=zdk He
    refine shK hK _ _ ⟨m0,m1⟩ (fun _=>?_)
    refine tkN 10 rfl ?_;refine tkN 11 rfl ?_;refine tkN 12 rfl ?_;obtain ⟨f0,f1,f2,f3,f4⟩:=zdK Hv;obtain ⟨g0,g1,g2,g3,g4⟩:=zac Hv
    refine ar1 14 rfl (fun K hK=>?_)
    go_simp
    have Hf:w.heap.size≠w.heap.size+1+1:=by have:=Hh.lt;have:=Hl;omega
    have Ho:w.heap.size+1≠w.heap.size+1+1:=by have:=Ht.lt;have:=Hl;omega
    have Kn:=zhd (zcz Hv (.int .i64 s.idx) (.int .i64 s.term) (.int .i64 s.sum) (.int .i64 s.lvl) (.bool s.fin));have HP:=zhd (zeC K8 Ho (.int .i64 s.idx) (.int .i64 s.term) (.int .i64 s.sum) (.int .i64 s.lvl) (.bool s.fin))
    have HE:=zhd (zcB E3 (show w.heap.size≤w.heap.size+1+1 by have:=Hl;omega) (.int .i64 s.idx) (.int .i64 s.term) (.int .i64 s.sum) (.int .i64 s.lvl) (.bool s.fin))
    have KK:=zeC He Hf (.int .i64 s.idx) (.int .i64 s.term) (.int .i64 s.sum) (.int .i64 s.lvl) (.bool s.fin);clear m0 m1 f0 f1 f2 f3 f4 g0 g1 g2 g3 g4
    exact mcSStatea0
theorem mcMKeepa0 {P:Prop} (h:P:=by
 generalize sg[k]=s at *
 have X1:Ext wr (wr.alloc (.cells #[.int .i64 s.seq,.int .i64 s.fmt,.int .i64 s.first,.int .i64 s.count] 74)):=xA (xR _) _
 have X2:Ext wr ((wr.alloc (.cells #[.int .i64 s.seq,.int .i64 s.fmt,.int .i64 s.first,.int .i64 s.count] 74)).alloc (.cells #[.int .u8 3,.int .i64 s.seq,.int .i64 s.fmt] 49)):=xA X1 _
 have hn:=zfa (wr.alloc (.cells #[.int .i64 s.seq,.int .i64 s.fmt,.int .i64 s.first,.int .i64 s.count] 74)) (3,s.seq,s.fmt);rw[xS] at hn;have HN:=zhd (xW hn);have J5:=zhd (zaf H3.out X2);have Ja:=zhd (xT H2.out X2);have Jk:=P6 wr 74 #[.int .i64 s.seq,.int .i64 s.fmt,.int .i64 s.first,.int .i64 s.count];obtain ⟨x0,x1,x2,x3⟩:=zay Jk;clear X1 X2 hn Jk
 go_wp2_with (at_builtin;refine zd7 rfl (.tmp 29) (.tmp 35) rfl w.heap.size _ L rfl J5.out _ (3,s.seq,s.fmt) rfl HN.out (by rw[Ke.out];omega) Ja.out.size ?_;intro A1 G9 w1 H9 Hc)
 have JZ:=zhd (Pa Ja.out J5.out Hc);have JU:=zhd H9;clear H9 Hc c0 c1 c2 c3 x0 x1 x2 x3;go_wp2_with fail
 go_roundw
 case rel=>exact ⟨k+1,by omega,by go_num,by rw[Kf.out];exact JU,JZ⟩
 case measure=>simp[intOf];omega):P:=h
theorem zhP (m:Mf) (v:Value) (w:World) (hS:Sgs w v m.segs) (hl:m.segs.length≤1000000) :
  Calls Tryz.prog 50 #[.agg #[.int .i64 m.next,.int .i64 m.term,.int .i64 m.vote,.int .i64 m.sq,.int .i64 m.sf,v]] w fun e w'=>∃ v',e=.returned v'∧zdr w' w.heap.size v' (zaO m)∧Ext w w':=by
 obtain ⟨A,c,rfl,_,_⟩:=hS.open_;have HS:=zhd hS;clear hS;obtain ⟨nx,tm,vt,sq,sf,sg⟩:=m
 dsimp only at *
 have hb:=P6 w 30 #[.int .i64 nx,.int .i64 tm,.int .i64 vt,.int .i64 sq,.int .i64 sf,.slice A sg.length c]
 have hX:Ext w ((w.alloc (.cells #[.int .i64 nx,.int .i64 tm,.int .i64 vt,.int .i64 sq,.int .i64 sf,.slice A sg.length c] 30)).alloc (.cells #[.int .u8 1,.int .i64 0,.int .i64 0] 49)):=xA (xA (xR _) _) _
 have Hb:Blk ((w.alloc (.cells #[.int .i64 nx,.int .i64 tm,.int .i64 vt,.int .i64 sq,.int .i64 sf,.slice A sg.length c] 30)).alloc (.cells #[.int .u8 1,.int .i64 0,.int .i64 0] 49)) w.heap.size 30 #[.int .i64 nx,.int .i64 tm,.int .i64 vt,.int .i64 sq,.int .i64 sf,.slice A sg.length c]:=hb.alloc _
 have Hs:zdr ((w.alloc (.cells #[.int .i64 nx,.int .i64 tm,.int .i64 vt,.int .i64 sq,.int .i64 sf,.slice A sg.length c] 30)).alloc (.cells #[.int .u8 1,.int .i64 0,.int .i64 0] 49)) w.heap.size (.slice (some ⟨w.heap.size+1,0,none⟩) 1 1) [(1,0,0)]:=by
  have:=zfa (w.alloc (.cells #[.int .i64 nx,.int .i64 tm,.int .i64 vt,.int .i64 sq,.int .i64 sf,.slice A sg.length c] 30)) (1,0,0)
  rw[xS] at this
  exact zai this (P8 _)
 obtain ⟨m0,m1,m2,m3,m4,m5⟩:=zan Hb;have HX:=zhd hX;have HB:=zhd Hb;have HO:=zhd Hs;obtain ⟨W1,Jh⟩:∃ W1,(w.alloc (.cells #[.int .i64 nx,.int .i64 tm,.int .i64 vt,.int .i64 sq,.int .i64 sf,.slice A sg.length c] 30)).alloc (.cells #[.int .u8 1,.int .i64 0,.int .i64 0] 49)=W1:=⟨_,rfl⟩;clear hb hX Hb Hs
 by_cases hq:sq=0
 ·subst hq
  have H8:zaO ⟨nx,tm,vt,0,sf,sg⟩=[(1,0,0)]++sg.map zaW:=by unfold zaO zeT;rw[if_pos rfl]
  rw[H8];clear H8 Jh
  go_enter Tryz.func50,Tryz.ntmps50
  go_wp2_with fail;clear m0 m1 m2 m3 m4 m5
  go_loopw [3,25] (fun v3 Hw wr=>∃ k:Nat,k≤sg.length∧Hw=.int .i64 k∧Hid (zdr wr w.heap.size v3 ([(1,0,0)]++(sg.take k).map zaW))∧Hid (Ext w wr)) (fun _ Hw _=>sg.length-(intOf Hw).toNat)
  case atStart=>exact ⟨0,P7 _,rfl,HO,HX⟩
  case round =>
   obtain ⟨k,hk,rfl,H3,H2⟩:=hrel;obtain ⟨Ao,co,rfl,_,_⟩:=xO (xW H3.out)
   by_cases hlt:k<sg.length
   ·have H1:([(1,0,0)]++(sg.take k).map zaW).length=k+1:=by simp;omega
    obtain ⟨_,bs,of,rfl,H0⟩:=Sgs.at_ HS.out (by omega);obtain ⟨d0,d1,d2,d3⟩:=H0 k hlt;have c0:=H2.out.cell d0;have c1:=H2.out.cell d1;have c2:=H2.out.cell d2;have c3:=H2.out.cell d3
    have H6:[(1,0,0)]++(sg.take (k+1)).map zaW=([(1,0,0)]++(sg.take k).map zaW)++[zaW sg[k]]:=by rw[P0 hlt,P3,P1];rfl
    have Kf:=zhd H6;have Ke:=zhd H1;clear H0 d0 d1 d2 d3 H6 H1
    generalize [(1,0,0)]++(sg.take k).map zaW=L at *
    exact mcMKeepa0
   ·obtain rfl:k=sg.length:=by omega
    have ek:[(1,0,0)]++(sg.take sg.length).map zaW=[(1,0,0)]++sg.map zaW:=by rw[P2]
    have EK:=zhd ek;clear ek;go_wp2_with fail;go_ret
    refine ⟨_,rfl,?_,H2.out⟩
    show zdr _ _ _ ([(1,0,0)]++sg.map zaW)
    rw[←EK.out]
    exact H3.out
 ·have H8:zaO ⟨nx,tm,vt,sq,sf,sg⟩=[(1,0,0),(4,sq,sf)]++sg.map zaW:=by unfold zaO zeT;rw[if_neg hq]
  rw[H8];have hn:=zfa ((w.alloc (.cells #[.int .i64 nx,.int .i64 tm,.int .i64 vt,.int .i64 sq,.int .i64 sf,.slice A sg.length c] 30)).alloc (.cells #[.int .u8 1,.int .i64 0,.int .i64 0] 49)) (4,sq,sf)
  have X1:Ext ((w.alloc (.cells #[.int .i64 nx,.int .i64 tm,.int .i64 vt,.int .i64 sq,.int .i64 sf,.slice A sg.length c] 30)).alloc (.cells #[.int .u8 1,.int .i64 0,.int .i64 0] 49)) (((w.alloc (.cells #[.int .i64 nx,.int .i64 tm,.int .i64 vt,.int .i64 sq,.int .i64 sf,.slice A sg.length c] 30)).alloc (.cells #[.int .u8 1,.int .i64 0,.int .i64 0] 49)).alloc (.cells #[.int .u8 4,.int .i64 sq,.int .i64 sf] 49)):=xA (xR _) _
  replace HX:=zhd (xT HX.out X1)
  replace HB:=zhd (HB.out.ext X1)
  replace HO:=zhd (zaf HO.out X1)
  rw[xS,xS] at hn;have HN:=zhd (xW hn);have Hq:=zhd hq;clear H8 hn X1 Jh
  go_enter Tryz.func50,Tryz.ntmps50
  go_wp2_with (at_builtin;refine zd7 rfl (.tmp 12) (.tmp 20) rfl w.heap.size _ [(1,0,0)] rfl HO.out _ (4,sq,sf) rfl HN.out (by decide) HX.out.size ?_;intro A1 c1 w1 H9 Hc;obtain ⟨q0,q1,q2,q3,q4,q5⟩:=zan (HB.out.kept Hc (HB.out.not_row (by decide) HO.out)))
  replace HX:=zhd (Pa HX.out HO.out Hc)
  replace HO:=zhd H9
  clear m0 m1 m2 m3 m4 m5 q0 q1 q2 q3 q4 q5 H9 Hc HN HB
  go_loopw [3,25] (fun v3 Hw wr=>∃ k:Nat,k≤sg.length∧Hw=.int .i64 k∧Hid (zdr wr w.heap.size v3 ([(1,0,0),(4,sq,sf)]++(sg.take k).map zaW))∧Hid (Ext w wr)) (fun _ Hw _=>sg.length-(intOf Hw).toNat)
  case atStart=>exact ⟨0,P7 _,rfl,HO,HX⟩
  case round =>
   obtain ⟨k,hk,rfl,H3,H2⟩:=hrel;obtain ⟨Ao,co,rfl,_,_⟩:=xO (xW H3.out)
   by_cases hlt:k<sg.length
   ·have H1:([(1,0,0),(4,sq,sf)]++(sg.take k).map zaW).length=k+2:=by simp;omega
    obtain ⟨_,bs,of,rfl,H0⟩:=Sgs.at_ HS.out (by omega);obtain ⟨d0,d1,d2,d3⟩:=H0 k hlt;have c0:=H2.out.cell d0;have c1:=H2.out.cell d1;have c2:=H2.out.cell d2;have c3:=H2.out.cell d3
    have H6:[(1,0,0),(4,sq,sf)]++(sg.take (k+1)).map zaW=([(1,0,0),(4,sq,sf)]++(sg.take k).map zaW)++[zaW sg[k]]:=by rw[P0 hlt,P3,P1];rfl
    have Kf:=zhd H6;have Ke:=zhd H1;clear H0 d0 d1 d2 d3 H6 H1
    generalize [(1,0,0),(4,sq,sf)]++(sg.take k).map zaW=L at *
    exact mcMKeepa0
   ·obtain rfl:k=sg.length:=by omega
    have ek:[(1,0,0),(4,sq,sf)]++(sg.take sg.length).map zaW=[(1,0,0),(4,sq,sf)]++sg.map zaW:=by rw[P2]
    have EK:=zhd ek;clear ek;go_wp2_with fail;go_ret
    refine ⟨_,rfl,?_,H2.out⟩
    show zdr _ _ _ ([(1,0,0),(4,sq,sf)]++sg.map zaW)
    rw[←EK.out]
    exact H3.out
end Go.Proofs.YtgonhdeochgkoaaGreatDoor
