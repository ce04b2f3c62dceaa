/- Merged -/
import Derived.Test.YteggfecbjgbndaaGreatDoorZw20
import Derived.Test.YteggfecbjgbndaaGreatDoorZw29
import Derived.Test.YteggfecbjgbndaaGreatDoorZw32
set_option linter.all false
set_option maxHeartbeats 8000000
set_option maxRecDepth 100000
open Go.Value renaming int→G,slice→I,string→V,pointer→y,bool→z
open Go.IntKind renaming i64→H,u8→Z
open Go.Obj renaming cells→J
open Go.Mv renaming zhd→M
open Option renaming some→O,none→U
open Go.Proofs.Tryz renaming prog→R
open List renaming take_succ_eq_append_getElem→P0,getElem?_append_right→P1,take_length→P2,getElem?_eq_getElem→P3,map_append→P4,length_map→P5,append_assoc→P6,getElem?_append_left→P7,length_filter_le→P8,not_mem_nil→P9,length_nil→Pa,mem_cons→Pb,map_cons→Pc
open Go.RowKit.Below renaming heap_setCell→Pd,setCell→Pe
open Go.Mv.Ext renaming grownOwn→Pf,grown→Pg
open Nat renaming zero_le→Ph,le_trans→Pi,le_of_eq→Pj,le_succ→Pk
namespace Go.Proofs.YteggfecbjgbndaaGreatDoor
open Go.RowKit Go.Mv Go.Shelf
theorem zsN:(Tryz.prog.info? 68).map (fun i=>(i.zero,i.size,i.bytes))=O (some (.agg #[V ⟨#[]⟩,I none 0 0]),2,40):=by kernel_rfl
def FRow (W:World) (xs:List Value) (fs:List Fil):Prop:=xs.length=fs.length*2∧∀ (i:Nat) (hi:i<fs.length),xs[i*2]?=O (sv fs[i].1)∧∃ u,xs[i*2+1]?=O u∧Bs W u fs[i].2
theorem FRow.ext {W W':World} {xs:List Value} {fs:List Fil} (h:FRow W xs fs) (hE:Ext W W'):FRow W' xs fs:=⟨h.1,fun i hi=>by
 obtain ⟨h3,u,h4,h5⟩:=h.2 i hi
 exact ⟨h3,u,h4,h5.ext hE⟩⟩
theorem FRow.one {W:World} {xs:List Value} {fs:List Fil} (h:FRow W xs fs):∀ u∈xs,u.oneCell'=true:=by
 intro u hu;obtain ⟨j,hj,rfl⟩:=List.mem_iff_getElem.1 hu;have hl:=h.1;obtain ⟨h3,v,h4,h5⟩:=h.2 (j / 2) (by omega)
 rcases Nat.mod_two_eq_zero_or_one j with hm | hm
 ·have e:j / 2*2=j:=by omega
  rw[e,P3 hj] at h3
  injection h3 with h3
  rw[h3];rfl
 ·have e:j / 2*2+1=j:=by omega
  rw[e,P3 hj] at h4
  injection h4 with h4
  rw[h4];obtain ⟨A,c,rfl,_,_⟩:=xO h5;rfl
theorem FRow.append {W:World} {xs ys:List Value} {fs gs:List Fil} (h1:FRow W xs fs) (h2:FRow W ys gs):FRow W (xs++ys) (fs++gs):=by
 refine ⟨by rw[xL,xL,h1.1,h2.1];omega,fun i hi=>?_⟩
 have hl:=h1.1;rw[xL] at hi
 by_cases h:i<fs.length
 ·rw[P7 (by omega),P7 (by omega)]
  simp only[List.getElem_append_left h]
  exact h1.2 i h
 ·have e1:i*2-xs.length=(i-fs.length)*2:=by omega
  have e2:i*2+1-xs.length=(i-fs.length)*2+1:=by omega
  rw[P1 (by omega),P1 (by omega),e1,e2];simp only[List.getElem_append_right (Nat.le_of_not_lt h)]
  exact h2.2 (i-fs.length) (by omega)
theorem FRow.one' {W:World} {n1 b1:List UInt8} {v1:Value} (h1:Bs W v1 b1):FRow W [sv n1,v1] [(n1,b1)]:=by
 refine ⟨rfl,fun i hi=>?_⟩
 match i,hi with
 | 0,_=>exact ⟨rfl,v1,rfl,h1⟩
theorem zfA (w:World) (cs:List Value) (m:Nat) (hm:cs.length=m*2) (hl:m≤maxLen) {base:Nat} (hb:base≤w.heap.size):(w.alloc (J cs.toArray 68)).ownsRow base 68 2 (I (O ⟨w.heap.size,0,U⟩) m m) m cs :=
 ⟨hm,.inr ⟨w.heap.size,m,cs.toArray,rfl,hb,heap_alloc_new w _,xN _,hl,by simp[hm],by simp[←hm]⟩⟩
/-! A manifest laid into an old box -/
theorem zeJ {W:World} {b:Nat} {p:Addr} {u:Value} (h:W.cell? p=O u) (hp:p.block≠b) (a' v' u' x' y' z':Value):(zbB W b a' v' u' x' y' z').cell? p=O u:=by
 have hh:(zbB W b a' v' u' x' y' z').heap[p.block]?=W.heap[p.block]?:=by
  unfold zbB;rw[Pd _ _ _ _ hp,Pd _ _ _ _ hp,Pd _ _ _ _ hp,Pd _ _ _ _ hp,Pd _ _ _ _ hp,Pd _ _ _ _ hp]
 unfold World.cell? at h ⊢
 rw[hh]
 exact h
theorem zgz {W:World} {b:Nat} {t:TypeId} {cs:Array Value} (h:Blk W b t cs) {k:Nat} {u:Value} (hc:W.cell? ⟨b,k,U⟩=O u):cs[k]?=O u:=by
 simpa [World.cell?,show W.heap[b]?=_ from h] using hc
theorem mcKeepa0 {P:Prop} (h:P:=by
 rw[H3] at H7;obtain ⟨_,bs,of,rfl,H1⟩:=Sgs.at_ HS.out (by omega);obtain ⟨d0,d1,_,_⟩:=H1 k hlt;have c0:=H5.out.cell d0;have c1:=H5.out.cell d1;have D0:=M d0;have D1:=M d1;clear H1 d0 d1;go_wp2_with fail
 refine wp_region_held_drew (S:=fun W=>W.cell? ⟨w.heap.size,5,U⟩=O (I (O ⟨bs,of,U⟩) sg.length c)∧W.cell? ⟨bs,of+k*4,U⟩=O (G H sg[k].seq)∧W.cell? ⟨bs,of+k*4+1,U⟩=O (G H sg[k].fmt)) (by kernel_rfl) ⟨m5,c0,c1⟩ (fun _=>?_)
 refine tkN 0 ?_;refine tkN 1 ?_;refine tkN 2 ?_;refine tkN 3 ?_;refine tkN 4 ?_;refine tkN 5 ?_;refine tkN 6 ?_;refine tkN 7 ?_;refine tkN 8 ?_;refine tkN 9 ?_;refine tkN 10 ?_;refine tkN 11 ?_;refine tkN 12 ?_;refine tkN 13 ?_
 refine ar1 14 (fun K hK=>?_)
 go_simp
 have X1:Ext wr (wr.alloc (J #[G Z 3,G H sg[k].seq,G H sg[k].fmt] 32)).drew:=xD (xA (xR _) _)
 have KC:SlR (wr.alloc (J #[G Z 3,G H sg[k].seq,G H sg[k].fmt] 32)).drew 3 (I (O ⟨wr.heap.size,0,U⟩) 1 1) 1 (zaM [zaU sg[k]]):=SlR.ext (xW (zeO wr (zaU sg[k]))) (xD (xR _))
 have X2:=xT H5.out X1;have HU:=zab H7.out X1;have K7:=HA.out.ext X1
 refine shK hK _ _ ⟨X1.cell m5,X1.cell c0,X1.cell c1⟩ (fun _=>?_)
 obtain ⟨i0,hi,Hn,Ho,Hp⟩:=info_parts zkf
 refine ar1 15 (fun K hK=>?_)
 refine zbv _ (.tmp 28) (.tmp 42) 34 (by rfl) w.heap.size 32 i0 _ 3 24 Tryz.underlying34 hi Hn Ho Hp rfl (by decide) _ _ _ (by rfl) HU _ 1 (zaM [zaU sg[k]]) (by rfl) KC (zmn _) (by rw[H3];unfold maxLen;omega) (by rw[H3];omega) X2.size ?_
 intro v7 w7 Kh Ka
 have E7:Ext w w7:=Pf X2 HU Ka
 have K8:=K7.kept Ka (K7.not_row (by decide) HU)
 refine shK hK _ _ ⟨K8.cell 5 rfl,E7.cell D0.out,E7.cell D1.out⟩ (fun _=>?_)
 obtain ⟨A7,c7,rfl,_,_⟩:=xO (xW Kh);refine tkN 16 ?_;refine wdD ?_;have KW:=M E7;have KT:=M K8;have J1:=M Kh;clear E7 K8 Kh Ka HU K7 X2 X1 KC;go_wp2_with fail
 go_roundw
 case rel =>
  refine ⟨k+1,by omega,by go_num,?_,KT,KW⟩
  have:=J1.out
  rw[H3] at this;unfold Hid zde
  rw[P0 hlt,P4,Pc,List.map_nil,←P6,xL,H3,show ∀ a b:List (Int×Int×Int),zaM (a++b)=zaM a++zaM b from fun a b=>by simp[zaM]]
  exact this
 case measure=>simp[intOf];omega):P:=h
def idC (x:Int×Int×Int):List Value:=[G Z x.1,G H x.2.1,G H x.2.2]
def zaM (l:List (Int×Int×Int)):List Value:=l.flatMap idC
def zde (w:World) (base:Nat) (v:Value) (l:List (Int×Int×Int)):Prop:=w.ownsRow base 32 3 v l.length (zaM l)
theorem zkf:(Tryz.prog.info? 32).map (fun i=>(i.zero,i.size,i.bytes))=O (some (.agg #[G Z 0,G H 0,G H 0]),3,24):=by kernel_rfl
theorem zmn (l:List (Int×Int×Int)):∀ u∈zaM l,u.oneCell'=true:=by
 intro u hu;obtain ⟨s,_,hu⟩:=List.mem_flatMap.1 hu;simp only[idC,Pb,P9,or_false] at hu
 rcases hu with rfl | rfl | rfl <;> rfl
theorem zeO (W:World) (x:Int×Int×Int):zde (W.alloc (J #[G Z x.1,G H x.2.1,G H x.2.2] 32)) W.heap.size (I (O ⟨W.heap.size,0,U⟩) 1 1) [x] :=
 ⟨rfl,.inr ⟨W.heap.size,1,#[G Z x.1,G H x.2.1,G H x.2.2],rfl,xN _,heap_alloc_new W _,xN _,by simp[maxLen],rfl,rfl⟩⟩
theorem zdU {ops:Array Oper} {rest:List Oper} {o:Oper} {a:Act} {w:World} {Q:Exit→Act→World→Prop} (Je:o.guard=none) (s x:Operand)
  (ho:o.op=.call { callee:=.builtin .append,args:=#[s,x],argTypes:=#[34,34] })
  (base:Nat) (v:Value) (bs:List (Int×Int×Int)) (hs:a.eval s=v) (Ki:zde w base v bs) (vx:Value) (c:Int×Int×Int) (hx:a.eval x=vx) (hr:SlR w 3 vx 1 (zaM [c]))
  (H3:bs.length≤2000000) (Hx:base≤w.heap.size)
  (h:∀ A cc w',zde w' base (I A (bs.length+1) cc) (bs++[c])→w.grownBy w' v.ownBlock→wpList R ops Q rest (a.put o.dst (I A (bs.length+1) cc)) w'):wpList R ops Q (o::rest) a w:=by
 obtain ⟨i0,hi,Hn,Ho,Hp⟩:=info_parts zkf
 refine zaC _ Je s x 34 ho base 32 i0 _ 3 24 Tryz.underlying34 hi Hn Ho Hp rfl (by decide) v bs.length (zaM bs) hs Ki vx 1 (zaM [c]) hx hr (zmn _) (by unfold maxLen;omega) (by omega) Hx ?_
 intro v' w' h1 h2;obtain ⟨A,cc,rfl,_,_⟩:=xO (xW h1)
 refine h A cc w' ?_ h2
 unfold zde
 rw[xL,show zaM (bs++[c])=zaM bs++zaM [c] from by simp[zaM]]
 exact h1
def zg0 (m:Mf):List (Int×Int×Int):=(1,0,0)::(if m.sq=0 then [] else [(4,m.sq,m.sf)])
def zaU (s:Sg4):Int×Int×Int:=(3,s.seq,s.fmt)
def zb4 (m:Mf):List (Int×Int×Int):=zg0 m++m.segs.map zaU
theorem zrg (m:Mf):(zg0 m).length≤2:=by unfold zg0;split <;> simp
theorem zr6 (m:Mf) (v:Value) (w:World) (hS:Sgs w v m.segs) (hl:m.segs.length≤1000000) :
  Calls R 63 #[.agg #[G H m.next,G H m.term,G H m.vote,G H m.sq,G H m.sf,v]] w fun e w'=>∃ v',e=.returned v'∧zde w' w.heap.size v' (zb4 m)∧Ext w w':=by
 obtain ⟨A,c,rfl,_,_⟩:=hS.open_;have HS:=M hS;clear hS;obtain ⟨nx,tm,vt,sq,sf,sg⟩:=m
 dsimp only at *
 have hb:=Blk.new w 30 #[G H nx,G H tm,G H vt,G H sq,G H sf,I A sg.length c]
 have hX:Ext w ((w.alloc (J #[G H nx,G H tm,G H vt,G H sq,G H sf,I A sg.length c] 30)).alloc (J #[G Z 1,G H 0,G H 0] 32)):=xA (xA (xR _) _) _
 have Hc:Blk ((w.alloc (J #[G H nx,G H tm,G H vt,G H sq,G H sf,I A sg.length c] 30)).alloc (J #[G Z 1,G H 0,G H 0] 32)) w.heap.size 30 #[G H nx,G H tm,G H vt,G H sq,G H sf,I A sg.length c]:=hb.alloc _
 have Hm:zde ((w.alloc (J #[G H nx,G H tm,G H vt,G H sq,G H sf,I A sg.length c] 30)).alloc (J #[G Z 1,G H 0,G H 0] 32)) w.heap.size (I (O ⟨w.heap.size+1,0,U⟩) 1 1) [(1,0,0)]:=by
  have:=zeO (w.alloc (J #[G H nx,G H tm,G H vt,G H sq,G H sf,I A sg.length c] 30)) (1,0,0)
  rw[xS] at this
  exact zaf this (Pk _)
 by_cases hq:sq=0
 ·subst hq
  have H8:zb4 ⟨nx,tm,vt,0,sf,sg⟩=[(1,0,0)]++sg.map zaU:=by unfold zb4 zg0;rw[if_pos rfl]
  rw[H8];obtain ⟨m0,m1,m2,m3,m4,m5⟩:=zag Hc;have HX:=M hX;have HB:=M Hc;have HO:=M Hm;clear hb hX Hc Hm H8
  go_enter Tryz.func63,Tryz.ntmps63
  go_wp2_with fail;clear m0 m1 m2 m3 m4 m5
  go_loopw [3,4] (fun v3 v4 wr=>∃ k:Nat,k≤sg.length∧v4=G H k∧Hid (zde wr w.heap.size v3 ([(1,0,0)]++(sg.take k).map zaU))∧Hid (Blk wr w.heap.size 30 #[G H nx,G H tm,G H vt,G H 0,G H sf,I A sg.length c])∧Hid (Ext w wr)) (fun _ v4 _=>sg.length-(intOf v4).toNat)
  case atStart=>exact ⟨0,Ph _,rfl,HO,HB,HX⟩
  case round =>
   obtain ⟨k,hk,rfl,H7,HA,H5⟩:=hrel;obtain ⟨m0,m1,m2,m3,m4,m5⟩:=zag HA.out;obtain ⟨Ao,co,rfl,_,_⟩:=xO (xW H7.out)
   by_cases hlt:k<sg.length
   ·have H3:([(1,0,0)]++(sg.take k).map zaU).length=k+1:=by simp;omega
    exact mcKeepa0
   ·obtain rfl:k=sg.length:=by omega
    have ek:[(1,0,0)]++(sg.take sg.length).map zaU=[(1,0,0)]++sg.map zaU:=by rw[P2]
    have EK:=M ek;clear ek;go_wp2_with fail;go_ret
    refine ⟨_,rfl,?_,H5.out⟩
    show zde _ _ _ ([(1,0,0)]++sg.map zaU)
    rw[←EK.out]
    exact H7.out
 ·have H8:zb4 ⟨nx,tm,vt,sq,sf,sg⟩=[(1,0,0),(4,sq,sf)]++sg.map zaU:=by unfold zb4 zg0;rw[if_neg hq]
  rw[H8];have hn:=zeO ((w.alloc (J #[G H nx,G H tm,G H vt,G H sq,G H sf,I A sg.length c] 30)).alloc (J #[G Z 1,G H 0,G H 0] 32)) (4,sq,sf)
  have X1:Ext ((w.alloc (J #[G H nx,G H tm,G H vt,G H sq,G H sf,I A sg.length c] 30)).alloc (J #[G Z 1,G H 0,G H 0] 32)) (((w.alloc (J #[G H nx,G H tm,G H vt,G H sq,G H sf,I A sg.length c] 30)).alloc (J #[G Z 1,G H 0,G H 0] 32)).alloc (J #[G Z 4,G H sq,G H sf] 32)):=xA (xR _) _
  have Kw:=Hc.ext X1;have H9:=zab Hm X1;obtain ⟨m0,m1,m2,m3,m4,m5⟩:=zag Hc;have HX:=M (xT hX X1);have HB:=M Kw;have HO:=M H9;rw[xS,xS] at hn;have HN:=M (xW hn);have Hq:=M hq;clear hb hX Hc Hm H8 hn X1 Kw H9
  go_enter Tryz.func63,Tryz.ntmps63
  go_wp2_with (at_builtin;refine zdU rfl (.tmp 11) (.tmp 19) rfl w.heap.size _ [(1,0,0)] rfl HO.out _ (4,sq,sf) rfl HN.out (by decide) HX.out.size ?_;intro A1 c1 w1 H9 Hd)
  replace HB:=M (HB.out.kept Hd (HB.out.not_row (by decide) HO.out))
  replace HX:=M (Pf HX.out HO.out Hd)
  replace HO:=M H9
  clear m0 m1 m2 m3 m4 m5 H9 Hd HN
  go_loopw [3,4] (fun v3 v4 wr=>∃ k:Nat,k≤sg.length∧v4=G H k∧Hid (zde wr w.heap.size v3 ([(1,0,0),(4,sq,sf)]++(sg.take k).map zaU))∧Hid (Blk wr w.heap.size 30 #[G H nx,G H tm,G H vt,G H sq,G H sf,I A sg.length c])∧Hid (Ext w wr)) (fun _ v4 _=>sg.length-(intOf v4).toNat)
  case atStart=>exact ⟨0,Ph _,rfl,HO,HB,HX⟩
  case round =>
   obtain ⟨k,hk,rfl,H7,HA,H5⟩:=hrel;obtain ⟨m0,m1,m2,m3,m4,m5⟩:=zag HA.out;obtain ⟨Ao,co,rfl,_,_⟩:=xO (xW H7.out)
   by_cases hlt:k<sg.length
   ·have H3:([(1,0,0),(4,sq,sf)]++(sg.take k).map zaU).length=k+2:=by simp;omega
    exact mcKeepa0
   ·obtain rfl:k=sg.length:=by omega
    have ek:[(1,0,0),(4,sq,sf)]++(sg.take sg.length).map zaU=[(1,0,0),(4,sq,sf)]++sg.map zaU:=by rw[P2]
    have EK:=M ek;clear ek;go_wp2_with fail;go_ret
    refine ⟨_,rfl,?_,H5.out⟩
    show zde _ _ _ ([(1,0,0),(4,sq,sf)]++sg.map zaU)
    rw[←EK.out]
    exact H7.out
open Go.RowKit Go.Mv Go.Shelf Go.MapKept
section
variable {P:Program} {T K E:TypeId} {d:TypeDesc} {F:Fence} {nF:Nat} {w:World} {ops:Array Oper} {rest:List Oper} {o:Oper} {a:Act} {Q:Exit→Act→World→Prop}
theorem zek (hg:o.guard=none) (m x:Operand) (Hh:o.op=Op.lookup T m x false) (hT:P.underlying T=O (.map K E)) (hK:P.underlying K=O d) (hz:(zeroValue E).run P w=.ok (G H 0) w)
  (r:Nat) (S:Value→Prop) (hm:a.eval m=.map (some r)) (hF:SSet w r d (G H 1) S) (k:Value) (hx:a.eval x=k) (hk:IsKey d k)
  (h:∀ n:Int,((S k∧n=1)∨(¬ S k∧n=0))→wpListIn F nF P ops Q rest (a.put o.dst (G H n)) w):wpListIn F nF P ops Q (o::rest) a w:=by
 refine wpListIn_plain hg fun K' HP=>?_
 unfold Oper.wpIn
 refine ⟨by simp[Oper.about,Hh],?_⟩
 rw[Oper.semAt_plain F _ _ (by rw[Hh];intro c K9;cases K9)]
 rcases hF.lookup hT hK hk hz with ⟨h1,Ha⟩ | ⟨h1,Ha⟩
 ·simp[execOp,Hh,hm,hx,Ha,Result.andThen]
  exact HP _ _ (h 1 (.inl ⟨h1,rfl⟩))
 ·simp[execOp,Hh,hm,hx,Ha,Result.andThen]
  exact HP _ _ (h 0 (.inr ⟨h1,rfl⟩))
theorem zhv (hg:o.guard=none) (m x v:Operand) (Hh:o.op=Op.mapUpdate T m x v) (hT:P.underlying T=O (.map K E)) (hK:P.underlying K=O d)
  (r:Nat) (S:Value→Prop) (u:Value) (hm:a.eval m=.map (some r)) (hF:SSet w r d u S) (k:Value) (hx:a.eval x=k) (hk:IsKey d k) (hv:a.eval v=u)
  (h:∀ w',SSet w' r d u (fun x=>S x∨x=k)→MT w w' r→wpListIn F nF P ops Q rest (a.put o.dst undef) w'):wpListIn F nF P ops Q (o::rest) a w:=by
 refine wpListIn_plain hg fun K' HP=>?_
 obtain ⟨w',Ha,h1,h2⟩:=hF.update hT hK hk;unfold Oper.wpIn
 refine ⟨by simp[Oper.about,Hh],?_⟩
 rw[Oper.semAt_plain F _ _ (by rw[Hh];intro c K9;cases K9)]
 simp[execOp,Hh,hm,hx,hv,Ha,Result.andThen]
 exact HP _ _ (h w' h1 h2)
end
theorem SSet.moves {A B:World} {r n:Nat} {d:TypeDesc} {u:Value} {S:Value→Prop} (h:SSet A r d u S) (hm:Moves (zac (fun _ _=>False) n) A B) (hr:r<n):SSet B r d u S:=by
 obtain ⟨es,c,hb,h1⟩:=h
 refine ⟨es,c,hm.same _ _ hb ?_,h1⟩
 rintro (h | ⟨h,_⟩)
 ·exact h
 ·omega
theorem SSet.same {A B:World} {r:Nat} {d:TypeDesc} {u:Value} {S:Value→Prop} (h:SSet A r d u S) (e:B.heap[r]?=A.heap[r]?):SSet B r d u S:=by
 obtain ⟨es,c,hb,h1⟩:=h
 exact ⟨es,c,e.trans hb,h1⟩
theorem SSet.other {W:World} {r:Nat} {d:TypeDesc} {u:Value} {S:Value→Prop} (h:SSet W r d u S) {a:Addr} (ha:r≠a.block) {x:Value}:SSet (W.setCell a x) r d u S:=by
 obtain ⟨es,c,hb,h1⟩:=h
 exact ⟨es,c,(Pd W a x r ha).trans hb,h1⟩
def zaq (ks:List (Int×Int×Int)):List (List UInt8):=ks.filterMap fun x=>zaw x.1 x.2.1 x.2.2
theorem ziM (ks:List (Int×Int×Int)) (x:Int×Int×Int):zaq (ks++[x])=zaq ks++(zaw x.1 x.2.1 x.2.2).toList:=by
 unfold zaq;rw[List.filterMap_append]
 cases h:zaw x.1 x.2.1 x.2.2 <;> simp[h]
def KS (L:List (List UInt8)) (u:Value):Prop:=∃ n∈L,u=sv n
theorem zoC (w:World):(zeroValue 3).run R w=.ok (G H 0) w:=by kernel_rfl
theorem zjM (ks:List (Int×Int×Int)) {k:Nat} (h:k<ks.length):(zaM ks)[k*3]?=O (G Z ks[k].1)∧(zaM ks)[k*3+1]?=O (G H ks[k].2.1)∧(zaM ks)[k*3+2]?=O (G H ks[k].2.2):=by
 induction ks generalizing k with
 | nil=>simp at h
 | cons x ks ih =>
  have e:zaM (x::ks)=idC x++zaM ks:=rfl
  rw[e]
  cases k with
  | zero=>exact ⟨rfl,rfl,rfl⟩
  | succ k =>
   have h9:=ih (k:=k) (by simpa using h)
   have hl:(idC x).length=3:=rfl
   refine ⟨?_,?_,?_⟩
   ·rw[P1 (by rw[hl];omega),hl,show (k+1)*3-3=k*3 by omega];exact h9.1
   ·rw[P1 (by rw[hl];omega),hl,show (k+1)*3+1-3=k*3+1 by omega];exact h9.2.1
   ·rw[P1 (by rw[hl];omega),hl,show (k+1)*3+2-3=k*3+2 by omega];exact h9.2.2
structure ReI (w:World) (L:List (List UInt8)) (W:World):Prop where
 bx:Boxed W w.heap.size 102 (I none 0 0)
 mp:SSet W (w.heap.size+1) .string (G H 1) (KS L)
 bm:Boxed W (w.heap.size+1+1) 156 (.map (some (w.heap.size+1)))
 e:Ext w W
theorem ReI.ext {w W W':World} {L:List (List UInt8)} (h:ReI w L W) (hE:Ext W W'):ReI w L W':=⟨h.bx.kept (row:=none) (Pg hE none) (by simp),h.mp.ext hE,h.bm.kept (row:=none) (Pg hE none) (by simp),xT h.e hE⟩
theorem ztY {S:Prop} {n:Int} (h:(S∧n=1)∨(¬ S∧n=0)) (hs:S):n=1:=by
 rcases h with ⟨_,h⟩ | ⟨h,_⟩
 ·exact h
 ·exact absurd hs h
theorem zsT {S:Prop} {n:Int} (h:(S∧n=1)∨(¬ S∧n=0)) (hs:¬ S):n=0:=by
 rcases h with ⟨h,_⟩ | ⟨_,h⟩
 ·exact absurd h hs
 ·exact h
def zcQ (ks:List (Int×Int×Int)) (H6:List (Nat×List UInt8)):List (List UInt8):=(H6.map (·.2)).filter fun n=>!decide (n∈zaq ks)
theorem zpT (ks:List (Int×Int×Int)) (H6:List (Nat×List UInt8)) (j:Nat) (x:List UInt8):zcQ ks (H6++[(j,x)])=if x∈zaq ks then zcQ ks H6 else zcQ ks H6++[x]:=by
 unfold zcQ;rw[P4,List.filter_append]
 by_cases h:x∈zaq ks <;> simp[h]
theorem zkN:∀ (fs:List Fil) (k:Nat),(nmP k fs).map (·.2)=fs.map (·.1)
 | [],_=>rfl
 | p::fs,k=>by
  show _::(nmP (k+1) fs).map (·.2)=_
  rw[zkN fs (k+1)];rfl
theorem zrz (ks:List (Int×Int×Int)) (fs:List Fil):zcQ ks (nmP 0 fs)=zbi fs (zaq ks):=by
 unfold zcQ zbi;rw[zkN]
theorem zta (tmps:Array Value) (W:World) (b:Nat) (A:Option Addr) (n c:Nat) (h4:tmps.getD 4 undef=y (O ⟨b,0,U⟩)) (hc:W.cell? ⟨b,0,U⟩=O (I A n c)):(results Tryz.f58 tmps).run R W=.ok (I A n c) W:=by
 have K0:tmps[4]?.getD undef=y (O ⟨b,0,U⟩):=by simpa using h4
 simp[results,Tryz.results58,K0,hc,go_sem]
structure RrI (w:World) (ks:List (Int×Int×Int)) (n0:Nat) (H6:List (Nat×List UInt8)) (X:World):Prop where
 bx:∃ A c,Boxed X w.heap.size 102 (I A (zcQ ks H6).length c)∧X.ownsRow n0 9 1 (I A (zcQ ks H6).length c) (zcQ ks H6).length ((zcQ ks H6).map sv)
 mp:SSet X (w.heap.size+1) .string (G H 1) (KS (zaq ks))
 bm:Boxed X (w.heap.size+1+1) 156 (.map (some (w.heap.size+1)))
 e:Ext w X
theorem zdF {W:World} {base size m g:Nat} {e:TypeId} {xs:List Value} {v:Value} (h:W.ownsRow base e size v m xs) (hg:v.ownBlock=O g):base≤g∧∃ cs fr,W.heap[g]?=O (J cs e fr):=by
 rcases h.2 with ⟨rfl,_⟩ | ⟨g',cap,J7,rfl,hb,hh,_⟩
 ·cases hg
 ·cases hg
  exact ⟨hb,_,_,hh⟩
attribute [local go_sem] Oper.semAt_some in
theorem zqu (v:Value) (fs:List Fil) (vk:Value) (ks:List (Int×Int×Int)) (w:World) (hS:StW w) (hF:Fs w v fs) (hK:SlR w 3 vk ks.length (zaM ks)) (hl:fs.length≤1000000) (Jr:ks.length≤1000000) :
  Calls R 58 #[v,vk] w fun e w'=>∃ A c,e=.returned (I A (zbi fs (zaq ks)).length c)∧w'.ownsRow w.heap.size 9 1 (I A (zbi fs (zaq ks)).length c) (zbi fs (zaq ks)).length ((zbi fs (zaq ks)).map sv)∧Ext w w':=by
 obtain ⟨A,c,rfl,_,_⟩:=Fs.open_ hF;obtain ⟨B,e2,rfl,_,_⟩:=xO hK;have HS:=M hS;have HF:=M hF;have HY:=M hK;clear hF hK hS
 refine (callsIn_wd (ro:=none) (n:=9)).1 ?_
 refine callsIn_of_wp_marks Tryz.func58 rfl trivial ?_ rfl
 simp only[Tryz.ntmps58,List.size_toArray,xC,Pa,Nat.reduceAdd,Nat.reduceSub,Array.replicate_succ,Array.replicate_zero,List.push_toArray,List.append_toArray,xI,List.cons_append];have Jg:=@run_makeMap R
 gi_wp2
 clear Jg;obtain ⟨W0,Hg⟩:∃ W0,((w.alloc (J #[I none 0 0] 102)).alloc (.map #[] 0)).alloc (J #[.map (some (w.heap.size+1))] 156)=W0:=⟨_,rfl⟩
 have h0:ReI w [] W0:=by
  rw[←Hg];have a1:=Boxed.new w 102 (I none 0 0);have a2:=SSet.new (w.alloc (J #[I none 0 0] 102)) .string (G H 1);have a3:=Boxed.new ((w.alloc (J #[I none 0 0] 102)).alloc (.map #[] 0)) 156 (.map (some (w.heap.size+1)));rw[xS] at a2;rw[xS,xS] at a3
  exact ⟨(a1.alloc _).alloc _,(a2.ext (xA (xR _) _)).congr (fun k=>by simp[KS]),a3,xA (xA (xA (xR _) _) _) _⟩
 have HI:=M h0;rw[Hg];clear h0 Hg
 gi_loopw [15] (fun j W=>∃ k:Nat,j=G H k∧k≤ks.length∧Hid (ReI w (zaq (ks.take k)) W)) (fun j _=>ks.length+1-(intOf j).toNat)
 case atStart=>exact ⟨0,rfl,by omega,HI⟩
 case round =>
  clear HI;obtain ⟨k,rfl,Kb,HI⟩:=hrel
  by_cases hlt:k<ks.length
  ·obtain ⟨_,b,KD,rfl,hc⟩:=(SlR.ext HY.out HI.out.e).at_ (by omega)
   obtain ⟨x0,x1,x2⟩:=zjM ks hlt;have c0:=hc _ _ x0;have c1:=hc _ _ x1;have c2:=hc _ _ x2
   have Hb:zaq (ks.take (k+1))=zaq (ks.take k)++(zaw ks[k].1 ks[k].2.1 ks[k].2.2).toList:=by rw[P0 hlt,ziM]
   rw[←Nat.add_assoc] at c1 c2;clear hc x0 x1 x2
   generalize ks[k]=x at *
   obtain ⟨xk,xs,xf⟩:=x
   dsimp only at *
   have He:=M Hb;clear Hb
   have K4:Ext wr (wr.alloc (J #[G Z xk,G H xs,G H xf] 32)):=xA (xR _) _
   have HN:=M (zel xk xs xf _ ((HS.out.ext HI.out.e).ext K4));have Kq:=M K4;clear K4;obtain ⟨nm,KA⟩:∃ nm,zaw xk xs xf=nm:=⟨_,rfl⟩;rw[KA] at HN He;clear KA
   cases nm with
   | none =>
    unfold zlA at HN;simp only[Option.getD_none,Option.isSome_none,Bool.false_eq_true,if_false,sv] at HN
    gi_wp2_with (refine ⟨trivial,?_⟩;gi_at_call 50;refine (callsIn_wd.2 HN.out).mono ?_;rintro e w1 ⟨rfl,Hf⟩)
    have hX:=xT Kq.out Hf
    refine ⟨⟨k+1,by go_num,by omega,M ?_⟩,by simp[intOf];omega⟩
    rw[He.out];simp only[Option.toList_none,List.append_nil]
    exact HI.out.ext hX
   | some nm =>
    unfold zlA at HN;simp only[Option.getD_some,Option.isSome_some,if_true,sv] at HN
    gi_wp2_with (first
     | (refine ⟨trivial,?_⟩;gi_at_call 50;refine (callsIn_wd.2 HN.out).mono ?_;rintro e w1 ⟨rfl,Hf⟩;have Hw:=HI.out.ext (xT Kq.out Hf);have cb:=Hw.bm.cell)
     | (gi_at_mapUpdate;refine zhv rfl (.tmp 26) (.tmp 27) (.const (G H 1)) rfl Tryz.underlying156 Tryz.underlying9 (w.heap.size+1) _ (G H 1) rfl Hw.mp (sv nm) rfl trivial rfl ?_;intro w2 Jj Ke))
    refine ⟨⟨k+1,by go_num,by omega,M ?_⟩,by simp[intOf];omega⟩
    rw[He.out]
    refine ⟨(Ke.block _ (by omega)).trans Hw.bx,Jj.congr (fun u=>?_),(Ke.block _ (by omega)).trans Hw.bm,Ke.ext2 Hw.e (by omega)⟩
    simp only[KS,Option.toList_some,List.mem_append,List.mem_singleton]
    constructor
    ·rintro ⟨n,hn | rfl,rfl⟩
     ·exact .inl ⟨n,hn,rfl⟩
     ·exact .inr rfl
    ·rintro (⟨n,hn,rfl⟩ | rfl)
     ·exact ⟨n,.inl hn,rfl⟩
     ·exact ⟨nm,.inr rfl,rfl⟩
  ·obtain rfl:k=ks.length:=by omega
   have K1:=HI.out;rw[P2] at K1;have HI:=M K1;clear K1
   gi_wp2_with (refine ⟨trivial,?_⟩;gi_at_call 116;refine (callsIn_wd.2 (zjy _ _ _ _)).mono ?_;rintro e w' ⟨rfl,rfl⟩)
   have bB:=Boxed.new wr 22 (I A fs.length c)
   have J9:Ext wr (wr.alloc (J #[I A fs.length c] 22)):=xA (xR _) _
   have Hv:=HI.out.ext J9
   have Jf:wr.heap.size<(wr.alloc (J #[I A fs.length c] 22)).heap.size:=bB.lt
   have Ju:w.heap.size+2<wr.heap.size:=HI.out.bm.lt
   generalize wr.alloc (J #[I A fs.length c] 22)=w3 at *
   clear HI
   have h0:RrI w ks w3.heap.size [] w3:=⟨⟨none,0,Hv.bx,by simp[zcQ],.inl ⟨rfl,rfl⟩⟩,Hv.mp,Hv.bm,Hv.e⟩
   obtain ⟨i0,hi,Hn,Ho,Hp⟩:=info_parts zi8
   refine zcy (a:=⟨_,_⟩) rfl (enters_of Tryz.func176 (by kernel_rfl) rfl)
    (fun W1 hb hs=>zhG (fun k o=>o.isCells=true∧k≠w.heap.size∧k<w3.heap.size) w W1 _ fs HF.out (by omega) (fun q u hq=>Ext.cell (xT Hv.e hb) hq) wr.heap.size (bB.kept (row:=none) (Pg hb none) (by simp)) (fun o ho=>⟨ho,by omega,by omega⟩) (fun k o hk ho=>⟨ho,by omega,by omega⟩))
    (fun k o h=>h.elim) (fun k o h=>h.1) (fun x av W h=>by rw[h];rfl)
    (RrI w ks w3.heap.size) (fun _ _ _=>False) ?hI (fun _ _ _ _ h _=>h) h0
    (fun x a' W=>∃ u7 u8 u9 KE KF KH KI KJ KK KL KM KN KO KP KQ:Value,a'=⟨#[I A fs.length c,I B ks.length e2,undef,undef,y (O ⟨w.heap.size,0,U⟩),y (O ⟨w.heap.size+1+1,0,U⟩),undef,u7,u8,u9,undef,sv x.2,.map (some (w.heap.size+1)),I B ks.length e2,G H ks.length,G H ks.length,z false,KE,KF,KH,KI,KJ,KK,KL,KM,KN,KO,KP,KQ,I A fs.length c,.func (.func 176) #[] #[y (O ⟨wr.heap.size,0,U⟩)],G H x.1,sv x.2,undef,undef,undef,undef,undef,undef,undef,undef,undef],[]⟩)
    (fun _ _ _ _ h _=>h) ?assign ?body ?done ?stop
   case hI =>
    rintro s X Y ⟨⟨A1,c1,hb,ho⟩,Hl,Hk,hE⟩ hm
    refine ⟨⟨A1,c1,hm.boxed hb ?_,hm.ownsRow ho ?_⟩,Hl.moves hm (by omega),hm.boxed Hk ?_,hm.belowOf hE ?_ (by omega)⟩
    ·rintro (h | h)
     ·exact h
     ·cases h.2
    ·intro k J7 _
     rintro (h | h)
     ·exact h
     ·cases h.2
    ·rintro (h | h)
     ·exact h
     ·cases h.2
    ·rintro k o hk (h | h)
     ·exact h
     ·have:=h.1;omega
   case assign =>
    rintro l' H6 x Kj W av K' hx hi Jk rfl hK
    simp only[sv] at *
    gi_wp2
    exact hK _ _ Kept.refl hi ⟨_,_,_,_,_,_,_,_,_,_,_,_,_,_,_,rfl⟩
   case body =>
    rintro l' H6 ⟨j,x⟩ Kj a' W hx Jq hr ⟨⟨A1,c1,hb,ho⟩,Hl,Hk,hE⟩ Jk ⟨u7,u8,u9,KE,KF,KH,KI,KJ,KK,KL,KM,KN,KO,KP,KQ,rfl⟩
    dsimp only at *
    have cb:=hb.cell;have fb:=hb.frozen;have cm:=Hk.cell
    have Js:(zcQ ks H6).length+1≤1000001:=by
     have h9:=congrArg List.length hx;rw[xL,xC,zor] at h9
     have:(zcQ ks H6).length≤H6.length:=by unfold zcQ;exact Pi (P8 _ _) (Pj (P5 _))
     omega
    have H4:=zpT ks H6 j x
    by_cases he:x∈zaq ks
    ·rw[if_pos he] at H4
     have Hy:KS (zaq ks) (sv x):=⟨x,he,rfl⟩
     have HH:=M H4;have HM:=M Hl;have HW:=M Hy;clear H4 he Hy Hl
     simp only[sv] at *
     gi_wp2_with (gi_at_lookup;refine zek rfl (.tmp 33) (.tmp 34) rfl Tryz.underlying156 Tryz.underlying9 (zoC _) (w.heap.size+1) _ rfl HM.out (sv x) rfl trivial ?_;intro n hn;have hn:=ztY hn HW.out;subst hn)
     refine ⟨Kept.refl,?_⟩
     refine ⟨?_,HM.out,Hk,hE⟩
     rw[HH.out]
     exact ⟨A1,c1,hb,ho⟩
    ·rw[if_neg he] at H4
     have Hy:¬ KS (zaq ks) (sv x):=by
      rintro ⟨n,hn,h9⟩
      exact he (zrL h9 ▸ hn)
     have HH:=M H4;have HM:=M Hl;have HW:=M Hy;have HO:=M ho;have KV:=M hb;have KU:=M Hk;have HE:=M hE;clear H4 he Hy Hl ho hb Hk hE
     generalize hN:zcQ ks H6=N at *
     simp only[sv] at *
     have hX:Ext W (W.alloc (J #[sv x] 9)):=xA (xR _) _
     gi_wp2_with (first
      | (gi_at_lookup;refine zek rfl (.tmp 33) (.tmp 34) rfl Tryz.underlying156 Tryz.underlying9 (zoC _) (w.heap.size+1) _ rfl HM.out (sv x) rfl trivial ?_;intro n hn;have hn:=zsT hn HW.out;subst hn)
      | (gi_at_builtin;refine zb9 _ rfl (.tmp 37) (.tmp 39) 102 rfl w3.heap.size 9 i0 _ 1 16 Tryz.underlying102 hi Hn Ho Hp rfl (by decide) _ N.length (N.map sv) rfl (zab HO.out hX) _ 1 [sv x] rfl (zda W [sv x] 9 1 rfl rfl) (zmo [x]) (by unfold maxLen;omega) (by omega) (by simp;omega) ?_;intro v3 W3 Hu Ht;obtain ⟨A3,c3,rfl,_,_⟩:=xO (xW Hu);have b3:=((KV.out.alloc (J #[sv x] 9)).kept Ht (fun e=>by have:=(zdF HO.out e.symm).1;omega));have Jo:=b3.cell;have Jp:=b3.frozen))
     have Ji:=zb3 (j:=0) b3 (by decide:(102:TypeId)≠9) Hu (I A3 (N.length+1) c3)
     have HL:Ext w W3:=Pf (xT HE.out hX) (zaf (zab HO.out hX) (by omega)) Ht
     have Kd:w.heap.size+1<(W.alloc (J #[V ⟨x.toArray⟩] 9)).heap.size:=by rw[xS];have:=HM.out.lt;omega
     have Hz:∀ k,k<w3.heap.size→some k≠(Value.slice A1 N.length c1).ownBlock:=fun k hk e=>by have:=(zdF HO.out e.symm).1;omega
     have Kf:SSet (W3.setCell ⟨w.heap.size,0,U⟩ (I A3 (N.length+1) c3)) (w.heap.size+1) .string (G H 1) (KS (zaq ks)) :=
      SSet.other (SSet.same (SSet.ext HM.out hX) (Ht.block _ Kd (Hz _ (by omega)))) (by simp)
     refine ⟨((Kept.refl.alloc _).grown Ht (fun k o ek hk=>?_)).setCell (fun o hk _=>?_) _,⟨A3,c3,?_,?_⟩,Kf,?_,Pe (p:=⟨w.heap.size,0,U⟩) HL (xN _) _⟩
     ·have:=(zdF HO.out ek).1
      rintro (⟨_,_,h⟩ | ⟨_,h⟩)
      ·omega
      ·obtain ⟨_,cs,fr,Ky⟩:=zdF HO.out ek
       rw[hk] at Ky
       cases Ky
       cases h
     ·rintro (⟨_,h,_⟩ | ⟨h,_⟩)
      ·exact h rfl
      ·dsimp only at h;omega
     ·rw[HH.out,xL]
      exact b3.set _
     ·rw[HH.out,xL,P4]
      exact Ji
     ·exact Blk.other ((KU.out.alloc _).kept Ht (Hz _ (by omega))) (by omega:w.heap.size+1+1≠w.heap.size) 0 _
   case done =>
    rintro D W hD ⟨⟨A1,c1,hb,ho⟩,Hl,Hk,hE⟩ hK;have hc:=hb.cell;have hf:=hb.frozen
    have K6:zcQ ks (nmP 0 fs)=zbi fs (zaq ks):=zrz ks fs
    rw[K6] at hb ho hc
    gi_wp2
    have K2:=zaA hK rfl ⟨w.heap.size,0,U⟩ (I A1 (zbi fs (zaq ks)).length c1);have Jd:=zcL (hb.set (I A1 (zbi fs (zaq ks)).length c1)).cell K2 rfl (.deferred none);have Jh:=zb3 (j:=0) hb (by decide:(102:TypeId)≠9) ho (I A1 (zbi fs (zaq ks)).length c1)
    have Jl:w.heap.size≤w3.heap.size:=by omega
    refine zbO K2 (I A1 (zbi fs (zaq ks)).length c1) (zta _ _ _ A1 _ c1 rfl Jd) ⟨A1,c1,rfl,zaf (zjQ Jh K2 rfl (.deferred none)) Jl,?_⟩
    exact zaN (Pe (p:=⟨w.heap.size,0,U⟩) hE (xN _) _) (by omega) _
   case stop =>
    rintro D cd H6 W _ _ h _
    exact h.elim
open Go.RowKit Go.Mv
theorem ziI (n:List UInt8):∀ fs:List Fil,zbc fs (some n)=zaj n fs
 | []=>rfl
 | p::fs=>by rw[znp,zaj,ziI n fs]
open Go.RowKit Go.Mv Go.Shelf
theorem zsD (tmps:Array Value) (W:World) (b:Nat) (cs:Array Value) (e:Value) (h4:tmps.getD 4 undef=y (O ⟨b,0,U⟩)) (h3:tmps.getD 5 undef=e) (hb:Blk W b 25 cs) (hs:cs.size=5):(results Tryz.f20 tmps).run R W=.ok (.tuple #[.agg cs,e]) W:=by
 have K0:tmps[4]?.getD undef=y (O ⟨b,0,U⟩):=by simpa using h4
 have J8:tmps[5]?.getD undef=e:=by simpa using h3
 have hl:=hb.load (P:=R) zc3 rfl (by rw[hs];kernel_rfl)
 simp[results,Tryz.results20,K0,J8,asAddr,hl,Sem.run_bind,Sem.run_pure,Result.andThen_ok]
theorem zn7 (ns:List (List UInt8)):zaW (ns.map za0)=0:=by
 induction ns with
 | nil=>rfl
 | cons n ns ih=>rw[Pc,zcm,ih];rfl
theorem zjf (l:List Fil) (ks:List (List UInt8)):(zbi l ks).length≤l.length:=by
 unfold zbi
 exact Pi (P8 _ _) (Pj (P5 _))
theorem zhD (v:Value) (d:Dk) (n:Nat) (vk:Value) (ks:List (Int×Int×Int)) (w:World) (hS:StW w) (hD:DkV w v d) (hs:Sz n d) (hK:SlR w 3 vk ks.length (zaM ks)) (Kb:ks.length≤1000000) (Kc:n+n≤1000000) :
  Calls R 20 #[v,vk] w fun e w'=>∃ u,e=.returned (.tuple #[u,G H (zeB d (zaq ks)).2])∧OwnD w' w.heap.size u (zeB d (zaq ks)).1∧Ext w w':=by
 obtain ⟨vf,vq,rfl,hF,hQ⟩:=hD;obtain ⟨A,c,rfl,_,_⟩:=Fs.open_ hF;obtain ⟨B,e2,rfl,_,_⟩:=Qs.open_ hQ;obtain ⟨C,c2,rfl,_,_⟩:=xO hK;obtain ⟨W0,Hg⟩:∃ W0,(w.alloc (J #[I A d.fs.length c,I B d.q.length e2,G H d.quota,G H d.fuse,z d.dead] 25)).alloc (J #[I none 0 0,I none 0 0,G H 0,G H 0,z false] 25)=W0:=⟨_,rfl⟩
 have Hs:Ext w W0:=by rw[←Hg];exact xA (xA (xR _) _) _
 have h0:Blk W0 w.heap.size 25 (zan A d.fs.length c B d.q.length e2 d.quota d.fuse d.dead):=by rw[←Hg];exact (Blk.new w _ _).alloc _
 have h2:Blk W0 (w.heap.size+1) 25 (zan none 0 0 none 0 0 0 0 false):=by
  rw[←Hg]
  have:=Blk.new (w.alloc (J #[I A d.fs.length c,I B d.q.length e2,G H d.quota,G H d.fuse,z d.dead] 25)) 25 #[I none 0 0,I none 0 0,G H 0,G H 0,z false]
  rwa [xS] at this
 have Kl:=M Hs;have H0:=M h0;have H2:=M h2
 have HD:=M (show DkV W0 (.agg #[I A d.fs.length c,I B d.q.length e2,G H d.quota,G H d.fuse,z d.dead]) d from ⟨_,_,rfl,hF.ext Hs,hQ.ext Hs⟩)
 have J5:=M (hS.ext Hs);have HY:=M (SlR.ext hK Hs);obtain ⟨g0,g1,g2,g3,g4⟩:=zaa h0;have HZ:=M hs;have Kn:=M Kc;have KX:=M Kb;have Kz:=zfg d;have Kg:=zjf d.now (zaq ks);have Jm:=hs.l;obtain ⟨T,hT⟩:∃ T,zeB d (zaq ks)=T:=⟨_,rfl⟩;rw[hT];unfold zeB at hT;have HT:=M hT
 have KY:=M (show d.now.length≤1000000 by omega)
 have KZ:=M (show (zbi d.now (zaq ks)).length≤n by omega)
 clear h0 h2 hF hQ Hs hs hS hK Kc Kb Kz Kg Jm hT;obtain ⟨i0,hi,Hn,Ho,Hp⟩:=info_parts zer
 go_enter Tryz.func20,Tryz.ntmps20
 go_wp2_with fail
 refine (zlM _ d n _ HD.out (by have:=Kn.out;omega) HZ.out).mono ?_
 rintro e w1 ⟨A1,c1,rfl,K3,Hf⟩;clear Hg;have HG:=zqu _ d.now _ ks w1 (J5.out.ext Hf) K3.fs (SlR.ext HY.out Hf) KY.out KX.out;have J2:=M K3;have Km:=M Hf;have HG:=M HG;clear K3 Hf;go_wp2_with fail
 refine HG.out.mono ?_
 rintro e w2 ⟨A2,k2,rfl,Kt,Ks⟩;clear g0 g1 g2 g3 g4 HG J2
 generalize hN:zbi d.now (zaq ks)=N at *
 have HJ:=M (xT Km.out Ks);have J3:=M Kt;clear Kt Ks Km
 go_frame
 go_wp2_with fail
 go_loopw [6,14] (fun v6 Kk wr=>∃ k:Nat,k≤N.length∧Kk=G H k∧(∃ A' c',v6=I A' k c')∧Hid (OwnQ wr w2.heap.size v6 ((N.take k).map za0))∧Hid (Ext w2 wr)) (fun _ Kk _=>N.length-(intOf Kk).toNat)
 case atStart=>exact ⟨0,Ph _,rfl,⟨_,_,rfl⟩,OwnX.nil _ _ _,xR _⟩
 case round =>
  obtain ⟨k,hk,rfl,⟨A',c',rfl⟩,HO,HK⟩:=hrel;have Kz:=KZ.out;have Kc:=Kn.out
  by_cases hlt:k<N.length
  ·obtain ⟨_,b,KD,rfl,hc⟩:=SlR.at_ (SlR.ext (xW J3.out) HK.out) (by omega)
   have Jc:=hc k (sv N[k]) (by rw[List.getElem?_map,P3 hlt];rfl)
   have Hb:(N.take (k+1)).map za0=(N.take k).map za0++[za0 N[k]]:=by rw[P0 hlt,P4];rfl
   have H3:((N.take k).map za0).length=k:=by rw[P5,List.length_take];omega
   have He:=M Hb;have Hi:=M H3;clear hc Hb H3
   generalize N[k]=x at *
   simp only[sv,Nat.mul_one] at Jc
   have Hj:Ext wr (wr.alloc (J #[G Z 4,V ⟨x.toArray⟩,V ⟨#[]⟩,I none 0 0] 98)):=xA (xR _) _
   have Jt:w2.heap.size≤wr.heap.size:=HK.out.size
   have J4:=M (OwnX.ext zbt HO.out Hj)
   have Kv:∀ g,(Value.slice A' k c').ownBlock=O g→∀ u∈[G Z 4,V ⟨x.toArray⟩,V ⟨#[]⟩,I none 0 0],zaZ g u:=by
    intro g _ u hu;simp only[Pb,P9,or_false] at hu
    rcases hu with rfl | rfl | rfl | rfl
    ·exact zc2 _ _ _
    ·exact zaB _ x
    ·exact zaB _ []
    ·intro b KD n c _ h
     cases h
   have KR:=M Kv;have HV:=M Hj;clear Kv Hj
   go_wp2_with (at_builtin;refine zcx zbt rfl (.tmp 18) (.tmp 21) 23 rfl 98 i0 _ 64 Tryz.underlying23 hi Hn Ho Hp rfl (by decide) (by decide) w2.heap.size _ ((N.take k).map za0) rfl J4.out _ [za0 x] [G Z 4,V ⟨x.toArray⟩,V ⟨#[]⟩,I none 0 0] rfl (zda wr [G Z 4,V ⟨x.toArray⟩,V ⟨#[]⟩,I none 0 0] 98 4 rfl rfl) (zdO (o:=za0 x) (SlR.nil _ 1)) (by simp) KR.out (by rw[Hi.out];simp;omega) (by rw[xS];omega) ?_;intro A3 c3 w3 Hu Ja Ht;rw[←He.out,Hi.out] at Hu;simp only[Hi.out,xC,Pa,Nat.zero_add] at Hu ⊢;have Jb:=Ja w2 (xT HK.out HV.out) (xN _))
   exact ⟨⟨k+1,by omega,by go_num,⟨_,_,rfl⟩,Hu,Jb⟩,by simp[intOf];omega⟩
  ·obtain rfl:k=N.length:=by omega
   have hO:=HO.out;rw[P2] at hO;have HO:=M hO;clear hO;have HQ:=xT HJ.out HK.out;obtain ⟨g0,g1,g2,g3,g4⟩:=zaa (H0.out.ext HQ);have hC:=zhC _ d n false _ (N.map za0) wr (HD.out.ext HQ) HZ.out HO.out.qs (by rw[P5,zn7];omega);rw[HT.out] at hC;have HC:=M hC;have Kr:=M HQ;clear hC HQ;go_wp2_with fail
   refine HC.out.mono ?_
   rintro e w4 ⟨u,rfl,⟨A5,k5,B5,e5,rfl,of,oq⟩,HL⟩;have K5:=xT Kr.out HL;have HR:=H2.out.ext K5;obtain ⟨f0,f1,f2,f3,f4⟩:=zam HR;obtain ⟨d0,d1,d2,d3,d4⟩:=zaa HR;have Q1:=M HR;have Q2:=M of;have Q3:=M oq;have Q4:=M (xT Kl.out K5);have Q5:=M (xT Kl.out Kr.out).size;clear HR of oq K5 HL g0 g1 g2 g3 g4;go_wp2_with fail
   refine bodyPost_ret (zsD _ _ _ _ (G H T.2) rfl rfl (zal Q1.out _ _ _ _ _) rfl) rfl ?_
   exact ⟨_,rfl,⟨_,_,_,_,rfl,OwnF.box1 (OwnX.base Q2.out Q5.out) Q1.out,OwnQ.box1 (OwnX.base Q3.out Q5.out) Q1.out⟩,zae Q4.out (by omega) _ _ _ _ _⟩
theorem mcMKeepa0 {P:Prop} (h:P:=by
 generalize sg[k]=s at *
 have X1:Ext wr (wr.alloc (J #[G H s.seq,G H s.fmt,G H s.first,G H s.count] 36)):=xA (xR _) _
 have X2:Ext wr ((wr.alloc (J #[G H s.seq,G H s.fmt,G H s.first,G H s.count] 36)).alloc (J #[G Z 3,G H s.seq,G H s.fmt] 32)):=xA X1 _
 have hn:=zeO (wr.alloc (J #[G H s.seq,G H s.fmt,G H s.first,G H s.count] 36)) (3,s.seq,s.fmt);rw[xS] at hn;have HN:=M (xW hn);have Kp:=M (zab H7.out X2);have HJ:=M (xT H5.out X2);have Kx:=Blk.new wr 36 #[G H s.seq,G H s.fmt,G H s.first,G H s.count];obtain ⟨x0,x1,x2,x3⟩:=zaK Kx;clear X1 X2 hn Kx
 go_wp2_with (at_builtin;refine zdU rfl (.tmp 29) (.tmp 35) rfl w.heap.size _ L rfl Kp.out _ (3,s.seq,s.fmt) rfl HN.out (by rw[Ko.out];omega) HJ.out.size ?_;intro A1 Jn w1 H9 Hd)
 have J6:=M (Pf HJ.out Kp.out Hd);have J0:=M H9;clear H9 Hd c0 c1 c2 c3 x0 x1 x2 x3;go_wp2_with fail
 go_roundw
 case rel=>exact ⟨k+1,by omega,by go_num,by rw[He.out];exact J0,J6⟩
 case measure=>simp[intOf];omega):P:=h
theorem zhB (m:Mf) (v:Value) (w:World) (hS:Sgs w v m.segs) (hl:m.segs.length≤1000000) :
  Calls R 61 #[.agg #[G H m.next,G H m.term,G H m.vote,G H m.sq,G H m.sf,v]] w fun e w'=>∃ v',e=.returned v'∧zde w' w.heap.size v' (zb4 m)∧Ext w w':=by
 obtain ⟨A,c,rfl,_,_⟩:=hS.open_;have HS:=M hS;clear hS;obtain ⟨nx,tm,vt,sq,sf,sg⟩:=m
 dsimp only at *
 have hb:=Blk.new w 30 #[G H nx,G H tm,G H vt,G H sq,G H sf,I A sg.length c]
 have hX:Ext w ((w.alloc (J #[G H nx,G H tm,G H vt,G H sq,G H sf,I A sg.length c] 30)).alloc (J #[G Z 1,G H 0,G H 0] 32)):=xA (xA (xR _) _) _
 have Hc:Blk ((w.alloc (J #[G H nx,G H tm,G H vt,G H sq,G H sf,I A sg.length c] 30)).alloc (J #[G Z 1,G H 0,G H 0] 32)) w.heap.size 30 #[G H nx,G H tm,G H vt,G H sq,G H sf,I A sg.length c]:=hb.alloc _
 have Hm:zde ((w.alloc (J #[G H nx,G H tm,G H vt,G H sq,G H sf,I A sg.length c] 30)).alloc (J #[G Z 1,G H 0,G H 0] 32)) w.heap.size (I (O ⟨w.heap.size+1,0,U⟩) 1 1) [(1,0,0)]:=by
  have:=zeO (w.alloc (J #[G H nx,G H tm,G H vt,G H sq,G H sf,I A sg.length c] 30)) (1,0,0)
  rw[xS] at this
  exact zaf this (Pk _)
 obtain ⟨m0,m1,m2,m3,m4,m5⟩:=zag Hc;have HX:=M hX;have HB:=M Hc;have HO:=M Hm;obtain ⟨W1,Ku⟩:∃ W1,(w.alloc (J #[G H nx,G H tm,G H vt,G H sq,G H sf,I A sg.length c] 30)).alloc (J #[G Z 1,G H 0,G H 0] 32)=W1:=⟨_,rfl⟩;clear hb hX Hc Hm
 by_cases hq:sq=0
 ·subst hq
  have H8:zb4 ⟨nx,tm,vt,0,sf,sg⟩=[(1,0,0)]++sg.map zaU:=by unfold zb4 zg0;rw[if_pos rfl]
  rw[H8];clear H8 Ku
  go_enter Tryz.func61,Tryz.ntmps61
  go_wp2_with fail;clear m0 m1 m2 m3 m4 m5
  go_loopw [3,25] (fun v3 Hr wr=>∃ k:Nat,k≤sg.length∧Hr=G H k∧Hid (zde wr w.heap.size v3 ([(1,0,0)]++(sg.take k).map zaU))∧Hid (Ext w wr)) (fun _ Hr _=>sg.length-(intOf Hr).toNat)
  case atStart=>exact ⟨0,Ph _,rfl,HO,HX⟩
  case round =>
   obtain ⟨k,hk,rfl,H7,H5⟩:=hrel;obtain ⟨Ao,co,rfl,_,_⟩:=xO (xW H7.out)
   by_cases hlt:k<sg.length
   ·have H3:([(1,0,0)]++(sg.take k).map zaU).length=k+1:=by simp;omega
    obtain ⟨_,bs,of,rfl,H1⟩:=Sgs.at_ HS.out (by omega);obtain ⟨d0,d1,d2,d3⟩:=H1 k hlt;have c0:=H5.out.cell d0;have c1:=H5.out.cell d1;have c2:=H5.out.cell d2;have c3:=H5.out.cell d3
    have Hb:[(1,0,0)]++(sg.take (k+1)).map zaU=([(1,0,0)]++(sg.take k).map zaU)++[zaU sg[k]]:=by rw[P0 hlt,P4,P6];rfl
    have He:=M Hb;have Ko:=M H3;clear H1 d0 d1 d2 d3 Hb H3
    generalize [(1,0,0)]++(sg.take k).map zaU=L at *
    exact mcMKeepa0
   ·obtain rfl:k=sg.length:=by omega
    have ek:[(1,0,0)]++(sg.take sg.length).map zaU=[(1,0,0)]++sg.map zaU:=by rw[P2]
    have EK:=M ek;clear ek;go_wp2_with fail;go_ret
    refine ⟨_,rfl,?_,H5.out⟩
    show zde _ _ _ ([(1,0,0)]++sg.map zaU)
    rw[←EK.out]
    exact H7.out
 ·have H8:zb4 ⟨nx,tm,vt,sq,sf,sg⟩=[(1,0,0),(4,sq,sf)]++sg.map zaU:=by unfold zb4 zg0;rw[if_neg hq]
  rw[H8];have hn:=zeO ((w.alloc (J #[G H nx,G H tm,G H vt,G H sq,G H sf,I A sg.length c] 30)).alloc (J #[G Z 1,G H 0,G H 0] 32)) (4,sq,sf)
  have X1:Ext ((w.alloc (J #[G H nx,G H tm,G H vt,G H sq,G H sf,I A sg.length c] 30)).alloc (J #[G Z 1,G H 0,G H 0] 32)) (((w.alloc (J #[G H nx,G H tm,G H vt,G H sq,G H sf,I A sg.length c] 30)).alloc (J #[G Z 1,G H 0,G H 0] 32)).alloc (J #[G Z 4,G H sq,G H sf] 32)):=xA (xR _) _
  replace HX:=M (xT HX.out X1)
  replace HB:=M (HB.out.ext X1)
  replace HO:=M (zab HO.out X1)
  rw[xS,xS] at hn;have HN:=M (xW hn);have Hq:=M hq;clear H8 hn X1 Ku
  go_enter Tryz.func61,Tryz.ntmps61
  go_wp2_with (at_builtin;refine zdU rfl (.tmp 12) (.tmp 20) rfl w.heap.size _ [(1,0,0)] rfl HO.out _ (4,sq,sf) rfl HN.out (by decide) HX.out.size ?_;intro A1 c1 w1 H9 Hd;obtain ⟨q0,q1,q2,q3,q4,q5⟩:=zag (HB.out.kept Hd (HB.out.not_row (by decide) HO.out)))
  replace HX:=M (Pf HX.out HO.out Hd)
  replace HO:=M H9
  clear m0 m1 m2 m3 m4 m5 q0 q1 q2 q3 q4 q5 H9 Hd HN HB
  go_loopw [3,25] (fun v3 Hr wr=>∃ k:Nat,k≤sg.length∧Hr=G H k∧Hid (zde wr w.heap.size v3 ([(1,0,0),(4,sq,sf)]++(sg.take k).map zaU))∧Hid (Ext w wr)) (fun _ Hr _=>sg.length-(intOf Hr).toNat)
  case atStart=>exact ⟨0,Ph _,rfl,HO,HX⟩
  case round =>
   obtain ⟨k,hk,rfl,H7,H5⟩:=hrel;obtain ⟨Ao,co,rfl,_,_⟩:=xO (xW H7.out)
   by_cases hlt:k<sg.length
   ·have H3:([(1,0,0),(4,sq,sf)]++(sg.take k).map zaU).length=k+2:=by simp;omega
    obtain ⟨_,bs,of,rfl,H1⟩:=Sgs.at_ HS.out (by omega);obtain ⟨d0,d1,d2,d3⟩:=H1 k hlt;have c0:=H5.out.cell d0;have c1:=H5.out.cell d1;have c2:=H5.out.cell d2;have c3:=H5.out.cell d3
    have Hb:[(1,0,0),(4,sq,sf)]++(sg.take (k+1)).map zaU=([(1,0,0),(4,sq,sf)]++(sg.take k).map zaU)++[zaU sg[k]]:=by rw[P0 hlt,P4,P6];rfl
    have He:=M Hb;have Ko:=M H3;clear H1 d0 d1 d2 d3 Hb H3
    generalize [(1,0,0),(4,sq,sf)]++(sg.take k).map zaU=L at *
    exact mcMKeepa0
   ·obtain rfl:k=sg.length:=by omega
    have ek:[(1,0,0),(4,sq,sf)]++(sg.take sg.length).map zaU=[(1,0,0),(4,sq,sf)]++sg.map zaU:=by rw[P2]
    have EK:=M ek;clear ek;go_wp2_with fail;go_ret
    refine ⟨_,rfl,?_,H5.out⟩
    show zde _ _ _ ([(1,0,0),(4,sq,sf)]++sg.map zaU)
    rw[←EK.out]
    exact H7.out
theorem znN (n:List UInt8) (fs:List Fil):(za4 fs n = -1∧zaj n fs=none)∨∃ (k:Nat) (h:k<fs.length),za4 fs n=(k:Int)∧fs[k].1=n∧zaj n fs=O fs[k].2:=by
 rw[←ziI]
 have hb:zbc fs (some n)=if za4 fs n<0 then none else (fs[(za4 fs n).toNat]?).map (·.2):=rfl
 rw[hb]
 have hp:za4 fs n=match fs.findIdx? (fun f=>f.1==n) with | none=>-1 | some i=>(i:Int):=rfl
 cases h:fs.findIdx? (fun f=>f.1==n) with
 | none =>
  rw[h] at hp;dsimp only at hp;rw[hp]
  exact .inl ⟨rfl,by simp⟩
 | some k =>
  obtain ⟨hk,h1,h2⟩:=List.findIdx?_eq_some_iff_getElem.1 h;rw[h] at hp;dsimp only at hp;rw[hp]
  refine .inr ⟨k,hk,rfl,by simpa using h1,?_⟩
  clear hp hb h
  have H8:¬ (((k:Nat):Int)<0):=Int.not_lt.2 (Int.natCast_nonneg k)
  rw[if_neg H8]
  have e:((k:Nat):Int).toNat=k:=Int.toNat_natCast k
  rw[e,P3 hk];rfl
end Go.Proofs.YteggfecbjgbndaaGreatDoor
