/- Merged: SwapP NRest MPut ReadsP -/
import Derived.Test.YtgonhdeochgkoaaGreatDoorZt20
import Derived.Test.YtgonhdeochgkoaaGreatDoorZt23
import Derived.Test.YtgonhdeochgkoaaGreatDoorZt27
set_option linter.all false
set_option maxHeartbeats 8000000
set_option maxRecDepth 100000
namespace Go.Proofs.YtgonhdeochgkoaaGreatDoor
open Go.RowKit Go.Mv
def zaH (l:List Fil) (ks:List (List UInt8)):List (List UInt8):=(l.map (·.1)).filter fun n=>!decide (n∈ks)
def zb1 (d:Dk) (ks:List (List UInt8)):Dk×Int:=zaF false d ((zaH d.now ks).map zbb)
def zdL (d:Dk) (n b:List UInt8):Dk×Int:=zaF true d [za3 n,za6 n b]
def zaZ (n t:List UInt8):Oq:=⟨3,n,t,[]⟩
def zbd:List UInt8:=[77,46,110,101,119]
def zcg:List UInt8:=[77]
def zck (d:Dk) (b:List UInt8) (ks:List (List UInt8)):Dk×Int :=
 if (zdL d zbd b).2≠0 then zdL d zbd b else
 if (zaF true (zdL d zbd b).1 [zaZ zbd zcg]).2≠0 then zaF true (zdL d zbd b).1 [zaZ zbd zcg] else
 zb1 (zaF true (zdL d zbd b).1 [zaZ zbd zcg]).1 ks
open Go.RowKit Go.Mv Go.Shelf Go.MapKept
section
variable {P:Program} {T K E:TypeId} {d:TypeDesc} {F:Fence} {nF:Nat} {w:World} {ops:Array Oper} {rest:List Oper} {o:Oper} {a:Act} {Q:Exit→Act→World→Prop}
theorem zeL (hg:o.guard=none) (m x:Operand) (hop:o.op=Op.lookup T m x false) (hT:P.underlying T=some (.map K E)) (hK:P.underlying K=some d) (hz:(zeroValue E).run P w=.ok (.int .i64 0) w)
  (r:Nat) (S:Value→Prop) (hm:a.eval m=.map (some r)) (hF:SSet w r d (.int .i64 1) S) (k:Value) (hx:a.eval x=k) (hk:IsKey d k)
  (h:∀ n:Int,((S k∧n=1)∨(¬ S k∧n=0))→wpListIn F nF P ops Q rest (a.put o.dst (.int .i64 n)) w):wpListIn F nF P ops Q (o::rest) a w:=by
 refine wpListIn_plain hg fun K' hK'=>?_
 unfold Oper.wpIn
 refine ⟨by simp[Oper.about,hop],?_⟩
 rw[Oper.semAt_plain F _ _ (by rw[hop];intro c hc';cases hc')]
 rcases hF.lookup hT hK hk hz with ⟨h1,hrun⟩ | ⟨h1,hrun⟩
 ·simp[execOp,hop,hm,hx,hrun,Result.andThen]
  exact hK' _ _ (h 1 (.inl ⟨h1,rfl⟩))
 ·simp[execOp,hop,hm,hx,hrun,Result.andThen]
  exact hK' _ _ (h 0 (.inr ⟨h1,rfl⟩))
theorem zh8 (hg:o.guard=none) (m x v:Operand) (hop:o.op=Op.mapUpdate T m x v) (hT:P.underlying T=some (.map K E)) (hK:P.underlying K=some d)
  (r:Nat) (S:Value→Prop) (u:Value) (hm:a.eval m=.map (some r)) (hF:SSet w r d u S) (k:Value) (hx:a.eval x=k) (hk:IsKey d k) (hv:a.eval v=u)
  (h:∀ w',SSet w' r d u (fun x=>S x∨x=k)→MT w w' r→wpListIn F nF P ops Q rest (a.put o.dst undef) w'):wpListIn F nF P ops Q (o::rest) a w:=by
 refine wpListIn_plain hg fun K' hK'=>?_
 obtain ⟨w',hrun,h1,h2⟩:=hF.update hT hK hk;unfold Oper.wpIn
 refine ⟨by simp[Oper.about,hop],?_⟩
 rw[Oper.semAt_plain F _ _ (by rw[hop];intro c hc';cases hc')]
 simp[execOp,hop,hm,hx,hv,hrun,Result.andThen]
 exact hK' _ _ (h w' h1 h2)
end
theorem SSet.moves {A B:World} {r n:Nat} {d:TypeDesc} {u:Value} {S:Value→Prop} (h:SSet A r d u S) (hm:Moves (zab (fun _ _=>False) n) A B) (hr:r<n):SSet B r d u S:=by
 obtain ⟨es,c,hb,h1⟩:=h
 refine ⟨es,c,hm.same _ _ hb ?_,h1⟩
 rintro (h | ⟨h,_⟩)
 ·exact h
 ·omega
theorem SSet.same {A B:World} {r:Nat} {d:TypeDesc} {u:Value} {S:Value→Prop} (h:SSet A r d u S) (e:B.heap[r]?=A.heap[r]?):SSet B r d u S:=by
 obtain ⟨es,c,hb,h1⟩:=h
 exact ⟨es,c,e.trans hb,h1⟩
theorem SSet.other {W:World} {r:Nat} {d:TypeDesc} {u:Value} {S:Value→Prop} (h:SSet W r d u S) {a:Addr} (ha:r≠a.block) {x:Value}:SSet (W.setCell a x) r d u S:=by
 obtain ⟨es,c,hb,h1⟩:=h
 exact ⟨es,c,(Below.heap_setCell W a x r ha).trans hb,h1⟩
def zaf (ks:List (Int×Int×Int)):List (List UInt8):=ks.filterMap fun x=>zak x.1 x.2.1 x.2.2
theorem zjo (ks:List (Int×Int×Int)) (x:Int×Int×Int):zaf (ks++[x])=zaf ks++(zak x.1 x.2.1 x.2.2).toList:=by
 unfold zaf;rw[List.filterMap_append]
 cases h:zak x.1 x.2.1 x.2.2 <;> simp[h]
def KS (L:List (List UInt8)) (u:Value):Prop:=∃ n∈L,u=sv n
theorem zpm (w:World):(zeroValue 3).run Tryz.prog w=.ok (.int .i64 0) w:=by kernel_rfl
theorem zhs (ks:List (Int×Int×Int)) {k:Nat} (h:k<ks.length):(idCells ks)[k*3]?=some (.int .u8 ks[k].1)∧(idCells ks)[k*3+1]?=some (.int .i64 ks[k].2.1)∧(idCells ks)[k*3+2]?=some (.int .i64 ks[k].2.2):=by
 induction ks generalizing k with
 | nil=>simp at h
 | cons x ks ih =>
  have e:idCells (x::ks)=idC x++idCells ks:=rfl
  rw[e]
  cases k with
  | zero=>exact ⟨rfl,rfl,rfl⟩
  | succ k =>
   have h9:=ih (k:=k) (by simpa using h)
   have hl:(idC x).length=3:=rfl
   refine ⟨?_,?_,?_⟩
   ·rw[List.getElem?_append_right (by rw[hl];omega),hl,show (k+1)*3-3=k*3 by omega];exact h9.1
   ·rw[List.getElem?_append_right (by rw[hl];omega),hl,show (k+1)*3+1-3=k*3+1 by omega];exact h9.2.1
   ·rw[List.getElem?_append_right (by rw[hl];omega),hl,show (k+1)*3+2-3=k*3+2 by omega];exact h9.2.2
structure ReI (w:World) (L:List (List UInt8)) (W:World):Prop where
 bx:Boxed W w.heap.size 64 (.slice none 0 0)
 mp:SSet W (w.heap.size+1) .string (.int .i64 1) (KS L)
 bm:Boxed W (w.heap.size+1+1) 163 (.map (some (w.heap.size+1)))
 e:Ext w W
theorem ReI.ext {w W W':World} {L:List (List UInt8)} (h:ReI w L W) (hE:Ext W W'):ReI w L W':=⟨h.bx.kept (row:=none) (Ext.grown hE none) (by simp),h.mp.ext hE,h.bm.kept (row:=none) (Ext.grown hE none) (by simp),Ext.trans h.e hE⟩
theorem zu4 {S:Prop} {n:Int} (h:(S∧n=1)∨(¬ S∧n=0)) (hs:S):n=1:=by
 rcases h with ⟨_,h⟩ | ⟨h,_⟩
 ·exact h
 ·exact absurd hs h
theorem ztP {S:Prop} {n:Int} (h:(S∧n=1)∨(¬ S∧n=0)) (hs:¬ S):n=0:=by
 rcases h with ⟨h,_⟩ | ⟨_,h⟩
 ·exact absurd h hs
 ·exact h
def zc3 (ks:List (Int×Int×Int)) (pre:List (Nat×List UInt8)):List (List UInt8):=(pre.map (·.2)).filter fun n=>!decide (n∈zaf ks)
theorem zqp (ks:List (Int×Int×Int)) (pre:List (Nat×List UInt8)) (j:Nat) (x:List UInt8):zc3 ks (pre++[(j,x)])=if x∈zaf ks then zc3 ks pre else zc3 ks pre++[x]:=by
 unfold zc3;rw[List.map_append,List.filter_append]
 by_cases h:x∈zaf ks <;> simp[h]
theorem zlO:∀ (fs:List Fil) (k:Nat),(nmP k fs).map (·.2)=fs.map (·.1)
 | [],_=>rfl
 | p::fs,k=>by
  show _::(nmP (k+1) fs).map (·.2)=_
  rw[zlO fs (k+1)];rfl
theorem zsp (ks:List (Int×Int×Int)) (fs:List Fil):zc3 ks (nmP 0 fs)=zaH fs (zaf ks):=by
 unfold zc3 zaH;rw[zlO]
theorem zt6 (tmps:Array Value) (W:World) (b:Nat) (A:Option Addr) (n c:Nat) (h4:tmps.getD 4 undef=.pointer (some ⟨b,0,none⟩)) (hc:W.cell? ⟨b,0,none⟩=some (.slice A n c)):(results Tryz.f71 tmps).run Tryz.prog W=.ok (.slice A n c) W:=by
 have h4':tmps[4]?.getD undef=.pointer (some ⟨b,0,none⟩):=by simpa using h4
 simp[results,Tryz.results71,h4',hc,go_sem]
structure RrI (w:World) (ks:List (Int×Int×Int)) (n0:Nat) (pre:List (Nat×List UInt8)) (X:World):Prop where
 bx:∃ A c,Boxed X w.heap.size 64 (.slice A (zc3 ks pre).length c)∧X.ownsRow n0 9 1 (.slice A (zc3 ks pre).length c) (zc3 ks pre).length ((zc3 ks pre).map sv)
 mp:SSet X (w.heap.size+1) .string (.int .i64 1) (KS (zaf ks))
 bm:Boxed X (w.heap.size+1+1) 163 (.map (some (w.heap.size+1)))
 e:Ext w X
theorem zbT {W:World} {base size m g:Nat} {e:TypeId} {xs:List Value} {v:Value} (h:W.ownsRow base e size v m xs) (hg:v.ownBlock=some g):base≤g∧∃ cs fr,W.heap[g]?=some (.cells cs e fr):=by
 rcases h.2 with ⟨rfl,_⟩ | ⟨g',cap,cur,rfl,hb,hh,_⟩
 ·cases hg
 ·cases hg
  exact ⟨hb,_,_,hh⟩
attribute [local go_sem] Oper.semAt_some in
theorem zqZ (v:Value) (fs:List Fil) (vk:Value) (ks:List (Int×Int×Int)) (w:World) (hS:StW w) (hF:Fs w v fs) (hK:SlR w 3 vk ks.length (idCells ks)) (hl:fs.length≤1000000) (hl2:ks.length≤1000000) :
  Calls Tryz.prog 71 #[v,vk] w fun e w'=>∃ A c,e=.returned (.slice A (zaH fs (zaf ks)).length c)∧w'.ownsRow w.heap.size 9 1 (.slice A (zaH fs (zaf ks)).length c) (zaH fs (zaf ks)).length ((zaH fs (zaf ks)).map sv)∧Ext w w':=by
 obtain ⟨A,c,rfl,_,_⟩:=Fs.open_ hF;obtain ⟨B,e2,rfl,_,_⟩:=SlR.open_ hK;have HS:=zhd hS;have HF:=zhd hF;have HKK:=zhd hK;clear hF hK hS
 refine (callsIn_wd (ro:=none) (n:=9)).1 ?_
 refine callsIn_of_wp_marks Tryz.func71 rfl trivial ?_ rfl
 simp only[Tryz.ntmps71,List.size_toArray,List.length_cons,List.length_nil,Nat.reduceAdd,Nat.reduceSub,Array.replicate_succ,Array.replicate_zero,List.push_toArray,List.append_toArray,List.nil_append,List.cons_append];have hmm:=@run_makeMap Tryz.prog
 gi_wp2
 clear hmm;obtain ⟨W0,hW0⟩:∃ W0,((w.alloc (.cells #[.slice none 0 0] 64)).alloc (.map #[] 0)).alloc (.cells #[.map (some (w.heap.size+1))] 163)=W0:=⟨_,rfl⟩
 have h0:ReI w [] W0:=by
  rw[←hW0];have a1:=Boxed.new w 64 (.slice none 0 0);have a2:=SSet.new (w.alloc (.cells #[.slice none 0 0] 64)) .string (.int .i64 1);have a3:=Boxed.new ((w.alloc (.cells #[.slice none 0 0] 64)).alloc (.map #[] 0)) 163 (.map (some (w.heap.size+1)));rw[World.size_alloc] at a2;rw[World.size_alloc,World.size_alloc] at a3
  exact ⟨(a1.alloc _).alloc _,(a2.ext (Ext.alloc (Ext.refl _) _)).congr (fun k=>by simp[KS]),a3,Ext.alloc (Ext.alloc (Ext.alloc (Ext.refl _) _) _) _⟩
 have HI:=zhd h0;rw[hW0];clear h0 hW0
 gi_loopw [15] (fun j W=>∃ k:Nat,j=.int .i64 k∧k≤ks.length∧Hid (ReI w (zaf (ks.take k)) W)) (fun j _=>ks.length+1-(intOf j).toNat)
 case atStart=>exact ⟨0,rfl,by omega,HI⟩
 case round =>
  clear HI;obtain ⟨k,rfl,hkl,HI⟩:=hrel
  by_cases hlt:k<ks.length
  ·obtain ⟨_,b,off,rfl,hc⟩:=(SlR.ext HKK.out HI.out.e).at_ (by omega)
   obtain ⟨x0,x1,x2⟩:=zhs ks hlt;have c0:=hc _ _ x0;have c1:=hc _ _ x1;have c2:=hc _ _ x2
   have htk:zaf (ks.take (k+1))=zaf (ks.take k)++(zak ks[k].1 ks[k].2.1 ks[k].2.2).toList:=by rw[List.take_succ_eq_append_getElem hlt,zjo]
   rw[←Nat.add_assoc] at c1 c2;clear hc x0 x1 x2
   generalize ks[k]=x at *
   obtain ⟨xk,xs,xf⟩:=x
   dsimp only at *
   have HTK:=zhd htk;clear htk
   have hX1:Ext wr (wr.alloc (.cells #[.int .u8 xk,.int .i64 xs,.int .i64 xf] 49)):=Ext.alloc (Ext.refl _) _
   have HN:=zhd (zeM xk xs xf _ ((HS.out.ext HI.out.e).ext hX1));have HX1:=zhd hX1;clear hX1;obtain ⟨nm,hnm⟩:∃ nm,zak xk xs xf=nm:=⟨_,rfl⟩;rw[hnm] at HN HTK;clear hnm
   cases nm with
   | none =>
    unfold zmr at HN;simp only[Option.getD_none,Option.isSome_none,Bool.false_eq_true,if_false,sv] at HN
    gi_wp2_with (refine ⟨trivial,?_⟩;gi_at_call 48;refine (callsIn_wd.2 HN.out).mono ?_;rintro e w1 ⟨rfl,hE1⟩)
    have hX:=Ext.trans HX1.out hE1
    refine ⟨⟨k+1,by go_num,by omega,zhd ?_⟩,by simp[intOf];omega⟩
    rw[HTK.out];simp only[Option.toList_none,List.append_nil]
    exact HI.out.ext hX
   | some nm =>
    unfold zmr at HN;simp only[Option.getD_some,Option.isSome_some,if_true,sv] at HN
    gi_wp2_with (first
     | (refine ⟨trivial,?_⟩;gi_at_call 48;refine (callsIn_wd.2 HN.out).mono ?_;rintro e w1 ⟨rfl,hE1⟩;have hR1:=HI.out.ext (Ext.trans HX1.out hE1);have cb:=hR1.bm.cell)
     | (gi_at_mapUpdate;refine zh8 rfl (.tmp 26) (.tmp 27) (.const (.int .i64 1)) rfl Tryz.underlying163 Tryz.underlying9 (w.heap.size+1) _ (.int .i64 1) rfl hR1.mp (sv nm) rfl trivial rfl ?_;intro w2 hs2 hm2))
    refine ⟨⟨k+1,by go_num,by omega,zhd ?_⟩,by simp[intOf];omega⟩
    rw[HTK.out]
    refine ⟨(hm2.block _ (by omega)).trans hR1.bx,hs2.congr (fun u=>?_),(hm2.block _ (by omega)).trans hR1.bm,hm2.ext2 hR1.e (by omega)⟩
    simp only[KS,Option.toList_some,List.mem_append,List.mem_singleton]
    constructor
    ·rintro ⟨n,hn | rfl,rfl⟩
     ·exact .inl ⟨n,hn,rfl⟩
     ·exact .inr rfl
    ·rintro (⟨n,hn,rfl⟩ | rfl)
     ·exact ⟨n,.inl hn,rfl⟩
     ·exact ⟨nm,.inr rfl,rfl⟩
  ·obtain rfl:k=ks.length:=by omega
   have hI0:=HI.out;rw[List.take_length] at hI0;have HI:=zhd hI0;clear hI0
   gi_wp2_with (refine ⟨trivial,?_⟩;gi_at_call 117;refine (callsIn_wd.2 (zks _ _ _ _)).mono ?_;rintro e w' ⟨rfl,rfl⟩)
   have bB:=Boxed.new wr 22 (.slice A fs.length c)
   have hE3:Ext wr (wr.alloc (.cells #[.slice A fs.length c] 22)):=Ext.alloc (Ext.refl _) _
   have hI3:=HI.out.ext hE3
   have hlt3:wr.heap.size<(wr.alloc (.cells #[.slice A fs.length c] 22)).heap.size:=bB.lt
   have hwz:w.heap.size+2<wr.heap.size:=HI.out.bm.lt
   generalize wr.alloc (.cells #[.slice A fs.length c] 22)=w3 at *
   clear HI
   have h0:RrI w ks w3.heap.size [] w3:=⟨⟨none,0,hI3.bx,by simp[zc3],.inl ⟨rfl,rfl⟩⟩,hI3.mp,hI3.bm,hI3.e⟩
   obtain ⟨i0,hi,hz0,hz1,hz2⟩:=info_parts zjX
   refine zbO (a:=⟨_,_⟩) rfl (enters_of Tryz.func152 (by kernel_rfl) rfl)
    (fun W1 hb hs=>zim (fun k o=>o.isCells=true∧k≠w.heap.size∧k<w3.heap.size) w W1 _ fs HF.out (by omega) (fun q u hq=>Ext.cell (Ext.trans hI3.e hb) hq) wr.heap.size (bB.kept (row:=none) (Ext.grown hb none) (by simp)) (fun o ho=>⟨ho,by omega,by omega⟩) (fun k o hk ho=>⟨ho,by omega,by omega⟩))
    (fun k o h=>h.elim) (fun k o h=>h.1) (fun x av W h=>by rw[h];rfl)
    (RrI w ks w3.heap.size) (fun _ _ _=>False) ?hI (fun _ _ _ _ h _=>h) h0
    (fun x a' W=>∃ u7 u8 u9 u17 u18 u19 u20 u21 u22 u23 u24 u25 u26 u27 u28:Value,a'=⟨#[.slice A fs.length c,.slice B ks.length e2,undef,undef,.pointer (some ⟨w.heap.size,0,none⟩),.pointer (some ⟨w.heap.size+1+1,0,none⟩),undef,u7,u8,u9,undef,sv x.2,.map (some (w.heap.size+1)),.slice B ks.length e2,.int .i64 ks.length,.int .i64 ks.length,.bool false,u17,u18,u19,u20,u21,u22,u23,u24,u25,u26,u27,u28,.slice A fs.length c,.func (.func 152) #[] #[.pointer (some ⟨wr.heap.size,0,none⟩)],.int .i64 x.1,sv x.2,undef,undef,undef,undef,undef,undef,undef,undef,undef],[]⟩)
    (fun _ _ _ _ h _=>h) ?assign ?body ?done ?stop
   case hI =>
    rintro s X Y ⟨⟨A1,c1,hb,ho⟩,hmp,hbm,hE⟩ hm
    refine ⟨⟨A1,c1,hm.boxed hb ?_,hm.ownsRow ho ?_⟩,hmp.moves hm (by omega),hm.boxed hbm ?_,hm.belowOf hE ?_ (by omega)⟩
    ·rintro (h | h)
     ·exact h
     ·cases h.2
    ·intro k cur _
     rintro (h | h)
     ·exact h
     ·cases h.2
    ·rintro (h | h)
     ·exact h
     ·cases h.2
    ·rintro k o hk (h | h)
     ·exact h
     ·have:=h.1;omega
   case assign =>
    rintro l' pre x post W av K' hx hi hsz rfl hK
    simp only[sv] at *
    gi_wp2
    exact hK _ _ Kept.refl hi ⟨_,_,_,_,_,_,_,_,_,_,_,_,_,_,_,rfl⟩
   case body =>
    rintro l' pre ⟨j,x⟩ post a' W hx hl' hr ⟨⟨A1,c1,hb,ho⟩,hmp,hbm,hE⟩ hsz ⟨u7,u8,u9,u17,u18,u19,u20,u21,u22,u23,u24,u25,u26,u27,u28,rfl⟩
    dsimp only at *
    have cb:=hb.cell;have fb:=hb.frozen;have cm:=hbm.cell
    have hpl:(zc3 ks pre).length+1≤1000001:=by
     have h9:=congrArg List.length hx;rw[List.length_append,List.length_cons,zpd] at h9
     have:(zc3 ks pre).length≤pre.length:=by unfold zc3;exact Nat.le_trans (List.length_filter_le _ _) (Nat.le_of_eq (List.length_map _))
     omega
    have hsnoc:=zqp ks pre j x
    by_cases he:x∈zaf ks
    ·rw[if_pos he] at hsnoc
     have he1:KS (zaf ks) (sv x):=⟨x,he,rfl⟩
     have HSN:=zhd hsnoc;have HM:=zhd hmp;have HHE:=zhd he1;clear hsnoc he he1 hmp
     simp only[sv] at *
     gi_wp2_with (gi_at_lookup;refine zeL rfl (.tmp 33) (.tmp 34) rfl Tryz.underlying163 Tryz.underlying9 (zpm _) (w.heap.size+1) _ rfl HM.out (sv x) rfl trivial ?_;intro n hn;have hn:=zu4 hn HHE.out;subst hn)
     refine ⟨Kept.refl,?_⟩
     refine ⟨?_,HM.out,hbm,hE⟩
     rw[HSN.out]
     exact ⟨A1,c1,hb,ho⟩
    ·rw[if_neg he] at hsnoc
     have he1:¬ KS (zaf ks) (sv x):=by
      rintro ⟨n,hn,h9⟩
      exact he (zsE h9 ▸ hn)
     have HSN:=zhd hsnoc;have HM:=zhd hmp;have HHE:=zhd he1;have HO:=zhd ho;have HBX:=zhd hb;have HBM:=zhd hbm;have HE:=zhd hE;clear hsnoc he he1 hmp ho hb hbm hE
     generalize hN:zc3 ks pre=N at *
     simp only[sv] at *
     have hX:Ext W (W.alloc (.cells #[sv x] 9)):=Ext.alloc (Ext.refl _) _
     gi_wp2_with (first
      | (gi_at_lookup;refine zeL rfl (.tmp 33) (.tmp 34) rfl Tryz.underlying163 Tryz.underlying9 (zpm _) (w.heap.size+1) _ rfl HM.out (sv x) rfl trivial ?_;intro n hn;have hn:=ztP hn HHE.out;subst hn)
      | (gi_at_builtin;refine zbX _ rfl (.tmp 37) (.tmp 39) 64 rfl w3.heap.size 9 i0 _ 1 16 Tryz.underlying64 hi hz0 hz1 hz2 rfl (by decide) _ N.length (N.map sv) rfl (zag HO.out hX) _ 1 [sv x] rfl (zeH W [sv x] 9 1 rfl rfl) (znh [x]) (by unfold maxLen;omega) (by omega) (by simp;omega) ?_;intro v3 W3 ho3 hg3;obtain ⟨A3,c3,rfl,_,_⟩:=SlR.open_ (SlR.of_own ho3);have b3:=((HBX.out.alloc (.cells #[sv x] 9)).kept hg3 (fun e=>by have:=(zbT HO.out e.symm).1;omega));have cb3:=b3.cell;have fb3:=b3.frozen))
     have ho4:=zee (j:=0) b3 (by decide:(64:TypeId)≠9) ho3 (.slice A3 (N.length+1) c3)
     have hE4:Ext w W3:=Ext.grownOwn (Ext.trans HE.out hX) (zaj (zag HO.out hX) (by omega)) hg3
     have hlt1:w.heap.size+1<(W.alloc (.cells #[.string ⟨x.toArray⟩] 9)).heap.size:=by rw[World.size_alloc];have:=HM.out.lt;omega
     have hne1:∀ k,k<w3.heap.size→some k≠(Value.slice A1 N.length c1).ownBlock:=fun k hk e=>by have:=(zbT HO.out e.symm).1;omega
     have hmp4:SSet (W3.setCell ⟨w.heap.size,0,none⟩ (.slice A3 (N.length+1) c3)) (w.heap.size+1) .string (.int .i64 1) (KS (zaf ks)) :=
      SSet.other (SSet.same (SSet.ext HM.out hX) (hg3.block _ hlt1 (hne1 _ (by omega)))) (by simp)
     refine ⟨((Kept.refl.alloc _).grown hg3 (fun k o ek hk=>?_)).setCell (fun o hk _=>?_) _,⟨A3,c3,?_,?_⟩,hmp4,?_,Below.setCell (p:=⟨w.heap.size,0,none⟩) hE4 (Nat.le_refl _) _⟩
     ·have:=(zbT HO.out ek).1
      rintro (⟨_,_,h⟩ | ⟨_,h⟩)
      ·omega
      ·obtain ⟨_,cs,fr,hcs⟩:=zbT HO.out ek
       rw[hk] at hcs
       cases hcs
       cases h
     ·rintro (⟨_,h,_⟩ | ⟨h,_⟩)
      ·exact h rfl
      ·dsimp only at h;omega
     ·rw[HSN.out,List.length_append]
      exact b3.set _
     ·rw[HSN.out,List.length_append,List.map_append]
      exact ho4
     ·exact Blk.other ((HBM.out.alloc _).kept hg3 (hne1 _ (by omega))) (by omega:w.heap.size+1+1≠w.heap.size) 0 _
   case done =>
    rintro D W hD ⟨⟨A1,c1,hb,ho⟩,hmp,hbm,hE⟩ hK;have hc:=hb.cell;have hf:=hb.frozen
    have hall:zc3 ks (nmP 0 fs)=zaH fs (zaf ks):=zsp ks fs
    rw[hall] at hb ho hc
    gi_wp2
    have hK2:=zaC hK rfl ⟨w.heap.size,0,none⟩ (.slice A1 (zaH fs (zaf ks)).length c1);have hcd:=zci (hb.set (.slice A1 (zaH fs (zaf ks)).length c1)).cell hK2 rfl (.deferred none);have ho2:=zee (j:=0) hb (by decide:(64:TypeId)≠9) ho (.slice A1 (zaH fs (zaf ks)).length c1)
    have hw3:w.heap.size≤w3.heap.size:=by omega
    refine zbg hK2 (.slice A1 (zaH fs (zaf ks)).length c1) (zt6 _ _ _ A1 _ c1 rfl hcd) ⟨A1,c1,rfl,zaj (zkN ho2 hK2 rfl (.deferred none)) hw3,?_⟩
    exact zar (Below.setCell (p:=⟨w.heap.size,0,none⟩) hE (Nat.le_refl _) _) (by omega) _
   case stop =>
    rintro D cd pre W _ _ h _
    exact h.elim
open Go.RowKit Go.Mv Go.Shelf
theorem zow (m:Mf) (A:Option Addr) (n c:Nat) (w:World):Calls Tryz.prog 83 #[.agg #[.int .i64 m.next,.int .i64 m.term,.int .i64 m.vote,.int .i64 m.sq,.int .i64 m.sf,.slice A n c]] w fun e w'=>e=.returned (.func (.func 126) #[] #[.pointer (some ⟨w.heap.size,0,none⟩)])∧w.alloc (.cells (mfC m (.slice A n c)) 30)=w':=by
 unfold mfC
 go_enter Tryz.func83,Tryz.ntmps83
 go_wp2
 go_ret
 exact ⟨rfl,rfl⟩
theorem zu5 {n k:Nat} (h:k<n):n-(intOf (.int .i64 ((k:Int)+1))).toNat<n-(intOf (.int .i64 (k:Int))).toNat:=by simp[intOf];omega
theorem zu6 {n k:Nat} (h:k<n) (hb:n≤1000000):n-(intOf (.int .i64 (wrap64 ((k:Int)+1)))).toNat<n-(intOf (.int .i64 (k:Int))).toNat:=by
 rw[show wrap64 ((k:Int)+1)=(k:Int)+1 by unfold wrap64;omega]
 exact zu5 h
theorem zv4 {n k:Nat} (h:k<n) (hb:n≤1000000):Value.int .i64 (wrap64 ((k:Int)+1))=.int .i64 ((k+1:Nat):Int):=by
 rw[show wrap64 ((k:Int)+1)=((k+1:Nat):Int) by unfold wrap64;omega]
def zfL (m:Mf):List Int:=[m.next,m.term,m.vote,m.sq,m.sf,(m.segs.length:Int)]
theorem zot (m:Mf) (k:Nat) (h:k<m.segs.length):zfL m++zaY (m.segs.take (k+1))=(zfL m++zaY (m.segs.take k))++[m.segs[k].seq,m.segs[k].fmt,m.segs[k].first,m.segs[k].count+1]:=by rw[zjz _ _ h,List.append_assoc]
def NuK (bo n0:Nat) (k:Nat) (o:Obj):Prop:=o.isCells=true∧k≠bo∧(k<n0∨o.ty≠some 5)
attribute [local go_sem] Oper.semAt_some in
theorem znf (wo W0:World) (m:Mf) (v:Value) (hS:Sgs wo v m.segs) (hl:m.segs.length≤60) (hct:∀ s∈m.segs,-1≤s.count∧s.count≤4) (hE0:Ext wo W0) (B bo n0:Nat) (hB:Blk W0 B 30 (mfC m v)) (hBo:B≠bo) (hwn:wo.heap.size≤n0) (hwb:wo.heap.size≤bo) (hbo:bo<W0.heap.size) :
  Seq Tryz.prog 126 #[.pointer (some ⟨B,0,none⟩)] (fun (x:Int) av _=>av = #[.int .i64 x]) (NuK bo n0) (fun _ _=>False) (zbE m) W0:=by
 intro lp J Jx hJ hJx hY h0;obtain ⟨A,c,rfl,_,_⟩:=hS.open_;obtain ⟨N,hN⟩:∃ N,zbE m=N:=⟨_,rfl⟩
 rw[hN] at hY ⊢
 have HNN:=zhd hN;clear hN
 refine (callsIn_wd (ro:=none) (n:=9)).1 ?_
 refine callsIn_of_wp Tryz.func126 rfl trivial ?_ rfl
 simp only[Tryz.ntmps126,List.size_toArray,List.length_cons,List.length_nil,Nat.reduceAdd,Nat.reduceSub,Array.replicate_succ,Array.replicate_zero,List.push_toArray,List.append_toArray,List.nil_append,List.cons_append]
 obtain ⟨m0,m1,m2,m3,m4,m5⟩:=zap (show Blk W0 B 30 #[.int .i64 m.next,.int .i64 m.term,.int .i64 m.vote,.int .i64 m.sq,.int .i64 m.sf,.slice A m.segs.length c] from hB)
 have HS:=zhd hS;have HY:=zhd hY;have HCT:=zhd hct;have HE0:=zhd hE0;have hO:=zbj W0 ((zfL m).map iv) 3 6 rfl (by simp[maxLen]) (Nat.le_refl _)
 have hEn:Ext W0 (W0.alloc (.cells #[.int .i64 m.next,.int .i64 m.term,.int .i64 m.vote,.int .i64 m.sq,.int .i64 m.sf,.int .i64 (m.segs.length:Int)] 3)):=Ext.alloc (Ext.refl _) _
 have HO:Hid (OwnI (W0.alloc (.cells #[.int .i64 m.next,.int .i64 m.term,.int .i64 m.vote,.int .i64 m.sq,.int .i64 m.sf,.int .i64 (m.segs.length:Int)] 3)) W0.heap.size (.slice (some ⟨W0.heap.size,0,none⟩) 6 6) (zfL m)):=zhd hO
 have HEn:=zhd hEn;have HB:=zhd hB;obtain ⟨i0,hi,hz0,hz1,hz2⟩:=info_parts zhu;have k5:=hEn.cell m5
 have hj0:J [] (W0.alloc (.cells #[.int .i64 m.next,.int .i64 m.term,.int .i64 m.vote,.int .i64 m.sq,.int .i64 m.sf,.int .i64 (m.segs.length:Int)] 3)):=hJ _ _ _ h0 (Moves.refl.alloc _)
 clear hS hY hct hE0 hO hB hEn hj0
 gi_wp2
 clear m0 m1 m2 m3 m4 m5 k5
 gi_loopw [3,27] (fun v3 v27 W=>∃ (k:Nat) (A':Option Addr) (c' n6:Nat),k≤m.segs.length∧v27=.int .i64 k∧v3=.slice A' n6 c'∧Hid (n6=6+4*k)∧Hid (OwnI W W0.heap.size v3 (zfL m++zaY (m.segs.take k)))∧Hid (Ext W0 W)) (fun _ v27 _=>m.segs.length-(intOf v27).toNat)
 case atStart=>exact ⟨0,_,_,6,Nat.zero_le _,rfl,rfl,rfl,by simpa [zaY] using HO,HEn⟩
 case round =>
  clear HO HEn;obtain ⟨k,A',c',n6,hk,rfl,rfl,HN6,HO,HX⟩:=hrel
  have hlen:(zfL m++zaY (m.segs.take k)).length=6+4*k:=by rw[List.length_append,zdZ,List.length_take,Nat.min_eq_left hk];rfl
  by_cases hlt:k<m.segs.length
  ·obtain ⟨_,bs,of,rfl,hcells⟩:=Sgs.at_ (HS.out.ext (Ext.trans HE0.out HX.out)) (by omega)
   obtain ⟨d0,d1,d2,d3⟩:=hcells k hlt;have htk:=zot m k hlt;have hct:=HCT.out _ (List.getElem_mem hlt);have HTK:=zhd htk;have HLN:=zhd hlen;clear hcells htk hlen
   generalize zfL m++zaY (m.segs.take k)=L at *
   generalize m.segs[k]=s at *
   have hw:wrap64 (s.count+1)=s.count+1:=by unfold wrap64;omega
   have X1:Ext wr (wr.alloc (.cells #[.int .i64 s.seq,.int .i64 s.fmt,.int .i64 s.first,.int .i64 s.count] 74)):=Ext.alloc (Ext.refl _) _
   have X2:Ext wr ((wr.alloc (.cells #[.int .i64 s.seq,.int .i64 s.fmt,.int .i64 s.first,.int .i64 s.count] 74)).alloc (.cells #[.int .i64 s.seq,.int .i64 s.fmt,.int .i64 s.first,.int .i64 (s.count+1)] 3)):=Ext.alloc X1 _
   have hn:=zbj (wr.alloc (.cells #[.int .i64 s.seq,.int .i64 s.fmt,.int .i64 s.first,.int .i64 s.count] 74)) ([s.seq,s.fmt,s.first,s.count+1].map iv) 3 4 rfl (by simp[maxLen]) (Nat.le_refl _);rw[World.size_alloc] at hn
   have HN:Hid (SlR ((wr.alloc (.cells #[.int .i64 s.seq,.int .i64 s.fmt,.int .i64 s.first,.int .i64 s.count] 74)).alloc (.cells #[.int .i64 s.seq,.int .i64 s.fmt,.int .i64 s.first,.int .i64 (s.count+1)] 3)) 1 (.slice (some ⟨wr.heap.size+1,0,none⟩) 4 4) 4 ([s.seq,s.fmt,s.first,s.count+1].map iv)):=zhd (SlR.of_own hn)
   have HO2:Hid (World.ownsRow _ W0.heap.size 3 1 (.slice A' n6 c') L.length (L.map iv)):=zhd (zag HO.out X2)
   have HX2:=zhd (Ext.trans HX.out X2);have hbx:=Blk.new wr 74 #[.int .i64 s.seq,.int .i64 s.fmt,.int .i64 s.first,.int .i64 s.count];obtain ⟨x0,x1,x2,x3⟩:=zay hbx;clear X1 X2 hn hbx hct
   gi_wp2_with (gi_at_builtin;refine zbX _ rfl (.tmp 31) (.tmp 41) 96 rfl W0.heap.size 3 i0 _ 1 8 Tryz.underlying96 hi hz0 hz1 hz2 rfl (by decide) _ L.length (L.map iv) rfl HO2.out _ 4 ([s.seq,s.fmt,s.first,s.count+1].map iv) rfl HN.out (zr5 _) (by rw[HLN.out];unfold maxLen;omega) (by rw[HLN.out];omega) HX2.out.size ?_;intro v3 w3 ho3 hg3;obtain ⟨A3,c3,rfl,_,_⟩:=SlR.open_ (SlR.of_own ho3))
   have hX3:=Ext.grownOwn HX2.out HO2.out hg3
   refine ⟨⟨k+1,A3,c3,_,by omega,by go_num,rfl,by (unfold Hid;rw[HLN.out];omega),?_,hX3⟩,by simp[intOf];omega⟩
   unfold Hid OwnI;rw[HTK.out,List.length_append,List.map_append]
   exact ho3
  ·obtain rfl:k=m.segs.length:=by omega
   have ho:=HO.out
   rw[List.take_length,show zfL m++zaY m.segs=N from HNN.out] at ho
   rw[List.take_length,show zfL m++zaY m.segs=N from HNN.out] at hlen
   have hj1:J [] wr:=hJ _ _ _ h0 ⟨HX.out.os,HX.out.tape,HX.out.output,HX.out.size,fun k o hk _=>(HX.out.block k (Array.getElem?_eq_some_iff.1 hk).1).trans hk⟩
   have HO:=zhd ho;have HJ:=zhd hj1;have HLN:=zhd hlen
   have HNB:=zhd (show N.length≤1000000 by omega)
   have hz:=HX.out.size;clear ho hj1 HX hlen
   gi_wp2
   gi_loopw [7,46] (fun _ v46 W=>∃ k:Nat,k≤N.length∧v46=.int .i64 k∧Hid (J (N.take k) W)∧Hid (W.ownsRow W0.heap.size 3 1 (.slice A' n6 c') N.length (N.map iv))∧W0.heap.size≤W.heap.size) (fun _ v46 _=>N.length-(intOf v46).toNat)
   case atStart=>exact ⟨0,Nat.zero_le _,rfl,HJ,HO,hz⟩
   case round =>
    clear HJ HO;obtain ⟨k,hk,rfl,HJ,HO,hWz⟩:=hrel;have hln:=HLN.out
    by_cases hlt:k<N.length
    ·obtain ⟨hnn,b,off,rfl,hcl⟩:=(SlR.of_own HO.out).at_ (by omega)
     clear hnn;have hc0:=hcl k (iv N[k]) (by rw[List.getElem?_map,List.getElem?_eq_getElem hlt];rfl)
     have hsp:N=N.take k++N[k]::N.drop (k+1):=by rw[←List.drop_eq_getElem_cons hlt,List.take_append_drop]
     have htk:N.take (k+1)=N.take k++[N[k]]:=List.take_succ_eq_append_getElem hlt
     have hy:=HY.out (N.take k) N[k] _ hsp wr #[.int .i64 N[k]] HJ.out hWz rfl;have Hy:=zhd hy;have HTK:=zhd htk;have HSP:=zhd hsp;clear hy htk hsp hcl
     generalize N[k]=x at *
     simp only[iv,Nat.mul_one] at hc0
     have hkz:(k:Int)<(n6:Int):=by have:=HN6.out;omega
     have HLT:=zhd hlt;clear hln hlt
     gi_wp2
     refine zbf Hy.out ?_
     rintro e W' ⟨hk',⟨rfl,hj⟩ | ⟨rfl,hj⟩⟩
     ·refine ⟨true,rfl,?_⟩
      have HJ4:=zhd hj
      have ho4:W'.ownsRow W0.heap.size 3 1 (.slice (some ⟨b,off,none⟩) n6 c') N.length (N.map iv):=by
       have h:=HO.out
       refine ⟨h.1,?_⟩
       rcases h.2 with hn | ⟨g,cap,cur,e,hb,hgg,rest⟩
       ·exact .inl hn
       ·exact .inr ⟨g,cap,cur,e,hb,hk'.same _ _ hgg (.inl ⟨rfl,by omega,.inr (by simp[Obj.ty])⟩),rest⟩
      have HO4:=zhd ho4;have hWz4:=Nat.le_trans hWz hk'.size;clear hj hk' Hy hc0 ho4
      gi_wp2
      exact ⟨⟨k+1,HLT.out,zv4 HLT.out HNB.out,by rw[HTK.out];exact HJ4.out,HO4,hWz4⟩,zu6 HLT.out HNB.out⟩
     ·refine ⟨false,rfl,?_⟩
      have HJ4:=zhd hj;clear hj hk' Hy hc0
      gi_wp2
      refine bodyPost_ret (results_none rfl _ _ _) rfl ?_
      refine ⟨⟨_,rfl⟩,.inr ⟨N.take k++[x],⟨N.drop (k+1),?_⟩,HJ4.out⟩⟩
      rw[List.append_assoc]
      exact HSP.out.symm
    ·have hkz:¬ (k:Int)<(n6:Int):=by have:=HN6.out;omega
     have hfin:J N wr:=by
      have:=HJ.out
      rwa [List.take_of_length_le (by omega)] at this
     have HFIN:=zhd hfin;clear hfin
     gi_wp2
     refine bodyPost_end (results_none rfl _ _ _) rfl ?_
     exact ⟨⟨_,rfl⟩,.inl HFIN.out⟩
theorem zna (tmps:Array Value) (W:World) (a b:Value) (h2:tmps.getD 2 undef=a) (h3:tmps.getD 3 undef=b):(results Tryz.f46 tmps).run Tryz.prog W=.ok (.tuple #[a,b]) W:=by
 have h2':tmps[2]?.getD undef=a:=by simpa using h2
 have h3':tmps[3]?.getD undef=b:=by simpa using h3
 simp[results,Tryz.results46,h2',h3']
structure MpI (w:World) (bo base:Nat) (pre:List Int) (X:World):Prop where
 bx:∃ v,Boxed X bo 38 v∧OwnB X base v (77::zal pre)
 e:Ext w X
attribute [local go_sem] Oper.semAt_some in
theorem zjF (m:Mf) (v:Value) (w:World) (hS:Sgs w v m.segs) (hT:StW w) :
  Calls Tryz.prog 46 #[.agg #[.int .i64 m.next,.int .i64 m.term,.int .i64 m.vote,.int .i64 m.sq,.int .i64 m.sf,v]] w (zun w (zbm m)):=by
 obtain ⟨A,c,rfl,hc1,hc2⟩:=hS.open_;have hb0:=Blk.new w 30 #[.int .i64 m.next,.int .i64 m.term,.int .i64 m.vote,.int .i64 m.sq,.int .i64 m.sf,.slice A m.segs.length c]
 have hX:Ext w (w.alloc (.cells #[.int .i64 m.next,.int .i64 m.term,.int .i64 m.vote,.int .i64 m.sq,.int .i64 m.sf,.slice A m.segs.length c] 30)):=Ext.alloc (Ext.refl _) _
 obtain ⟨m0,m1,m2,m3,m4,m5⟩:=zap hb0;have HS:=zhd hS;have arm:=zpq m (.slice A m.segs.length c) _ (hS.ext hX);have Arm:=zhd arm;have HT:=zhd hT;have HX:=zhd hX;have Hb:=zhd hb0;clear arm hS hT hX hb0
 refine (callsIn_wd (ro:=none) (n:=9)).1 ?_
 refine callsIn_of_wp_marks Tryz.func46 rfl trivial ?_ rfl
 simp only[Tryz.ntmps46,List.size_toArray,List.length_cons,List.length_nil,Nat.reduceAdd,Nat.reduceSub,Array.replicate_succ,Array.replicate_zero,List.push_toArray,List.append_toArray,List.nil_append,List.cons_append]
 cases hck:zav m with
 | false =>
  rw[hck] at Arm
  have hr:zbm m=none:=by unfold zbm;rw[hck];rfl
  rw[hr];simp only[Bool.false_eq_true,if_false] at Arm
  gi_wp2_with (refine ⟨trivial,?_⟩;gi_at_call 82;refine (callsIn_wd.2 Arm.out).mono ?_;rintro e w1 ⟨rfl,hE1⟩)
  exact ⟨.tuple #[.slice none 0 0,.int .i64 2],zna _ _ _ _ rfl rfl,⟨_,rfl,World.ownsRow_nil _ _ _ _⟩,Ext.trans HX.out hE1⟩
 | true =>
  rw[hck] at Arm;obtain ⟨P,hP⟩:∃ P,zaK rT (77::zal (zbE m))=P:=⟨_,rfl⟩
  have hr:zbm m=some P:=by unfold zbm;rw[hck,hP];rfl
  rw[hr];have HP:=zhd hP;have HCK:=zhd hck;clear hP;simp only[if_true] at Arm
  gi_wp2_with (first
   | (refine ⟨trivial,?_⟩;gi_at_call 82;refine (callsIn_wd.2 Arm.out).mono ?_;rintro e w1 ⟨rfl,hE1⟩;have X2:Ext w1 ((w1.alloc (.cells #[.int .u8 77] 5)).alloc (.cells #[.slice (some ⟨w1.heap.size,0,none⟩) 1 1] 38)):=Ext.alloc (Ext.alloc (Ext.refl w1) _) _;obtain ⟨p0,p1,p2,p3,p4,p5⟩:=zap (Hb.out.ext (Ext.trans hE1 X2)))
   | (refine ⟨trivial,?_⟩;gi_at_call 83;refine (callsIn_wd.2 (zow m A m.segs.length c _)).mono ?_;rintro e w3 ⟨rfl,hw3⟩))
  have hbb:=Boxed.new (w1.alloc (.cells #[.int .u8 77] 5)) 38 (.slice (some ⟨w1.heap.size,0,none⟩) 1 1);rw[World.size_alloc] at hbb
  have hob:OwnB ((w1.alloc (.cells #[.int .u8 77] 5)).alloc (.cells #[.slice (some ⟨w1.heap.size,0,none⟩) 1 1] 38)) w1.heap.size (.slice (some ⟨w1.heap.size,0,none⟩) 1 1) [77]:=zag (zbj w1 ([(77:UInt8)].map bv) 5 1 rfl (by simp[maxLen]) (Nat.le_refl _)) (Ext.alloc (Ext.refl _) _)
  have hX2:=Ext.trans HX.out (Ext.trans hE1 X2)
  have hsz2:((w1.alloc (.cells #[.int .u8 77] 5)).alloc (.cells #[.slice (some ⟨w1.heap.size,0,none⟩) 1 1] 38)).heap.size=w1.heap.size+1+1:=by simp
  generalize (w1.alloc (.cells #[.int .u8 77] 5)).alloc (.cells #[.slice (some ⟨w1.heap.size,0,none⟩) 1 1] 38)=w2 at *
  have hE3:Ext w2 w3:=by rw[←hw3];exact Ext.alloc (Ext.refl _) _
  have hB3:Blk w3 w2.heap.size 30 (mfC m (.slice A m.segs.length c)):=by rw[←hw3];exact Blk.new w2 _ _
  rw[hsz2] at hB3
  have h0:MpI w (w1.heap.size+1) w1.heap.size [] w3:=⟨⟨_,hbb.kept (row:=none) (Ext.grown hE3 none) (by simp),zag hob hE3⟩,Ext.trans hX2 hE3⟩
  have hw1:w.heap.size≤w1.heap.size:=by have:=(Ext.trans HX.out hE1).size;exact this
  have hlt3:w1.heap.size+1+1<w3.heap.size:=hB3.lt
  clear hsz2;obtain ⟨_,_,_,hl60,_,h6⟩:=zdg HCK.out
  have hct:∀ s∈m.segs,-1≤s.count∧s.count≤4:=fun s hs=>by
   have:=zjh HCK.out s hs
   exact this.2.2
  have hnum:=zhh HCK.out
  have hNl:(zbE m).length≤1000:=by unfold zbE;rw[List.length_append,zdZ];simp;omega
  have hsq:Hid (∀ W1,Ext w3 W1→Seq Tryz.prog 126 #[.pointer (some ⟨w1.heap.size+1+1,0,none⟩)] (fun (x:Int) av _=>av = #[.int .i64 x]) (NuK (w1.heap.size+1) w1.heap.size) (fun _ _=>False) (zbE m) W1) :=
   fun W1 hE=>znf w W1 m (.slice A m.segs.length c) HS.out hl60 hct (Ext.trans h0.e hE) (w1.heap.size+1+1) (w1.heap.size+1) w1.heap.size (hB3.ext hE) (by omega) hw1 (by omega) (by have:=hE.size;omega)
  obtain ⟨N,hN⟩:∃ N,zbE m=N:=⟨_,rfl⟩;rw[hN] at hsq hnum hNl;have HNN:=zhd hN;have HNUM:=zhd hnum;have HNL:=zhd hNl;obtain ⟨i0,hi,hz0,hz1,hz2⟩:=info_parts zcA;clear hw3 hbb hob hX2 hct hN hnum hNl p0 p1 p2 p3 p4 p5 m0 m1 m2 m3 m4 m5 hB3 h6 X2 Arm Hb
  refine ziT (n:=9) (Rp:=fun (x:Int) av _=>av = #[.int .i64 x]) (K:=NuK (w1.heap.size+1) w1.heap.size) (M:=fun _ _=>False) (xs:=N) (gf:=126) (lb:=#[.pointer (some ⟨w1.heap.size+1+1,0,none⟩)]) (a:=⟨_,_⟩) ?hg ?eg ?hseq ?h1 ?h2 ?h3 (MpI w (w1.heap.size+1) w1.heap.size) (fun _ _ _=>False) ?hI (fun _ _ _ _ h _=>h) h0
   (fun x a' W=>∃ (u0 u1 u2 u3 u4 u7 u8 u9 u10 u11 u12 u13 u14 u15 u16 u17 u18 u19 u20 u21 u22 u23 u24 u25 u26 u27 u28:Value),a'=⟨#[u0,u1,u2,u3,u4,.pointer (some ⟨w1.heap.size+1,0,none⟩),.int .i64 x,u7,u8,u9,u10,u11,u12,u13,u14,u15,u16,u17,u18,u19,u20,u21,u22,u23,u24,u25,u26,u27,u28],[]⟩) (fun _ _ _ _ h _=>h) ?assign ?body ?done ?stop
  case hg=>exact rfl
  case eg=>exact enters_of Tryz.func126 (by kernel_rfl) rfl
  case hseq=>exact fun W1 hb hs=>hsq.out W1 hb
  case h1=>exact fun k o h=>h.elim
  case h2=>exact fun k o h r e=>by rw[e] at h;cases h.1
  case h3=>exact fun x av W h=>by rw[h];rfl
  case hI =>
   rintro s X Y ⟨⟨u,hb,ho⟩,hE⟩ hm
   refine ⟨⟨u,hm.boxed hb ?_,hm.ownsRow ho ?_⟩,hm.belowOf hE ?_ (Nat.le_refl _)⟩
   ·rintro (h | h)
    ·exact h
    ·cases h.2
   ·intro k cur _
    rintro (h | h)
    ·exact h
    ·cases h.2
   ·rintro k o hk (h | h)
    ·exact h
    ·have:=h.1;omega
  case assign =>
   rintro l' pre x post W av K' hx hI hsz rfl hK;clear hx
   gi_wp2
   exact hK _ _ Kept.refl hI ⟨_,_,_,_,_,_,_,_,_,_,_,_,_,_,_,_,_,_,_,_,_,_,_,_,_,_,_,rfl⟩
  case body =>
   rintro l' pre x post a' W hx hl' hr ⟨⟨u,hb,ho⟩,hE⟩ hsz ⟨u0,u1,u2,u3,u4,u7,u8,u9,u10,u11,u12,u13,u14,u15,u16,u17,u18,u19,u20,u21,u22,u23,u24,u25,u26,u27,u28,rfl⟩
   have hxn:zaA [x]=true:=by
    have:=HNUM.out
    unfold zaA at this ⊢
    rw[List.all_eq_true] at this
    simpa using this x (by rw[hx];simp)
   have hpl:pre.length≤1000:=by have:=HNL.out;rw[hx,List.length_append] at this;omega
   obtain ⟨A1,c1,rfl,_,_⟩:=SlR.open_ (SlR.of_own ho);have hsl:=zcx pre;have hsl1:=zcx [x]
   have hX1:Ext W (W.alloc (.cells #[.int .i64 x] 3)):=Ext.alloc (Ext.refl _) _
   have hsh:=zmE (.slice (some ⟨W.heap.size,0,none⟩) 1 1) [x] _ (SlR.of_own (zbj W ([x].map iv) 3 1 rfl (by simp[maxLen]) (Nat.le_refl _))) hxn (by simp);have HSH:=zhd hsh;have HX1:=zhd hX1;have HO:=zhd ho;have HBX:=zhd hb;have HEE:=zhd hE
   have hsa:77::zal (pre++[x])=(77::zal pre)++zal [x]:=by rw[zkX];rfl
   have HSA:=zhd hsa
   have HL1:=zhd (show (77::zal pre).length≤6000 by simp;omega)
   have HL2:=zhd (show (zal [x]).length≤5 by simpa using hsl1)
   clear hx hsl hsl1 hsh hX1 hsa hb ho hE hxn
   generalize 77::zal pre=L at *
   gi_wp2_with (first
    | (refine ⟨trivial,?_⟩;gi_at_call 84;refine (callsIn_wd.2 HSH.out).mono ?_;rintro e w4 ⟨vs,rfl,ho4,hE4⟩;have b4:=HBX.out.kept (row:=none) (Ext.grown (Ext.trans HX1.out hE4) none) (by simp);have cb4:=b4.cell;obtain ⟨A4,c4,rfl,_,_⟩:=SlR.open_ (SlR.of_own ho4))
    | (gi_at_builtin;refine zbX _ rfl (.tmp 24) (.tmp 25) 38 rfl w1.heap.size 5 i0 _ 1 1 Tryz.underlying38 hi hz0 hz1 hz2 rfl (by decide) _ L.length (L.map bv) rfl (zag HO.out (Ext.trans HX1.out hE4)) _ (zal [x]).length ((zal [x]).map bv) rfl (SlR.of_own ho4) (zdI _) (by have:=HL1.out;have:=HL2.out;unfold maxLen;omega) (by have:=HL1.out;have:=HL2.out;omega) (by have:=(Ext.trans HX1.out hE4).size;omega) ?_;intro v5 w5 ho5 hg5;obtain ⟨A5,c5,rfl,_,_⟩:=SlR.open_ (SlR.of_own ho5);have ho45:OwnB w4 w1.heap.size (.slice A1 L.length c1) L:=zag HO.out (Ext.trans HX1.out hE4);have b4k:Blk w4 (w1.heap.size+1) 38 #[.slice A1 L.length c1]:=b4;have b5:Boxed w5 (w1.heap.size+1) 38 (.slice A1 L.length c1):=b4k.kept hg5 (b4k.not_row (by decide) ho45);have cb5:=b5.cell;have fb5:=b5.frozen))
   have ho6:=zee (j:=0) b5 (by decide:(38:TypeId)≠5) ho5 (.slice A5 (L.length+(zal [x]).length) c5)
   have hE5:Ext w w5:=Ext.grownOwn (Ext.trans HEE.out (Ext.trans HX1.out hE4)) (zaj ho45 hw1) hg5
   refine ⟨((Kept.refl.below (Ext.trans HX1.out hE4) (Nat.le_refl _)).grown hg5 (fun k o ek hk=>?_)).setCell (fun o hk _=>?_) _,⟨_,b5.set _,?_⟩,Below.setCell (p:=⟨w1.heap.size+1,0,none⟩) hE5 (by show w.heap.size≤w1.heap.size+1;omega) _⟩
   ·obtain ⟨hge,cs,fr,hcs⟩:=zbT HO.out ek
    rw[hk] at hcs
    cases hcs
    rintro (⟨_,_,h | h⟩ | ⟨_,h⟩)
    ·omega
    ·exact h rfl
    ·cases h
   ·rintro (⟨_,h,_⟩ | ⟨h,_⟩)
    ·exact h rfl
    ·dsimp only at h;omega
   ·unfold OwnB
    rw[HSA.out,List.length_append,List.map_append]
    exact ho6
  case done =>
   rintro D W hD ⟨⟨u,hb,ho⟩,hE⟩ hK;obtain ⟨A1,c1,rfl,_,_⟩:=SlR.open_ (SlR.of_own ho);have cb:=hb.cell;have hsl:=zcx N;have hcp:=zfH (T:=rT) _ (77::zal N) W (SlR.of_own ho) (by simp) (by have:=HNL.out;simp;omega) (HT.out.ext hE).tab
   have hPN:zaK rT (77::zal N)=P:=by rw[←HNN.out];exact HP.out
   rw[hPN] at hcp;have HCP:=zhd hcp;have HEE:=zhd hE;have HKK:=zhd hK;clear hcp hPN hsl hE hb ho hK
   gi_wp2_with (refine ⟨trivial,?_⟩;gi_at_call 85;refine (callsIn_wd.2 HCP.out).mono ?_;rintro e w6 ⟨A6,c6,rfl,ho6,hE6⟩)
   have hK6:w6.heap[D]?=some (.deferred (some [])):=(hE6.block D (Array.getElem?_eq_some_iff.1 HKK.out).1).trans HKK.out
   refine zbg hK6 (.tuple #[.slice A6 P.length c6,.int .i64 0]) (zna _ _ _ _ rfl rfl) ⟨⟨_,rfl,?_⟩,zar (Ext.trans HEE.out hE6) (by omega) _⟩
   exact zaj (zkN ho6 hK6 rfl (.deferred none)) HEE.out.size
  case stop =>
   rintro D cd pre W _ _ h _
   exact h.elim
open Go.RowKit Go.Mv
theorem zaN (n:List UInt8):∀ fs:List Fil,zax fs (some n)=zae n fs
 | []=>rfl
 | p::fs=>by rw[zn5,zae,zaN n fs]
theorem zh1 {b:List UInt8} (h:b.length<4):zbs rT b=none:=by
 unfold zbs;rw[if_neg];intro e
 have:=congrArg List.length e
 rw[zgm,List.length_drop] at this;omega
end Go.Proofs.YtgonhdeochgkoaaGreatDoor
