/- Merged -/
import Derived.Test.YtgonhdeochgkoaaGreatDoorZx30
set_option linter.all false
set_option maxHeartbeats 8000000
set_option maxRecDepth 100000
open List renaming mem_append→P0,mem_singleton→P1,getElem?_append_right→P2,length_map→P3,mem_of_mem_take→P4,mem_of_getElem?→P5,take_succ_eq_append_getElem→P6,map_append→P7,foldl_cons→P8,getElem?_eq_getElem→P9,length_filter_le→Pa,mem_iff_getElem→Pb,mem_cons_of_mem→Pc,mem_filterMap→Pd,mem_cons_self→Pe,append_assoc→Pf,take_length→Pg,not_mem_nil→Ph,length_nil→Pi,append_nil→Pj,foldl_nil→Pk,mem_cons→Pl,mem_map→Pm
open Go.MapKept renaming run_getObj_map→Pn,run_findKey→Po,run_setObj_map→Pp,run_checkKey→Pq
open Go.Result renaming andThen→Pr
open Go.Sem renaming run_bind→Ps
open Go.Instr renaming lookup→Pt,mapUpdate→Pu,checkKey→Pv
open Nat renaming zero_le→Pw,le_trans→Px,le_of_eq→Py,zero_add→Pz
open Option renaming getD_some→Q0,map_some→Q6
namespace Go.Proofs.YtgonhdeochgkoaaGreatDoor
open Go.RowKit Go.Mv Go.MapKept Go.ChangeMaps
def SSet (w:World) (r:Nat) (d:TypeDesc) (u:Value) (S:Value→Prop):Prop :=
 ∃ es clock,w.heap[r]?=some (.map es clock)∧Stamped es clock∧(∀ x∈es.toList,x.val=u∧IsKey d x.key)∧∀ k,S k↔∃ x∈es.toList,x.key=k
theorem SSet.lt {w:World} {r:Nat} {d:TypeDesc} {u:Value} {S:Value→Prop} (h:SSet w r d u S):r<w.heap.size:=by
 obtain ⟨es,c,hb,_⟩:=h
 exact (Array.getElem?_eq_some_iff.1 hb).1
theorem SSet.ext {w w':World} {r:Nat} {d:TypeDesc} {u:Value} {S:Value→Prop} (h:SSet w r d u S) (hE:Ext w w'):SSet w' r d u S:=by
 have Hd:=h.lt;obtain ⟨es,c,hb,hs,h1,h2⟩:=h
 exact ⟨es,c,(hE.block r Hd).trans hb,hs,h1,h2⟩
theorem MT.ext2 {w A B:World} {r:Nat} (h:MT A B r) (hE:Ext w A) (hr:w.heap.size≤r):Ext w B:=⟨h.os.trans hE.os,h.tape.trans hE.tape,h.output.trans hE.output,Px hE.size (Py h.size.symm),fun k hk=>(h.block k (by omega)).trans (hE.block k hk)⟩
theorem SSet.new (w:World) (d:TypeDesc) (u:Value):SSet (w.alloc (.map #[] 0)) w.heap.size d u (fun _=>False):=⟨#[],0,heap_alloc_new w _,stamped_empty 0,by simp,by simp⟩
theorem SSet.congr {w:World} {r:Nat} {d:TypeDesc} {u:Value} {S S':Value→Prop} (h:SSet w r d u S) (hS:∀ k,S' k↔S k):SSet w r d u S':=by
 obtain ⟨es,c,hb,hs,h1,h2⟩:=h
 exact ⟨es,c,hb,hs,h1,fun k=>(hS k).trans (h2 k)⟩
section
variable {P:Program} {T K E:TypeId} {d:TypeDesc}
theorem SSet.lookup {w:World} {r:Nat} {u:Value} {S:Value→Prop} (h:SSet w r d u S) (hT:P.underlying T=some (.map K E)) (hK:P.underlying K=some d) {k:Value} (hk:IsKey d k) {z:Value} (hz:(zeroValue E).run P w=.ok z w) :
  (S k∧(Pt T (.map (some r)) k false).run P w=.ok u w)∨(¬ S k∧(Pt T (.map (some r)) k false).run P w=.ok z w):=by
 obtain ⟨es,c,hb,hs,h1,h2⟩:=h
 have Hn:∀ e,(Pv e 10000 K k).run P w=.ok () w:=fun e=>Pq hK hk e 9999
 rcases findNow_spec (d:=d) hk es.toList 0 (fun x hx=>(h1 x hx).2) with ⟨g1,g2⟩ | ⟨j,e,g1,g2,g3⟩
 ·refine .inr ⟨fun hS=>?_,?_⟩
  ·obtain ⟨x,hx,J7⟩:=(h2 k).1 hS
   exact g2 x hx J7
  ·unfold Pt
   simp[Ps,run_underlying hT,Pn hb,Hn,Po hK g1,hz,go_sem]
 ·have hm:e∈es.toList:=P5 g2
  refine .inl ⟨(h2 k).2 ⟨e,hm,g3⟩,?_⟩
  unfold Pt
  simp[Ps,run_underlying hT,Pn hb,Hn,Po hK g1,(h1 e hm).1,go_sem]
theorem SSet.update {w:World} {r:Nat} {u:Value} {S:Value→Prop} (h:SSet w r d u S) (hT:P.underlying T=some (.map K E)) (hK:P.underlying K=some d) {k:Value} (hk:IsKey d k) :
  ∃ w',(Pu T (.map (some r)) k u).run P w=.ok () w'∧SSet w' r d u (fun x=>S x∨x=k)∧MT w w' r:=by
 obtain ⟨es,c,hb,hs,h1,h2⟩:=h
 have Hn:∀ e,(Pv e 10000 K k).run P w=.ok () w:=fun e=>Pq hK hk e 9999
 rcases findNow_spec (d:=d) hk es.toList 0 (fun x hx=>(h1 x hx).2) with ⟨g1,g2⟩ | ⟨j,e,g1,g2,g3⟩
 ·refine ⟨setBlock w r (.map (es.push { key:=k,val:=u,born:=c }) (c+1)),?_,⟨_,_,(heap_set hb).1,stamped_push hs g2,fun x hx=>?_,fun x=>?_⟩,zgC hb⟩
  ·unfold Pu
   simp only[Ps,run_underlying hT,Pr,Pn hb,Hn,Po hK g1,Pp _ hb];rfl
  ·rw[Array.toList_push] at hx
   rcases P0.1 hx with hx | hx
   ·exact h1 x hx
   ·rw[P1] at hx
    subst hx
    exact ⟨rfl,hk⟩
  ·show (S x∨x=k)↔_
   rw[Array.toList_push,h2]
   constructor
   ·rintro (⟨y,hy,rfl⟩ | rfl)
    ·exact ⟨y,P0.2 (.inl hy),rfl⟩
    ·exact ⟨_,P0.2 (.inr (P1.2 rfl)),rfl⟩
   ·rintro ⟨y,hy,rfl⟩
    rcases P0.1 hy with hy | hy
    ·exact .inl ⟨y,hy,rfl⟩
    ·rw[P1] at hy
     subst hy
     exact .inr rfl
 ·have hj:es[j]?=some e:=by simpa using g2
  have hm:e∈es.toList:=P5 g2
  have Ht:(es.modify j fun e=>{ e with key:=k,val:=u })=es:=by
   apply Array.ext_getElem?
   intro i;rw[Array.getElem?_modify]
   split
   ·rename_i hji
    subst hji;rw[hj,Q6]
    congr 1
    have:=(h1 e hm).1
    cases e
    simp_all
   ·rfl
  refine ⟨setBlock w r (.map es c),?_,⟨_,_,(heap_set hb).1,hs,h1,fun x=>?_⟩,zgC hb⟩
  ·unfold Pu
   simp only[Ps,run_underlying hT,Pr,Pn hb,Hn,Po hK g1,Pz,hj,Q6,Q0,g3,run_keyThatStays hk,Pp _ hb,Ht];rfl
  ·show (S x∨x=k)↔_
   rw[h2]
   constructor
   ·rintro (h | rfl)
    ·exact h
    ·exact ⟨e,hm,g3⟩
   ·exact .inl
variable {w:World} {ops:Array Oper} {rest:List Oper} {o:Oper} {a:Act} {Q:Exit→Act→World→Prop}
end
open Go.RowKit Go.Mv Go.Shelf Go.MapKept
section
variable {P:Program} {T K E:TypeId} {d:TypeDesc} {F:Fence} {nF:Nat} {w:World} {ops:Array Oper} {rest:List Oper} {o:Oper} {a:Act} {Q:Exit→Act→World→Prop}
theorem zez (hg:o.guard=none) (m x:Operand) (H9:o.op=Op.lookup T m x false) (hT:P.underlying T=some (.map K E)) (hK:P.underlying K=some d) (hz:(zeroValue E).run P w=.ok (.int .i64 0) w)
  (r:Nat) (S:Value→Prop) (hm:a.eval m=.map (some r)) (hF:SSet w r d (.int .i64 1) S) (k:Value) (hx:a.eval x=k) (hk:IsKey d k)
  (h:∀ n:Int,((S k∧n=1)∨(¬ S k∧n=0))→wpListIn F nF P ops Q rest (a.put o.dst (.int .i64 n)) w):wpListIn F nF P ops Q (o::rest) a w:=by
 refine wpListIn_plain hg fun K' Hz=>?_
 unfold Oper.wpIn
 refine ⟨by simp[Oper.about,H9],?_⟩
 rw[Oper.semAt_plain F _ _ (by rw[H9];intro c HY;cases HY)]
 rcases hF.lookup hT hK hk hz with ⟨h1,H4⟩ | ⟨h1,H4⟩
 ·simp[execOp,H9,hm,hx,H4,Pr]
  exact Hz _ _ (h 1 (.inl ⟨h1,rfl⟩))
 ·simp[execOp,H9,hm,hx,H4,Pr]
  exact Hz _ _ (h 0 (.inr ⟨h1,rfl⟩))
theorem zhK (hg:o.guard=none) (m x v:Operand) (H9:o.op=Op.mapUpdate T m x v) (hT:P.underlying T=some (.map K E)) (hK:P.underlying K=some d)
  (r:Nat) (S:Value→Prop) (u:Value) (hm:a.eval m=.map (some r)) (hF:SSet w r d u S) (k:Value) (hx:a.eval x=k) (hk:IsKey d k) (hv:a.eval v=u)
  (h:∀ w',SSet w' r d u (fun x=>S x∨x=k)→MT w w' r→wpListIn F nF P ops Q rest (a.put o.dst undef) w'):wpListIn F nF P ops Q (o::rest) a w:=by
 refine wpListIn_plain hg fun K' Hz=>?_
 obtain ⟨w',H4,h1,h2⟩:=hF.update hT hK hk;unfold Oper.wpIn
 refine ⟨by simp[Oper.about,H9],?_⟩
 rw[Oper.semAt_plain F _ _ (by rw[H9];intro c HY;cases HY)]
 simp[execOp,H9,hm,hx,hv,H4,Pr]
 exact Hz _ _ (h w' h1 h2)
end
theorem SSet.moves {A B:World} {r n:Nat} {d:TypeDesc} {u:Value} {S:Value→Prop} (h:SSet A r d u S) (hm:Moves (zad (fun _ _=>False) n) A B) (hr:r<n):SSet B r d u S:=by
 obtain ⟨es,c,hb,h1⟩:=h
 refine ⟨es,c,hm.same _ _ hb ?_,h1⟩
 rintro (h | ⟨h,_⟩)
 ·exact h
 ·omega
theorem SSet.same {A B:World} {r:Nat} {d:TypeDesc} {u:Value} {S:Value→Prop} (h:SSet A r d u S) (e:B.heap[r]?=A.heap[r]?):SSet B r d u S:=by
 obtain ⟨es,c,hb,h1⟩:=h
 exact ⟨es,c,e.trans hb,h1⟩
theorem SSet.other {W:World} {r:Nat} {d:TypeDesc} {u:Value} {S:Value→Prop} (h:SSet W r d u S) {a:Addr} (ha:r≠a.block) {x:Value}:SSet (W.setCell a x) r d u S:=by
 obtain ⟨es,c,hb,h1⟩:=h
 exact ⟨es,c,(Below.heap_setCell W a x r ha).trans hb,h1⟩
def zaD (ks:List (Int×Int×Int)):List (List UInt8):=ks.filterMap fun x=>zas x.1 x.2.1 x.2.2
theorem znZ (ks:List (Int×Int×Int)) (x:Int×Int×Int):zaD (ks++[x])=zaD ks++(zas x.1 x.2.1 x.2.2).toList:=by
 unfold zaD;rw[List.filterMap_append]
 cases h:zas x.1 x.2.1 x.2.2 <;> simp[h]
def KS (L:List (List UInt8)) (u:Value):Prop:=∃ n∈L,u=sv n
theorem zoS (w:World):(zeroValue 3).run Tryz.prog w=.ok (.int .i64 0) w:=by kernel_rfl
theorem zpw (ks:List (Int×Int×Int)) {k:Nat} (h:k<ks.length):(idCells ks)[k*3]?=some (.int .u8 ks[k].1)∧(idCells ks)[k*3+1]?=some (.int .i64 ks[k].2.1)∧(idCells ks)[k*3+2]?=some (.int .i64 ks[k].2.2):=by
 induction ks generalizing k with
 | nil=>simp at h
 | cons x ks ih =>
  have e:idCells (x::ks)=idC x++idCells ks:=rfl
  rw[e]
  cases k with
  | zero=>exact ⟨rfl,rfl,rfl⟩
  | succ k =>
   have h9:=ih (k:=k) (by simpa using h)
   have hl:(idC x).length=3:=rfl
   refine ⟨?_,?_,?_⟩
   ·rw[P2 (by rw[hl];omega),hl,show (k+1)*3-3=k*3 by omega];exact h9.1
   ·rw[P2 (by rw[hl];omega),hl,show (k+1)*3+1-3=k*3+1 by omega];exact h9.2.1
   ·rw[P2 (by rw[hl];omega),hl,show (k+1)*3+2-3=k*3+2 by omega];exact h9.2.2
structure ReI (w:World) (L:List (List UInt8)) (W:World):Prop where
 bx:Boxed W w.heap.size 64 (.slice none 0 0)
 mp:SSet W (w.heap.size+1) .string (.int .i64 1) (KS L)
 bm:Boxed W (w.heap.size+1+1) 163 (.map (some (w.heap.size+1)))
 e:Ext w W
theorem ReI.ext {w W W':World} {L:List (List UInt8)} (h:ReI w L W) (hE:Ext W W'):ReI w L W':=⟨h.bx.kept (row:=none) (Ext.grown hE none) (by simp),h.mp.ext hE,h.bm.kept (row:=none) (Ext.grown hE none) (by simp),xT h.e hE⟩
theorem zug {S:Prop} {n:Int} (h:(S∧n=1)∨(¬ S∧n=0)) (hs:S):n=1:=by
 rcases h with ⟨_,h⟩ | ⟨h,_⟩
 ·exact h
 ·exact absurd hs h
theorem zs5 {S:Prop} {n:Int} (h:(S∧n=1)∨(¬ S∧n=0)) (hs:¬ S):n=0:=by
 rcases h with ⟨h,_⟩ | ⟨_,h⟩
 ·exact absurd h hs
 ·exact h
def zc3 (ks:List (Int×Int×Int)) (H3:List (Nat×List UInt8)):List (List UInt8):=(H3.map (·.2)).filter fun n=>!decide (n∈zaD ks)
theorem zpL (ks:List (Int×Int×Int)) (H3:List (Nat×List UInt8)) (j:Nat) (x:List UInt8):zc3 ks (H3++[(j,x)])=if x∈zaD ks then zc3 ks H3 else zc3 ks H3++[x]:=by
 unfold zc3;rw[P7,List.filter_append]
 by_cases h:x∈zaD ks <;> simp[h]
theorem zlf:∀ (fs:List Fil) (k:Nat),(nmP k fs).map (·.2)=fs.map (·.1)
 | [],_=>rfl
 | p::fs,k=>by
  show _::(nmP (k+1) fs).map (·.2)=_
  rw[zlf fs (k+1)];rfl
theorem zrL (ks:List (Int×Int×Int)) (fs:List Fil):zc3 ks (nmP 0 fs)=zcl fs (zaD ks):=by
 unfold zc3 zcl;rw[zlf]
theorem ztj (tmps:Array Value) (W:World) (b:Nat) (A:Option Addr) (n c:Nat) (h4:tmps.getD 4 undef=.pointer (some ⟨b,0,none⟩)) (hc:W.cell? ⟨b,0,none⟩=some (.slice A n c)):(results Tryz.f71 tmps).run Tryz.prog W=.ok (.slice A n c) W:=by
 have HP:tmps[4]?.getD undef=.pointer (some ⟨b,0,none⟩):=by simpa using h4
 simp[results,Tryz.results71,HP,hc,go_sem]
structure RrI (w:World) (ks:List (Int×Int×Int)) (n0:Nat) (H3:List (Nat×List UInt8)) (X:World):Prop where
 bx:∃ A c,Boxed X w.heap.size 64 (.slice A (zc3 ks H3).length c)∧X.ownsRow n0 9 1 (.slice A (zc3 ks H3).length c) (zc3 ks H3).length ((zc3 ks H3).map sv)
 mp:SSet X (w.heap.size+1) .string (.int .i64 1) (KS (zaD ks))
 bm:Boxed X (w.heap.size+1+1) 163 (.map (some (w.heap.size+1)))
 e:Ext w X
theorem zbR {W:World} {base size m g:Nat} {e:TypeId} {xs:List Value} {v:Value} (h:W.ownsRow base e size v m xs) (hg:v.ownBlock=some g):base≤g∧∃ cs fr,W.heap[g]?=some (.cells cs e fr):=by
 rcases h.2 with ⟨rfl,_⟩ | ⟨g',cap,KO,rfl,hb,hh,_⟩
 ·cases hg
 ·cases hg
  exact ⟨hb,_,_,hh⟩
attribute [local go_sem] Oper.semAt_some in
theorem zqm (v:Value) (fs:List Fil) (vk:Value) (ks:List (Int×Int×Int)) (w:World) (hS:StW w) (hF:Fs w v fs) (hK:SlR w 3 vk ks.length (idCells ks)) (hl:fs.length≤1000000) (Jc:ks.length≤1000000) :
  Calls Tryz.prog 71 #[v,vk] w fun e w'=>∃ A c,e=.returned (.slice A (zcl fs (zaD ks)).length c)∧w'.ownsRow w.heap.size 9 1 (.slice A (zcl fs (zaD ks)).length c) (zcl fs (zaD ks)).length ((zcl fs (zaD ks)).map sv)∧Ext w w':=by
 obtain ⟨A,c,rfl,_,_⟩:=Fs.open_ hF;obtain ⟨B,e2,rfl,_,_⟩:=xO hK;have HS:=zhd hS;have HF:=zhd hF;have HL:=zhd hK;clear hF hK hS
 refine (callsIn_wd (ro:=none) (n:=9)).1 ?_
 refine callsIn_of_wp_marks Tryz.func71 rfl trivial ?_ rfl
 simp only[Tryz.ntmps71,List.size_toArray,xC,Pi,Nat.reduceAdd,Nat.reduceSub,Array.replicate_succ,Array.replicate_zero,List.push_toArray,List.append_toArray,xI,List.cons_append];have J0:=@run_makeMap Tryz.prog
 gi_wp2
 clear J0;obtain ⟨W0,H8⟩:∃ W0,((w.alloc (.cells #[.slice none 0 0] 64)).alloc (.map #[] 0)).alloc (.cells #[.map (some (w.heap.size+1))] 163)=W0:=⟨_,rfl⟩
 have h0:ReI w [] W0:=by
  rw[←H8];have a1:=Boxed.new w 64 (.slice none 0 0);have a2:=SSet.new (w.alloc (.cells #[.slice none 0 0] 64)) .string (.int .i64 1);have a3:=Boxed.new ((w.alloc (.cells #[.slice none 0 0] 64)).alloc (.map #[] 0)) 163 (.map (some (w.heap.size+1)));rw[xS] at a2;rw[xS,xS] at a3
  exact ⟨(a1.alloc _).alloc _,(a2.ext (xA (xR _) _)).congr (fun k=>by simp[KS]),a3,xA (xA (xA (xR _) _) _) _⟩
 have HI:=zhd h0;rw[H8];clear h0 H8
 gi_loopw [15] (fun j W=>∃ k:Nat,j=.int .i64 k∧k≤ks.length∧Hid (ReI w (zaD (ks.take k)) W)) (fun j _=>ks.length+1-(intOf j).toNat)
 case atStart=>exact ⟨0,rfl,by omega,HI⟩
 case round =>
  clear HI;obtain ⟨k,rfl,K0,HI⟩:=hrel
  by_cases Hd:k<ks.length
  ·obtain ⟨_,b,Kp,rfl,hc⟩:=(SlR.ext HL.out HI.out.e).at_ (by omega)
   obtain ⟨x0,x1,x2⟩:=zpw ks Hd;have c0:=hc _ _ x0;have c1:=hc _ _ x1;have c2:=hc _ _ x2
   have Hu:zaD (ks.take (k+1))=zaD (ks.take k)++(zas ks[k].1 ks[k].2.1 ks[k].2.2).toList:=by rw[P6 Hd,znZ]
   rw[←Nat.add_assoc] at c1 c2;clear hc x0 x1 x2
   generalize ks[k]=x at *
   obtain ⟨xk,xs,xf⟩:=x
   dsimp only at *
   have Hk:=zhd Hu;clear Hu
   have HV:Ext wr (wr.alloc (.cells #[.int .u8 xk,.int .i64 xs,.int .i64 xf] 49)):=xA (xR _) _
   have HN:=zhd (zeA xk xs xf _ ((HS.out.ext HI.out.e).ext HV));have Kg:=zhd HV;clear HV;obtain ⟨nm,Kn⟩:∃ nm,zas xk xs xf=nm:=⟨_,rfl⟩;rw[Kn] at HN Hk;clear Kn
   cases nm with
   | none =>
    unfold zlV at HN;simp only[Option.getD_none,Option.isSome_none,Bool.false_eq_true,if_false,sv] at HN
    gi_wp2_with (refine ⟨trivial,?_⟩;gi_at_call 48;refine (callsIn_wd.2 HN.out).mono ?_;rintro e w1 ⟨rfl,H7⟩)
    have hX:=xT Kg.out H7
    refine ⟨⟨k+1,by go_num,by omega,zhd ?_⟩,by simp[intOf];omega⟩
    rw[Hk.out];simp only[Option.toList_none,Pj]
    exact HI.out.ext hX
   | some nm =>
    unfold zlV at HN;simp only[Q0,Option.isSome_some,if_true,sv] at HN
    gi_wp2_with (first
     | (refine ⟨trivial,?_⟩;gi_at_call 48;refine (callsIn_wd.2 HN.out).mono ?_;rintro e w1 ⟨rfl,H7⟩;have Hm:=HI.out.ext (xT Kg.out H7);have cb:=Hm.bm.cell)
     | (gi_at_mapUpdate;refine zhK rfl (.tmp 26) (.tmp 27) (.const (.int .i64 1)) rfl Tryz.underlying163 Tryz.underlying9 (w.heap.size+1) _ (.int .i64 1) rfl Hm.mp (sv nm) rfl trivial rfl ?_;intro w2 HH K4))
    refine ⟨⟨k+1,by go_num,by omega,zhd ?_⟩,by simp[intOf];omega⟩
    rw[Hk.out]
    refine ⟨(K4.block _ (by omega)).trans Hm.bx,HH.congr (fun u=>?_),(K4.block _ (by omega)).trans Hm.bm,K4.ext2 Hm.e (by omega)⟩
    simp only[KS,Option.toList_some,P0,P1]
    constructor
    ·rintro ⟨n,hn | rfl,rfl⟩
     ·exact .inl ⟨n,hn,rfl⟩
     ·exact .inr rfl
    ·rintro (⟨n,hn,rfl⟩ | rfl)
     ·exact ⟨n,.inl hn,rfl⟩
     ·exact ⟨nm,.inr rfl,rfl⟩
  ·obtain rfl:k=ks.length:=by omega
   have HQ:=HI.out;rw[Pg] at HQ;have HI:=zhd HQ;clear HQ
   gi_wp2_with (refine ⟨trivial,?_⟩;gi_at_call 117;refine (callsIn_wd.2 (zj5 _ _ _ _)).mono ?_;rintro e w' ⟨rfl,rfl⟩)
   have bB:=Boxed.new wr 22 (.slice A fs.length c)
   have KQ:Ext wr (wr.alloc (.cells #[.slice A fs.length c] 22)):=xA (xR _) _
   have Hl:=HI.out.ext KQ
   have KZ:wr.heap.size<(wr.alloc (.cells #[.slice A fs.length c] 22)).heap.size:=bB.lt
   have Jf:w.heap.size+2<wr.heap.size:=HI.out.bm.lt
   generalize wr.alloc (.cells #[.slice A fs.length c] 22)=w3 at *
   clear HI
   have h0:RrI w ks w3.heap.size [] w3:=⟨⟨none,0,Hl.bx,by simp[zc3],.inl ⟨rfl,rfl⟩⟩,Hl.mp,Hl.bm,Hl.e⟩
   obtain ⟨i0,hi,K8,K9,Ka⟩:=info_parts zmw
   refine zbN (a:=⟨_,_⟩) rfl (enters_of Tryz.func152 (by kernel_rfl) rfl)
    (fun W1 hb hs=>zh0 (fun k o=>o.isCells=true∧k≠w.heap.size∧k<w3.heap.size) w W1 _ fs HF.out (by omega) (fun q u hq=>Ext.cell (xT Hl.e hb) hq) wr.heap.size (bB.kept (row:=none) (Ext.grown hb none) (by simp)) (fun o ho=>⟨ho,by omega,by omega⟩) (fun k o hk ho=>⟨ho,by omega,by omega⟩))
    (fun k o h=>h.elim) (fun k o h=>h.1) (fun x av W h=>by rw[h];rfl)
    (RrI w ks w3.heap.size) (fun _ _ _=>False) ?hI (fun _ _ _ _ h _=>h) h0
    (fun x a' W=>∃ u7 u8 u9 Kq Kr Ks Kt Ku Kv Kw Kx Ky Kz KA KB:Value,a'=⟨#[.slice A fs.length c,.slice B ks.length e2,undef,undef,.pointer (some ⟨w.heap.size,0,none⟩),.pointer (some ⟨w.heap.size+1+1,0,none⟩),undef,u7,u8,u9,undef,sv x.2,.map (some (w.heap.size+1)),.slice B ks.length e2,.int .i64 ks.length,.int .i64 ks.length,.bool false,Kq,Kr,Ks,Kt,Ku,Kv,Kw,Kx,Ky,Kz,KA,KB,.slice A fs.length c,.func (.func 152) #[] #[.pointer (some ⟨wr.heap.size,0,none⟩)],.int .i64 x.1,sv x.2,undef,undef,undef,undef,undef,undef,undef,undef,undef],[]⟩)
    (fun _ _ _ _ h _=>h) ?assign ?body ?done ?stop
   case hI =>
    rintro s X Y ⟨⟨A1,c1,hb,ho⟩,He,Hc,hE⟩ hm
    refine ⟨⟨A1,c1,hm.boxed hb ?_,hm.ownsRow ho ?_⟩,He.moves hm (by omega),hm.boxed Hc ?_,hm.belowOf hE ?_ (by omega)⟩
    ·rintro (h | h)
     ·exact h
     ·cases h.2
    ·intro k KO _
     rintro (h | h)
     ·exact h
     ·cases h.2
    ·rintro (h | h)
     ·exact h
     ·cases h.2
    ·rintro k o hk (h | h)
     ·exact h
     ·have:=h.1;omega
   case assign =>
    rintro l' H3 x Kb W av K' hx hi J4 rfl hK
    simp only[sv] at *
    gi_wp2
    exact hK _ _ Kept.refl hi ⟨_,_,_,_,_,_,_,_,_,_,_,_,_,_,_,rfl⟩
   case body =>
    rintro l' H3 ⟨j,x⟩ Kb a' W hx Jb hr ⟨⟨A1,c1,hb,ho⟩,He,Hc,hE⟩ J4 ⟨u7,u8,u9,Kq,Kr,Ks,Kt,Ku,Kv,Kw,Kx,Ky,Kz,KA,KB,rfl⟩
    dsimp only at *
    have cb:=hb.cell;have fb:=hb.frozen;have cm:=Hc.cell
    have Jd:(zc3 ks H3).length+1≤1000001:=by
     have h9:=congrArg List.length hx;rw[xL,xC,zoJ] at h9
     have:(zc3 ks H3).length≤H3.length:=by unfold zc3;exact Px (Pa _ _) (Py (P3 _))
     omega
    have H1:=zpL ks H3 j x
    by_cases he:x∈zaD ks
    ·rw[if_pos he] at H1
     have Ho:KS (zaD ks) (sv x):=⟨x,he,rfl⟩
     have Hw:=zhd H1;have HM:=zhd He;have HK:=zhd Ho;clear H1 he Ho He
     simp only[sv] at *
     gi_wp2_with (gi_at_lookup;refine zez rfl (.tmp 33) (.tmp 34) rfl Tryz.underlying163 Tryz.underlying9 (zoS _) (w.heap.size+1) _ rfl HM.out (sv x) rfl trivial ?_;intro n hn;have hn:=zug hn HK.out;subst hn)
     refine ⟨Kept.refl,?_⟩
     refine ⟨?_,HM.out,Hc,hE⟩
     rw[Hw.out]
     exact ⟨A1,c1,hb,ho⟩
    ·rw[if_neg he] at H1
     have Ho:¬ KS (zaD ks) (sv x):=by
      rintro ⟨n,hn,h9⟩
      exact he (zrV h9 ▸ hn)
     have Hw:=zhd H1;have HM:=zhd He;have HK:=zhd Ho;have HO:=zhd ho;have KE:=zhd hb;have KD:=zhd Hc;have HE:=zhd hE;clear H1 he Ho He ho hb Hc hE
     generalize hN:zc3 ks H3=N at *
     simp only[sv] at *
     have hX:Ext W (W.alloc (.cells #[sv x] 9)):=xA (xR _) _
     gi_wp2_with (first
      | (gi_at_lookup;refine zez rfl (.tmp 33) (.tmp 34) rfl Tryz.underlying163 Tryz.underlying9 (zoS _) (w.heap.size+1) _ rfl HM.out (sv x) rfl trivial ?_;intro n hn;have hn:=zs5 hn HK.out;subst hn)
      | (gi_at_builtin;refine zbV _ rfl (.tmp 37) (.tmp 39) 64 rfl w3.heap.size 9 i0 _ 1 16 Tryz.underlying64 hi K8 K9 Ka rfl (by decide) _ N.length (N.map sv) rfl (zaf HO.out hX) _ 1 [sv x] rfl (zfc W [sv x] 9 1 rfl rfl) (zru [x]) (by unfold maxLen;omega) (by omega) (by simp;omega) ?_;intro v3 W3 Hj Hi;obtain ⟨A3,c3,rfl,_,_⟩:=xO (xW Hj);have b3:=((KE.out.alloc (.cells #[sv x] 9)).kept Hi (fun e=>by have:=(zbR HO.out e.symm).1;omega));have J9:=b3.cell;have Ja:=b3.frozen))
     have J2:=zd9 (j:=0) b3 (by decide:(64:TypeId)≠9) Hj (.slice A3 (N.length+1) c3)
     have Hy:Ext w W3:=Ext.grownOwn (xT HE.out hX) (zai (zaf HO.out hX) (by omega)) Hi
     have K3:w.heap.size+1<(W.alloc (.cells #[.string ⟨x.toArray⟩] 9)).heap.size:=by rw[xS];have:=HM.out.lt;omega
     have Hq:∀ k,k<w3.heap.size→some k≠(Value.slice A1 N.length c1).ownBlock:=fun k hk e=>by have:=(zbR HO.out e.symm).1;omega
     have K5:SSet (W3.setCell ⟨w.heap.size,0,none⟩ (.slice A3 (N.length+1) c3)) (w.heap.size+1) .string (.int .i64 1) (KS (zaD ks)) :=
      SSet.other (SSet.same (SSet.ext HM.out hX) (Hi.block _ K3 (Hq _ (by omega)))) (by simp)
     refine ⟨((Kept.refl.alloc _).grown Hi (fun k o ek hk=>?_)).setCell (fun o hk _=>?_) _,⟨A3,c3,?_,?_⟩,K5,?_,Below.setCell (p:=⟨w.heap.size,0,none⟩) Hy (xN _) _⟩
     ·have:=(zbR HO.out ek).1
      rintro (⟨_,_,h⟩ | ⟨_,h⟩)
      ·omega
      ·obtain ⟨_,cs,fr,HG⟩:=zbR HO.out ek
       rw[hk] at HG
       cases HG
       cases h
     ·rintro (⟨_,h,_⟩ | ⟨h,_⟩)
      ·exact h rfl
      ·dsimp only at h;omega
     ·rw[Hw.out,xL]
      exact b3.set _
     ·rw[Hw.out,xL,P7]
      exact J2
     ·exact Blk.other ((KD.out.alloc _).kept Hi (Hq _ (by omega))) (by omega:w.heap.size+1+1≠w.heap.size) 0 _
   case done =>
    rintro D W hD ⟨⟨A1,c1,hb,ho⟩,He,Hc,hE⟩ hK;have hc:=hb.cell;have hf:=hb.frozen
    have HX:zc3 ks (nmP 0 fs)=zcl fs (zaD ks):=zrL ks fs
    rw[HX] at hb ho hc
    gi_wp2
    have HR:=zaC hK rfl ⟨w.heap.size,0,none⟩ (.slice A1 (zcl fs (zaD ks)).length c1);have KW:=zcd (hb.set (.slice A1 (zcl fs (zaD ks)).length c1)).cell HR rfl (.deferred none);have J1:=zd9 (j:=0) hb (by decide:(64:TypeId)≠9) ho (.slice A1 (zcl fs (zaD ks)).length c1)
    have J5:w.heap.size≤w3.heap.size:=by omega
    refine zbc HR (.slice A1 (zcl fs (zaD ks)).length c1) (ztj _ _ _ A1 _ c1 rfl KW) ⟨A1,c1,rfl,zai (zko J1 HR rfl (.deferred none)) J5,?_⟩
    exact zaq (Below.setCell (p:=⟨w.heap.size,0,none⟩) hE (xN _) _) (by omega) _
   case stop =>
    rintro D cd H3 W _ _ h _
    exact h.elim
open Go.RowKit Go.Mv
theorem zp5 {fs gs:List Fil} {b:List UInt8} {m:Mf} (hm:zbe b=some m) (HB:zao fs (some [77])=some b) (Hh:zao gs (some [77])=some b)
  (h:∀ k s f,zgQ m k s f→zao fs (zas k s f)=zao gs (zas k s f)):zbB fs=zbB gs:=by
 have J3:zcS fs m=zcS gs m:=by
  unfold zcS
  by_cases hq:m.sq=0
  ·rw[if_pos hq,if_pos hq]
  ·rw[if_neg hq,if_neg hq,h 4 m.sq m.sf (.snap hq)]
 have KX:∀ s∈m.segs,zbo fs s=zbo gs s:=by
  intro s hs;obtain ⟨j,hj,rfl⟩:=Pb.1 hs;unfold zbo;rw[h 3 _ _ (.seg j hj)]
 have KY:∀ (H5:Int) (l:List Sg4) (last:Int) (out:List Ent),(∀ s∈l,s∈m.segs)→zft fs H5 l last out=zft gs H5 l last out:=by
  intro H5 l
  induction l with
  | nil=>intros;rfl
  | cons s l ih =>
   intro last out hl;rw[zft,zft,KX s (hl s Pe)]
   cases zbo gs s with
   | none=>rfl
   | some x=>exact ih _ _ fun y hy=>hl y (Pc _ hy)
 unfold zbB;rw[zkn,HB,Hh];dsimp only;rw[hm];dsimp only;rw[J3]
 cases zcS gs m with
 | none=>rfl
 | some s =>
  have K2:zeH fs m s.idx=zeH gs m s.idx:=by
   unfold zeH
   rw[KY _ _ _ _ fun _ h=>h]
  dsimp only;rw[K2]
theorem zkq {m:Mf} {b:List UInt8} (hb:zbs m=some b):zax m=true:=by
 unfold zbs at hb
 split at hb
 ·assumption
 ·cases hb
theorem zs0 {m:Mf} {k s f:Int} (h:zgQ m k s f):(k,s,f)∈zaO m:=by
 unfold zaO zeT
 cases h with
 | snap hq=>rw[if_neg hq];simp
 | seg j hj=>exact List.mem_append_right _ (Pm.2 ⟨m.segs[j],List.getElem_mem hj,rfl⟩)
theorem zsZ (m:Mf):zbq∈zaD (zaO m):=by
 unfold zaD
 refine Pd.2 ⟨(1,0,0),?_,zkn⟩
 unfold zaO zeT
 simp
theorem zmz {m:Mf} (hc:zax m=true):zaA ∉ zaD (zaO m):=by
 intro h;obtain ⟨⟨k,s,f⟩,h1,h2⟩:=Pd.1 h;obtain ⟨j,hj,h3⟩:=Pb.1 h1
 rcases zkk (j:=j) (by rw[P9 hj,h3]) with ⟨_,h4⟩ | ⟨_,h4⟩
 ·cases h4
  rw[zkn] at h2
  cases h2
 ·obtain ⟨h5,h6,h7⟩:=zoB hc h4
  unfold zas at h2
  split at h2
  ·have h2:=Option.some.inj h2
   unfold zf8 at h2;rw[if_neg (by dsimp only;omega),if_neg (by dsimp only;omega)] at h2;unfold zaA at h2
   injection h2 with h2 _
   rcases h5 with rfl | rfl <;> simp at h2
  ·cases h2
def zb0 (q:List Oq) (keep:Int):Nat:=(min (max keep 0) (q.length:Int)).toNat
def zhz (o:Oq) (torn:Int):Oq:={ o with b:=o.b.take (min (max torn 0) (o.b.length:Int)).toNat }
def zbw (q:List Oq) (keep torn:Int):List Oq:=q.take (zb0 q keep)++(match q[zb0 q keep]? with
 | some o=>if o.k=2 then [zhz o torn] else []
 | none=>[])
theorem znh {q:List Oq} {keep torn:Int} {o:Oq} (h:o∈zbw q keep torn):∃ o'∈q,o.k=o'.k∧o.n=o'.n∧o.t=o'.t:=by
 unfold zbw at h
 rcases P0.1 h with h | h
 ·exact ⟨o,P4 h,rfl,rfl,rfl⟩
 ·cases hq:q[zb0 q keep]? with
  | none=>rw[hq] at h;cases h
  | some o' =>
   rw[hq] at h;dsimp only at h
   split at h
   ·rw[P1] at h
    subst h
    exact ⟨o',P5 hq,rfl,rfl,rfl⟩
   ·cases h
theorem ztu (keep torn:Int):zbw [] keep torn=[]:=by unfold zbw;simp
theorem Srt.done {l:List Fil} (h:Srt l) (o:Oq):Srt (za1 l o):=((Tells.mk h h.apart fun _=>rfl:Tells l l).done o).s
theorem Srt.dones:∀ (q:List Oq) {l:List Fil},Srt l→Srt (q.foldl za1 l)
 | [],_,h=>h
 | o::q,_,h=>Srt.dones q (h.done o)
theorem znK {l:List Fil} (h:Srt l) {o:Oq} {x:List UInt8} (hn:x≠o.n) (ht:o.k=3→x≠o.t):zah x (za1 l o)=zah x l:=by
 unfold za1
 split
 ·rw[zb3 h,if_neg hn]
 ·split
  ·rfl
  ·split
   ·rw[zb3 h,if_neg hn]
   ·split
    ·rename_i h3
     rw[zb3 h.del,if_neg (ht h3.1),zdg h.apart,if_neg hn]
    ·split
     ·rw[zdg h.apart,if_neg hn]
     ·rfl
theorem zeS {x:List UInt8}:∀ (q:List Oq) {l:List Fil},Srt l→(∀ o∈q,x≠o.n∧(o.k=3→x≠o.t))→zah x (q.foldl za1 l)=zah x l
 | [],_,_,_=>rfl
 | o::q,l,h,hq=>by
  have h0:=hq o Pe
  rw[P8,zeS q (h.done o) fun o' Hr=>hq o' (Pc _ Hr),znK h h0.1 h0.2]
theorem zfN {fs:List Fil} (h:Srt fs) (q:List Oq):zba fs q=q.foldl za1 fs:=by
 unfold zba
 rw[show fs.foldl za8 []=fs from zmH h]
theorem zuO {d:Dk} {o:Oq} (h:(d.doS o).2≠0):(d.doS o).1=d:=by
 unfold Dk.doS at h ⊢
 split
 ·rfl
 ·rename_i h1
  rw[if_neg h1] at h
  split
  ·rfl
  ·rename_i h2
   rw[if_neg h2] at h
   split
   ·rfl
   ·rename_i h3
    rw[if_neg h3] at h
    split
    ·rfl
    ·rename_i h4
     rw[if_neg h4] at h
     exact absurd rfl h
theorem zt2 {d:Dk} {o:Oq} (h:(d.doS o).2=0):(d.doS o).1.fs=d.fs∧(d.doS o).1.q=d.q++[o]∧(d.doS o).1.quota=d.quota:=by
 unfold Dk.doS at h ⊢
 split at h
 ·rename_i h1;exact absurd h h1
 ·rename_i h1
  rw[if_neg h1]
  split at h
  ·cases h
  ·rename_i h2
   rw[if_neg h2]
   split at h
   ·cases h
   ·rename_i h3
    rw[if_neg h3]
    split at h
    ·cases h
    ·rename_i h4
     rw[if_neg h4,ziE,zhZ,zgV]
     exact ⟨rfl,rfl,rfl⟩
theorem zto {d:Dk} (h:d.syncS.2≠0):d.syncS.1=d:=by
 unfold Dk.syncS at h ⊢
 split
 ·rfl
 ·rename_i h1
  rw[if_neg h1] at h
  exact absurd rfl h
theorem zp0 (d:Dk):d.syncS.1.quota=d.quota:=by
 unfold Dk.syncS
 split
 ·rfl
 ·rw[zgV]
theorem zf5 (sync:Bool):∀ (ops:List Oq) {d:Dk},Rt d→Rt (zaN sync d ops).1∧(zaN sync d ops).1.quota=d.quota ∧
  ((∃ j,j≤ops.length∧(zaN sync d ops).1.fs=d.fs∧(zaN sync d ops).1.q=d.q++ops.take j∧((zaN sync d ops).2=0→sync=false∧j=ops.length)) ∨
   ((zaN sync d ops).2=0∧sync=true∧(zaN sync d ops).1.fs=zba d.fs (d.q++ops)∧(zaN sync d ops).1.q=[]))
 | [],d,h=>by
  unfold zaN
  cases sync with
  | false =>
   rw[if_neg (by simp)]
   exact ⟨h,rfl,.inl ⟨0,Pw _,rfl,by simp,fun _=>⟨rfl,rfl⟩⟩⟩
  | true =>
   rw[if_pos rfl]
   by_cases he:d.syncS.2=0
   ·obtain ⟨h1,h2,h3⟩:=h.sync he
    exact ⟨h1,zp0 d,.inr ⟨he,rfl,by rw[h2,Pj];rfl,h3⟩⟩
   ·rw[zto he]
    exact ⟨h,rfl,.inl ⟨0,Pw _,rfl,by simp,fun h=>absurd h he⟩⟩
 | o::ops,d,h=>by
  unfold zaN
  by_cases he:(d.doS o).2=0
  ·rw[if_pos he]
   obtain ⟨g1,g2,g3⟩:=zt2 he;obtain ⟨k1,k2,k3⟩:=zf5 sync ops (h.doS he)
   refine ⟨k1,by rw[k2,g3],?_⟩
   rcases k3 with ⟨j,hj,h1,h2,h3⟩ | ⟨h1,h2,h3,h4⟩
   ·refine .inl ⟨j+1,by rw[xC];omega,by rw[h1,g1],by rw[h2,g2,List.take_succ_cons,Pf];rfl,fun h=>?_⟩
    obtain ⟨h4,h5⟩:=h3 h
    exact ⟨h4,by rw[xC];omega⟩
   ·exact .inr ⟨h1,h2,by rw[h3,g1,g2,Pf];rfl,h4⟩
  ·rw[if_neg he,zuO he]
   exact ⟨h,rfl,.inl ⟨0,Pw _,rfl,by simp,fun h=>absurd h he⟩⟩
theorem zpZ {d:Dk} (h:Rt d) (hq:d.q=[]) (b:List UInt8) {ks:List (List UInt8)} (hN:zaA ∉ ks) (keep torn:Int) :
  Rt (zcn d b ks).1∧(((zcn d b ks).2≠0∧∀ x,x≠zaA→zah x (zba (zcn d b ks).1.fs (zbw (zcn d b ks).1.q keep torn))=zah x d.fs) ∨
   (zah zbq (zba (zcn d b ks).1.fs (zbw (zcn d b ks).1.q keep torn))=if zbq∈ks then some b else zah zbq (zba (zcn d b ks).1.fs (zbw (zcn d b ks).1.q keep torn)))∧∀ x∈ks,x≠zbq→zah x (zba (zcn d b ks).1.fs (zbw (zcn d b ks).1.q keep torn))=zah x d.fs):=by
 have Hs:Srt d.fs:=(rises_nil.1 h.f).1
 have Kl:zbq≠zaA:=by decide
 unfold zcn;obtain ⟨p1,_,p3⟩:=zf5 true [za3 zaA,za2 zaA b] h
 rw[show zaN true d [za3 zaA,za2 zaA b]=zdH d zaA b from rfl] at p1 p3
 have Hf:∀ o∈[za3 zaA,za2 zaA b],o.n=zaA∧o.k≠3:=by
  intro o ho;simp only[Pl,Ph,or_false] at ho
  rcases ho with rfl | rfl
  ·exact ⟨rfl,fun h=>by cases h⟩
  ·exact ⟨rfl,fun h=>by cases h⟩
 by_cases hp:(zdH d zaA b).2=0
 ·rw[if_neg (by simpa using hp)]
  rcases p3 with ⟨j,_,_,_,hj⟩ | ⟨_,_,hfs,hqs⟩
  ·exact absurd (hj hp).1 (by simp)
  ·have HB:zah zaA (zdH d zaA b).1.fs=some b:=by
    obtain ⟨h1,_⟩:=zup h (n:=zaA) b (by simp[zaA])
    have:=(h1 hp).2.2.2 zaA
    rwa [if_pos rfl] at this
   rw[hq,xI,zfN Hs] at hfs
   have H6:Srt (zdH d zaA b).1.fs:=by rw[hfs];exact Hs.dones _
   have hold:∀ x,x≠zaA→zah x (zdH d zaA b).1.fs=zah x d.fs:=fun x hx=>by
    rw[hfs]
    exact zeS _ Hs fun o ho=>⟨by rw[(Hf o ho).1];exact hx,fun h3=>absurd h3 (Hf o ho).2⟩
   clear hfs hp
   generalize (zdH d zaA b).1=d1 at *
   obtain ⟨r1,_,r3⟩:=zf5 true [zaS zaA zbq] p1
   by_cases hr:(zaN true d1 [zaS zaA zbq]).2=0
   ·rw[if_neg (by simpa using hr)]
    rcases r3 with ⟨j,_,_,_,hj⟩ | ⟨_,_,hfs,hqs2⟩
    ·exact absurd (hj hr).1 (by simp)
    ·rw[hqs,xI,zfN H6,P8,Pk,zi4 Kl HB] at hfs
     have HH:Srt (zaN true d1 [zaS zaA zbq]).1.fs:=by rw[hfs];exact H6.del.withS _
     have KT:zah zbq (zaN true d1 [zaS zaA zbq]).1.fs=some b:=by rw[hfs,zb3 H6.del,if_pos rfl]
     have J6:∀ x,x≠zbq→x≠zaA→zah x (zaN true d1 [zaS zaA zbq]).1.fs=zah x d.fs:=fun x h1 h2=>by
      rw[hfs,zb3 H6.del,if_neg h1,zdg H6.apart,if_neg h2,hold x h2]
     clear hfs hr
     generalize (zaN true d1 [zaS zaA zbq]).1=d2 at *
     obtain ⟨q1,_,q3⟩:=zf5 false ((zcl d2.now ks).map zcb) r1
     rw[show zaN false d2 ((zcl d2.now ks).map zcb)=zg2 d2 ks from rfl] at q1 q3
     rcases q3 with ⟨j,_,hfs,hqq,_⟩ | ⟨_,h9,_⟩
     ·refine ⟨q1,.inr ?_⟩
      rw[hfs,hqq,hqs2,xI,zfN HH]
      have key:∀ x∈ks,zah x ((zbw (((zcl d2.now ks).map zcb).take j) keep torn).foldl za1 d2.fs)=zah x d2.fs:=fun x hx =>
       zeS _ HH fun o ho=>by
        obtain ⟨o',Hr,e1,e2,_⟩:=znh ho;obtain ⟨n,hn,rfl⟩:=Pm.1 (P4 Hr)
        refine ⟨?_,fun h3=>by rw[e1] at h3;cases h3⟩
        rw[e2];rintro rfl
        have:=(List.mem_filter.1 hn).2
        simp at this
        exact this hx
      refine ⟨?_,fun x hx K7=>?_⟩
      ·split
       ·rename_i hM
        rw[key _ hM,KT]
       ·rfl
      ·rw[key x hx,J6 x K7 (fun e=>hN (e ▸ hx))]
     ·cases h9
   ·rw[if_pos (by simpa using hr)]
    rcases r3 with ⟨j,hj1,hfs,hqq,_⟩ | ⟨h9,_⟩
    ·refine ⟨r1,?_⟩
     rw[hfs,hqq,hqs,xI,zfN H6]
     have HG:zbw ([zaS zaA zbq].take j) keep torn=[]∨zbw ([zaS zaA zbq].take j) keep torn=[zaS zaA zbq]:=by
      have hj:j=0∨j=1:=by simp at hj1;omega
      rcases hj with rfl | rfl
      ·exact .inl (ztu _ _)
      ·rw[show [zaS zaA zbq].take 1=[zaS zaA zbq] from rfl]
       unfold zbw
       have hk:zb0 [zaS zaA zbq] keep=0∨zb0 [zaS zaA zbq] keep=1:=by unfold zb0;simp;omega
       rcases hk with hk | hk
       ·left;rw[hk];simp[zaS]
       ·right;rw[hk];simp
     rcases HG with hc | hc
     ·left
      refine ⟨hr,fun x hx=>?_⟩
      rw[hc]
      exact hold x hx
     ·right
      rw[hc,P8,Pk,zi4 Kl HB]
      refine ⟨?_,fun x hx K7=>?_⟩
      ·split
       ·rw[zb3 H6.del,if_pos rfl]
       ·rfl
      ·have Ko:x≠zaA:=fun e=>hN (e ▸ hx)
       rw[zb3 H6.del,if_neg K7,zdg H6.apart,if_neg Ko,hold x Ko]
    ·exact absurd h9 hr
 ·rw[if_pos (by simpa using hp)]
  rcases p3 with ⟨j,_,hfs,hqq,_⟩ | ⟨h9,_⟩
  ·refine ⟨p1,.inl ⟨hp,fun x hx=>?_⟩⟩
   rw[hfs,hqq,hq,xI,zfN Hs]
   exact zeS _ Hs fun o ho=>by
    obtain ⟨o',Hr,e1,e2,_⟩:=znh ho
    have:=Hf o' (P4 Hr)
    exact ⟨by rw[e2,this.1];exact hx,fun h3=>absurd (e1 ▸ h3) this.2⟩
  ·exact absurd h9 hp
open Go.RowKit Go.Mv Go.Shelf
theorem zsJ (tmps:Array Value) (W:World) (b:Nat) (cs:Array Value) (e:Value) (h4:tmps.getD 4 undef=.pointer (some ⟨b,0,none⟩)) (h3:tmps.getD 5 undef=e) (hb:Blk W b 25 cs) (hs:cs.size=5):(results Tryz.f29 tmps).run Tryz.prog W=.ok (.tuple #[.agg cs,e]) W:=by
 have HP:tmps[4]?.getD undef=.pointer (some ⟨b,0,none⟩):=by simpa using h4
 have KP:tmps[5]?.getD undef=e:=by simpa using h3
 have hl:=hb.load (P:=Tryz.prog) zg3 rfl (by rw[hs];kernel_rfl)
 simp[results,Tryz.results29,HP,KP,asAddr,hl,Ps,Sem.run_pure,Result.andThen_ok]
theorem zjj (ns:List (List UInt8)):zaG (ns.map zcb)=0:=by
 induction ns with
 | nil=>rfl
 | cons n ns ih=>rw[List.map_cons,zbJ,ih];rfl
theorem zm3 (l:List Fil) (ks:List (List UInt8)):(zcl l ks).length≤l.length:=by
 unfold zcl
 exact Px (Pa _ _) (Py (P3 _))
theorem zhS (v:Value) (d:Dk) (n:Nat) (vk:Value) (ks:List (Int×Int×Int)) (w:World) (hS:StW w) (hD:DkV w v d) (hs:Sz n d) (hK:SlR w 3 vk ks.length (idCells ks)) (K0:ks.length≤1000000) (K1:n+n≤1000000) :
  Calls Tryz.prog 29 #[v,vk] w fun e w'=>∃ u,e=.returned (.tuple #[u,.int .i64 (zg2 d (zaD ks)).2])∧zjn w' w.heap.size u (zg2 d (zaD ks)).1∧Ext w w':=by
 obtain ⟨vf,vq,rfl,hF,hQ⟩:=hD;obtain ⟨A,c,rfl,_,_⟩:=Fs.open_ hF;obtain ⟨B,e2,rfl,_,_⟩:=Qs.open_ hQ;obtain ⟨C,c2,rfl,_,_⟩:=xO hK;obtain ⟨W0,H8⟩:∃ W0,(w.alloc (.cells #[.slice A d.fs.length c,.slice B d.q.length e2,.int .i64 d.quota,.int .i64 d.fuse,.bool d.dead] 25)).alloc (.cells #[.slice none 0 0,.slice none 0 0,.int .i64 0,.int .i64 0,.bool false] 25)=W0:=⟨_,rfl⟩
 have Hg:Ext w W0:=by rw[←H8];exact xA (xA (xR _) _) _
 have h0:Blk W0 w.heap.size 25 (zaz A d.fs.length c B d.q.length e2 d.quota d.fuse d.dead):=by rw[←H8];exact (Blk.new w _ _).alloc _
 have h2:Blk W0 (w.heap.size+1) 25 (zaz none 0 0 none 0 0 0 0 false):=by
  rw[←H8]
  have:=Blk.new (w.alloc (.cells #[.slice A d.fs.length c,.slice B d.q.length e2,.int .i64 d.quota,.int .i64 d.fuse,.bool d.dead] 25)) 25 #[.slice none 0 0,.slice none 0 0,.int .i64 0,.int .i64 0,.bool false]
  rwa [xS] at this
 have Kd:=zhd Hg;have H0:=zhd h0;have H2:=zhd h2
 have HD:=zhd (show DkV W0 (.agg #[.slice A d.fs.length c,.slice B d.q.length e2,.int .i64 d.quota,.int .i64 d.fuse,.bool d.dead]) d from ⟨_,_,rfl,hF.ext Hg,hQ.ext Hg⟩)
 have KM:=zhd (hS.ext Hg);have HL:=zhd (SlR.ext hK Hg);obtain ⟨g0,g1,g2,g3,g4⟩:=zac h0;have HZ:=zhd hs;have Kf:=zhd K1;have KF:=zhd K0;have Km:=zdP d;have K6:=zm3 d.now (zaD ks);have J8:=hs.l;obtain ⟨T,hT⟩:∃ T,zg2 d (zaD ks)=T:=⟨_,rfl⟩;rw[hT];unfold zg2 at hT;have HT:=zhd hT
 have KH:=zhd (show d.now.length≤1000000 by omega)
 have KI:=zhd (show (zcl d.now (zaD ks)).length≤n by omega)
 clear h0 h2 hF hQ Hg hs hS hK K1 K0 Km K6 J8 hT;obtain ⟨i0,hi,K8,K9,Ka⟩:=info_parts ziF
 go_enter Tryz.func29,Tryz.ntmps29
 go_wp2_with fail
 refine (zl6 _ d n _ HD.out (by have:=Kf.out;omega) HZ.out).mono ?_
 rintro e w1 ⟨A1,c1,rfl,HU,H7⟩;clear H8;have Hv:=zqm _ d.now _ ks w1 (KM.out.ext H7) HU.fs (SlR.ext HL.out H7) KH.out KF.out;have KJ:=zhd HU;have Ke:=zhd H7;have Hv:=zhd Hv;clear HU H7;go_wp2_with fail
 refine Hv.out.mono ?_
 rintro e w2 ⟨A2,k2,rfl,Kj,Ki⟩;clear g0 g1 g2 g3 g4 Hv KJ
 generalize hN:zcl d.now (zaD ks)=N at *
 have KN:=zhd (xT Ke.out Ki);have KK:=zhd Kj;clear Kj Ki Ke
 go_frame
 go_wp2_with fail
 go_loopw [6,14] (fun v6 Kc wr=>∃ k:Nat,k≤N.length∧Kc=.int .i64 k∧(∃ A' c',v6=.slice A' k c')∧Hid (OwnQ wr w2.heap.size v6 ((N.take k).map zcb))∧Hid (Ext w2 wr)) (fun _ Kc _=>N.length-(intOf Kc).toNat)
 case atStart=>exact ⟨0,Pw _,rfl,⟨_,_,rfl⟩,OwnX.nil _ _ _,xR _⟩
 case round =>
  obtain ⟨k,hk,rfl,⟨A',c',rfl⟩,HO,Hx⟩:=hrel;have Km:=KI.out;have K1:=Kf.out
  by_cases Hd:k<N.length
  ·obtain ⟨_,b,Kp,rfl,hc⟩:=SlR.at_ (SlR.ext (xW KK.out) Hx.out) (by omega)
   have KV:=hc k (sv N[k]) (by rw[List.getElem?_map,P9 Hd];rfl)
   have Hu:(N.take (k+1)).map zcb=(N.take k).map zcb++[zcb N[k]]:=by rw[P6 Hd,P7];rfl
   have Hp:((N.take k).map zcb).length=k:=by rw[P3,List.length_take];omega
   have Hk:=zhd Hu;have Ha:=zhd Hp;clear hc Hu Hp
   generalize N[k]=x at *
   simp only[sv,Nat.mul_one] at KV
   have Hb:Ext wr (wr.alloc (.cells #[.int .u8 4,.string ⟨x.toArray⟩,.string ⟨#[]⟩,.slice none 0 0] 86)):=xA (xR _) _
   have Je:w2.heap.size≤wr.heap.size:=Hx.out.size
   have KL:=zhd (OwnX.ext zcQ HO.out Hb)
   have Kk:∀ g,(Value.slice A' k c').ownBlock=some g→∀ u∈[.int .u8 4,.string ⟨x.toArray⟩,.string ⟨#[]⟩,.slice none 0 0],zbu g u:=by
    intro g _ u hu;simp only[Pl,Ph,or_false] at hu
    rcases hu with rfl | rfl | rfl | rfl
    ·exact zeB _ _ _
    ·exact za0 _ x
    ·exact za0 _ []
    ·intro b Kp n c _ h
     cases h
   have KC:=zhd Kk;have HJ:=zhd Hb;clear Kk Hb
   go_wp2_with (at_builtin;refine zey zcQ rfl (.tmp 18) (.tmp 21) 23 rfl 86 i0 _ 64 Tryz.underlying23 hi K8 K9 Ka rfl (by decide) (by decide) w2.heap.size _ ((N.take k).map zcb) rfl KL.out _ [zcb x] [.int .u8 4,.string ⟨x.toArray⟩,.string ⟨#[]⟩,.slice none 0 0] rfl (zfc wr [.int .u8 4,.string ⟨x.toArray⟩,.string ⟨#[]⟩,.slice none 0 0] 86 4 rfl rfl) (zfU (o:=zcb x) (SlR.nil _ 1)) (by simp) KC.out (by rw[Ha.out];simp;omega) (by rw[xS];omega) ?_;intro A3 c3 w3 Hj KR Hi;rw[←Hk.out,Ha.out] at Hj;simp only[Ha.out,xC,Pi,Pz] at Hj ⊢;have KU:=KR w2 (xT Hx.out HJ.out) (xN _))
   exact ⟨⟨k+1,by omega,by go_num,⟨_,_,rfl⟩,Hj,KU⟩,by simp[intOf];omega⟩
  ·obtain rfl:k=N.length:=by omega
   have hO:=HO.out;rw[Pg] at hO;have HO:=zhd hO;clear hO;have HA:=xT KN.out Hx.out;obtain ⟨g0,g1,g2,g3,g4⟩:=zac (H0.out.ext HA);have hC:=zhR _ d n false _ (N.map zcb) wr (HD.out.ext HA) HZ.out HO.out.qs (by rw[P3,zjj];omega);rw[HT.out] at hC;have HC:=zhd hC;have Kh:=zhd HA;clear hC HA;go_wp2_with fail
   refine HC.out.mono ?_
   rintro e w4 ⟨u,rfl,⟨A5,k5,B5,e5,rfl,of,oq⟩,Hy⟩;have HW:=xT Kh.out Hy;have Hh:=H2.out.ext HW;obtain ⟨f0,f1,f2,f3,f4⟩:=za4 Hh;obtain ⟨d0,d1,d2,d3,d4⟩:=zac Hh;have Q1:=zhd Hh;have Q2:=zhd of;have Q3:=zhd oq;have Q4:=zhd (xT Kd.out HW);have Q5:=zhd (xT Kd.out Kh.out).size;clear Hh of oq HW Hy g0 g1 g2 g3 g4;go_wp2_with fail
   refine bodyPost_ret (zsJ _ _ _ _ (.int .i64 T.2) rfl rfl (zaJ Q1.out _ _ _ _ _) rfl) rfl ?_
   exact ⟨_,rfl,⟨_,_,_,_,rfl,OwnF.box1 (OwnX.base Q2.out Q5.out) Q1.out,OwnQ.box1 (OwnX.base Q3.out Q5.out) Q1.out⟩,zaB Q4.out (by omega) _ _ _ _ _⟩
end Go.Proofs.YtgonhdeochgkoaaGreatDoor
