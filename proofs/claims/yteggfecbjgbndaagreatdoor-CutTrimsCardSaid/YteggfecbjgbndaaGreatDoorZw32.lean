/- Merged -/
import Derived.Test.YteggfecbjgbndaaGreatDoorZw22
set_option linter.all false
set_option maxHeartbeats 8000000
set_option maxRecDepth 100000
open Go.MapKept renaming run_getObj_map→P0,run_findKey→P1,run_setObj_map→P2,run_checkKey→P3
open List renaming mem_append→P4,mem_singleton→P5,mem_of_getElem?→P6
open Go.Instr renaming lookup→P7,mapUpdate→P8,checkKey→P9
open Go.Sem renaming run_bind→Pa
namespace Go.Proofs.YteggfecbjgbndaaGreatDoor
open Go.RowKit Go.Mv Go.MapKept Go.ChangeMaps
def SSet (w:World) (r:Nat) (d:TypeDesc) (u:Value) (S:Value→Prop):Prop :=
 ∃ es clock,w.heap[r]?=some (.map es clock)∧Stamped es clock∧(∀ x∈es.toList,x.val=u∧IsKey d x.key)∧∀ k,S k↔∃ x∈es.toList,x.key=k
theorem SSet.lt {w:World} {r:Nat} {d:TypeDesc} {u:Value} {S:Value→Prop} (h:SSet w r d u S):r<w.heap.size:=by
 obtain ⟨es,c,hb,_⟩:=h
 exact (Array.getElem?_eq_some_iff.1 hb).1
theorem SSet.ext {w w':World} {r:Nat} {d:TypeDesc} {u:Value} {S:Value→Prop} (h:SSet w r d u S) (hE:Ext w w'):SSet w' r d u S:=by
 have H2:=h.lt;obtain ⟨es,c,hb,hs,h1,h2⟩:=h
 exact ⟨es,c,(hE.block r H2).trans hb,hs,h1,h2⟩
theorem MT.ext2 {w A B:World} {r:Nat} (h:MT A B r) (hE:Ext w A) (hr:w.heap.size≤r):Ext w B:=⟨h.os.trans hE.os,h.tape.trans hE.tape,h.output.trans hE.output,Nat.le_trans hE.size (Nat.le_of_eq h.size.symm),fun k hk=>(h.block k (by omega)).trans (hE.block k hk)⟩
theorem SSet.new (w:World) (d:TypeDesc) (u:Value):SSet (w.alloc (.map #[] 0)) w.heap.size d u (fun _=>False):=⟨#[],0,heap_alloc_new w _,stamped_empty 0,by simp,by simp⟩
theorem SSet.congr {w:World} {r:Nat} {d:TypeDesc} {u:Value} {S S':Value→Prop} (h:SSet w r d u S) (hS:∀ k,S' k↔S k):SSet w r d u S':=by
 obtain ⟨es,c,hb,hs,h1,h2⟩:=h
 exact ⟨es,c,hb,hs,h1,fun k=>(hS k).trans (h2 k)⟩
section
variable {P:Program} {T K E:TypeId} {d:TypeDesc}
theorem SSet.lookup {w:World} {r:Nat} {u:Value} {S:Value→Prop} (h:SSet w r d u S) (hT:P.underlying T=some (.map K E)) (hK:P.underlying K=some d) {k:Value} (hk:IsKey d k) {z:Value} (hz:(zeroValue E).run P w=.ok z w) :
  (S k∧(P7 T (.map (some r)) k false).run P w=.ok u w)∨(¬ S k∧(P7 T (.map (some r)) k false).run P w=.ok z w):=by
 obtain ⟨es,c,hb,hs,h1,h2⟩:=h
 have H0:∀ e,(P9 e 10000 K k).run P w=.ok () w:=fun e=>P3 hK hk e 9999
 rcases findNow_spec (d:=d) hk es.toList 0 (fun x hx=>(h1 x hx).2) with ⟨g1,g2⟩ | ⟨j,e,g1,g2,g3⟩
 ·refine .inr ⟨fun hS=>?_,?_⟩
  ·obtain ⟨x,hx,H3⟩:=(h2 k).1 hS
   exact g2 x hx H3
  ·unfold P7
   simp[Pa,run_underlying hT,P0 hb,H0,P1 hK g1,hz,go_sem]
 ·have hm:e∈es.toList:=P6 g2
  refine .inl ⟨(h2 k).2 ⟨e,hm,g3⟩,?_⟩
  unfold P7
  simp[Pa,run_underlying hT,P0 hb,H0,P1 hK g1,(h1 e hm).1,go_sem]
theorem SSet.update {w:World} {r:Nat} {u:Value} {S:Value→Prop} (h:SSet w r d u S) (hT:P.underlying T=some (.map K E)) (hK:P.underlying K=some d) {k:Value} (hk:IsKey d k) :
  ∃ w',(P8 T (.map (some r)) k u).run P w=.ok () w'∧SSet w' r d u (fun x=>S x∨x=k)∧MT w w' r:=by
 obtain ⟨es,c,hb,hs,h1,h2⟩:=h
 have H0:∀ e,(P9 e 10000 K k).run P w=.ok () w:=fun e=>P3 hK hk e 9999
 rcases findNow_spec (d:=d) hk es.toList 0 (fun x hx=>(h1 x hx).2) with ⟨g1,g2⟩ | ⟨j,e,g1,g2,g3⟩
 ·refine ⟨setBlock w r (.map (es.push { key:=k,val:=u,born:=c }) (c+1)),?_,⟨_,_,(heap_set hb).1,stamped_push hs g2,fun x hx=>?_,fun x=>?_⟩,zgE hb⟩
  ·unfold P8
   simp only[Pa,run_underlying hT,Result.andThen,P0 hb,H0,P1 hK g1,P2 _ hb];rfl
  ·rw[Array.toList_push] at hx
   rcases P4.1 hx with hx | hx
   ·exact h1 x hx
   ·rw[P5] at hx
    subst hx
    exact ⟨rfl,hk⟩
  ·show (S x∨x=k)↔_
   rw[Array.toList_push,h2]
   constructor
   ·rintro (⟨y,hy,rfl⟩ | rfl)
    ·exact ⟨y,P4.2 (.inl hy),rfl⟩
    ·exact ⟨_,P4.2 (.inr (P5.2 rfl)),rfl⟩
   ·rintro ⟨y,hy,rfl⟩
    rcases P4.1 hy with hy | hy
    ·exact .inl ⟨y,hy,rfl⟩
    ·rw[P5] at hy
     subst hy
     exact .inr rfl
 ·have hj:es[j]?=some e:=by simpa using g2
  have hm:e∈es.toList:=P6 g2
  have H1:(es.modify j fun e=>{ e with key:=k,val:=u })=es:=by
   apply Array.ext_getElem?
   intro i;rw[Array.getElem?_modify]
   split
   ·rename_i hji
    subst hji;rw[hj,Option.map_some]
    congr 1
    have:=(h1 e hm).1
    cases e
    simp_all
   ·rfl
  refine ⟨setBlock w r (.map es c),?_,⟨_,_,(heap_set hb).1,hs,h1,fun x=>?_⟩,zgE hb⟩
  ·unfold P8
   simp only[Pa,run_underlying hT,Result.andThen,P0 hb,H0,P1 hK g1,Nat.zero_add,hj,Option.map_some,Option.getD_some,g3,run_keyThatStays hk,P2 _ hb,H1];rfl
  ·show (S x∨x=k)↔_
   rw[h2]
   constructor
   ·rintro (h | rfl)
    ·exact h
    ·exact ⟨e,hm,g3⟩
   ·exact .inl
variable {w:World} {ops:Array Oper} {rest:List Oper} {o:Oper} {a:Act} {Q:Exit→Act→World→Prop}
end
end Go.Proofs.YteggfecbjgbndaaGreatDoor
