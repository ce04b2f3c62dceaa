/- Merged -/
import Derived.Test.YtgonhdeochgkoaaGreatDoorZx16
import Derived.Maps.RangeWalk
import Derived.Maps.Own
import Derived.Sort.KeysCollected
set_option linter.all false
set_option maxHeartbeats 8000000
set_option maxRecDepth 100000
open List renaming mem_map→P0,mem_cons→P1,mem_cons_self→P2,mem_cons_of_mem→P3,filter_cons→P4,map_cons→P5,pairwise_cons→P6,pairwise_map→P7,nodup_cons→P8,mergeSort_perm→P9,foldl_cons→Pa,perm_ext_iff_of_nodup→Pb,le_iff_lt_or_eq→Pc,mem_singleton→Pd,Nodup→Pe,foldl_append→Pf,filter_congr→Pg,append_assoc→Ph,mem_filter→Pi
open Go.Result renaming andThen→Pj
open Go.MapKept renaming run_getObj_map→Pk,run_findKey→Pl,run_setObj_map→Pm,run_checkKey→Pn
open Array renaming getElem?_eq_some_iff→Po,getElem?_toList→Pp,toList_filter→Pq
open Go.Sem renaming run_bind→Pr
open Go.Op renaming bytesLess→Ps
open Bool renaming and_eq_true→Pt,or_eq_true→Pu,eq_false_iff→Pv
open List.Pairwise renaming imp→Pw,nil→Px,sublist→Py,imp₂→Pz
open Ne renaming symm→Q0
open Go.Builtin renaming delete_→Q1,delete→Q2
open Go.Instr renaming mapUpdate→Q3,checkKey→Q4,lookup→Q5,findNow→Q6,entry→Q7,next→Q8
namespace Go.Proofs.YtgonhdeochgkoaaGreatDoor
open Go.RowKit Go.Mv Go.MapKept Go.ChangeMaps
theorem zrV {a b:List UInt8} (h:sv a=sv b):a=b:=by
 unfold sv at h
 injection h with h
 injection h with h
 exact Array.toList_inj.2 h
def E2 (w:World):List MapEntry→List Fil→Prop
 | [],[]=>True
 | e::es,p::l=>e.key=sv p.1∧Bs w e.val p.2∧E2 w es l
 | _,_=>False
theorem E2.len {w:World}:∀ {es:List MapEntry} {l:List Fil},E2 w es l→es.length=l.length
 | [],[],_=>rfl
 | _::_,_::_,h=>by rw[xC,xC,E2.len h.2.2]
 | [],_::_,h=>h.elim
 | _::_,[],h=>h.elim
theorem E2.keep {w w':World} (hk:∀ p u,w.cell? p=some u→w'.cell? p=some u):∀ {es:List MapEntry} {l:List Fil},E2 w es l→E2 w' es l
 | [],[],_=>trivial
 | _::_,_::_,h=>⟨h.1,SlR.keep h.2.1 hk,E2.keep hk h.2.2⟩
 | [],_::_,h=>h.elim
 | _::_,[],h=>h.elim
theorem E2.keys {w:World}:∀ {es:List MapEntry} {l:List Fil},E2 w es l→es.map (·.key)=l.map (fun p=>sv p.1)
 | [],[],_=>rfl
 | _::_,_::_,h=>by rw[P5,P5,h.1,E2.keys h.2.2]
 | [],_::_,h=>h.elim
 | _::_,[],h=>h.elim
theorem E2.at_ {w:World}:∀ {es:List MapEntry} {l:List Fil},E2 w es l→∀ {j:Nat} {e:MapEntry},es[j]?=some e→∃ p,l[j]?=some p∧e.key=sv p.1∧Bs w e.val p.2
 | [],[],_,_,_,he=>by cases he
 | _::_,p::_,h,0,_,he=>by cases he;exact ⟨p,rfl,h.1,h.2.1⟩
 | _::_,_::_,h,j+1,e,he=>by
  obtain ⟨p,h1,h2⟩:=E2.at_ h.2.2 (j:=j) (e:=e) (by simpa using he)
  exact ⟨p,by simpa using h1,h2⟩
 | [],_::_,h,_,_,_=>h.elim
 | _::_,[],h,_,_,_=>h.elim
theorem E2.push {w:World} {e:MapEntry} {p:Fil} (hk:e.key=sv p.1) (hb:Bs w e.val p.2):∀ {es:List MapEntry} {l:List Fil},E2 w es l→E2 w (es++[e]) (l++[p])
 | [],[],_=>⟨hk,hb,trivial⟩
 | _::_,_::_,h=>⟨h.1,h.2.1,E2.push hk hb h.2.2⟩
 | [],_::_,h=>h.elim
 | _::_,[],h=>h.elim
theorem E2.set {w:World} {e:MapEntry} {p:Fil} (hk:e.key=sv p.1) (hb:Bs w e.val p.2):∀ {es:List MapEntry} {l:List Fil} (j:Nat),E2 w es l→E2 w (es.set j e) (l.set j p)
 | [],[],_,_=>trivial
 | _::_,_::_,0,h=>⟨hk,hb,h.2.2⟩
 | _::_,_::_,j+1,h=>⟨h.1,h.2.1,E2.set hk hb j h.2.2⟩
 | [],_::_,_,h=>h.elim
 | _::_,[],_,h=>h.elim
theorem E2.erase {w:World}:∀ {es:List MapEntry} {l:List Fil} (j:Nat),E2 w es l→E2 w (es.eraseIdx j) (l.eraseIdx j)
 | [],[],_,_=>trivial
 | _::_,_::_,0,h=>h.2.2
 | _::_,_::_,j+1,h=>⟨h.1,h.2.1,E2.erase j h.2.2⟩
 | [],_::_,_,h=>h.elim
 | _::_,[],_,h=>h.elim
def zah (n:List UInt8):List Fil→Option (List UInt8)
 | []=>none
 | p::l=>if p.1=n then some p.2 else zah n l
def zbt (n b:List UInt8):List Fil→List Fil
 | []=>[(n,b)]
 | p::l=>if p.1=n then (n,b)::l else p::zbt n b l
def zbg (n:List UInt8):List Fil→List Fil
 | []=>[]
 | p::l=>if p.1=n then l else p::zbg n l
def Apart (l:List Fil):Prop:=(l.map (·.1)).Nodup
theorem zdB {n:List UInt8}:∀ {l:List Fil},(∀ p∈l,p.1≠n)→zah n l=none
 | [],_=>rfl
 | p::l,h=>by rw[zah,if_neg (h p (by simp)),zdB fun q hq=>h q (by simp[hq])]
theorem zlx {n b:List UInt8}:∀ {l:List Fil},(∀ p∈l,p.1≠n)→zbt n b l=l++[(n,b)]
 | [],_=>rfl
 | p::l,h=>by rw[zbt,if_neg (h p (by simp)),zlx fun q hq=>h q (by simp[hq])];rfl
theorem zf4 {n:List UInt8}:∀ {l:List Fil},(∀ p∈l,p.1≠n)→zbg n l=l
 | [],_=>rfl
 | p::l,h=>by rw[zbg,if_neg (h p (by simp)),zf4 fun q hq=>h q (by simp[hq])]
theorem zek {p:Fil} {l:List Fil} (h:Apart (p::l)):Apart l:=(P8.1 h).2
theorem zfH {p q:Fil} {l:List Fil} (h:Apart (p::l)) (hq:q∈l):p.1≠q.1:=by
 intro e
 exact (P8.1 h).1 (P0.2 ⟨q,hq,e.symm⟩)
theorem ziL {n:List UInt8}:∀ {l:List Fil} {j:Nat} {p:Fil},Apart l→l[j]?=some p→p.1=n→zah n l=some p.2∧(∀ b,zbt n b l=l.set j (n,b))∧zbg n l=l.eraseIdx j
 | [],_,_,_,h,_=>by cases h
 | q::l,0,p,_,h,he=>by
  cases h
  refine ⟨by rw[zah,if_pos he],fun b=>by rw[zbt,if_pos he];rfl,by rw[zbg,if_pos he];rfl⟩
 | q::l,j+1,p,ha,h,he=>by
  have hm:p∈l:=List.mem_of_getElem? (by simpa using h:l[j]?=some p)
  have Hd:q.1≠n:=he ▸ zfH ha hm
  obtain ⟨h1,h2,h3⟩:=ziL (zek ha) (by simpa using h:l[j]?=some p) he
  refine ⟨by rw[zah,if_neg Hd,h1],fun b=>by rw[zbt,if_neg Hd,h2 b];rfl,by rw[zbg,if_neg Hd,h3];rfl⟩
def FMap (w:World) (r:Nat) (l:List Fil):Prop:=∃ es H0,w.heap[r]?=some (.map es H0)∧Stamped es H0∧E2 w es.toList l
theorem FMap.lt {w:World} {r:Nat} {l:List Fil} (h:FMap w r l):r<w.heap.size:=by
 obtain ⟨es,c,hb,_⟩:=h
 exact (Po.1 hb).1
theorem FMap.apart {w:World} {r:Nat} {l:List Fil} (h:FMap w r l):Apart l:=by
 obtain ⟨es,c,_,hs,he⟩:=h;have h3:=hs.2.2;rw[he.keys] at h3;unfold Apart
 unfold Pe at h3 ⊢
 rw[P7] at h3 ⊢
 exact h3.imp fun h e=>h (congrArg sv e)
theorem FMap.ext {w w':World} {r:Nat} {l:List Fil} (h:FMap w r l) (hE:Ext w w'):FMap w' r l:=by
 have H9:=h.lt;obtain ⟨es,c,hb,hs,he⟩:=h
 exact ⟨es,c,(hE.block r H9).trans hb,hs,he.keep fun _ _ hc=>hE.cell hc⟩
theorem FMap.new (w:World):FMap (w.alloc (.map #[] 0)) w.heap.size []:=⟨#[],0,heap_alloc_new w _,stamped_empty 0,trivial⟩
structure MT (w w':World) (r:Nat):Prop where
 os:w'.os=w.os
 tape:w'.tape=w.tape
 output:w'.output=w.output
 size:w'.heap.size=w.heap.size
 block:∀ k,k≠r→w'.heap[k]?=w.heap[k]?
 no:∀ cs t f,w.heap[r]?≠some (.cells cs t f)
theorem MT.blk {w w':World} {r:Nat} (h:MT w w' r) {b:Nat} {t:TypeId} {cs:Array Value} (hb:Blk w b t cs):Blk w' b t cs:=by
 have:b≠r:=by
  rintro rfl
  exact h.no _ _ _ hb
 exact (h.block _ this).trans hb
theorem MT.cell {w w':World} {r:Nat} (h:MT w w' r) {p:Addr} {u:Value} (hc:w.cell? p=some u):w'.cell? p=some u:=by
 have:p.block≠r:=by
  intro e
  unfold World.cell? at hc
  rw[e] at hc
  split at hc
  ·rename_i h1
   exact h.no _ _ _ h1
  ·cases hc
 unfold World.cell? at hc ⊢
 rw[h.block _ this]
 exact hc
theorem MT.bs {w w':World} {r:Nat} (h:MT w w' r) {v:Value} {b:List UInt8} (hb:Bs w v b):Bs w' v b:=SlR.keep hb fun _ _ hc=>h.cell hc
theorem MT.ext {w0 w w':World} {r:Nat} (h:MT w w' r) (hE:Ext w0 w) (hr:w0.heap.size≤r):Ext w0 w' :=
 ⟨h.os.trans hE.os,h.tape.trans hE.tape,h.output.trans hE.output,by rw[h.size];exact hE.size,fun k hk=>(h.block k (by omega)).trans (hE.block k hk)⟩
theorem zgC {w:World} {r:Nat} {es es':Array MapEntry} {c c':Nat} (h:w.heap[r]?=some (.map es c)):MT w (setBlock w r (.map es' c')) r :=
 ⟨rfl,rfl,rfl,by simp[setBlock],fun k hk=>(heap_set h).2 k hk,fun _ _ _ e=>by rw[h] at e;cases e⟩
theorem zvh {w w1:World} {r:Nat} {m:Option Nat} {a:Nat} {s:Array Nat} {c:Nat} (h:w.heap[r]?=some (.mapIter m a s c)) (hw:w1=w∨w1=w.drew) (o:Obj):MT w (setBlock w1 r o) r:=by
 rcases hw with rfl | rfl
 ·exact ⟨rfl,rfl,rfl,by simp[setBlock],fun k hk=>(heap_set h).2 k hk,fun _ _ _ e=>by rw[h] at e;cases e⟩
 ·exact ⟨rfl,rfl,rfl,by show (w.heap.setIfInBounds r o).size=w.heap.size;rw[Array.size_setIfInBounds],fun k hk=>(heap_set (w:=w.drew) h).2 k hk,fun _ _ _ e=>by rw[h] at e;cases e⟩
section
variable {P:Program} {T K E:TypeId}
theorem zuu {w:World} {es:List MapEntry} {l:List Fil} (h:E2 w es l):∀ x∈es,IsKey .string x.key:=by
 intro x hx
 have:x.key∈es.map (·.key):=P0.2 ⟨x,hx,rfl⟩
 rw[h.keys] at this;obtain ⟨p,_,hp⟩:=P0.1 this;rw[←hp]
 exact trivial
theorem zh8 {w:World} {es:Array MapEntry} {H0:Nat} {l:List Fil} (hs:Stamped es H0) (he:E2 w es.toList l) (ha:Apart l) (n:List UInt8) :
  (Q6 .string (sv n) es.toList 0=some none∧(∀ x∈es.toList,x.key≠sv n)∧∀ p∈l,p.1≠n) ∨
  ∃ j e p,Q6 .string (sv n) es.toList 0=some (some (j,e.val))∧es[j]?=some e∧e.key=sv n∧l[j]?=some p∧p.1=n∧Bs w e.val p.2:=by
 rcases findNow_spec (d:=.string) (k:=sv n) trivial es.toList 0 (zuu he) with ⟨h1,h2⟩ | ⟨j,e,h1,h2,h3⟩
 ·refine .inl ⟨h1,h2,fun p hp e=>?_⟩
  have:sv p.1∈l.map (fun p=>sv p.1):=P0.2 ⟨p,hp,rfl⟩
  rw[←he.keys] at this;obtain ⟨x,hx,hk⟩:=P0.1 this
  exact h2 x hx (by rw[hk,e])
 ·obtain ⟨p,hp,hk,hb⟩:=he.at_ h2
  exact .inr ⟨j,e,p,by rw[h1,Nat.zero_add],by simpa using h2,h3,hp,zrV (hk.symm.trans h3),hb⟩
theorem FMap.lookup {w:World} {r:Nat} {l:List Fil} (h:FMap w r l) (hT:P.underlying T=some (.map K E)) (hK:P.underlying K=some .string) (n:List UInt8) {z:Value} (hz:(zeroValue E).run P w=.ok z w) (ok:Bool) :
  ∃ v,(Q5 T (.map (some r)) (sv n) ok).run P w=.ok (if ok then .tuple #[v,.bool (zah n l).isSome] else v) w∧(zah n l=none→v=z)∧∀ b,zah n l=some b→Bs w v b:=by
 have ha:=h.apart;obtain ⟨es,c,hb,hs,he⟩:=h
 have H7:∀ e,(Q4 e 10000 K (sv n)).run P w=.ok () w:=fun e=>Pn hK (show IsKey .string (sv n) from trivial) e 9999
 rcases zh8 hs he ha n with ⟨h1,h2,h3⟩ | ⟨j,e,p,h1,h2,h3,h4,h5,h6⟩
 ·refine ⟨z,?_,fun _=>rfl,fun b hb=>by rw[zdB h3] at hb;cases hb⟩
  unfold Q5
  cases ok <;> simp[Pr,run_underlying hT,Pk hb,H7,Pl hK h1,hz,zdB h3,go_sem]
 ·have hg:=(ziL ha h4 h5).1
  refine ⟨e.val,?_,fun q=>(by rw[hg] at q;cases q),fun b hb=>?_⟩
  ·unfold Q5
   cases ok <;> simp[Pr,run_underlying hT,Pk hb,H7,Pl hK h1,hg,go_sem]
  ·rw[hg] at hb
   injection hb with hb
   rw[←hb]
   exact h6
theorem FMap.update {w:World} {r:Nat} {l:List Fil} (h:FMap w r l) (hT:P.underlying T=some (.map K E)) (hK:P.underlying K=some .string) (n:List UInt8) {v:Value} {b:List UInt8} (hv:Bs w v b) :
  ∃ w',(Q3 T (.map (some r)) (sv n) v).run P w=.ok () w'∧FMap w' r (zbt n b l)∧MT w w' r:=by
 have ha:=h.apart;obtain ⟨es,c,hb,hs,he⟩:=h
 have H7:∀ e,(Q4 e 10000 K (sv n)).run P w=.ok () w:=fun e=>Pn hK (show IsKey .string (sv n) from trivial) e 9999
 rcases zh8 hs he ha n with ⟨h1,h2,h3⟩ | ⟨j,e,p,h1,h2,h3,h4,h5,h6⟩
 ·have hm:MT w (setBlock w r (.map (es.push { key:=sv n,val:=v,born:=c }) (c+1))) r:=zgC hb
  refine ⟨_,?_,?_,hm⟩
  ·unfold Q3
   simp only[Pr,run_underlying hT,Pj,Pk hb,H7,Pl hK h1,Pm _ hb];rfl
  ·refine ⟨_,_,(heap_set hb).1,stamped_push hs h2,?_⟩
   rw[zlx h3,Array.toList_push]
   exact E2.push rfl (hm.bs hv) (he.keep fun _ _ hc=>hm.cell hc)
 ·have hu:=(ziL ha h4 h5).2.1 b
  have hm:MT w (setBlock w r (.map (es.modify j fun e=>{ e with key:=sv n,val:=v }) c)) r:=zgC hb
  refine ⟨_,?_,?_,hm⟩
  ·unfold Q3
   simp only[Pr,run_underlying hT,Pj,Pk hb,H7,Pl hK h1,h2,Option.map_some,Option.getD_some,h3,run_keyThatStays (d:=.string) (k:=sv n) trivial,Pm _ hb];rfl
  ·refine ⟨_,_,(heap_set hb).1,stamped_modify hs _ _ (fun _ _=>rfl) (fun e' _ Hk=>by rw[h2] at Hk;cases Hk;exact h3.symm),?_⟩
   rw[hu,show (es.modify j fun e=>{ e with key:=sv n,val:=v }).toList=es.toList.set j { e with key:=sv n,val:=v } from by
    apply List.ext_getElem?
    intro i;rw[Pp,Array.getElem?_modify,List.getElem?_set,Pp]
    split
    ·rename_i hji
     subst hji;obtain ⟨hj,Ht⟩:=Po.1 h2
     simp[hj,Ht]
    ·rfl]
   exact E2.set rfl (hm.bs hv) j (he.keep fun _ _ hc=>hm.cell hc)
theorem FMap.delete {w:World} {r:Nat} {l:List Fil} (h:FMap w r l) (hT:P.underlying T=some (.map K E)) (hK:P.underlying K=some .string) (n:List UInt8) (ty:TypeId) :
  ∃ w',(Q1 #[T,K] ty #[.map (some r),sv n]).run P w=.ok (.tuple #[]) w'∧FMap w' r (zbg n l)∧MT w w' r:=by
 have ha:=h.apart;obtain ⟨es,c,hb,hs,he⟩:=h
 have H7:∀ e,(Q4 e 10000 K (sv n)).run P w=.ok () w:=fun e=>Pn hK (show IsKey .string (sv n) from trivial) e 9999
 rcases zh8 hs he ha n with ⟨h1,h2,h3⟩ | ⟨j,e,p,h1,h2,h3,h4,h5,h6⟩
 ·have hm:MT w (setBlock w r (.map es c)) r:=zgC hb
  refine ⟨_,?_,?_,hm⟩
  ·unfold Q1
   simp[Pr,run_underlying hT,Pk hb,H7,Pl hK h1,Pm _ hb,setBlock,Pj]
  ·refine ⟨_,_,(heap_set hb).1,hs,?_⟩
   rw[zf4 h3]
   exact he.keep fun _ _ hc=>hm.cell hc
 ·have hd:=(ziL ha h4 h5).2.2
  have hm:MT w (setBlock w r (.map (es.eraseIdxIfInBounds j) c)) r:=zgC hb
  refine ⟨_,?_,?_,hm⟩
  ·unfold Q1
   simp[Pr,run_underlying hT,Pk hb,H7,Pl hK h1,Pm _ hb,setBlock,Pj]
  ·refine ⟨_,_,(heap_set hb).1,stamped_erase hs _,?_⟩
   have hj:j<es.size:=(Po.1 h2).1
   rw[hd,show (es.eraseIdxIfInBounds j).toList=es.toList.eraseIdx j from by simp[Array.eraseIdxIfInBounds,hj]]
   exact E2.erase j (he.keep fun _ _ hc=>hm.cell hc)
/-! Going over a map -/
abbrev Ze:=MapEntry×Fil
theorem zqS {w:World}:∀ {es:List MapEntry} {l:List Fil},E2 w es l→∃ Z:List Ze,es=Z.map (·.1)∧l=Z.map (·.2)∧∀ z∈Z,z.1.key=sv z.2.1∧Bs w z.1.val z.2.2
 | [],[],_=>⟨[],rfl,rfl,by simp⟩
 | e::_,p::_,h=>by
  obtain ⟨Z,h1,h2,h3⟩:=zqS h.2.2
  refine ⟨(e,p)::Z,by rw[P5,←h1],by rw[P5,←h2],fun z hz=>?_⟩
  rcases P1.1 hz with rfl | hz
  ·exact ⟨h.1,h.2.1⟩
  ·exact h3 z hz
 | [],_::_,h=>h.elim
 | _::_,[],h=>h.elim
def FIt (w:World) (r i:Nat) (l L:List Fil):Prop:=∃ es H0 H1 H2 c0,∃ Z:List Ze,w.heap[r]?=some (.map es H0)∧w.heap[i]?=some (.mapIter (some r) H1 H2 c0)∧Stamped es H0∧(∀ x∈es.toList,x.born<H1)∧H1≤c0∧H1≤H0 ∧
 es.toList=Z.map (·.1)∧l=Z.map (·.2)∧(∀ z∈Z,z.1.key=sv z.2.1∧Bs w z.1.val z.2.2)∧L=(Z.filter fun z=>!H2.contains z.1.born).map (·.2)
theorem FIt.ext {w w':World} {r i:Nat} {l L:List Fil} (h:FIt w r i l L) (hE:Ext w w'):FIt w' r i l L:=by
 obtain ⟨es,H0,H1,H2,c0,Z,h1,h2,h3,h4,h5,He,h6,h7,h8,h9⟩:=h
 exact ⟨es,H0,H1,H2,c0,Z,(hE.block r (Po.1 h1).1).trans h1,(hE.block i (Po.1 h2).1).trans h2,h3,h4,h5,He,h6,h7,fun z hz=>⟨(h8 z hz).1,SlR.ext (h8 z hz).2 hE⟩,h9⟩
theorem FMap.range {w:World} {r:Nat} {l:List Fil} (h:FMap w r l) (hT:P.underlying T=some (.map K E)) :
  ∃ w',(Instr.range T (.map (some r))).run P w=.ok (.pointer (some ⟨w.heap.size,0,none⟩)) w'∧FIt w' r w.heap.size l l∧Ext w w':=by
 have H9:=h.lt;obtain ⟨es,c,hb,hs,he⟩:=h;obtain ⟨Z,h1,h2,h3⟩:=zqS he
 have hE:Ext w (w.alloc (.mapIter (some r) c #[] c)):=xA (xR _) _
 refine ⟨_,run_range_map w T K E r es c hT hb,⟨es,c,c,#[],c,Z,(hE.block r H9).trans hb,heap_alloc_new w _,hs,hs.1,xN _,xN _,h1,h2,fun z hz=>⟨(h3 z hz).1,SlR.ext (h3 z hz).2 hE⟩,?_⟩,hE⟩
 rw[h2,List.filter_eq_self.2 (fun z _=>by simp)]
theorem zna {α:Type} [DecidableEq Nat] (f:α→Nat) (s:α→Bool):∀ (Z:List α),(Z.map f).Nodup→∀ z∈Z,s z=true→(Z.filter s).Perm (z::Z.filter fun y=>s y && !(f y==f z))
 | y::Z,hn,z,hz,hs=>by
  have Hc:=P8.1 hn
  rcases P1.1 hz with rfl | hz
  ·have:(Z.filter fun y=>s y && !(f y==f z))=Z.filter s:=by
    apply Pg
    intro y hy
    have:f y≠f z:=fun e=>Hc.1 (P0.2 ⟨y,hy,e⟩)
    simp[this]
   rw[P4,if_pos hs,P4,if_neg (by simp),this]
  ·have ih:=zna f s Z Hc.2 z hz hs
   have Hd:f y≠f z:=fun e=>Hc.1 (P0.2 ⟨z,hz,e.symm⟩)
   by_cases hy:s y=true
   ·rw[P4,if_pos hy,P4,if_pos (by simp[hy,Hd])]
    exact (ih.cons y).trans (List.Perm.swap _ _ _)
   ·rw[P4,if_neg hy,P4,if_neg (by simp[hy])]
    exact ih
theorem FIt.next {w:World} {r i:Nat} {l L:List Fil} (h:FIt w r i l L) (ty:TypeId) :
  (L=[]∧(Q8 (.pointer (some ⟨i,0,none⟩)) false ty).run P w=.ok (.tuple #[.bool false]) w) ∨
  ∃ n b v L' w',L.Perm ((n,b)::L')∧(Q8 (.pointer (some ⟨i,0,none⟩)) false ty).run P w=.ok (.tuple #[.bool true,sv n,v]) w'∧FIt w' r i l L'∧Bs w' v b∧MT w w' i∧r≠i ∧
   (Q7 (.pointer (some ⟨i,0,none⟩))).run P w'=.ok (.tuple #[sv n,v]) w':=by
 obtain ⟨es,H0,H1,H2,c0,Z,h1,h2,h3,h4,h5,He,h6,h7,h8,h9⟩:=h
 have Hp:r≠i:=by rintro rfl;rw[h1] at h2;cases h2
 rcases run_next_at w ty i r H1 c0 H2 es H0 h2 h1 h4 h5 with ⟨g1,g2⟩ | ⟨e,g1,w1,g2,g3⟩
 ·refine .inl ⟨?_,g2⟩
  rw[h9,List.map_eq_nil_iff,List.filter_eq_nil_iff];intro z hz hh
  have hm:z.1∈(leftOf es H2).toList:=by
   unfold leftOf;rw[Pq,Pi,h6]
   exact ⟨P0.2 ⟨z,hz,rfl⟩,by simpa using hh⟩
  have:(leftOf es H2).toList.length=0:=g1
  rw[List.length_eq_zero_iff.1 this] at hm
  cases hm
 ·right
  have hm:=g1;unfold leftOf at hm;rw[Pq,Pi,h6] at hm;obtain ⟨Hw,Hx⟩:=hm;obtain ⟨z,hz,rfl⟩:=P0.1 Hw
  have Hf:MT w (setBlock w1 i (.mapIter (some r) H1 (H2.push z.1.born) H0)) i:=zvh h2 g2 _
  have hi:(setBlock w1 i (.mapIter (some r) H1 (H2.push z.1.born) H0)).heap[i]?=some (.mapIter (some r) H1 (H2.push z.1.born) H0):=by
   rcases g2 with rfl | rfl
   ·exact (heap_set h2).1
   ·exact (heap_set (w:=w.drew) h2).1
  have hb:(setBlock w1 i (.mapIter (some r) H1 (H2.push z.1.born) H0)).heap[r]?=some (.map es H0):=(Hf.block r Hp).trans h1
  have HD:z.1∈es.toList:=by rw[h6];exact P0.2 ⟨z,hz,rfl⟩
  have hp:=zna (fun z:Ze=>z.1.born) (fun z=>!H2.contains z.1.born) Z (by have:=h3.2.1;rw[h6,List.map_map] at this;exact this) z hz (by simpa using Hx)
  refine ⟨z.2.1,z.2.2,z.1.val,(Z.filter fun y=>!(H2.push z.1.born).contains y.1.born).map (·.2),_,?_,?_,⟨es,H0,H1,H2.push z.1.born,H0,Z,hb,hi,h3,h4,He,He,h6,h7,fun y hy=>⟨(h8 y hy).1,Hf.bs (h8 y hy).2⟩,rfl⟩,Hf.bs (h8 z hz).2,Hf,Hp,?_⟩
  ·rw[h9]
   have:=hp.map (·.2)
   rw[P5] at this
   refine this.trans ?_
   rw[show (Z.filter fun y=>!H2.contains y.1.born && !(y.1.born==z.1.born))=Z.filter fun y=>!(H2.push z.1.born).contains y.1.born from by
    apply Pg
    intro y hy;rw[Bool.eq_iff_iff]
    simp]
  ·rw[g3,(h8 z hz).1]
  ·rw[run_entry_at _ i r H1 H2 es H0 z.1 hi hb HD h3.2.1,(h8 z hz).1]
/-! At the operation -/
section
variable {w:World} {ops:Array Oper} {rest:List Oper} {o:Oper} {a:Act} {Q:Exit→Act→World→Prop}
theorem zcT (hg:o.guard=none) (m x:Operand) (ok:Bool) (H6:o.op=Op.lookup T m x ok) (hT:P.underlying T=some (.map K E)) (hK:P.underlying K=some .string) (hz:(zeroValue E).run P w=.ok (.slice none 0 0) w)
  (r:Nat) (l:List Fil) (hm:a.eval m=.map (some r)) (hF:FMap w r l) (n:List UInt8) (hx:a.eval x=sv n)
  (h:∀ A c,Bs w (.slice A ((zah n l).getD []).length c) ((zah n l).getD [])→wpList P ops Q rest (a.put o.dst (if ok then .tuple #[.slice A ((zah n l).getD []).length c,.bool (zah n l).isSome] else .slice A ((zah n l).getD []).length c)) w) :
  wpList P ops Q (o::rest) a w:=by
 refine wpList_plain hg fun K' H5=>?_
 obtain ⟨v,H3,h1,h2⟩:=hF.lookup hT hK n hz ok
 have hv:Bs w v ((zah n l).getD []):=by
  cases hf:zah n l with
  | none=>rw[h1 hf];exact SlR.nil w 1
  | some b=>exact h2 b hf
 obtain ⟨A,c,rfl,_,_⟩:=xO hv;unfold Oper.wp
 simp[execOp,H6,hm,hx,H3,Pj]
 exact H5 _ _ (by simpa using h A c hv)
theorem zgg (hg:o.guard=none) (m x v:Operand) (H6:o.op=Op.mapUpdate T m x v) (hT:P.underlying T=some (.map K E)) (hK:P.underlying K=some .string)
  (r:Nat) (l:List Fil) (hm:a.eval m=.map (some r)) (hF:FMap w r l) (n:List UInt8) (hx:a.eval x=sv n) (u:Value) (b:List UInt8) (hv:a.eval v=u) (hb:Bs w u b)
  (h:∀ w',FMap w' r (zbt n b l)→MT w w' r→wpList P ops Q rest (a.put o.dst undef) w'):wpList P ops Q (o::rest) a w:=by
 refine wpList_plain hg fun K' H5=>?_
 obtain ⟨w',H3,h1,h2⟩:=hF.update hT hK n hb;unfold Oper.wp
 simp[execOp,H6,hm,hx,hv,H3,Pj]
 exact H5 _ _ (h w' h1 h2)
theorem zgf (hg:o.guard=none) (m x:Operand) (H6:o.op=Op.call { callee:=Callee.builtin Q2,args:=#[m,x],argTypes:=#[T,K] }) (hT:P.underlying T=some (.map K E)) (hK:P.underlying K=some .string)
  (r:Nat) (l:List Fil) (hm:a.eval m=.map (some r)) (hF:FMap w r l) (n:List UInt8) (hx:a.eval x=sv n)
  (h:∀ w',FMap w' r (zbg n l)→MT w w' r→wpList P ops Q rest (a.put o.dst (.tuple #[])) w'):wpList P ops Q (o::rest) a w:=by
 refine wpList_plain hg fun K' H5=>?_
 obtain ⟨w',H3,h1,h2⟩:=hF.delete hT hK n o.type;unfold Oper.wp
 simp[execOp,H6,resolve,invoke,builtin,hm,hx,H3,Pj]
 exact H5 _ _ (h w' h1 h2)
theorem zkZ (hg:o.guard=none) (m:Operand) (H6:o.op=Op.range T m) (hT:P.underlying T=some (.map K E)) (r:Nat) (l:List Fil) (hm:a.eval m=.map (some r)) (hF:FMap w r l)
  (h:∀ w',FIt w' r w.heap.size l l→Ext w w'→wpList P ops Q rest (a.put o.dst (.pointer (some ⟨w.heap.size,0,none⟩))) w'):wpList P ops Q (o::rest) a w:=by
 refine wpList_plain hg fun K' H5=>?_
 obtain ⟨w',H3,h1,h2⟩:=hF.range hT;unfold Oper.wp
 simp[execOp,H6,hm,H3,Pj]
 exact H5 _ _ (h w' h1 h2)
theorem zlR (hg:o.guard=none) (it:Operand) (H6:o.op=Op.next it false) (r i:Nat) (l L:List Fil) (Hn:a.eval it=.pointer (some ⟨i,0,none⟩)) (hI:FIt w r i l L)
  (Ha:L=[]→wpList P ops Q rest (a.put o.dst (.tuple #[.bool false])) w)
  (Hb:∀ n b A c L' w',L.Perm ((n,b)::L')→FIt w' r i l L'→Bs w' (.slice A b.length c) b→MT w w' i→r≠i→(Q7 (.pointer (some ⟨i,0,none⟩))).run P w'=.ok (.tuple #[sv n,.slice A b.length c]) w' →
    wpList P ops Q rest (a.put o.dst (.tuple #[.bool true,sv n,.slice A b.length c])) w'):wpList P ops Q (o::rest) a w:=by
 refine wpList_plain hg fun K' H5=>?_
 unfold Oper.wp
 rcases hI.next (P:=P) o.type with ⟨h0,H3⟩ | ⟨n,b,v,L',w',h1,H3,h3,h4,h5,h6,h7⟩
 ·simp[execOp,H6,Hn,H3,Pj]
  exact H5 _ _ (Ha h0)
 ·obtain ⟨A,c,rfl,_,_⟩:=xO h4
  simp[execOp,H6,Hn,H3,Pj]
  exact H5 _ _ (Hb n b A c L' w' h1 h3 h4 h5 h6 h7)
end
end
open Go.RowKit Go.Mv
abbrev ltB (a b:List UInt8):Bool:=Ps a b
theorem ze8:∀ (a b:List UInt8),ltB a b=true↔a<b
 | [],[]=>by simp[ltB,Ps]
 | _::_,[]=>by simp[ltB,Ps]
 | [],_::_=>by simp[ltB,Ps]
 | x::a,y::b=>by
  have ih:=ze8 a b
  unfold ltB at ih ⊢
  rw[Ps,List.cons_lt_cons_iff,Pu,Pt,ih]
  simp
theorem zhe (a:List UInt8):ltB a a=false:=by
 rw[Pv];intro h
 exact List.lt_irrefl a ((ze8 a a).1 h)
theorem zf7 {a b c:List UInt8} (h:ltB a b=true) (k:ltB b c=true):ltB a c=true:=(ze8 a c).2 (List.lt_trans ((ze8 a b).1 h) ((ze8 b c).1 k))
theorem zkl {a b:List UInt8} (h:ltB a b=true):a≠b:=by rintro rfl;rw[zhe] at h;cases h
theorem zoE {a b:List UInt8} (h:ltB a b=false) (hn:a≠b):ltB b a=true:=by
 rw[ze8];rw[Pv,Ne,ze8] at h
 rcases Pc.1 (List.not_lt.1 h) with h | h
 ·exact h
 ·exact absurd h.symm hn
def Srt (l:List Fil):Prop:=l.Pairwise fun p q=>ltB p.1 q.1=true
theorem Srt.apart {l:List Fil} (h:Srt l):Apart l:=by
 unfold Apart Pe;rw[P7]
 exact Pw (fun h=>zkl h) h
theorem zdh {n b:List UInt8}:∀ {l:List Fil},zah n l=some b→(n,b)∈l
 | [],h=>by cases h
 | p::l,h=>by
  rw[zah] at h
  split at h
  ·rename_i e
   cases h
   subst e
   exact P2
  ·exact P3 _ (zdh h)
theorem zcW {n b:List UInt8}:∀ {l:List Fil},Apart l→(n,b)∈l→zah n l=some b
 | p::l,ha,h=>by
  rw[zah]
  rcases P1.1 h with rfl | h
  ·rw[if_pos rfl]
  ·rw[if_neg (zfH ha h),zcW (zek ha) h]
theorem getF_isNone {n:List UInt8} {l:List Fil}:zah n l=none↔∀ p∈l,p.1≠n:=by
 constructor
 ·intro h p hp e
  induction l with
  | nil=>cases hp
  | cons q l ih =>
   rw[zah] at h
   split at h
   ·cases h
   ·rename_i hq
    rcases P1.1 hp with rfl | hp
    ·exact hq e
    ·exact ih h hp
 ·exact zdB
theorem zus {l l':List Fil} (h:Srt l) (h':Srt l') (hg:∀ n,zah n l=zah n l'):l=l':=by
 have hm:∀ p,p∈l↔p∈l':=fun p=>⟨fun hp=>zdh (by rw[←hg];exact zcW h.apart hp),fun hp=>zdh (by rw[hg];exact zcW h'.apart hp)⟩
 have nd:∀ {l:List Fil},Srt l→l.Nodup:=fun h=>Pw (fun {a b} h e=>zkl h (congrArg Prod.fst e)) h
 have hp:l.Perm l':=(Pb (nd h) (nd h')).2 hm
 refine List.Perm.eq_of_pairwise (le:=fun p q:Fil=>ltB p.1 q.1=true) (fun a b _ _ h1 h2=>?_) h h' hp
 have:=zf7 h1 h2
 rw[zhe] at this
 cases this
/-! Striking out, laying in -/
theorem zbX (n:List UInt8):∀ l:List Fil,(zbg n l).Sublist l
 | []=>List.Sublist.refl _
 | p::l=>by
  rw[zbg]
  split
  ·exact List.sublist_cons_self _ _
  ·exact (zbX n l).cons_cons _
theorem zdg {l:List Fil} (ha:Apart l) (n x:List UInt8):zah x (zbg n l)=if x=n then none else zah x l:=by
 induction l with
 | nil=>simp[zbg,zah]
 | cons p l ih =>
  have ih:=ih (zek ha);rw[zbg]
  split
  ·rename_i hp
   subst hp
   split
   ·rename_i hx
    subst hx
    exact zdB fun q hq=>Q0 (zfH ha hq)
   ·rename_i hx
    rw[zah,if_neg (Q0 hx)]
  ·rename_i hp
   rw[zah,zah,ih]
   split
   ·rename_i hx
    subst hx;rw[if_neg hp]
   ·rfl
theorem zg5 (n b x:List UInt8):∀ l:List Fil,zah x (zbt n b l)=if x=n then some b else zah x l
 | []=>by
  rw[zbt,zah,zah]
  by_cases h:x=n
  ·rw[if_pos h,if_pos h.symm]
  ·rw[if_neg h,if_neg (Q0 h)];rfl
 | p::l=>by
  have ih:=zg5 n b x l;rw[zbt]
  split
  ·rename_i hp
   rw[zah,zah]
   by_cases h:x=n
   ·rw[if_pos h,if_pos h.symm]
   ·rw[if_neg h,if_neg (Q0 h),if_neg (by rw[hp];exact Q0 h)]
  ·rename_i hp
   rw[zah,zah,ih]
   by_cases h:x=n
   ·subst h
    rw[if_pos rfl,if_pos rfl,if_neg hp]
   ·rw[if_neg h,if_neg h]
theorem zly (n b:List UInt8):∀ l:List Fil,∀ q∈zbt n b l,q.1=n∨q∈l
 | [],q,hq=>by rw[zbt,Pd] at hq;subst hq;exact .inl rfl
 | p::l,q,hq=>by
  rw[zbt] at hq
  split at hq
  ·rcases P1.1 hq with rfl | hq
   ·exact .inl rfl
   ·exact .inr (P3 _ hq)
  ·rcases P1.1 hq with rfl | hq
   ·exact .inr P2
   ·rcases zly n b l q hq with h | h
    ·exact .inl h
    ·exact .inr (P3 _ h)
theorem zj0 {p:Fil} {l:List Fil} (h:Apart l) (hn:∀ q∈l,p.1≠q.1):Apart (p::l):=by
 unfold Apart;rw[P5,P8]
 refine ⟨fun hm=>?_,h⟩
 obtain ⟨q,hq,e⟩:=P0.1 hm
 exact hn q hq e.symm
theorem Apart.upd {n b:List UInt8}:∀ {l:List Fil},Apart l→Apart (zbt n b l)
 | [],_=>by simp[zbt,Apart]
 | p::l,ha=>by
  rw[zbt]
  split
  ·rename_i hp
   exact zj0 (zek ha) fun q hq=>by rw[←hp];exact zfH ha hq
  ·rename_i hp
   refine zj0 (Apart.upd (zek ha)) fun q hq=>?_
   rcases zly n b l q hq with h | h
   ·rw[h];exact hp
   ·exact zfH ha h
theorem Apart.del {n:List UInt8} {l:List Fil} (h:Apart l):Apart (zbg n l):=((zbX n l).map _).nodup h
theorem Srt.del {n:List UInt8} {l:List Fil} (h:Srt l):Srt (zbg n l):=Py (zbX n l) h
def zcC (p:Fil):List Fil→List Fil
 | []=>[p]
 | q::l=>if ltB q.1 p.1 then q::zcC p l else p::q::l
theorem ziG (p:Fil):∀ (l:List Fil) (q:Fil),q∈zcC p l↔q=p∨q∈l
 | [],q=>by simp[zcC]
 | r::l,q=>by
  rw[zcC]
  split
  ·rw[P1,ziG p l q,P1]
   exact ⟨fun h=>h.elim (fun h=>.inr (.inl h)) (fun h=>h.elim .inl fun h=>.inr (.inr h)),fun h=>h.elim (fun h=>.inr (.inl h)) fun h=>h.elim .inl fun h=>.inr (.inr h)⟩
  ·rw[P1,P1]
theorem Srt.ins {p:Fil}:∀ {l:List Fil},Srt l→(∀ q∈l,q.1≠p.1)→Srt (zcC p l)
 | [],_,_=>by simp[zcC,Srt]
 | q::l,h,hn=>by
  have hc:=P6.1 h;rw[zcC]
  split
  ·rename_i H9
   refine P6.2 ⟨fun r hr=>?_,Srt.ins hc.2 fun q hq=>hn q (P3 _ hq)⟩
   rcases (ziG p l r).1 hr with rfl | hr
   ·exact H9
   ·exact hc.1 r hr
  ·rename_i H9
   have Ho:=zoE (by simpa using H9) (hn q P2)
   refine P6.2 ⟨fun r hr=>?_,h⟩
   rcases P1.1 hr with rfl | hr
   ·exact Ho
   ·exact zf7 Ho (hc.1 r hr)
theorem zmt (p:Fil) (x:List UInt8):∀ {l:List Fil},(∀ q∈l,q.1≠p.1)→zah x (zcC p l)=if x=p.1 then some p.2 else zah x l
 | [],_=>by
  rw[zcC,zah,zah]
  by_cases h:x=p.1
  ·rw[if_pos h,if_pos h.symm]
  ·rw[if_neg h,if_neg (Q0 h)];rfl
 | q::l,hn=>by
  have ih:=zmt p x (l:=l) fun q hq=>hn q (P3 _ hq)
  rw[zcC]
  split
  ·rw[zah,zah,ih]
   by_cases h:x=p.1
   ·subst h
    rw[if_pos rfl,if_neg (hn q P2),if_pos rfl]
   ·rw[if_neg h,if_neg h]
  ·rw[zah]
   by_cases h:x=p.1
   ·rw[if_pos h,if_pos h.symm]
   ·rw[if_neg h,if_neg (Q0 h)]
def withS (l:List Fil) (p:Fil):List Fil:=zcC p (zbg p.1 l)
theorem zqO {n:List UInt8} {l:List Fil} (ha:Apart l):∀ q∈zbg n l,q.1≠n:=getF_isNone.1 (by rw[zdg ha,if_pos rfl])
theorem Srt.withS {l:List Fil} (h:Srt l) (p:Fil):Srt (withS l p):=h.del.ins (zqO h.apart)
theorem zb3 {l:List Fil} (h:Srt l) (p:Fil) (x:List UInt8):zah x (withS l p)=if x=p.1 then some p.2 else zah x l:=by
 unfold Go.Proofs.YtgonhdeochgkoaaGreatDoor.withS;rw[zmt p x (zqO h.apart),zdg h.apart]
 split <;> rfl
/-! Operations -/
structure Oq where
 k:Int
 n:List UInt8
 t:List UInt8
 b:List UInt8
def za1 (l:List Fil) (o:Oq):List Fil :=
 if o.k=1 then withS l (o.n,[]) else
 match zah o.n l with
 | none=>l
 | some b=>if o.k=2 then withS l (o.n,b++o.b) else if o.k=3∧o.t≠o.n then withS (zbg o.n l) (o.t,b) else if o.k=4 then zbg o.n l else l
def zbh (m:List Fil) (o:Oq):List Fil :=
 if o.k=1 then zbt o.n [] m else
 if o.k=2 then (match zah o.n m with | none=>m | some b=>zbt o.n (b++o.b) m) else
 if o.k=3 then (match zah o.n m with | none=>m | some b=>zbt o.t b (zbg o.n m)) else
 if o.k=4 then zbg o.n m else m
structure Tells (l m:List Fil):Prop where
 s:Srt l
 a:Apart m
 g:∀ x,zah x l=zah x m
theorem Tells.with_ {l m:List Fil} (h:Tells l m) (n b:List UInt8):Tells (withS l (n,b)) (zbt n b m):=⟨h.s.withS _,h.a.upd,fun x=>by rw[zb3 h.s,zg5,h.g]⟩
theorem Tells.del {l m:List Fil} (h:Tells l m) (n:List UInt8):Tells (zbg n l) (zbg n m):=⟨h.s.del,h.a.del,fun x=>by rw[zdg h.s.apart,zdg h.a,h.g]⟩
theorem Tells.done {l m:List Fil} (h:Tells l m) (o:Oq):Tells (za1 l o) (zbh m o):=by
 unfold za1 zbh
 by_cases h1:o.k=1
 ·rw[if_pos h1,if_pos h1]
  exact h.with_ _ _
 ·rw[if_neg h1,if_neg h1]
  cases hg:zah o.n m with
  | none =>
   rw[h.g,hg];dsimp only
   split
   ·exact h
   ·split
    ·exact h
    ·split
     ·rw[zf4 (getF_isNone.1 hg)]
      exact h
     ·exact h
  | some b =>
   rw[h.g,hg];dsimp only
   split
   ·exact h.with_ _ _
   ·by_cases h3:o.k=3
    ·rw[if_pos h3]
     by_cases ht:o.t=o.n
     ·rw[if_neg (fun h=>h.2 ht),if_neg (by omega),ht]
      refine ⟨h.s,h.a.del.upd,fun x=>?_⟩
      rw[zg5,zdg h.a,h.g]
      split
      ·rename_i hx
       rw[hx,hg]
      ·rfl
     ·rw[if_pos ⟨h3,ht⟩]
      exact (h.del _).with_ _ _
    ·rw[if_neg (fun h=>h3 h.1),if_neg h3]
     split
     ·exact h.del _
     ·exact h
def zcM:List Fil→List Fil
 | []=>[]
 | p::l=>zbt p.1 p.2 (zcM l)
def za8 (l:List Fil) (p:Fil):List Fil:=if (zah p.1 l).isNone then withS l p else l
def zba (fs:List Fil) (q:List Oq):List Fil:=q.foldl za1 (fs.foldl za8 [])
def zbE (fs:List Fil) (q:List Oq):List Fil:=q.foldl zbh (zcM fs)
theorem zkg (x:List UInt8):∀ l:List Fil,zah x (zcM l)=zah x l
 | []=>rfl
 | p::l=>by
  rw[zcM,zg5,zkg x l,zah]
  by_cases h:x=p.1
  ·rw[if_pos h,if_pos h.symm]
  ·rw[if_neg h,if_neg (Q0 h)]
theorem ziW:∀ l:List Fil,Apart (zcM l)
 | []=>List.nodup_nil
 | _::l=>(ziW l).upd
theorem zrT {l:List Fil} (h:Srt l) (p:Fil):Srt (za8 l p)∧∀ x,zah x (za8 l p)=(zah x l).or (if p.1=x then some p.2 else none):=by
 unfold za8
 by_cases hn:zah p.1 l=none
 ·rw[if_pos (by rw[hn];rfl)]
  refine ⟨h.withS p,fun x=>?_⟩
  rw[zb3 h]
  by_cases hx:x=p.1
  ·subst hx;rw[if_pos rfl,hn,if_pos rfl];rfl
  ·rw[if_neg hx,if_neg (Q0 hx),Option.or_none]
 ·obtain ⟨b,hb⟩:=Option.ne_none_iff_exists'.1 hn
  rw[if_neg (by rw[hb];simp)]
  refine ⟨h,fun x=>?_⟩
  by_cases hx:p.1=x
  ·subst hx;rw[hb];rfl
  ·rw[if_neg hx,Option.or_none]
theorem zhu:∀ (fs l:List Fil),Srt l→Srt (fs.foldl za8 l)∧∀ x,zah x (fs.foldl za8 l)=(zah x l).or (zah x fs)
 | [],l,h=>⟨h,fun x=>by simp[zah]⟩
 | p::fs,l,h=>by
  obtain ⟨h1,h2⟩:=zrT h p;obtain ⟨h3,h4⟩:=zhu fs _ h1
  refine ⟨h3,fun x=>?_⟩
  rw[Pa,h4,h2,Option.or_assoc,zah]
  congr 1
  split <;> simp
theorem zkC:∀ (q:List Oq) {l m:List Fil},Tells l m→Tells (q.foldl za1 l) (q.foldl zbh m)
 | [],_,_,h=>h
 | o::q,_,_,h=>zkC q (h.done o)
theorem zgc (fs:List Fil) (q:List Oq):Tells (zba fs q) (zbE fs q):=by
 obtain ⟨h1,h2⟩:=zhu fs [] Px
 exact zkC q ⟨h1,ziW fs,fun x=>by rw[h2,zkg];rfl⟩
def zbA (m:List Fil):List Fil:=((m.map (·.1)).mergeSort leB).map fun n=>(n,(zah n m).getD [])
theorem zuX:∀ a b c:List UInt8,leB a b=true→leB b c=true→leB a c=true:=fun a b c h1 h2=>by simp only[leB,decide_eq_true_eq] at *;exact List.le_trans h1 h2
theorem zuW:∀ a b:List UInt8,(leB a b||leB b a)=true:=fun a b=>by simp only[leB,Pu,decide_eq_true_eq];exact List.le_total a b
theorem zpT (l:List (List UInt8)) (hn:l.Nodup):(l.mergeSort leB).Pairwise fun a b=>ltB a b=true:=by
 have h1:=List.pairwise_mergeSort zuX zuW l
 have h2:(l.mergeSort leB).Nodup:=(P9 l leB).nodup_iff.2 hn
 refine Pz (fun a b h1 h2=>?_) h1 h2
 simp only[leB,decide_eq_true_eq] at h1;rw[ze8]
 rcases Pc.1 h1 with h | h
 ·exact h
 ·exact absurd h h2
theorem zp7 {m:List Fil} (ha:Apart m):Tells (zbA m) m:=by
 have hs:=zpT _ ha
 have hS:Srt (zbA m):=by
  unfold Srt zbA;rw[P7]
  exact hs
 refine ⟨hS,ha,fun x=>?_⟩
 cases hg:zah x m with
 | none =>
  refine zdB fun p hp e=>?_
  obtain ⟨n,hn,rfl⟩:=P0.1 hp;have Hc:=(P9 _ leB).mem_iff.1 hn;obtain ⟨q,hq,Hz⟩:=P0.1 Hc
  exact getF_isNone.1 hg q hq (Hz.trans e)
 | some b =>
  refine zcW hS.apart (P0.2 ⟨x,(P9 _ leB).mem_iff.2 (P0.2 ⟨_,zdh hg,rfl⟩),by rw[hg];rfl⟩)
theorem zm9 (fs:List Fil) (q:List Oq):zbA (zbE fs q)=zba fs q:=by
 have h1:=zgc fs q;have h2:=zp7 h1.a
 exact zus h2.s h1.s fun x=>by rw[h2.g,h1.g]
/-! How many bytes -/
def tot (l:List Fil):Nat:=(l.map fun p=>p.2.length).sum
theorem zcZ (p:Fil) (l:List Fil):tot (p::l)=p.2.length+tot l:=by simp[tot]
theorem zkD (l l':List Fil):tot (l++l')=tot l+tot l':=by simp[tot]
theorem zni {l l':List Fil} (h:l.Perm l'):tot l=tot l':=by unfold tot;exact (h.map _).sum_nat
theorem zgI (n b:List UInt8):∀ l:List Fil,tot (zbt n b l)+((zah n l).getD []).length=tot l+b.length
 | []=>by simp[zbt,tot,zah]
 | p::l=>by
  have ih:=zgI n b l;rw[zbt,zah]
  split
  ·rw[zcZ,zcZ];simp;omega
  ·rw[zcZ,zcZ];omega
theorem ziN (n:List UInt8):∀ l:List Fil,tot (zbg n l)+((zah n l).getD []).length=tot l
 | []=>by simp[zbg,tot,zah]
 | p::l=>by
  have ih:=ziN n l;rw[zbg,zah]
  split
  ·rw[zcZ];simp;omega
  ·rw[zcZ,zcZ];omega
theorem zpn (n:List UInt8) (l:List Fil):((zah n l).getD []).length≤tot l:=by have:=ziN n l;omega
theorem zed (m:List Fil) (o:Oq):tot (zbh m o)≤tot m+o.b.length:=by
 unfold zbh
 split
 ·have:=zgI o.n [] m;simp at this;omega
 ·split
  ·split
   ·omega
   ·rename_i b hb
    have:=zgI o.n (b++o.b) m
    rw[hb] at this
    simp at this
    omega
  ·split
   ·split
    ·omega
    ·rename_i b hb
     have h1:=zgI o.t b (zbg o.n m);have h2:=ziN o.n m;rw[hb] at h2
     simp at h2
     omega
   ·split
    ·have:=ziN o.n m;omega
    ·omega
def zaG (q:List Oq):Nat:=(q.map fun o=>o.b.length).sum
theorem zbJ (o:Oq) (q:List Oq):zaG (o::q)=o.b.length+zaG q:=by simp[zaG]
theorem zcf (q q':List Oq):zaG (q++q')=zaG q+zaG q':=by simp[zaG]
theorem zlw:∀ (q:List Oq) (m:List Fil),tot (q.foldl zbh m)≤tot m+zaG q
 | [],m=>by simp[zaG]
 | o::q,m=>by
  have h1:=zed m o;have h2:=zlw q (zbh m o);rw[Pa,zbJ];omega
theorem ziu:∀ l:List Fil,tot (zcM l)≤tot l
 | []=>xN _
 | p::l=>by
  have h1:=ziu l;have h2:=zgI p.1 p.2 (zcM l);rw[zcM,zcZ];omega
theorem zfX (fs:List Fil) (q:List Oq):tot (zbE fs q)≤tot fs+zaG q:=by
 have h1:=zlw q (zcM fs);have h2:=ziu fs;unfold zbE;omega
theorem zp6 {l m:List Fil} (h:Tells l m):l.Perm m:=by
 have nd:∀ {l:List Fil},Apart l→l.Nodup:=fun {l} h=>by
  unfold Apart Pe at h;rw[P7] at h
  exact Pw (fun h e=>h (congrArg Prod.fst e)) h
 refine (Pb (nd h.s.apart) (nd h.a)).2 fun p=>⟨fun hp=>zdh (b:=p.2) (by rw[←h.g];exact zcW h.s.apart hp),fun hp=>zdh (b:=p.2) (by rw[h.g];exact zcW h.a hp)⟩
theorem zfF (fs:List Fil) (q:List Oq):tot (zba fs q)=tot (zbE fs q):=zni (zp6 (zgc fs q))
/-! Disks -/
structure Dk where
 fs:List Fil
 q:List Oq
 quota:Int
 fuse:Int
 dead:Bool
def Dk.now (d:Dk):List Fil:=zba d.fs d.q
def zbn (o:Oq):Bool:=(decide (o.k=1)||decide (o.k=2)||decide (o.k=3)||decide (o.k=4)) && !decide (o.n=[])&&(!decide (o.k=3) || !decide (o.t=[]))
def zbG:List UInt8→List Fil→Bool
 | _,[]=>true
 | last,p::l=>ltB last p.1&&zbG p.1 l
def Dk.right (d:Dk):Bool:=zbG [] d.fs&&d.q.all zbn&&decide (d.q.length≤400)&&decide (0≤d.quota)&&decide (0≤d.fuse)&&decide ((tot d.now:Int)≤d.quota)
def Dk.burn (d:Dk):Dk:=if 0<d.fuse then { d with fuse:=d.fuse-1,dead:=decide (d.fuse-1=0) } else d
def Dk.may (d:Dk):Int:=if d.right=false then 2 else if d.dead=true then 40 else 0
def Dk.doS (d:Dk) (o:Oq):Dk×Int :=
 if d.may≠0 then (d,d.may) else
 if zbn o=false then (d,2) else
 if zah o.n d.now=none∧o.k≠1 then (d,42) else
 if (o.k=2∧d.quota<(tot d.now:Int)+(o.b.length:Int))∨d.q.length=400 then (d,41) else ({ d with q:=d.q++[o] }.burn,0)
def Dk.syncS (d:Dk):Dk×Int:=if d.may≠0 then (d,d.may) else ({ d with fs:=d.now,q:=[] }.burn,0)
def zaN (sync:Bool):Dk→List Oq→Dk×Int
 | d,[]=>if sync=true then d.syncS else (d,0)
 | d,o::l=>if (d.doS o).2=0 then zaN sync (d.doS o).1 l else d.doS o
theorem zlj:∀ (l:List Fil) (last:List UInt8),zbG last l=true↔Srt l∧∀ p∈l,ltB last p.1=true
 | [],_=>by simp[zbG,Srt]
 | p::l,last=>by
  rw[zbG,Pt,zlj l p.1];unfold Srt;rw[P6]
  constructor
  ·rintro ⟨h1,h2,h3⟩
   refine ⟨⟨h3,h2⟩,fun q hq=>?_⟩
   rcases P1.1 hq with rfl | hq
   ·exact h1
   ·exact zf7 h1 (h3 q hq)
  ·rintro ⟨⟨h1,h2⟩,h3⟩
   exact ⟨h3 p P2,h2,h1⟩
theorem ltB_nil {n:List UInt8}:ltB [] n=true↔n≠[]:=by cases n <;> simp[ltB,Ps]
theorem rises_nil {l:List Fil}:zbG [] l=true↔Srt l∧∀ p∈l,p.1≠[]:=by
 rw[zlj]
 exact ⟨fun h=>⟨h.1,fun p hp=>ltB_nil.1 (h.2 p hp)⟩,fun h=>⟨h.1,fun p hp=>ltB_nil.2 (h.2 p hp)⟩⟩
structure Rt (d:Dk):Prop where
 f:zbG [] d.fs=true
 q:∀ o∈d.q,zbn o=true
 l:d.q.length≤400
 u:0≤d.fuse
 t:(tot d.now:Int)≤d.quota
theorem zij (d:Dk):d.right=true↔Rt d:=by
 unfold Dk.right;simp only[Pt,decide_eq_true_eq,List.all_eq_true]
 constructor
 ·rintro ⟨⟨⟨⟨⟨h1,h2⟩,h3⟩,h4⟩,h5⟩,h6⟩
  exact ⟨h1,h2,h3,h5,h6⟩
 ·rintro ⟨h1,h2,h3,h5,h6⟩
  exact ⟨⟨⟨⟨⟨h1,h2⟩,h3⟩,by omega⟩,h5⟩,h6⟩
theorem zde (o:Oq):zbn o=true↔(o.k=1∨o.k=2∨o.k=3∨o.k=4)∧o.n≠[]∧(o.k=3→o.t≠[]):=by
 unfold zbn;simp only[Pt,Pu,decide_eq_true_eq,Bool.not_eq_true',decide_eq_false_iff_not]
 constructor
 ·rintro ⟨⟨h1,h2⟩,h3⟩
  exact ⟨by omega,h2,fun h=>h3.elim (fun h'=>absurd h h') id⟩
 ·rintro ⟨h1,h2,h3⟩
  refine ⟨⟨by omega,h2⟩,?_⟩
  by_cases h:o.k=3
  ·exact .inr (h3 h)
  ·exact .inl h
theorem zs8 (fs:List Fil) (q:List Oq) (o:Oq):zba fs (q++[o])=za1 (zba fs q) o:=by unfold zba;rw[Pf];rfl
theorem zrr (fs:List Fil) (q:List Oq) (o:Oq):zbE fs (q++[o])=zbh (zbE fs q) o:=by unfold zbE;rw[Pf];rfl
theorem ziE (d:Dk):d.burn.fs=d.fs:=by unfold Dk.burn;split <;> rfl
theorem zhZ (d:Dk):d.burn.q=d.q:=by unfold Dk.burn;split <;> rfl
theorem zgV (d:Dk):d.burn.quota=d.quota:=by unfold Dk.burn;split <;> rfl
theorem zmh (d:Dk):d.burn.now=d.now:=by unfold Dk.now;rw[ziE,zhZ]
theorem Rt.burn {d:Dk} (h:Rt d):Rt d.burn:=by
 refine ⟨by rw[ziE];exact h.f,by rw[zhZ];exact h.q,by rw[zhZ];exact h.l,?_,by rw[zmh,zgV];exact h.t⟩
 have:=h.u
 unfold Dk.burn
 split
 ·dsimp only;omega
 ·exact this
theorem zu8 (fs:List Fil) (q:List Oq) (o:Oq):tot (zba fs (q++[o]))≤tot (zba fs q)+(if o.k=2 then o.b.length else 0):=by
 rw[zfF,zfF,zrr]
 generalize zbE fs q=m
 by_cases h2:o.k=2
 ·rw[if_pos h2]
  exact zed m o
 ·rw[if_neg h2]
  have:=zed m { o with b:=[] }
  have e:zbh m { o with b:=[] }=zbh m o:=by
   unfold zbh;dsimp only;rw[if_neg h2,if_neg h2]
  rw[e] at this
  exact this
theorem zf9 {d:Dk} (h:Rt d):Srt d.now∧∀ p∈d.now,p.1≠[]:=by
 obtain ⟨hs,hn⟩:=rises_nil.1 h.f
 have key:∀ (q:List Oq) (l:List Fil),(∀ o∈q,zbn o=true)→Srt l→(∀ p∈l,p.1≠[])→∀ p∈q.foldl za1 l,p.1≠[]:=by
  intro q
  induction q with
  | nil=>intro l _ _ h;exact h
  | cons o q ih =>
   intro l hq Hr hl;have ho:=(zde o).1 (hq o P2)
   have hw:∀ (l:List Fil) (n b:List UInt8),n≠[]→(∀ p∈l,p.1≠[])→∀ p∈withS l (n,b),p.1≠[]:=by
    intro l n b hn hl p hp
    rcases (ziG _ _ p).1 hp with rfl | hp
    ·exact hn
    ·exact hl p ((zbX _ _).subset hp)
   have h1:∀ p∈za1 l o,p.1≠[]:=by
    unfold za1
    split
    ·exact hw _ _ _ ho.2.1 hl
    ·split
     ·exact hl
     ·split
      ·exact hw _ _ _ ho.2.1 hl
      ·split
       ·rename_i h3
        exact hw _ _ _ (ho.2.2 h3.1) fun p hp=>hl p ((zbX _ _).subset hp)
       ·split
        ·exact fun p hp=>hl p ((zbX _ _).subset hp)
        ·exact hl
   have h2:Srt (za1 l o):=((Tells.mk Hr Hr.apart fun _=>rfl:Tells l l).done o).s
   exact ih _ (fun o' H8=>hq o' (P3 _ H8)) h2 h1
 refine ⟨(zgc d.fs d.q).s,?_⟩
 obtain ⟨h1,h2⟩:=zhu d.fs [] Px
 refine key d.q _ h.q h1 fun p hp=>?_
 have hg:=zcW h1.apart (show (p.1,p.2)∈_ from hp)
 rw[h2] at hg
 exact hn p (zdh (b:=p.2) hg)
theorem Rt.doS {d:Dk} (h:Rt d) {o:Oq} (he:(d.doS o).2=0):Rt (d.doS o).1:=by
 unfold Dk.doS at he ⊢
 split at he
 ·rename_i h1;exact absurd he h1
 ·split at he
  ·cases he
  ·rename_i h2
   split at he
   ·cases he
   ·split at he
    ·cases he
    ·rename_i h1 h3 h4
     rw[if_neg h1,if_neg h2,if_neg h3,if_neg h4]
     apply Rt.burn
     have hl:=h.l;have ht:=h.t;have Hi:=zu8 d.fs d.q o
     refine ⟨h.f,fun o' H8=>?_,?_,h.u,?_⟩
     ·rcases List.mem_append.1 H8 with H8 | H8
      ·exact h.q o' H8
      ·rw[Pd] at H8
       subst H8
       simpa using h2
     ·rw[xL]
      simp only[xC,List.length_nil];omega
     ·show (tot (zba d.fs (d.q++[o])):Int)≤d.quota
      have e:tot d.now=tot (zba d.fs d.q):=rfl
      split at Hi
      ·rename_i hk
       rw[←e] at Hi
       have h5:¬ d.quota<(tot d.now:Int)+(o.b.length:Int):=fun h=>h4 (.inl ⟨hk,h⟩)
       omega
      ·rw[←e] at Hi
       omega
theorem zir:∀ (l H4:List Fil),Srt (H4++l)→l.foldl za8 H4=H4++l
 | [],H4,_=>by simp
 | p::l,H4,h=>by
  have hp:∀ q∈H4,ltB q.1 p.1=true:=fun q hq=>(List.pairwise_append.1 h).2.2 q hq p P2
  have hn:zah p.1 H4=none:=zdB fun q hq=>zkl (hp q hq)
  have hi:∀ {H4:List Fil},(∀ q∈H4,ltB q.1 p.1=true)→zcC p H4=H4++[p]:=by
   intro H4
   induction H4 with
   | nil=>intro _;rfl
   | cons q H4 ih=>intro hp;rw[zcC,if_pos (hp q P2),ih fun q hq=>hp q (P3 _ hq)];rfl
  rw[Pa]
  have:za8 H4 p=H4++[p]:=by
   unfold za8
   rw[if_pos (by rw[hn];rfl)]
   unfold withS;rw[zf4 (getF_isNone.1 hn),hi hp]
  rw[this,zir l (H4++[p]) (by rw[Ph];exact h),Ph]
  rfl
theorem zmH {l:List Fil} (h:Srt l):zba l []=l:=zir l [] h
theorem Rt.sync {d:Dk} (h:Rt d) (he:d.syncS.2=0):Rt d.syncS.1∧d.syncS.1.fs=d.now∧d.syncS.1.q=[]:=by
 unfold Dk.syncS at he ⊢
 split at he
 ·rename_i h1;exact absurd he h1
 ·rename_i h1
  rw[if_neg h1];have hn:=zf9 h
  refine ⟨Rt.burn (d:={ d with fs:=d.now,q:=[] }) ⟨rises_nil.2 hn,fun o ho=>(by cases ho),(by simp),h.u,?_⟩,ziE _,zhZ _⟩
  show (tot (zba d.now []):Int)≤d.quota
  rw[zmH hn.1]
  exact h.t
theorem zle {d:Dk} (h:Rt d):d.may=if d.dead=true then 40 else 0:=by
 unfold Dk.may
 rw[if_neg (by rw[(zij d).2 h];simp)]
theorem zqP {d:Dk} (h:Rt d) {o:Oq} (hf:zbn o=true) (hx:zah o.n d.now≠none∨o.k=1):(d.doS o).2=0∨(d.doS o).2=40∨(d.doS o).2=41:=by
 unfold Dk.doS;have hm:=zle h
 split
 ·rename_i h1
  rw[hm] at h1 ⊢
  split
  ·exact .inr (.inl rfl)
  ·rename_i h2;rw[if_neg h2] at h1;exact absurd rfl h1
 ·rw[if_neg (by rw[hf];simp),if_neg (fun hh=>hx.elim (fun h=>h hh.1) fun h=>hh.2 h)]
  split
  ·exact .inr (.inr rfl)
  ·exact .inl rfl
theorem zqR {d:Dk} {o:Oq} (he:(d.doS o).2=0):(d.doS o).1.now=za1 d.now o:=by
 unfold Dk.doS at he ⊢
 split at he
 ·rename_i h1;exact absurd he h1
 ·rename_i h1
  rw[if_neg h1]
  split at he
  ·cases he
  ·rename_i h2
   rw[if_neg h2]
   split at he
   ·cases he
   ·rename_i h3
    rw[if_neg h3]
    split at he
    ·cases he
    ·rename_i h4
     rw[if_neg h4,zmh]
     exact zs8 _ _ _
theorem ztp {d:Dk} (h:Rt d):d.syncS.2=0∨d.syncS.2=40:=by
 unfold Dk.syncS;have hm:=zle h
 split
 ·rename_i h1
  rw[hm] at h1 ⊢
  split
  ·exact .inr rfl
  ·rename_i h2;rw[if_neg h2] at h1;exact absurd rfl h1
 ·exact .inl rfl
def za3 (n:List UInt8):Oq:=⟨1,n,[],[]⟩
def za2 (n b:List UInt8):Oq:=⟨2,n,[],b⟩
def zcb (n:List UInt8):Oq:=⟨4,n,[],[]⟩
theorem znM (l:List Fil) (n:List UInt8):za1 l (za3 n)=withS l (n,[]):=by
 unfold za1 za3;rw[if_pos rfl]
theorem znL {l:List Fil} {n c:List UInt8} (b:List UInt8) (h:zah n l=some c):za1 l (za2 n b)=withS l (n,c++b):=by
 unfold za1 za2;rw[if_neg (by simp)];dsimp only;rw[h];dsimp only;rw[if_pos rfl]
theorem zup {d:Dk} (h:Rt d) {n:List UInt8} (b:List UInt8) (hn:n≠[]) :
  ((zaN true d [za3 n,za2 n b]).2=0→(zaN true d [za3 n,za2 n b]).1.q=[]∧Srt (zaN true d [za3 n,za2 n b]).1.fs∧Rt (zaN true d [za3 n,za2 n b]).1∧∀ x,zah x (zaN true d [za3 n,za2 n b]).1.fs=if x=n then some b else zah x d.now) ∧
  ((zaN true d [za3 n,za2 n b]).2=0∨(zaN true d [za3 n,za2 n b]).2=40∨(zaN true d [za3 n,za2 n b]).2=41):=by
 have Hq:Srt d.now:=(zf9 h).1
 unfold zaN
 have Hu:zbn (za3 n)=true:=(zde _).2 ⟨.inl rfl,hn,fun h=>by simp[za3] at h⟩
 have Hv:zbn (za2 n b)=true:=(zde _).2 ⟨.inr (.inl rfl),hn,fun h=>by simp[za2] at h⟩
 by_cases h1:(d.doS (za3 n)).2=0
 ·rw[if_pos h1]
  have Hg:=h.doS h1;have Hj:=zqR h1;rw[znM] at Hj
  generalize (d.doS (za3 n)).1=d1 at *
  have HB:Srt d1.now:=(zf9 Hg).1
  have Hm:zah n d1.now=some []:=by rw[Hj,zb3 Hq,if_pos rfl]
  unfold zaN
  by_cases h2:(d1.doS (za2 n b)).2=0
  ·rw[if_pos h2]
   have Hh:=Hg.doS h2;have Hs:=zqR h2;rw[znL b Hm] at Hs
   generalize (d1.doS (za2 n b)).1=d2 at *
   unfold zaN;rw[if_pos rfl]
   refine ⟨fun h3=>?_,?_⟩
   ·obtain ⟨HA,Hl,Hy⟩:=Hh.sync h3
    refine ⟨Hy,by rw[Hl];exact (zf9 Hh).1,HA,fun x=>?_⟩
    rw[Hl,Hs,zb3 HB];dsimp only
    split
    ·rfl
    ·rename_i hx
     rw[Hj,zb3 Hq];dsimp only;rw[if_neg hx]
   ·rcases ztp Hh with h | h
    ·exact .inl h
    ·exact .inr (.inl h)
  ·rw[if_neg h2]
   exact ⟨fun h=>absurd h h2,zqP Hg Hv (.inl (by show zah n d1.now≠none;rw[Hm];simp))⟩
 ·rw[if_neg h1]
  exact ⟨fun h=>absurd h h1,zqP h Hu (.inr rfl)⟩
end Go.Proofs.YtgonhdeochgkoaaGreatDoor
