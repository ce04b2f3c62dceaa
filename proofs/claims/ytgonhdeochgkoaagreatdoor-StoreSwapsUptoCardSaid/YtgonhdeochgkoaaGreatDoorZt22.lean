/- Merged: SMap SSet -/
import Derived.Test.YtgonhdeochgkoaaGreatDoorZt17
import Derived.Maps.RangeWalk
import Derived.Maps.Own
set_option linter.all false
set_option maxHeartbeats 8000000
set_option maxRecDepth 100000
namespace Go.Proofs.YtgonhdeochgkoaaGreatDoor
open Go.RowKit Go.Mv Go.MapKept Go.ChangeMaps
theorem zsE {a b:List UInt8} (h:sv a=sv b):a=b:=by
 unfold sv at h
 injection h with h
 injection h with h
 exact Array.toList_inj.2 h
def E2 (w:World):List MapEntry→List Fil→Prop
 | [],[]=>True
 | e::es,p::l=>e.key=sv p.1∧Bs w e.val p.2∧E2 w es l
 | _,_=>False
theorem E2.len {w:World}:∀ {es:List MapEntry} {l:List Fil},E2 w es l→es.length=l.length
 | [],[],_=>rfl
 | _::_,_::_,h=>by rw[List.length_cons,List.length_cons,E2.len h.2.2]
 | [],_::_,h=>h.elim
 | _::_,[],h=>h.elim
theorem E2.keep {w w':World} (hk:∀ p u,w.cell? p=some u→w'.cell? p=some u):∀ {es:List MapEntry} {l:List Fil},E2 w es l→E2 w' es l
 | [],[],_=>trivial
 | _::_,_::_,h=>⟨h.1,SlR.keep h.2.1 hk,E2.keep hk h.2.2⟩
 | [],_::_,h=>h.elim
 | _::_,[],h=>h.elim
theorem E2.keys {w:World}:∀ {es:List MapEntry} {l:List Fil},E2 w es l→es.map (·.key)=l.map (fun p=>sv p.1)
 | [],[],_=>rfl
 | _::_,_::_,h=>by rw[List.map_cons,List.map_cons,h.1,E2.keys h.2.2]
 | [],_::_,h=>h.elim
 | _::_,[],h=>h.elim
theorem E2.at_ {w:World}:∀ {es:List MapEntry} {l:List Fil},E2 w es l→∀ {j:Nat} {e:MapEntry},es[j]?=some e→∃ p,l[j]?=some p∧e.key=sv p.1∧Bs w e.val p.2
 | [],[],_,_,_,he=>by cases he
 | _::_,p::_,h,0,_,he=>by cases he;exact ⟨p,rfl,h.1,h.2.1⟩
 | _::_,_::_,h,j+1,e,he=>by
  obtain ⟨p,h1,h2⟩:=E2.at_ h.2.2 (j:=j) (e:=e) (by simpa using he)
  exact ⟨p,by simpa using h1,h2⟩
 | [],_::_,h,_,_,_=>h.elim
 | _::_,[],h,_,_,_=>h.elim
theorem E2.push {w:World} {e:MapEntry} {p:Fil} (hk:e.key=sv p.1) (hb:Bs w e.val p.2):∀ {es:List MapEntry} {l:List Fil},E2 w es l→E2 w (es++[e]) (l++[p])
 | [],[],_=>⟨hk,hb,trivial⟩
 | _::_,_::_,h=>⟨h.1,h.2.1,E2.push hk hb h.2.2⟩
 | [],_::_,h=>h.elim
 | _::_,[],h=>h.elim
theorem E2.set {w:World} {e:MapEntry} {p:Fil} (hk:e.key=sv p.1) (hb:Bs w e.val p.2):∀ {es:List MapEntry} {l:List Fil} (j:Nat),E2 w es l→E2 w (es.set j e) (l.set j p)
 | [],[],_,_=>trivial
 | _::_,_::_,0,h=>⟨hk,hb,h.2.2⟩
 | _::_,_::_,j+1,h=>⟨h.1,h.2.1,E2.set hk hb j h.2.2⟩
 | [],_::_,_,h=>h.elim
 | _::_,[],_,h=>h.elim
theorem E2.erase {w:World}:∀ {es:List MapEntry} {l:List Fil} (j:Nat),E2 w es l→E2 w (es.eraseIdx j) (l.eraseIdx j)
 | [],[],_,_=>trivial
 | _::_,_::_,0,h=>h.2.2
 | _::_,_::_,j+1,h=>⟨h.1,h.2.1,E2.erase j h.2.2⟩
 | [],_::_,_,h=>h.elim
 | _::_,[],_,h=>h.elim
def zae (n:List UInt8):List Fil→Option (List UInt8)
 | []=>none
 | p::l=>if p.1=n then some p.2 else zae n l
def zbw (n b:List UInt8):List Fil→List Fil
 | []=>[(n,b)]
 | p::l=>if p.1=n then (n,b)::l else p::zbw n b l
def za8 (n:List UInt8):List Fil→List Fil
 | []=>[]
 | p::l=>if p.1=n then l else p::za8 n l
def Apart (l:List Fil):Prop:=(l.map (·.1)).Nodup
theorem zdD {n:List UInt8}:∀ {l:List Fil},(∀ p∈l,p.1≠n)→zae n l=none
 | [],_=>rfl
 | p::l,h=>by rw[zae,if_neg (h p (by simp)),zdD fun q hq=>h q (by simp[hq])]
theorem zl5 {n b:List UInt8}:∀ {l:List Fil},(∀ p∈l,p.1≠n)→zbw n b l=l++[(n,b)]
 | [],_=>rfl
 | p::l,h=>by rw[zbw,if_neg (h p (by simp)),zl5 fun q hq=>h q (by simp[hq])];rfl
theorem zgl {n:List UInt8}:∀ {l:List Fil},(∀ p∈l,p.1≠n)→za8 n l=l
 | [],_=>rfl
 | p::l,h=>by rw[za8,if_neg (h p (by simp)),zgl fun q hq=>h q (by simp[hq])]
theorem zdP {p:Fil} {l:List Fil} (h:Apart (p::l)):Apart l:=(List.nodup_cons.1 h).2
theorem zeN {p q:Fil} {l:List Fil} (h:Apart (p::l)) (hq:q∈l):p.1≠q.1:=by
 intro e
 exact (List.nodup_cons.1 h).1 (List.mem_map.2 ⟨q,hq,e.symm⟩)
theorem zi3 {n:List UInt8}:∀ {l:List Fil} {j:Nat} {p:Fil},Apart l→l[j]?=some p→p.1=n→zae n l=some p.2∧(∀ b,zbw n b l=l.set j (n,b))∧za8 n l=l.eraseIdx j
 | [],_,_,_,h,_=>by cases h
 | q::l,0,p,_,h,he=>by
  cases h
  refine ⟨by rw[zae,if_pos he],fun b=>by rw[zbw,if_pos he];rfl,by rw[za8,if_pos he];rfl⟩
 | q::l,j+1,p,ha,h,he=>by
  have hm:p∈l:=List.mem_of_getElem? (by simpa using h:l[j]?=some p)
  have hne:q.1≠n:=he ▸ zeN ha hm
  obtain ⟨h1,h2,h3⟩:=zi3 (zdP ha) (by simpa using h:l[j]?=some p) he
  refine ⟨by rw[zae,if_neg hne,h1],fun b=>by rw[zbw,if_neg hne,h2 b];rfl,by rw[za8,if_neg hne,h3];rfl⟩
def FMap (w:World) (r:Nat) (l:List Fil):Prop:=∃ es clock,w.heap[r]?=some (.map es clock)∧Stamped es clock∧E2 w es.toList l
theorem FMap.lt {w:World} {r:Nat} {l:List Fil} (h:FMap w r l):r<w.heap.size:=by
 obtain ⟨es,c,hb,_⟩:=h
 exact (Array.getElem?_eq_some_iff.1 hb).1
theorem FMap.apart {w:World} {r:Nat} {l:List Fil} (h:FMap w r l):Apart l:=by
 obtain ⟨es,c,_,hs,he⟩:=h;have h3:=hs.2.2;rw[he.keys] at h3;unfold Apart
 unfold List.Nodup at h3 ⊢
 rw[List.pairwise_map] at h3 ⊢
 exact h3.imp fun h e=>h (congrArg sv e)
theorem FMap.ext {w w':World} {r:Nat} {l:List Fil} (h:FMap w r l) (hE:Ext w w'):FMap w' r l:=by
 have hlt:=h.lt;obtain ⟨es,c,hb,hs,he⟩:=h
 exact ⟨es,c,(hE.block r hlt).trans hb,hs,he.keep fun _ _ hc=>hE.cell hc⟩
theorem FMap.new (w:World):FMap (w.alloc (.map #[] 0)) w.heap.size []:=⟨#[],0,heap_alloc_new w _,stamped_empty 0,trivial⟩
structure MT (w w':World) (r:Nat):Prop where
 os:w'.os=w.os
 tape:w'.tape=w.tape
 output:w'.output=w.output
 size:w'.heap.size=w.heap.size
 block:∀ k,k≠r→w'.heap[k]?=w.heap[k]?
 no:∀ cs t f,w.heap[r]?≠some (.cells cs t f)
theorem MT.blk {w w':World} {r:Nat} (h:MT w w' r) {b:Nat} {t:TypeId} {cs:Array Value} (hb:Blk w b t cs):Blk w' b t cs:=by
 have:b≠r:=by
  rintro rfl
  exact h.no _ _ _ hb
 exact (h.block _ this).trans hb
theorem MT.cell {w w':World} {r:Nat} (h:MT w w' r) {p:Addr} {u:Value} (hc:w.cell? p=some u):w'.cell? p=some u:=by
 have:p.block≠r:=by
  intro e
  unfold World.cell? at hc
  rw[e] at hc
  split at hc
  ·rename_i h1
   exact h.no _ _ _ h1
  ·cases hc
 unfold World.cell? at hc ⊢
 rw[h.block _ this]
 exact hc
theorem MT.bs {w w':World} {r:Nat} (h:MT w w' r) {v:Value} {b:List UInt8} (hb:Bs w v b):Bs w' v b:=SlR.keep hb fun _ _ hc=>h.cell hc
theorem MT.ext {w0 w w':World} {r:Nat} (h:MT w w' r) (hE:Ext w0 w) (hr:w0.heap.size≤r):Ext w0 w' :=
 ⟨h.os.trans hE.os,h.tape.trans hE.tape,h.output.trans hE.output,by rw[h.size];exact hE.size,fun k hk=>(h.block k (by omega)).trans (hE.block k hk)⟩
theorem zgT {w:World} {r:Nat} {es es':Array MapEntry} {c c':Nat} (h:w.heap[r]?=some (.map es c)):MT w (setBlock w r (.map es' c')) r :=
 ⟨rfl,rfl,rfl,by simp[setBlock],fun k hk=>(heap_set h).2 k hk,fun _ _ _ e=>by rw[h] at e;cases e⟩
theorem zwc {w w1:World} {r:Nat} {m:Option Nat} {a:Nat} {s:Array Nat} {c:Nat} (h:w.heap[r]?=some (.mapIter m a s c)) (hw:w1=w∨w1=w.drew) (o:Obj):MT w (setBlock w1 r o) r:=by
 rcases hw with rfl | rfl
 ·exact ⟨rfl,rfl,rfl,by simp[setBlock],fun k hk=>(heap_set h).2 k hk,fun _ _ _ e=>by rw[h] at e;cases e⟩
 ·exact ⟨rfl,rfl,rfl,by show (w.heap.setIfInBounds r o).size=w.heap.size;rw[Array.size_setIfInBounds],fun k hk=>(heap_set (w:=w.drew) h).2 k hk,fun _ _ _ e=>by rw[h] at e;cases e⟩
section
variable {P:Program} {T K E:TypeId}
theorem zvo {w:World} {es:List MapEntry} {l:List Fil} (h:E2 w es l):∀ x∈es,IsKey .string x.key:=by
 intro x hx
 have:x.key∈es.map (·.key):=List.mem_map.2 ⟨x,hx,rfl⟩
 rw[h.keys] at this;obtain ⟨p,_,hp⟩:=List.mem_map.1 this;rw[←hp]
 exact trivial
theorem ziw {w:World} {es:Array MapEntry} {clock:Nat} {l:List Fil} (hs:Stamped es clock) (he:E2 w es.toList l) (ha:Apart l) (n:List UInt8) :
  (Instr.findNow .string (sv n) es.toList 0=some none∧(∀ x∈es.toList,x.key≠sv n)∧∀ p∈l,p.1≠n) ∨
  ∃ j e p,Instr.findNow .string (sv n) es.toList 0=some (some (j,e.val))∧es[j]?=some e∧e.key=sv n∧l[j]?=some p∧p.1=n∧Bs w e.val p.2:=by
 rcases findNow_spec (d:=.string) (k:=sv n) trivial es.toList 0 (zvo he) with ⟨h1,h2⟩ | ⟨j,e,h1,h2,h3⟩
 ·refine .inl ⟨h1,h2,fun p hp e=>?_⟩
  have:sv p.1∈l.map (fun p=>sv p.1):=List.mem_map.2 ⟨p,hp,rfl⟩
  rw[←he.keys] at this;obtain ⟨x,hx,hk⟩:=List.mem_map.1 this
  exact h2 x hx (by rw[hk,e])
 ·obtain ⟨p,hp,hk,hb⟩:=he.at_ h2
  exact .inr ⟨j,e,p,by rw[h1,Nat.zero_add],by simpa using h2,h3,hp,zsE (hk.symm.trans h3),hb⟩
theorem FMap.lookup {w:World} {r:Nat} {l:List Fil} (h:FMap w r l) (hT:P.underlying T=some (.map K E)) (hK:P.underlying K=some .string) (n:List UInt8) {z:Value} (hz:(zeroValue E).run P w=.ok z w) (ok:Bool) :
  ∃ v,(Instr.lookup T (.map (some r)) (sv n) ok).run P w=.ok (if ok then .tuple #[v,.bool (zae n l).isSome] else v) w∧(zae n l=none→v=z)∧∀ b,zae n l=some b→Bs w v b:=by
 have ha:=h.apart;obtain ⟨es,c,hb,hs,he⟩:=h
 have hck:∀ e,(Instr.checkKey e 10000 K (sv n)).run P w=.ok () w:=fun e=>MapKept.run_checkKey hK (show IsKey .string (sv n) from trivial) e 9999
 rcases ziw hs he ha n with ⟨h1,h2,h3⟩ | ⟨j,e,p,h1,h2,h3,h4,h5,h6⟩
 ·refine ⟨z,?_,fun _=>rfl,fun b hb=>by rw[zdD h3] at hb;cases hb⟩
  unfold Instr.lookup
  cases ok <;> simp[Sem.run_bind,run_underlying hT,MapKept.run_getObj_map hb,hck,MapKept.run_findKey hK h1,hz,zdD h3,go_sem]
 ·have hg:=(zi3 ha h4 h5).1
  refine ⟨e.val,?_,fun q=>(by rw[hg] at q;cases q),fun b hb=>?_⟩
  ·unfold Instr.lookup
   cases ok <;> simp[Sem.run_bind,run_underlying hT,MapKept.run_getObj_map hb,hck,MapKept.run_findKey hK h1,hg,go_sem]
  ·rw[hg] at hb
   injection hb with hb
   rw[←hb]
   exact h6
theorem FMap.update {w:World} {r:Nat} {l:List Fil} (h:FMap w r l) (hT:P.underlying T=some (.map K E)) (hK:P.underlying K=some .string) (n:List UInt8) {v:Value} {b:List UInt8} (hv:Bs w v b) :
  ∃ w',(Instr.mapUpdate T (.map (some r)) (sv n) v).run P w=.ok () w'∧FMap w' r (zbw n b l)∧MT w w' r:=by
 have ha:=h.apart;obtain ⟨es,c,hb,hs,he⟩:=h
 have hck:∀ e,(Instr.checkKey e 10000 K (sv n)).run P w=.ok () w:=fun e=>MapKept.run_checkKey hK (show IsKey .string (sv n) from trivial) e 9999
 rcases ziw hs he ha n with ⟨h1,h2,h3⟩ | ⟨j,e,p,h1,h2,h3,h4,h5,h6⟩
 ·have hm:MT w (setBlock w r (.map (es.push { key:=sv n,val:=v,born:=c }) (c+1))) r:=zgT hb
  refine ⟨_,?_,?_,hm⟩
  ·unfold Instr.mapUpdate
   simp only[Sem.run_bind,run_underlying hT,Result.andThen,MapKept.run_getObj_map hb,hck,MapKept.run_findKey hK h1,MapKept.run_setObj_map _ hb];rfl
  ·refine ⟨_,_,(heap_set hb).1,stamped_push hs h2,?_⟩
   rw[zl5 h3,Array.toList_push]
   exact E2.push rfl (hm.bs hv) (he.keep fun _ _ hc=>hm.cell hc)
 ·have hu:=(zi3 ha h4 h5).2.1 b
  have hm:MT w (setBlock w r (.map (es.modify j fun e=>{ e with key:=sv n,val:=v }) c)) r:=zgT hb
  refine ⟨_,?_,?_,hm⟩
  ·unfold Instr.mapUpdate
   simp only[Sem.run_bind,run_underlying hT,Result.andThen,MapKept.run_getObj_map hb,hck,MapKept.run_findKey hK h1,h2,Option.map_some,Option.getD_some,h3,run_keyThatStays (d:=.string) (k:=sv n) trivial,MapKept.run_setObj_map _ hb];rfl
  ·refine ⟨_,_,(heap_set hb).1,stamped_modify hs _ _ (fun _ _=>rfl) (fun e' _ he'=>by rw[h2] at he';cases he';exact h3.symm),?_⟩
   rw[hu,show (es.modify j fun e=>{ e with key:=sv n,val:=v }).toList=es.toList.set j { e with key:=sv n,val:=v } from by
    apply List.ext_getElem?
    intro i;rw[Array.getElem?_toList,Array.getElem?_modify,List.getElem?_set,Array.getElem?_toList]
    split
    ·rename_i hji
     subst hji;obtain ⟨hj,hej⟩:=Array.getElem?_eq_some_iff.1 h2
     simp[hj,hej]
    ·rfl]
   exact E2.set rfl (hm.bs hv) j (he.keep fun _ _ hc=>hm.cell hc)
theorem FMap.delete {w:World} {r:Nat} {l:List Fil} (h:FMap w r l) (hT:P.underlying T=some (.map K E)) (hK:P.underlying K=some .string) (n:List UInt8) (ty:TypeId) :
  ∃ w',(Builtin.delete_ #[T,K] ty #[.map (some r),sv n]).run P w=.ok (.tuple #[]) w'∧FMap w' r (za8 n l)∧MT w w' r:=by
 have ha:=h.apart;obtain ⟨es,c,hb,hs,he⟩:=h
 have hck:∀ e,(Instr.checkKey e 10000 K (sv n)).run P w=.ok () w:=fun e=>MapKept.run_checkKey hK (show IsKey .string (sv n) from trivial) e 9999
 rcases ziw hs he ha n with ⟨h1,h2,h3⟩ | ⟨j,e,p,h1,h2,h3,h4,h5,h6⟩
 ·have hm:MT w (setBlock w r (.map es c)) r:=zgT hb
  refine ⟨_,?_,?_,hm⟩
  ·unfold Builtin.delete_
   simp[Sem.run_bind,run_underlying hT,MapKept.run_getObj_map hb,hck,MapKept.run_findKey hK h1,MapKept.run_setObj_map _ hb,setBlock,Result.andThen]
  ·refine ⟨_,_,(heap_set hb).1,hs,?_⟩
   rw[zgl h3]
   exact he.keep fun _ _ hc=>hm.cell hc
 ·have hd:=(zi3 ha h4 h5).2.2
  have hm:MT w (setBlock w r (.map (es.eraseIdxIfInBounds j) c)) r:=zgT hb
  refine ⟨_,?_,?_,hm⟩
  ·unfold Builtin.delete_
   simp[Sem.run_bind,run_underlying hT,MapKept.run_getObj_map hb,hck,MapKept.run_findKey hK h1,MapKept.run_setObj_map _ hb,setBlock,Result.andThen]
  ·refine ⟨_,_,(heap_set hb).1,stamped_erase hs _,?_⟩
   have hj:j<es.size:=(Array.getElem?_eq_some_iff.1 h2).1
   rw[hd,show (es.eraseIdxIfInBounds j).toList=es.toList.eraseIdx j from by simp[Array.eraseIdxIfInBounds,hj]]
   exact E2.erase j (he.keep fun _ _ hc=>hm.cell hc)
/-! Going over a map -/
abbrev Ze:=MapEntry×Fil
theorem zrv {w:World}:∀ {es:List MapEntry} {l:List Fil},E2 w es l→∃ Z:List Ze,es=Z.map (·.1)∧l=Z.map (·.2)∧∀ z∈Z,z.1.key=sv z.2.1∧Bs w z.1.val z.2.2
 | [],[],_=>⟨[],rfl,rfl,by simp⟩
 | e::_,p::_,h=>by
  obtain ⟨Z,h1,h2,h3⟩:=zrv h.2.2
  refine ⟨(e,p)::Z,by rw[List.map_cons,←h1],by rw[List.map_cons,←h2],fun z hz=>?_⟩
  rcases List.mem_cons.1 hz with rfl | hz
  ·exact ⟨h.1,h.2.1⟩
  ·exact h3 z hz
 | [],_::_,h=>h.elim
 | _::_,[],h=>h.elim
def FIt (w:World) (r i:Nat) (l L:List Fil):Prop:=∃ es clock since seen c0,∃ Z:List Ze,w.heap[r]?=some (.map es clock)∧w.heap[i]?=some (.mapIter (some r) since seen c0)∧Stamped es clock∧(∀ x∈es.toList,x.born<since)∧since≤c0∧since≤clock ∧
 es.toList=Z.map (·.1)∧l=Z.map (·.2)∧(∀ z∈Z,z.1.key=sv z.2.1∧Bs w z.1.val z.2.2)∧L=(Z.filter fun z=>!seen.contains z.1.born).map (·.2)
theorem FIt.ext {w w':World} {r i:Nat} {l L:List Fil} (h:FIt w r i l L) (hE:Ext w w'):FIt w' r i l L:=by
 obtain ⟨es,clock,since,seen,c0,Z,h1,h2,h3,h4,h5,h5',h6,h7,h8,h9⟩:=h
 exact ⟨es,clock,since,seen,c0,Z,(hE.block r (Array.getElem?_eq_some_iff.1 h1).1).trans h1,(hE.block i (Array.getElem?_eq_some_iff.1 h2).1).trans h2,h3,h4,h5,h5',h6,h7,fun z hz=>⟨(h8 z hz).1,SlR.ext (h8 z hz).2 hE⟩,h9⟩
theorem FMap.range {w:World} {r:Nat} {l:List Fil} (h:FMap w r l) (hT:P.underlying T=some (.map K E)) :
  ∃ w',(Instr.range T (.map (some r))).run P w=.ok (.pointer (some ⟨w.heap.size,0,none⟩)) w'∧FIt w' r w.heap.size l l∧Ext w w':=by
 have hlt:=h.lt;obtain ⟨es,c,hb,hs,he⟩:=h;obtain ⟨Z,h1,h2,h3⟩:=zrv he
 have hE:Ext w (w.alloc (.mapIter (some r) c #[] c)):=Ext.alloc (Ext.refl _) _
 refine ⟨_,run_range_map w T K E r es c hT hb,⟨es,c,c,#[],c,Z,(hE.block r hlt).trans hb,heap_alloc_new w _,hs,hs.1,Nat.le_refl _,Nat.le_refl _,h1,h2,fun z hz=>⟨(h3 z hz).1,SlR.ext (h3 z hz).2 hE⟩,?_⟩,hE⟩
 rw[h2,List.filter_eq_self.2 (fun z _=>by simp)]
theorem znD {α:Type} [DecidableEq Nat] (f:α→Nat) (s:α→Bool):∀ (Z:List α),(Z.map f).Nodup→∀ z∈Z,s z=true→(Z.filter s).Perm (z::Z.filter fun y=>s y && !(f y==f z))
 | y::Z,hn,z,hz,hs=>by
  have hn':=List.nodup_cons.1 hn
  rcases List.mem_cons.1 hz with rfl | hz
  ·have:(Z.filter fun y=>s y && !(f y==f z))=Z.filter s:=by
    apply List.filter_congr
    intro y hy
    have:f y≠f z:=fun e=>hn'.1 (List.mem_map.2 ⟨y,hy,e⟩)
    simp[this]
   rw[List.filter_cons,if_pos hs,List.filter_cons,if_neg (by simp),this]
  ·have ih:=znD f s Z hn'.2 z hz hs
   have hne:f y≠f z:=fun e=>hn'.1 (List.mem_map.2 ⟨z,hz,e.symm⟩)
   by_cases hy:s y=true
   ·rw[List.filter_cons,if_pos hy,List.filter_cons,if_pos (by simp[hy,hne])]
    exact (ih.cons y).trans (List.Perm.swap _ _ _)
   ·rw[List.filter_cons,if_neg hy,List.filter_cons,if_neg (by simp[hy])]
    exact ih
theorem FIt.next {w:World} {r i:Nat} {l L:List Fil} (h:FIt w r i l L) (ty:TypeId) :
  (L=[]∧(Instr.next (.pointer (some ⟨i,0,none⟩)) false ty).run P w=.ok (.tuple #[.bool false]) w) ∨
  ∃ n b v L' w',L.Perm ((n,b)::L')∧(Instr.next (.pointer (some ⟨i,0,none⟩)) false ty).run P w=.ok (.tuple #[.bool true,sv n,v]) w'∧FIt w' r i l L'∧Bs w' v b∧MT w w' i∧r≠i ∧
   (Instr.entry (.pointer (some ⟨i,0,none⟩))).run P w'=.ok (.tuple #[sv n,v]) w':=by
 obtain ⟨es,clock,since,seen,c0,Z,h1,h2,h3,h4,h5,h5',h6,h7,h8,h9⟩:=h
 have hri:r≠i:=by rintro rfl;rw[h1] at h2;cases h2
 rcases run_next_at w ty i r since c0 seen es clock h2 h1 h4 h5 with ⟨g1,g2⟩ | ⟨e,g1,w1,g2,g3⟩
 ·refine .inl ⟨?_,g2⟩
  rw[h9,List.map_eq_nil_iff,List.filter_eq_nil_iff];intro z hz hh
  have hm:z.1∈(leftOf es seen).toList:=by
   unfold leftOf;rw[Array.toList_filter,List.mem_filter,h6]
   exact ⟨List.mem_map.2 ⟨z,hz,rfl⟩,by simpa using hh⟩
  have:(leftOf es seen).toList.length=0:=g1
  rw[List.length_eq_zero_iff.1 this] at hm
  cases hm
 ·right
  have hm:=g1;unfold leftOf at hm;rw[Array.toList_filter,List.mem_filter,h6] at hm;obtain ⟨hm1,hm2⟩:=hm;obtain ⟨z,hz,rfl⟩:=List.mem_map.1 hm1
  have hmt:MT w (setBlock w1 i (.mapIter (some r) since (seen.push z.1.born) clock)) i:=zwc h2 g2 _
  have hi:(setBlock w1 i (.mapIter (some r) since (seen.push z.1.born) clock)).heap[i]?=some (.mapIter (some r) since (seen.push z.1.born) clock):=by
   rcases g2 with rfl | rfl
   ·exact (heap_set h2).1
   ·exact (heap_set (w:=w.drew) h2).1
  have hb:(setBlock w1 i (.mapIter (some r) since (seen.push z.1.born) clock)).heap[r]?=some (.map es clock):=(hmt.block r hri).trans h1
  have hzm:z.1∈es.toList:=by rw[h6];exact List.mem_map.2 ⟨z,hz,rfl⟩
  have hp:=znD (fun z:Ze=>z.1.born) (fun z=>!seen.contains z.1.born) Z (by have:=h3.2.1;rw[h6,List.map_map] at this;exact this) z hz (by simpa using hm2)
  refine ⟨z.2.1,z.2.2,z.1.val,(Z.filter fun y=>!(seen.push z.1.born).contains y.1.born).map (·.2),_,?_,?_,⟨es,clock,since,seen.push z.1.born,clock,Z,hb,hi,h3,h4,h5',h5',h6,h7,fun y hy=>⟨(h8 y hy).1,hmt.bs (h8 y hy).2⟩,rfl⟩,hmt.bs (h8 z hz).2,hmt,hri,?_⟩
  ·rw[h9]
   have:=hp.map (·.2)
   rw[List.map_cons] at this
   refine this.trans ?_
   rw[show (Z.filter fun y=>!seen.contains y.1.born && !(y.1.born==z.1.born))=Z.filter fun y=>!(seen.push z.1.born).contains y.1.born from by
    apply List.filter_congr
    intro y hy;rw[Bool.eq_iff_iff]
    simp]
  ·rw[g3,(h8 z hz).1]
  ·rw[run_entry_at _ i r since seen es clock z.1 hi hb hzm h3.2.1,(h8 z hz).1]
/-! At the operation -/
section
variable {w:World} {ops:Array Oper} {rest:List Oper} {o:Oper} {a:Act} {Q:Exit→Act→World→Prop}
theorem zcW (hg:o.guard=none) (m x:Operand) (ok:Bool) (hop:o.op=Op.lookup T m x ok) (hT:P.underlying T=some (.map K E)) (hK:P.underlying K=some .string) (hz:(zeroValue E).run P w=.ok (.slice none 0 0) w)
  (r:Nat) (l:List Fil) (hm:a.eval m=.map (some r)) (hF:FMap w r l) (n:List UInt8) (hx:a.eval x=sv n)
  (h:∀ A c,Bs w (.slice A ((zae n l).getD []).length c) ((zae n l).getD [])→wpList P ops Q rest (a.put o.dst (if ok then .tuple #[.slice A ((zae n l).getD []).length c,.bool (zae n l).isSome] else .slice A ((zae n l).getD []).length c)) w) :
  wpList P ops Q (o::rest) a w:=by
 refine wpList_plain hg fun K' hK'=>?_
 obtain ⟨v,hrun,h1,h2⟩:=hF.lookup hT hK n hz ok
 have hv:Bs w v ((zae n l).getD []):=by
  cases hf:zae n l with
  | none=>rw[h1 hf];exact SlR.nil w 1
  | some b=>exact h2 b hf
 obtain ⟨A,c,rfl,_,_⟩:=SlR.open_ hv;unfold Oper.wp
 simp[execOp,hop,hm,hx,hrun,Result.andThen]
 exact hK' _ _ (by simpa using h A c hv)
theorem zgv (hg:o.guard=none) (m x v:Operand) (hop:o.op=Op.mapUpdate T m x v) (hT:P.underlying T=some (.map K E)) (hK:P.underlying K=some .string)
  (r:Nat) (l:List Fil) (hm:a.eval m=.map (some r)) (hF:FMap w r l) (n:List UInt8) (hx:a.eval x=sv n) (u:Value) (b:List UInt8) (hv:a.eval v=u) (hb:Bs w u b)
  (h:∀ w',FMap w' r (zbw n b l)→MT w w' r→wpList P ops Q rest (a.put o.dst undef) w'):wpList P ops Q (o::rest) a w:=by
 refine wpList_plain hg fun K' hK'=>?_
 obtain ⟨w',hrun,h1,h2⟩:=hF.update hT hK n hb;unfold Oper.wp
 simp[execOp,hop,hm,hx,hv,hrun,Result.andThen]
 exact hK' _ _ (h w' h1 h2)
theorem zgu (hg:o.guard=none) (m x:Operand) (hop:o.op=Op.call { callee:=Callee.builtin Builtin.delete,args:=#[m,x],argTypes:=#[T,K] }) (hT:P.underlying T=some (.map K E)) (hK:P.underlying K=some .string)
  (r:Nat) (l:List Fil) (hm:a.eval m=.map (some r)) (hF:FMap w r l) (n:List UInt8) (hx:a.eval x=sv n)
  (h:∀ w',FMap w' r (za8 n l)→MT w w' r→wpList P ops Q rest (a.put o.dst (.tuple #[])) w'):wpList P ops Q (o::rest) a w:=by
 refine wpList_plain hg fun K' hK'=>?_
 obtain ⟨w',hrun,h1,h2⟩:=hF.delete hT hK n o.type;unfold Oper.wp
 simp[execOp,hop,resolve,invoke,builtin,hm,hx,hrun,Result.andThen]
 exact hK' _ _ (h w' h1 h2)
theorem zlv (hg:o.guard=none) (m:Operand) (hop:o.op=Op.range T m) (hT:P.underlying T=some (.map K E)) (r:Nat) (l:List Fil) (hm:a.eval m=.map (some r)) (hF:FMap w r l)
  (h:∀ w',FIt w' r w.heap.size l l→Ext w w'→wpList P ops Q rest (a.put o.dst (.pointer (some ⟨w.heap.size,0,none⟩))) w'):wpList P ops Q (o::rest) a w:=by
 refine wpList_plain hg fun K' hK'=>?_
 obtain ⟨w',hrun,h1,h2⟩:=hF.range hT;unfold Oper.wp
 simp[execOp,hop,hm,hrun,Result.andThen]
 exact hK' _ _ (h w' h1 h2)
theorem zmo (hg:o.guard=none) (it:Operand) (hop:o.op=Op.next it false) (r i:Nat) (l L:List Fil) (hit:a.eval it=.pointer (some ⟨i,0,none⟩)) (hI:FIt w r i l L)
  (hDone:L=[]→wpList P ops Q rest (a.put o.dst (.tuple #[.bool false])) w)
  (hMore:∀ n b A c L' w',L.Perm ((n,b)::L')→FIt w' r i l L'→Bs w' (.slice A b.length c) b→MT w w' i→r≠i→(Instr.entry (.pointer (some ⟨i,0,none⟩))).run P w'=.ok (.tuple #[sv n,.slice A b.length c]) w' →
    wpList P ops Q rest (a.put o.dst (.tuple #[.bool true,sv n,.slice A b.length c])) w'):wpList P ops Q (o::rest) a w:=by
 refine wpList_plain hg fun K' hK'=>?_
 unfold Oper.wp
 rcases hI.next (P:=P) o.type with ⟨h0,hrun⟩ | ⟨n,b,v,L',w',h1,hrun,h3,h4,h5,h6,h7⟩
 ·simp[execOp,hop,hit,hrun,Result.andThen]
  exact hK' _ _ (hDone h0)
 ·obtain ⟨A,c,rfl,_,_⟩:=SlR.open_ h4
  simp[execOp,hop,hit,hrun,Result.andThen]
  exact hK' _ _ (hMore n b A c L' w' h1 h3 h4 h5 h6 h7)
end
end
open Go.RowKit Go.Mv Go.MapKept Go.ChangeMaps
def SSet (w:World) (r:Nat) (d:TypeDesc) (u:Value) (S:Value→Prop):Prop :=
 ∃ es clock,w.heap[r]?=some (.map es clock)∧Stamped es clock∧(∀ x∈es.toList,x.val=u∧IsKey d x.key)∧∀ k,S k↔∃ x∈es.toList,x.key=k
theorem SSet.lt {w:World} {r:Nat} {d:TypeDesc} {u:Value} {S:Value→Prop} (h:SSet w r d u S):r<w.heap.size:=by
 obtain ⟨es,c,hb,_⟩:=h
 exact (Array.getElem?_eq_some_iff.1 hb).1
theorem SSet.ext {w w':World} {r:Nat} {d:TypeDesc} {u:Value} {S:Value→Prop} (h:SSet w r d u S) (hE:Ext w w'):SSet w' r d u S:=by
 have hlt:=h.lt;obtain ⟨es,c,hb,hs,h1,h2⟩:=h
 exact ⟨es,c,(hE.block r hlt).trans hb,hs,h1,h2⟩
theorem MT.ext2 {w A B:World} {r:Nat} (h:MT A B r) (hE:Ext w A) (hr:w.heap.size≤r):Ext w B:=⟨h.os.trans hE.os,h.tape.trans hE.tape,h.output.trans hE.output,Nat.le_trans hE.size (Nat.le_of_eq h.size.symm),fun k hk=>(h.block k (by omega)).trans (hE.block k hk)⟩
theorem SSet.new (w:World) (d:TypeDesc) (u:Value):SSet (w.alloc (.map #[] 0)) w.heap.size d u (fun _=>False):=⟨#[],0,heap_alloc_new w _,stamped_empty 0,by simp,by simp⟩
theorem SSet.congr {w:World} {r:Nat} {d:TypeDesc} {u:Value} {S S':Value→Prop} (h:SSet w r d u S) (hS:∀ k,S' k↔S k):SSet w r d u S':=by
 obtain ⟨es,c,hb,hs,h1,h2⟩:=h
 exact ⟨es,c,hb,hs,h1,fun k=>(hS k).trans (h2 k)⟩
section
variable {P:Program} {T K E:TypeId} {d:TypeDesc}
theorem SSet.lookup {w:World} {r:Nat} {u:Value} {S:Value→Prop} (h:SSet w r d u S) (hT:P.underlying T=some (.map K E)) (hK:P.underlying K=some d) {k:Value} (hk:IsKey d k) {z:Value} (hz:(zeroValue E).run P w=.ok z w) :
  (S k∧(Instr.lookup T (.map (some r)) k false).run P w=.ok u w)∨(¬ S k∧(Instr.lookup T (.map (some r)) k false).run P w=.ok z w):=by
 obtain ⟨es,c,hb,hs,h1,h2⟩:=h
 have hck:∀ e,(Instr.checkKey e 10000 K k).run P w=.ok () w:=fun e=>MapKept.run_checkKey hK hk e 9999
 rcases findNow_spec (d:=d) hk es.toList 0 (fun x hx=>(h1 x hx).2) with ⟨g1,g2⟩ | ⟨j,e,g1,g2,g3⟩
 ·refine .inr ⟨fun hS=>?_,?_⟩
  ·obtain ⟨x,hx,hxk⟩:=(h2 k).1 hS
   exact g2 x hx hxk
  ·unfold Instr.lookup
   simp[Sem.run_bind,run_underlying hT,MapKept.run_getObj_map hb,hck,MapKept.run_findKey hK g1,hz,go_sem]
 ·have hm:e∈es.toList:=List.mem_of_getElem? g2
  refine .inl ⟨(h2 k).2 ⟨e,hm,g3⟩,?_⟩
  unfold Instr.lookup
  simp[Sem.run_bind,run_underlying hT,MapKept.run_getObj_map hb,hck,MapKept.run_findKey hK g1,(h1 e hm).1,go_sem]
theorem SSet.update {w:World} {r:Nat} {u:Value} {S:Value→Prop} (h:SSet w r d u S) (hT:P.underlying T=some (.map K E)) (hK:P.underlying K=some d) {k:Value} (hk:IsKey d k) :
  ∃ w',(Instr.mapUpdate T (.map (some r)) k u).run P w=.ok () w'∧SSet w' r d u (fun x=>S x∨x=k)∧MT w w' r:=by
 obtain ⟨es,c,hb,hs,h1,h2⟩:=h
 have hck:∀ e,(Instr.checkKey e 10000 K k).run P w=.ok () w:=fun e=>MapKept.run_checkKey hK hk e 9999
 rcases findNow_spec (d:=d) hk es.toList 0 (fun x hx=>(h1 x hx).2) with ⟨g1,g2⟩ | ⟨j,e,g1,g2,g3⟩
 ·refine ⟨setBlock w r (.map (es.push { key:=k,val:=u,born:=c }) (c+1)),?_,⟨_,_,(heap_set hb).1,stamped_push hs g2,fun x hx=>?_,fun x=>?_⟩,zgT hb⟩
  ·unfold Instr.mapUpdate
   simp only[Sem.run_bind,run_underlying hT,Result.andThen,MapKept.run_getObj_map hb,hck,MapKept.run_findKey hK g1,MapKept.run_setObj_map _ hb];rfl
  ·rw[Array.toList_push] at hx
   rcases List.mem_append.1 hx with hx | hx
   ·exact h1 x hx
   ·rw[List.mem_singleton] at hx
    subst hx
    exact ⟨rfl,hk⟩
  ·show (S x∨x=k)↔_
   rw[Array.toList_push,h2]
   constructor
   ·rintro (⟨y,hy,rfl⟩ | rfl)
    ·exact ⟨y,List.mem_append.2 (.inl hy),rfl⟩
    ·exact ⟨_,List.mem_append.2 (.inr (List.mem_singleton.2 rfl)),rfl⟩
   ·rintro ⟨y,hy,rfl⟩
    rcases List.mem_append.1 hy with hy | hy
    ·exact .inl ⟨y,hy,rfl⟩
    ·rw[List.mem_singleton] at hy
     subst hy
     exact .inr rfl
 ·have hj:es[j]?=some e:=by simpa using g2
  have hm:e∈es.toList:=List.mem_of_getElem? g2
  have hself:(es.modify j fun e=>{ e with key:=k,val:=u })=es:=by
   apply Array.ext_getElem?
   intro i;rw[Array.getElem?_modify]
   split
   ·rename_i hji
    subst hji;rw[hj,Option.map_some]
    congr 1
    have:=(h1 e hm).1
    cases e
    simp_all
   ·rfl
  refine ⟨setBlock w r (.map es c),?_,⟨_,_,(heap_set hb).1,hs,h1,fun x=>?_⟩,zgT hb⟩
  ·unfold Instr.mapUpdate
   simp only[Sem.run_bind,run_underlying hT,Result.andThen,MapKept.run_getObj_map hb,hck,MapKept.run_findKey hK g1,Nat.zero_add,hj,Option.map_some,Option.getD_some,g3,run_keyThatStays hk,MapKept.run_setObj_map _ hb,hself];rfl
  ·show (S x∨x=k)↔_
   rw[h2]
   constructor
   ·rintro (h | rfl)
    ·exact h
    ·exact ⟨e,hm,g3⟩
   ·exact .inl
variable {w:World} {ops:Array Oper} {rest:List Oper} {o:Oper} {a:Act} {Q:Exit→Act→World→Prop}
end
end Go.Proofs.YtgonhdeochgkoaaGreatDoor
