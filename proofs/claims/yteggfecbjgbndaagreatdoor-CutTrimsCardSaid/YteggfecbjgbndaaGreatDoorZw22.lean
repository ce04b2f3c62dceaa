/- Merged -/
import Derived.Test.YteggfecbjgbndaaGreatDoorZw15
import Derived.Maps.RangeWalk
import Derived.Maps.Own
import Derived.Sort.KeysCollected
import Derived.Maps.OwnIn
set_option linter.all false
set_option maxHeartbeats 8000000
set_option maxRecDepth 100000
open Option renaming some→D,none→I
open Go.Value renaming slice→G,pointer→H,bool→J
open Go.Result renaming andThen→P0
open List renaming mem_map→P1,mem_cons→P2,mem_cons_of_mem→P3,filter_cons→P4,map_cons→P5,mem_cons_self→P6,pairwise_map→P7,nodup_cons→P8,mergeSort_perm→P9,pairwise_cons→Pa,perm_ext_iff_of_nodup→Pb,le_iff_lt_or_eq→Pc,Nodup→Pd,filter_congr→Pe,mem_filter→Pf,foldl_cons→Pg
open Go.MapKept renaming run_getObj_map→Ph,run_findKey→Pi,run_setObj_map→Pj,run_checkKey→Pk
open Array renaming getElem?_eq_some_iff→Pl,getElem?_toList→Pm,toList_filter→Pn
open Go.Sem renaming run_bind→Po
open Go.Op renaming bytesLess→Pp,mapUpdate→Pq,lookup→Pr,range→Ps,next→Pu
open Go.Oper renaming semAt_plain→Pv,about→Pw,wpIn→Px,wp→Py
open List.Pairwise renaming imp→Pz,sublist→Q0,nil→Q1,imp₂→Q2
open Ne renaming symm→Q3
open Go.Builtin renaming delete_→Q4,delete→Q5
open Bool renaming and_eq_true→Q6,or_eq_true→Q7,eq_false_iff→Q8
open Go.Instr renaming mapUpdate→Q9,checkKey→Qa,lookup→Qb,entry→Qc,findNow→Qd,next→Qe
namespace Go.Proofs.YteggfecbjgbndaaGreatDoor
open Go.RowKit Go.Mv Go.MapKept Go.ChangeMaps
theorem zrL {a b:List UInt8} (h:sv a=sv b):a=b:=by
 unfold sv at h
 injection h with h
 injection h with h
 exact Array.toList_inj.2 h
def E2 (w:World):List MapEntry→List Fil→Prop
 | [],[]=>True
 | e::es,p::l=>e.key=sv p.1∧Bs w e.val p.2∧E2 w es l
 | _,_=>False
theorem E2.len {w:World}:∀ {es:List MapEntry} {l:List Fil},E2 w es l→es.length=l.length
 | [],[],_=>rfl
 | _::_,_::_,h=>by rw[xC,xC,E2.len h.2.2]
 | [],_::_,h=>h.elim
 | _::_,[],h=>h.elim
theorem E2.keep {w w':World} (hk:∀ p u,w.cell? p=D u→w'.cell? p=D u):∀ {es:List MapEntry} {l:List Fil},E2 w es l→E2 w' es l
 | [],[],_=>trivial
 | _::_,_::_,h=>⟨h.1,SlR.keep h.2.1 hk,E2.keep hk h.2.2⟩
 | [],_::_,h=>h.elim
 | _::_,[],h=>h.elim
theorem E2.keys {w:World}:∀ {es:List MapEntry} {l:List Fil},E2 w es l→es.map (·.key)=l.map (fun p=>sv p.1)
 | [],[],_=>rfl
 | _::_,_::_,h=>by rw[P5,P5,h.1,E2.keys h.2.2]
 | [],_::_,h=>h.elim
 | _::_,[],h=>h.elim
theorem E2.at_ {w:World}:∀ {es:List MapEntry} {l:List Fil},E2 w es l→∀ {j:Nat} {e:MapEntry},es[j]?=D e→∃ p,l[j]?=D p∧e.key=sv p.1∧Bs w e.val p.2
 | [],[],_,_,_,he=>by cases he
 | _::_,p::_,h,0,_,he=>by cases he;exact ⟨p,rfl,h.1,h.2.1⟩
 | _::_,_::_,h,j+1,e,he=>by
  obtain ⟨p,h1,h2⟩:=E2.at_ h.2.2 (j:=j) (e:=e) (by simpa using he)
  exact ⟨p,by simpa using h1,h2⟩
 | [],_::_,h,_,_,_=>h.elim
 | _::_,[],h,_,_,_=>h.elim
theorem E2.push {w:World} {e:MapEntry} {p:Fil} (hk:e.key=sv p.1) (hb:Bs w e.val p.2):∀ {es:List MapEntry} {l:List Fil},E2 w es l→E2 w (es++[e]) (l++[p])
 | [],[],_=>⟨hk,hb,trivial⟩
 | _::_,_::_,h=>⟨h.1,h.2.1,E2.push hk hb h.2.2⟩
 | [],_::_,h=>h.elim
 | _::_,[],h=>h.elim
theorem E2.set {w:World} {e:MapEntry} {p:Fil} (hk:e.key=sv p.1) (hb:Bs w e.val p.2):∀ {es:List MapEntry} {l:List Fil} (j:Nat),E2 w es l→E2 w (es.set j e) (l.set j p)
 | [],[],_,_=>trivial
 | _::_,_::_,0,h=>⟨hk,hb,h.2.2⟩
 | _::_,_::_,j+1,h=>⟨h.1,h.2.1,E2.set hk hb j h.2.2⟩
 | [],_::_,_,h=>h.elim
 | _::_,[],_,h=>h.elim
theorem E2.erase {w:World}:∀ {es:List MapEntry} {l:List Fil} (j:Nat),E2 w es l→E2 w (es.eraseIdx j) (l.eraseIdx j)
 | [],[],_,_=>trivial
 | _::_,_::_,0,h=>h.2.2
 | _::_,_::_,j+1,h=>⟨h.1,h.2.1,E2.erase j h.2.2⟩
 | [],_::_,_,h=>h.elim
 | _::_,[],_,h=>h.elim
def zaj (n:List UInt8):List Fil→Option (List UInt8)
 | []=>none
 | p::l=>if p.1=n then some p.2 else zaj n l
def zbg (n b:List UInt8):List Fil→List Fil
 | []=>[(n,b)]
 | p::l=>if p.1=n then (n,b)::l else p::zbg n b l
def za7 (n:List UInt8):List Fil→List Fil
 | []=>[]
 | p::l=>if p.1=n then l else p::za7 n l
def Apart (l:List Fil):Prop:=(l.map (·.1)).Nodup
theorem zd0 {n:List UInt8}:∀ {l:List Fil},(∀ p∈l,p.1≠n)→zaj n l=none
 | [],_=>rfl
 | p::l,h=>by rw[zaj,if_neg (h p (by simp)),zd0 fun q hq=>h q (by simp[hq])]
theorem zk9 {n b:List UInt8}:∀ {l:List Fil},(∀ p∈l,p.1≠n)→zbg n b l=l++[(n,b)]
 | [],_=>rfl
 | p::l,h=>by rw[zbg,if_neg (h p (by simp)),zk9 fun q hq=>h q (by simp[hq])];rfl
theorem zhK {n:List UInt8}:∀ {l:List Fil},(∀ p∈l,p.1≠n)→za7 n l=l
 | [],_=>rfl
 | p::l,h=>by rw[za7,if_neg (h p (by simp)),zhK fun q hq=>h q (by simp[hq])]
theorem zd6 {p:Fil} {l:List Fil} (h:Apart (p::l)):Apart l:=(P8.1 h).2
theorem zfo {p q:Fil} {l:List Fil} (h:Apart (p::l)) (hq:q∈l):p.1≠q.1:=by
 intro e
 exact (P8.1 h).1 (P1.2 ⟨q,hq,e.symm⟩)
theorem ziv {n:List UInt8}:∀ {l:List Fil} {j:Nat} {p:Fil},Apart l→l[j]?=D p→p.1=n→zaj n l=D p.2∧(∀ b,zbg n b l=l.set j (n,b))∧za7 n l=l.eraseIdx j
 | [],_,_,_,h,_=>by cases h
 | q::l,0,p,_,h,he=>by
  cases h
  refine ⟨by rw[zaj,if_pos he],fun b=>by rw[zbg,if_pos he];rfl,by rw[za7,if_pos he];rfl⟩
 | q::l,j+1,p,ha,h,he=>by
  have hm:p∈l:=List.mem_of_getElem? (by simpa using h:l[j]?=D p)
  have Hc:q.1≠n:=he ▸ zfo ha hm
  obtain ⟨h1,h2,h3⟩:=ziv (zd6 ha) (by simpa using h:l[j]?=D p) he
  refine ⟨by rw[zaj,if_neg Hc,h1],fun b=>by rw[zbg,if_neg Hc,h2 b];rfl,by rw[za7,if_neg Hc,h3];rfl⟩
def FMap (w:World) (r:Nat) (l:List Fil):Prop:=∃ es H0,w.heap[r]?=D (.map es H0)∧Stamped es H0∧E2 w es.toList l
theorem FMap.lt {w:World} {r:Nat} {l:List Fil} (h:FMap w r l):r<w.heap.size:=by
 obtain ⟨es,c,hb,_⟩:=h
 exact (Pl.1 hb).1
theorem FMap.apart {w:World} {r:Nat} {l:List Fil} (h:FMap w r l):Apart l:=by
 obtain ⟨es,c,_,hs,he⟩:=h;have h3:=hs.2.2;rw[he.keys] at h3;unfold Apart
 unfold Pd at h3 ⊢
 rw[P7] at h3 ⊢
 exact h3.imp fun h e=>h (congrArg sv e)
theorem FMap.ext {w w':World} {r:Nat} {l:List Fil} (h:FMap w r l) (hE:Ext w w'):FMap w' r l:=by
 have H9:=h.lt;obtain ⟨es,c,hb,hs,he⟩:=h
 exact ⟨es,c,(hE.block r H9).trans hb,hs,he.keep fun _ _ hc=>hE.cell hc⟩
theorem FMap.new (w:World):FMap (w.alloc (.map #[] 0)) w.heap.size []:=⟨#[],0,heap_alloc_new w _,stamped_empty 0,trivial⟩
structure MT (w w':World) (r:Nat):Prop where
 os:w'.os=w.os
 tape:w'.tape=w.tape
 output:w'.output=w.output
 size:w'.heap.size=w.heap.size
 block:∀ k,k≠r→w'.heap[k]?=w.heap[k]?
 no:∀ cs t f,w.heap[r]?≠some (.cells cs t f)
theorem MT.blk {w w':World} {r:Nat} (h:MT w w' r) {b:Nat} {t:TypeId} {cs:Array Value} (hb:Blk w b t cs):Blk w' b t cs:=by
 have:b≠r:=by
  rintro rfl
  exact h.no _ _ _ hb
 exact (h.block _ this).trans hb
theorem MT.cell {w w':World} {r:Nat} (h:MT w w' r) {p:Addr} {u:Value} (hc:w.cell? p=D u):w'.cell? p=D u:=by
 have:p.block≠r:=by
  intro e
  unfold World.cell? at hc
  rw[e] at hc
  split at hc
  ·rename_i h1
   exact h.no _ _ _ h1
  ·cases hc
 unfold World.cell? at hc ⊢
 rw[h.block _ this]
 exact hc
theorem MT.bs {w w':World} {r:Nat} (h:MT w w' r) {v:Value} {b:List UInt8} (hb:Bs w v b):Bs w' v b:=SlR.keep hb fun _ _ hc=>h.cell hc
theorem MT.ext {w0 w w':World} {r:Nat} (h:MT w w' r) (hE:Ext w0 w) (hr:w0.heap.size≤r):Ext w0 w' :=
 ⟨h.os.trans hE.os,h.tape.trans hE.tape,h.output.trans hE.output,by rw[h.size];exact hE.size,fun k hk=>(h.block k (by omega)).trans (hE.block k hk)⟩
theorem zgE {w:World} {r:Nat} {es es':Array MapEntry} {c c':Nat} (h:w.heap[r]?=D (.map es c)):MT w (setBlock w r (.map es' c')) r :=
 ⟨rfl,rfl,rfl,by simp[setBlock],fun k hk=>(heap_set h).2 k hk,fun _ _ _ e=>by rw[h] at e;cases e⟩
theorem zuZ {w w1:World} {r:Nat} {m:Option Nat} {a:Nat} {s:Array Nat} {c:Nat} (h:w.heap[r]?=D (.mapIter m a s c)) (hw:w1=w∨w1=w.drew) (o:Obj):MT w (setBlock w1 r o) r:=by
 rcases hw with rfl | rfl
 ·exact ⟨rfl,rfl,rfl,by simp[setBlock],fun k hk=>(heap_set h).2 k hk,fun _ _ _ e=>by rw[h] at e;cases e⟩
 ·exact ⟨rfl,rfl,rfl,by show (w.heap.setIfInBounds r o).size=w.heap.size;rw[Array.size_setIfInBounds],fun k hk=>(heap_set (w:=w.drew) h).2 k hk,fun _ _ _ e=>by rw[h] at e;cases e⟩
section
variable {P:Program} {T K E:TypeId}
theorem zua {w:World} {es:List MapEntry} {l:List Fil} (h:E2 w es l):∀ x∈es,IsKey .string x.key:=by
 intro x hx
 have:x.key∈es.map (·.key):=P1.2 ⟨x,hx,rfl⟩
 rw[h.keys] at this;obtain ⟨p,_,hp⟩:=P1.1 this;rw[←hp]
 exact trivial
theorem zhO {w:World} {es:Array MapEntry} {H0:Nat} {l:List Fil} (hs:Stamped es H0) (he:E2 w es.toList l) (ha:Apart l) (n:List UInt8) :
  (Qd .string (sv n) es.toList 0=D none∧(∀ x∈es.toList,x.key≠sv n)∧∀ p∈l,p.1≠n) ∨
  ∃ j e p,Qd .string (sv n) es.toList 0=D (some (j,e.val))∧es[j]?=D e∧e.key=sv n∧l[j]?=D p∧p.1=n∧Bs w e.val p.2:=by
 rcases findNow_spec (d:=.string) (k:=sv n) trivial es.toList 0 (zua he) with ⟨h1,h2⟩ | ⟨j,e,h1,h2,h3⟩
 ·refine .inl ⟨h1,h2,fun p hp e=>?_⟩
  have:sv p.1∈l.map (fun p=>sv p.1):=P1.2 ⟨p,hp,rfl⟩
  rw[←he.keys] at this;obtain ⟨x,hx,hk⟩:=P1.1 this
  exact h2 x hx (by rw[hk,e])
 ·obtain ⟨p,hp,hk,hb⟩:=he.at_ h2
  exact .inr ⟨j,e,p,by rw[h1,Nat.zero_add],by simpa using h2,h3,hp,zrL (hk.symm.trans h3),hb⟩
theorem FMap.lookup {w:World} {r:Nat} {l:List Fil} (h:FMap w r l) (hT:P.underlying T=D (.map K E)) (hK:P.underlying K=D .string) (n:List UInt8) {z:Value} (hz:(zeroValue E).run P w=.ok z w) (ok:Bool) :
  ∃ v,(Qb T (.map (some r)) (sv n) ok).run P w=.ok (if ok then .tuple #[v,J (zaj n l).isSome] else v) w∧(zaj n l=none→v=z)∧∀ b,zaj n l=D b→Bs w v b:=by
 have ha:=h.apart;obtain ⟨es,c,hb,hs,he⟩:=h
 have H7:∀ e,(Qa e 10000 K (sv n)).run P w=.ok () w:=fun e=>Pk hK (show IsKey .string (sv n) from trivial) e 9999
 rcases zhO hs he ha n with ⟨h1,h2,h3⟩ | ⟨j,e,p,h1,h2,h3,h4,h5,h6⟩
 ·refine ⟨z,?_,fun _=>rfl,fun b hb=>by rw[zd0 h3] at hb;cases hb⟩
  unfold Qb
  cases ok <;> simp[Po,run_underlying hT,Ph hb,H7,Pi hK h1,hz,zd0 h3,go_sem]
 ·have hg:=(ziv ha h4 h5).1
  refine ⟨e.val,?_,fun q=>(by rw[hg] at q;cases q),fun b hb=>?_⟩
  ·unfold Qb
   cases ok <;> simp[Po,run_underlying hT,Ph hb,H7,Pi hK h1,hg,go_sem]
  ·rw[hg] at hb
   injection hb with hb
   rw[←hb]
   exact h6
theorem FMap.update {w:World} {r:Nat} {l:List Fil} (h:FMap w r l) (hT:P.underlying T=D (.map K E)) (hK:P.underlying K=D .string) (n:List UInt8) {v:Value} {b:List UInt8} (hv:Bs w v b) :
  ∃ w',(Q9 T (.map (some r)) (sv n) v).run P w=.ok () w'∧FMap w' r (zbg n b l)∧MT w w' r:=by
 have ha:=h.apart;obtain ⟨es,c,hb,hs,he⟩:=h
 have H7:∀ e,(Qa e 10000 K (sv n)).run P w=.ok () w:=fun e=>Pk hK (show IsKey .string (sv n) from trivial) e 9999
 rcases zhO hs he ha n with ⟨h1,h2,h3⟩ | ⟨j,e,p,h1,h2,h3,h4,h5,h6⟩
 ·have hm:MT w (setBlock w r (.map (es.push { key:=sv n,val:=v,born:=c }) (c+1))) r:=zgE hb
  refine ⟨_,?_,?_,hm⟩
  ·unfold Q9
   simp only[Po,run_underlying hT,P0,Ph hb,H7,Pi hK h1,Pj _ hb];rfl
  ·refine ⟨_,_,(heap_set hb).1,stamped_push hs h2,?_⟩
   rw[zk9 h3,Array.toList_push]
   exact E2.push rfl (hm.bs hv) (he.keep fun _ _ hc=>hm.cell hc)
 ·have hu:=(ziv ha h4 h5).2.1 b
  have hm:MT w (setBlock w r (.map (es.modify j fun e=>{ e with key:=sv n,val:=v }) c)) r:=zgE hb
  refine ⟨_,?_,?_,hm⟩
  ·unfold Q9
   simp only[Po,run_underlying hT,P0,Ph hb,H7,Pi hK h1,h2,Option.map_some,Option.getD_some,h3,run_keyThatStays (d:=.string) (k:=sv n) trivial,Pj _ hb];rfl
  ·refine ⟨_,_,(heap_set hb).1,stamped_modify hs _ _ (fun _ _=>rfl) (fun e' _ Hg=>by rw[h2] at Hg;cases Hg;exact h3.symm),?_⟩
   rw[hu,show (es.modify j fun e=>{ e with key:=sv n,val:=v }).toList=es.toList.set j { e with key:=sv n,val:=v } from by
    apply List.ext_getElem?
    intro i;rw[Pm,Array.getElem?_modify,List.getElem?_set,Pm]
    split
    ·rename_i hji
     subst hji;obtain ⟨hj,Hj⟩:=Pl.1 h2
     simp[hj,Hj]
    ·rfl]
   exact E2.set rfl (hm.bs hv) j (he.keep fun _ _ hc=>hm.cell hc)
theorem FMap.delete {w:World} {r:Nat} {l:List Fil} (h:FMap w r l) (hT:P.underlying T=D (.map K E)) (hK:P.underlying K=D .string) (n:List UInt8) (ty:TypeId) :
  ∃ w',(Q4 #[T,K] ty #[.map (some r),sv n]).run P w=.ok (.tuple #[]) w'∧FMap w' r (za7 n l)∧MT w w' r:=by
 have ha:=h.apart;obtain ⟨es,c,hb,hs,he⟩:=h
 have H7:∀ e,(Qa e 10000 K (sv n)).run P w=.ok () w:=fun e=>Pk hK (show IsKey .string (sv n) from trivial) e 9999
 rcases zhO hs he ha n with ⟨h1,h2,h3⟩ | ⟨j,e,p,h1,h2,h3,h4,h5,h6⟩
 ·have hm:MT w (setBlock w r (.map es c)) r:=zgE hb
  refine ⟨_,?_,?_,hm⟩
  ·unfold Q4
   simp[Po,run_underlying hT,Ph hb,H7,Pi hK h1,Pj _ hb,setBlock,P0]
  ·refine ⟨_,_,(heap_set hb).1,hs,?_⟩
   rw[zhK h3]
   exact he.keep fun _ _ hc=>hm.cell hc
 ·have hd:=(ziv ha h4 h5).2.2
  have hm:MT w (setBlock w r (.map (es.eraseIdxIfInBounds j) c)) r:=zgE hb
  refine ⟨_,?_,?_,hm⟩
  ·unfold Q4
   simp[Po,run_underlying hT,Ph hb,H7,Pi hK h1,Pj _ hb,setBlock,P0]
  ·refine ⟨_,_,(heap_set hb).1,stamped_erase hs _,?_⟩
   have hj:j<es.size:=(Pl.1 h2).1
   rw[hd,show (es.eraseIdxIfInBounds j).toList=es.toList.eraseIdx j from by simp[Array.eraseIdxIfInBounds,hj]]
   exact E2.erase j (he.keep fun _ _ hc=>hm.cell hc)
/-! Going over a map -/
abbrev Ze:=MapEntry×Fil
theorem zqY {w:World}:∀ {es:List MapEntry} {l:List Fil},E2 w es l→∃ Z:List Ze,es=Z.map (·.1)∧l=Z.map (·.2)∧∀ z∈Z,z.1.key=sv z.2.1∧Bs w z.1.val z.2.2
 | [],[],_=>⟨[],rfl,rfl,by simp⟩
 | e::_,p::_,h=>by
  obtain ⟨Z,h1,h2,h3⟩:=zqY h.2.2
  refine ⟨(e,p)::Z,by rw[P5,←h1],by rw[P5,←h2],fun z hz=>?_⟩
  rcases P2.1 hz with rfl | hz
  ·exact ⟨h.1,h.2.1⟩
  ·exact h3 z hz
 | [],_::_,h=>h.elim
 | _::_,[],h=>h.elim
def FIt (w:World) (r i:Nat) (l L:List Fil):Prop:=∃ es H0 H1 seen c0,∃ Z:List Ze,w.heap[r]?=D (.map es H0)∧w.heap[i]?=D (.mapIter (some r) H1 seen c0)∧Stamped es H0∧(∀ x∈es.toList,x.born<H1)∧H1≤c0∧H1≤H0 ∧
 es.toList=Z.map (·.1)∧l=Z.map (·.2)∧(∀ z∈Z,z.1.key=sv z.2.1∧Bs w z.1.val z.2.2)∧L=(Z.filter fun z=>!seen.contains z.1.born).map (·.2)
theorem FIt.ext {w w':World} {r i:Nat} {l L:List Fil} (h:FIt w r i l L) (hE:Ext w w'):FIt w' r i l L:=by
 obtain ⟨es,H0,H1,seen,c0,Z,h1,h2,h3,h4,h5,Hd,h6,h7,h8,h9⟩:=h
 exact ⟨es,H0,H1,seen,c0,Z,(hE.block r (Pl.1 h1).1).trans h1,(hE.block i (Pl.1 h2).1).trans h2,h3,h4,h5,Hd,h6,h7,fun z hz=>⟨(h8 z hz).1,SlR.ext (h8 z hz).2 hE⟩,h9⟩
theorem FMap.range {w:World} {r:Nat} {l:List Fil} (h:FMap w r l) (hT:P.underlying T=D (.map K E)) :
  ∃ w',(Instr.range T (.map (some r))).run P w=.ok (H (D ⟨w.heap.size,0,I⟩)) w'∧FIt w' r w.heap.size l l∧Ext w w':=by
 have H9:=h.lt;obtain ⟨es,c,hb,hs,he⟩:=h;obtain ⟨Z,h1,h2,h3⟩:=zqY he
 have hE:Ext w (w.alloc (.mapIter (some r) c #[] c)):=xA (xR _) _
 refine ⟨_,run_range_map w T K E r es c hT hb,⟨es,c,c,#[],c,Z,(hE.block r H9).trans hb,heap_alloc_new w _,hs,hs.1,xN _,xN _,h1,h2,fun z hz=>⟨(h3 z hz).1,SlR.ext (h3 z hz).2 hE⟩,?_⟩,hE⟩
 rw[h2,List.filter_eq_self.2 (fun z _=>by simp)]
theorem zmQ {α:Type} [DecidableEq Nat] (f:α→Nat) (s:α→Bool):∀ (Z:List α),(Z.map f).Nodup→∀ z∈Z,s z=true→(Z.filter s).Perm (z::Z.filter fun y=>s y && !(f y==f z))
 | y::Z,hn,z,hz,hs=>by
  have Hb:=P8.1 hn
  rcases P2.1 hz with rfl | hz
  ·have:(Z.filter fun y=>s y && !(f y==f z))=Z.filter s:=by
    apply Pe
    intro y hy
    have:f y≠f z:=fun e=>Hb.1 (P1.2 ⟨y,hy,e⟩)
    simp[this]
   rw[P4,if_pos hs,P4,if_neg (by simp),this]
  ·have ih:=zmQ f s Z Hb.2 z hz hs
   have Hc:f y≠f z:=fun e=>Hb.1 (P1.2 ⟨z,hz,e.symm⟩)
   by_cases hy:s y=true
   ·rw[P4,if_pos hy,P4,if_pos (by simp[hy,Hc])]
    exact (ih.cons y).trans (List.Perm.swap _ _ _)
   ·rw[P4,if_neg hy,P4,if_neg (by simp[hy])]
    exact ih
theorem FIt.next {w:World} {r i:Nat} {l L:List Fil} (h:FIt w r i l L) (ty:TypeId) :
  (L=[]∧(Qe (H (D ⟨i,0,I⟩)) false ty).run P w=.ok (.tuple #[.bool false]) w) ∨
  ∃ n b v L' w',L.Perm ((n,b)::L')∧(Qe (H (D ⟨i,0,I⟩)) false ty).run P w=.ok (.tuple #[.bool true,sv n,v]) w'∧FIt w' r i l L'∧Bs w' v b∧MT w w' i∧r≠i ∧
   (Qc (H (D ⟨i,0,I⟩))).run P w'=.ok (.tuple #[sv n,v]) w':=by
 obtain ⟨es,H0,H1,seen,c0,Z,h1,h2,h3,h4,h5,Hd,h6,h7,h8,h9⟩:=h
 have Hi:r≠i:=by rintro rfl;rw[h1] at h2;cases h2
 rcases run_next_at w ty i r H1 c0 seen es H0 h2 h1 h4 h5 with ⟨g1,g2⟩ | ⟨e,g1,w1,g2,g3⟩
 ·refine .inl ⟨?_,g2⟩
  rw[h9,List.map_eq_nil_iff,List.filter_eq_nil_iff];intro z hz hh
  have hm:z.1∈(leftOf es seen).toList:=by
   unfold leftOf;rw[Pn,Pf,h6]
   exact ⟨P1.2 ⟨z,hz,rfl⟩,by simpa using hh⟩
  have:(leftOf es seen).toList.length=0:=g1
  rw[List.length_eq_zero_iff.1 this] at hm
  cases hm
 ·right
  have hm:=g1;unfold leftOf at hm;rw[Pn,Pf,h6] at hm;obtain ⟨Hl,Hm⟩:=hm;obtain ⟨z,hz,rfl⟩:=P1.1 Hl
  have He:MT w (setBlock w1 i (.mapIter (some r) H1 (seen.push z.1.born) H0)) i:=zuZ h2 g2 _
  have hi:(setBlock w1 i (.mapIter (some r) H1 (seen.push z.1.born) H0)).heap[i]?=D (.mapIter (some r) H1 (seen.push z.1.born) H0):=by
   rcases g2 with rfl | rfl
   ·exact (heap_set h2).1
   ·exact (heap_set (w:=w.drew) h2).1
  have hb:(setBlock w1 i (.mapIter (some r) H1 (seen.push z.1.born) H0)).heap[r]?=D (.map es H0):=(He.block r Hi).trans h1
  have Ho:z.1∈es.toList:=by rw[h6];exact P1.2 ⟨z,hz,rfl⟩
  have hp:=zmQ (fun z:Ze=>z.1.born) (fun z=>!seen.contains z.1.born) Z (by have:=h3.2.1;rw[h6,List.map_map] at this;exact this) z hz (by simpa using Hm)
  refine ⟨z.2.1,z.2.2,z.1.val,(Z.filter fun y=>!(seen.push z.1.born).contains y.1.born).map (·.2),_,?_,?_,⟨es,H0,H1,seen.push z.1.born,H0,Z,hb,hi,h3,h4,Hd,Hd,h6,h7,fun y hy=>⟨(h8 y hy).1,He.bs (h8 y hy).2⟩,rfl⟩,He.bs (h8 z hz).2,He,Hi,?_⟩
  ·rw[h9]
   have:=hp.map (·.2)
   rw[P5] at this
   refine this.trans ?_
   rw[show (Z.filter fun y=>!seen.contains y.1.born && !(y.1.born==z.1.born))=Z.filter fun y=>!(seen.push z.1.born).contains y.1.born from by
    apply Pe
    intro y hy;rw[Bool.eq_iff_iff]
    simp]
  ·rw[g3,(h8 z hz).1]
  ·rw[run_entry_at _ i r H1 seen es H0 z.1 hi hb Ho h3.2.1,(h8 z hz).1]
/-! At the operation -/
section
variable {w:World} {ops:Array Oper} {rest:List Oper} {o:Oper} {a:Act} {Q:Exit→Act→World→Prop}
theorem zcK (hg:o.guard=none) (m x:Operand) (ok:Bool) (H3:o.op=Pr T m x ok) (hT:P.underlying T=D (.map K E)) (hK:P.underlying K=D .string) (hz:(zeroValue E).run P w=.ok (G none 0 0) w)
  (r:Nat) (l:List Fil) (hm:a.eval m=.map (some r)) (hF:FMap w r l) (n:List UInt8) (hx:a.eval x=sv n)
  (h:∀ A c,Bs w (G A ((zaj n l).getD []).length c) ((zaj n l).getD [])→wpList P ops Q rest (a.put o.dst (if ok then .tuple #[G A ((zaj n l).getD []).length c,J (zaj n l).isSome] else G A ((zaj n l).getD []).length c)) w) :
  wpList P ops Q (o::rest) a w:=by
 refine wpList_plain hg fun K' H4=>?_
 obtain ⟨v,H2,h1,h2⟩:=hF.lookup hT hK n hz ok
 have hv:Bs w v ((zaj n l).getD []):=by
  cases hf:zaj n l with
  | none=>rw[h1 hf];exact SlR.nil w 1
  | some b=>exact h2 b hf
 obtain ⟨A,c,rfl,_,_⟩:=xO hv;unfold Py
 simp[execOp,H3,hm,hx,H2,P0]
 exact H4 _ _ (by simpa using h A c hv)
theorem zga (hg:o.guard=none) (m x v:Operand) (H3:o.op=Pq T m x v) (hT:P.underlying T=D (.map K E)) (hK:P.underlying K=D .string)
  (r:Nat) (l:List Fil) (hm:a.eval m=.map (some r)) (hF:FMap w r l) (n:List UInt8) (hx:a.eval x=sv n) (u:Value) (b:List UInt8) (hv:a.eval v=u) (hb:Bs w u b)
  (h:∀ w',FMap w' r (zbg n b l)→MT w w' r→wpList P ops Q rest (a.put o.dst undef) w'):wpList P ops Q (o::rest) a w:=by
 refine wpList_plain hg fun K' H4=>?_
 obtain ⟨w',H2,h1,h2⟩:=hF.update hT hK n hb;unfold Py
 simp[execOp,H3,hm,hx,hv,H2,P0]
 exact H4 _ _ (h w' h1 h2)
theorem zf9 (hg:o.guard=none) (m x:Operand) (H3:o.op=Op.call { callee:=Callee.builtin Q5,args:=#[m,x],argTypes:=#[T,K] }) (hT:P.underlying T=D (.map K E)) (hK:P.underlying K=D .string)
  (r:Nat) (l:List Fil) (hm:a.eval m=.map (some r)) (hF:FMap w r l) (n:List UInt8) (hx:a.eval x=sv n)
  (h:∀ w',FMap w' r (za7 n l)→MT w w' r→wpList P ops Q rest (a.put o.dst (.tuple #[])) w'):wpList P ops Q (o::rest) a w:=by
 refine wpList_plain hg fun K' H4=>?_
 obtain ⟨w',H2,h1,h2⟩:=hF.delete hT hK n o.type;unfold Py
 simp[execOp,H3,resolve,invoke,builtin,hm,hx,H2,P0]
 exact H4 _ _ (h w' h1 h2)
theorem zkt (hg:o.guard=none) (m:Operand) (H3:o.op=Ps T m) (hT:P.underlying T=D (.map K E)) (r:Nat) (l:List Fil) (hm:a.eval m=.map (some r)) (hF:FMap w r l)
  (h:∀ w',FIt w' r w.heap.size l l→Ext w w'→wpList P ops Q rest (a.put o.dst (H (D ⟨w.heap.size,0,I⟩))) w'):wpList P ops Q (o::rest) a w:=by
 refine wpList_plain hg fun K' H4=>?_
 obtain ⟨w',H2,h1,h2⟩:=hF.range hT;unfold Py
 simp[execOp,H3,hm,H2,P0]
 exact H4 _ _ (h w' h1 h2)
theorem zly (hg:o.guard=none) (it:Operand) (H3:o.op=Pu it false) (r i:Nat) (l L:List Fil) (Ha:a.eval it=H (D ⟨i,0,I⟩)) (hI:FIt w r i l L)
  (H5:L=[]→wpList P ops Q rest (a.put o.dst (.tuple #[.bool false])) w)
  (H6:∀ n b A c L' w',L.Perm ((n,b)::L')→FIt w' r i l L'→Bs w' (G A b.length c) b→MT w w' i→r≠i→(Qc (H (D ⟨i,0,I⟩))).run P w'=.ok (.tuple #[sv n,G A b.length c]) w' →
    wpList P ops Q rest (a.put o.dst (.tuple #[.bool true,sv n,G A b.length c])) w'):wpList P ops Q (o::rest) a w:=by
 refine wpList_plain hg fun K' H4=>?_
 unfold Py
 rcases hI.next (P:=P) o.type with ⟨h0,H2⟩ | ⟨n,b,v,L',w',h1,H2,h3,h4,h5,h6,h7⟩
 ·simp[execOp,H3,Ha,H2,P0]
  exact H4 _ _ (H5 h0)
 ·obtain ⟨A,c,rfl,_,_⟩:=xO h4
  simp[execOp,H3,Ha,H2,P0]
  exact H4 _ _ (H6 n b A c L' w' h1 h3 h4 h5 h6 h7)
end
end
open Go.RowKit Go.Mv
abbrev ltB (a b:List UInt8):Bool:=Pp a b
theorem zeM:∀ (a b:List UInt8),ltB a b=true↔a<b
 | [],[]=>by simp[ltB,Pp]
 | _::_,[]=>by simp[ltB,Pp]
 | [],_::_=>by simp[ltB,Pp]
 | x::a,y::b=>by
  have ih:=zeM a b
  unfold ltB at ih ⊢
  rw[Pp,List.cons_lt_cons_iff,Q7,Q6,ih]
  simp
theorem zg4 (a:List UInt8):ltB a a=false:=by
 rw[Q8];intro h
 exact List.lt_irrefl a ((zeM a a).1 h)
theorem zhW {a b c:List UInt8} (h:ltB a b=true) (k:ltB b c=true):ltB a c=true:=(zeM a c).2 (List.lt_trans ((zeM a b).1 h) ((zeM b c).1 k))
theorem zmi {a b:List UInt8} (h:ltB a b=true):a≠b:=by rintro rfl;rw[zg4] at h;cases h
theorem zom {a b:List UInt8} (h:ltB a b=false) (hn:a≠b):ltB b a=true:=by
 rw[zeM];rw[Q8,Ne,zeM] at h
 rcases Pc.1 (List.not_lt.1 h) with h | h
 ·exact h
 ·exact absurd h.symm hn
def Srt (l:List Fil):Prop:=l.Pairwise fun p q=>ltB p.1 q.1=true
theorem Srt.apart {l:List Fil} (h:Srt l):Apart l:=by
 unfold Apart Pd;rw[P7]
 exact Pz (fun h=>zmi h) h
theorem zdq {n b:List UInt8}:∀ {l:List Fil},zaj n l=D b→(n,b)∈l
 | [],h=>by cases h
 | p::l,h=>by
  rw[zaj] at h
  split at h
  ·rename_i e
   cases h
   subst e
   exact P6
  ·exact P3 _ (zdq h)
theorem zdc {n b:List UInt8}:∀ {l:List Fil},Apart l→(n,b)∈l→zaj n l=D b
 | p::l,ha,h=>by
  rw[zaj]
  rcases P2.1 h with rfl | h
  ·rw[if_pos rfl]
  ·rw[if_neg (zfo ha h),zdc (zd6 ha) h]
theorem getF_isNone {n:List UInt8} {l:List Fil}:zaj n l=none↔∀ p∈l,p.1≠n:=by
 constructor
 ·intro h p hp e
  induction l with
  | nil=>cases hp
  | cons q l ih =>
   rw[zaj] at h
   split at h
   ·cases h
   ·rename_i hq
    rcases P2.1 hp with rfl | hp
    ·exact hq e
    ·exact ih h hp
 ·exact zd0
theorem zt8 {l l':List Fil} (h:Srt l) (h':Srt l') (hg:∀ n,zaj n l=zaj n l'):l=l':=by
 have hm:∀ p,p∈l↔p∈l':=fun p=>⟨fun hp=>zdq (by rw[←hg];exact zdc h.apart hp),fun hp=>zdq (by rw[hg];exact zdc h'.apart hp)⟩
 have nd:∀ {l:List Fil},Srt l→l.Nodup:=fun h=>Pz (fun {a b} h e=>zmi h (congrArg Prod.fst e)) h
 have hp:l.Perm l':=(Pb (nd h) (nd h')).2 hm
 refine List.Perm.eq_of_pairwise (le:=fun p q:Fil=>ltB p.1 q.1=true) (fun a b _ _ h1 h2=>?_) h h' hp
 have:=zhW h1 h2
 rw[zg4] at this
 cases this
/-! Striking out, laying in -/
theorem zcp (n:List UInt8):∀ l:List Fil,(za7 n l).Sublist l
 | []=>List.Sublist.refl _
 | p::l=>by
  rw[za7]
  split
  ·exact List.sublist_cons_self _ _
  ·exact (zcp n l).cons_cons _
theorem zfw {l:List Fil} (ha:Apart l) (n x:List UInt8):zaj x (za7 n l)=if x=n then none else zaj x l:=by
 induction l with
 | nil=>simp[za7,zaj]
 | cons p l ih =>
  have ih:=ih (zd6 ha);rw[za7]
  split
  ·rename_i hp
   subst hp
   split
   ·rename_i hx
    subst hx
    exact zd0 fun q hq=>Q3 (zfo ha hq)
   ·rename_i hx
    rw[zaj,if_neg (Q3 hx)]
  ·rename_i hp
   rw[zaj,zaj,ih]
   split
   ·rename_i hx
    subst hx;rw[if_neg hp]
   ·rfl
theorem zgX (n b x:List UInt8):∀ l:List Fil,zaj x (zbg n b l)=if x=n then some b else zaj x l
 | []=>by
  rw[zbg,zaj,zaj]
  by_cases h:x=n
  ·rw[if_pos h,if_pos h.symm]
  ·rw[if_neg h,if_neg (Q3 h)];rfl
 | p::l=>by
  have ih:=zgX n b x l;rw[zbg]
  split
  ·rename_i hp
   rw[zaj,zaj]
   by_cases h:x=n
   ·rw[if_pos h,if_pos h.symm]
   ·rw[if_neg h,if_neg (Q3 h),if_neg (by rw[hp];exact Q3 h)]
  ·rename_i hp
   rw[zaj,zaj,ih]
   by_cases h:x=n
   ·subst h
    rw[if_pos rfl,if_pos rfl,if_neg hp]
   ·rw[if_neg h,if_neg h]
theorem zla (n b:List UInt8):∀ l:List Fil,∀ q∈zbg n b l,q.1=n∨q∈l
 | [],q,hq=>by rw[zbg,List.mem_singleton] at hq;subst hq;exact .inl rfl
 | p::l,q,hq=>by
  rw[zbg] at hq
  split at hq
  ·rcases P2.1 hq with rfl | hq
   ·exact .inl rfl
   ·exact .inr (P3 _ hq)
  ·rcases P2.1 hq with rfl | hq
   ·exact .inr P6
   ·rcases zla n b l q hq with h | h
    ·exact .inl h
    ·exact .inr (P3 _ h)
theorem zjv {p:Fil} {l:List Fil} (h:Apart l) (hn:∀ q∈l,p.1≠q.1):Apart (p::l):=by
 unfold Apart;rw[P5,P8]
 refine ⟨fun hm=>?_,h⟩
 obtain ⟨q,hq,e⟩:=P1.1 hm
 exact hn q hq e.symm
theorem Apart.upd {n b:List UInt8}:∀ {l:List Fil},Apart l→Apart (zbg n b l)
 | [],_=>by simp[zbg,Apart]
 | p::l,ha=>by
  rw[zbg]
  split
  ·rename_i hp
   exact zjv (zd6 ha) fun q hq=>by rw[←hp];exact zfo ha hq
  ·rename_i hp
   refine zjv (Apart.upd (zd6 ha)) fun q hq=>?_
   rcases zla n b l q hq with h | h
   ·rw[h];exact hp
   ·exact zfo ha h
theorem Apart.del {n:List UInt8} {l:List Fil} (h:Apart l):Apart (za7 n l):=((zcp n l).map _).nodup h
theorem Srt.del {n:List UInt8} {l:List Fil} (h:Srt l):Srt (za7 n l):=Q0 (zcp n l) h
def zcM (p:Fil):List Fil→List Fil
 | []=>[p]
 | q::l=>if ltB q.1 p.1 then q::zcM p l else p::q::l
theorem zkg (p:Fil):∀ (l:List Fil) (q:Fil),q∈zcM p l↔q=p∨q∈l
 | [],q=>by simp[zcM]
 | r::l,q=>by
  rw[zcM]
  split
  ·rw[P2,zkg p l q,P2]
   exact ⟨fun h=>h.elim (fun h=>.inr (.inl h)) (fun h=>h.elim .inl fun h=>.inr (.inr h)),fun h=>h.elim (fun h=>.inr (.inl h)) fun h=>h.elim .inl fun h=>.inr (.inr h)⟩
  ·rw[P2,P2]
theorem Srt.ins {p:Fil}:∀ {l:List Fil},Srt l→(∀ q∈l,q.1≠p.1)→Srt (zcM p l)
 | [],_,_=>by simp[zcM,Srt]
 | q::l,h,hn=>by
  have hc:=Pa.1 h;rw[zcM]
  split
  ·rename_i H9
   refine Pa.2 ⟨fun r hr=>?_,Srt.ins hc.2 fun q hq=>hn q (P3 _ hq)⟩
   rcases (zkg p l r).1 hr with rfl | hr
   ·exact H9
   ·exact hc.1 r hr
  ·rename_i H9
   have Hh:=zom (by simpa using H9) (hn q P6)
   refine Pa.2 ⟨fun r hr=>?_,h⟩
   rcases P2.1 hr with rfl | hr
   ·exact Hh
   ·exact zhW Hh (hc.1 r hr)
theorem zl9 (p:Fil) (x:List UInt8):∀ {l:List Fil},(∀ q∈l,q.1≠p.1)→zaj x (zcM p l)=if x=p.1 then some p.2 else zaj x l
 | [],_=>by
  rw[zcM,zaj,zaj]
  by_cases h:x=p.1
  ·rw[if_pos h,if_pos h.symm]
  ·rw[if_neg h,if_neg (Q3 h)];rfl
 | q::l,hn=>by
  have ih:=zl9 p x (l:=l) fun q hq=>hn q (P3 _ hq)
  rw[zcM]
  split
  ·rw[zaj,zaj,ih]
   by_cases h:x=p.1
   ·subst h
    rw[if_pos rfl,if_neg (hn q P6),if_pos rfl]
   ·rw[if_neg h,if_neg h]
  ·rw[zaj]
   by_cases h:x=p.1
   ·rw[if_pos h,if_pos h.symm]
   ·rw[if_neg h,if_neg (Q3 h)]
def withS (l:List Fil) (p:Fil):List Fil:=zcM p (za7 p.1 l)
theorem zqV {n:List UInt8} {l:List Fil} (ha:Apart l):∀ q∈za7 n l,q.1≠n:=getF_isNone.1 (by rw[zfw ha,if_pos rfl])
theorem Srt.withS {l:List Fil} (h:Srt l) (p:Fil):Srt (withS l p):=h.del.ins (zqV h.apart)
theorem zkH {l:List Fil} (h:Srt l) (p:Fil) (x:List UInt8):zaj x (withS l p)=if x=p.1 then some p.2 else zaj x l:=by
 unfold Go.Proofs.YteggfecbjgbndaaGreatDoor.withS;rw[zl9 p x (zqV h.apart),zfw h.apart]
 split <;> rfl
/-! Operations -/
structure Oq where
 k:Int
 n:List UInt8
 t:List UInt8
 b:List UInt8
def zcG (l:List Fil) (o:Oq):List Fil :=
 if o.k=1 then withS l (o.n,[]) else
 match zaj o.n l with
 | none=>l
 | some b=>if o.k=2 then withS l (o.n,b++o.b) else if o.k=3∧o.t≠o.n then withS (za7 o.n l) (o.t,b) else if o.k=4 then za7 o.n l else l
def zbn (m:List Fil) (o:Oq):List Fil :=
 if o.k=1 then zbg o.n [] m else
 if o.k=2 then (match zaj o.n m with | none=>m | some b=>zbg o.n (b++o.b) m) else
 if o.k=3 then (match zaj o.n m with | none=>m | some b=>zbg o.t b (za7 o.n m)) else
 if o.k=4 then za7 o.n m else m
structure Tells (l m:List Fil):Prop where
 s:Srt l
 a:Apart m
 g:∀ x,zaj x l=zaj x m
theorem Tells.with_ {l m:List Fil} (h:Tells l m) (n b:List UInt8):Tells (withS l (n,b)) (zbg n b m):=⟨h.s.withS _,h.a.upd,fun x=>by rw[zkH h.s,zgX,h.g]⟩
theorem Tells.del {l m:List Fil} (h:Tells l m) (n:List UInt8):Tells (za7 n l) (za7 n m):=⟨h.s.del,h.a.del,fun x=>by rw[zfw h.s.apart,zfw h.a,h.g]⟩
theorem Tells.done {l m:List Fil} (h:Tells l m) (o:Oq):Tells (zcG l o) (zbn m o):=by
 unfold zcG zbn
 by_cases h1:o.k=1
 ·rw[if_pos h1,if_pos h1]
  exact h.with_ _ _
 ·rw[if_neg h1,if_neg h1]
  cases hg:zaj o.n m with
  | none =>
   rw[h.g,hg];dsimp only
   split
   ·exact h
   ·split
    ·exact h
    ·split
     ·rw[zhK (getF_isNone.1 hg)]
      exact h
     ·exact h
  | some b =>
   rw[h.g,hg];dsimp only
   split
   ·exact h.with_ _ _
   ·by_cases h3:o.k=3
    ·rw[if_pos h3]
     by_cases ht:o.t=o.n
     ·rw[if_neg (fun h=>h.2 ht),if_neg (by omega),ht]
      refine ⟨h.s,h.a.del.upd,fun x=>?_⟩
      rw[zgX,zfw h.a,h.g]
      split
      ·rename_i hx
       rw[hx,hg]
      ·rfl
     ·rw[if_pos ⟨h3,ht⟩]
      exact (h.del _).with_ _ _
    ·rw[if_neg (fun h=>h3 h.1),if_neg h3]
     split
     ·exact h.del _
     ·exact h
def zcE:List Fil→List Fil
 | []=>[]
 | p::l=>zbg p.1 p.2 (zcE l)
def zbe (l:List Fil) (p:Fil):List Fil:=if (zaj p.1 l).isNone then withS l p else l
def zkk (fs:List Fil) (q:List Oq):List Fil:=q.foldl zcG (fs.foldl zbe [])
def zbF (fs:List Fil) (q:List Oq):List Fil:=q.foldl zbn (zcE fs)
theorem zjJ (x:List UInt8):∀ l:List Fil,zaj x (zcE l)=zaj x l
 | []=>rfl
 | p::l=>by
  rw[zcE,zgX,zjJ x l,zaj]
  by_cases h:x=p.1
  ·rw[if_pos h,if_pos h.symm]
  ·rw[if_neg h,if_neg (Q3 h)]
theorem ziH:∀ l:List Fil,Apart (zcE l)
 | []=>List.nodup_nil
 | _::l=>(ziH l).upd
theorem zrK {l:List Fil} (h:Srt l) (p:Fil):Srt (zbe l p)∧∀ x,zaj x (zbe l p)=(zaj x l).or (if p.1=x then some p.2 else none):=by
 unfold zbe
 by_cases hn:zaj p.1 l=none
 ·rw[if_pos (by rw[hn];rfl)]
  refine ⟨h.withS p,fun x=>?_⟩
  rw[zkH h]
  by_cases hx:x=p.1
  ·subst hx;rw[if_pos rfl,hn,if_pos rfl];rfl
  ·rw[if_neg hx,if_neg (Q3 hx),Option.or_none]
 ·obtain ⟨b,hb⟩:=Option.ne_none_iff_exists'.1 hn
  rw[if_neg (by rw[hb];simp)]
  refine ⟨h,fun x=>?_⟩
  by_cases hx:p.1=x
  ·subst hx;rw[hb];rfl
  ·rw[if_neg hx,Option.or_none]
theorem zjX:∀ (fs l:List Fil),Srt l→Srt (fs.foldl zbe l)∧∀ x,zaj x (fs.foldl zbe l)=(zaj x l).or (zaj x fs)
 | [],l,h=>⟨h,fun x=>by simp[zaj]⟩
 | p::fs,l,h=>by
  obtain ⟨h1,h2⟩:=zrK h p;obtain ⟨h3,h4⟩:=zjX fs _ h1
  refine ⟨h3,fun x=>?_⟩
  rw[Pg,h4,h2,Option.or_assoc,zaj]
  congr 1
  split <;> simp
theorem zjZ:∀ (q:List Oq) {l m:List Fil},Tells l m→Tells (q.foldl zcG l) (q.foldl zbn m)
 | [],_,_,h=>h
 | o::q,_,_,h=>zjZ q (h.done o)
theorem zh8 (fs:List Fil) (q:List Oq):Tells (zkk fs q) (zbF fs q):=by
 obtain ⟨h1,h2⟩:=zjX fs [] Q1
 exact zjZ q ⟨h1,ziH fs,fun x=>by rw[h2,zjJ];rfl⟩
def zbp (m:List Fil):List Fil:=((m.map (·.1)).mergeSort leB).map fun n=>(n,(zaj n m).getD [])
theorem zuH:∀ a b c:List UInt8,leB a b=true→leB b c=true→leB a c=true:=fun a b c h1 h2=>by simp only[leB,decide_eq_true_eq] at *;exact List.le_trans h1 h2
theorem zuG:∀ a b:List UInt8,(leB a b||leB b a)=true:=fun a b=>by simp only[leB,Q7,decide_eq_true_eq];exact List.le_total a b
theorem zp0 (l:List (List UInt8)) (hn:l.Nodup):(l.mergeSort leB).Pairwise fun a b=>ltB a b=true:=by
 have h1:=List.pairwise_mergeSort zuH zuG l
 have h2:(l.mergeSort leB).Nodup:=(P9 l leB).nodup_iff.2 hn
 refine Q2 (fun a b h1 h2=>?_) h1 h2
 simp only[leB,decide_eq_true_eq] at h1;rw[zeM]
 rcases Pc.1 h1 with h | h
 ·exact h
 ·exact absurd h h2
theorem zqa {m:List Fil} (ha:Apart m):Tells (zbp m) m:=by
 have hs:=zp0 _ ha
 have hS:Srt (zbp m):=by
  unfold Srt zbp;rw[P7]
  exact hs
 refine ⟨hS,ha,fun x=>?_⟩
 cases hg:zaj x m with
 | none =>
  refine zd0 fun p hp e=>?_
  obtain ⟨n,hn,rfl⟩:=P1.1 hp;have Hb:=(P9 _ leB).mem_iff.1 hn;obtain ⟨q,hq,Hn⟩:=P1.1 Hb
  exact getF_isNone.1 hg q hq (Hn.trans e)
 | some b =>
  refine zdc hS.apart (P1.2 ⟨x,(P9 _ leB).mem_iff.2 (P1.2 ⟨_,zdq hg,rfl⟩),by rw[hg];rfl⟩)
theorem zmP (fs:List Fil) (q:List Oq):zbp (zbF fs q)=zkk fs q:=by
 have h1:=zh8 fs q;have h2:=zqa h1.a
 exact zt8 h2.s h1.s fun x=>by rw[h2.g,h1.g]
/-! How many bytes -/
def tot (l:List Fil):Nat:=(l.map fun p=>p.2.length).sum
theorem zcO (p:Fil) (l:List Fil):tot (p::l)=p.2.length+tot l:=by simp[tot]
theorem zj0 (l l':List Fil):tot (l++l')=tot l+tot l':=by simp[tot]
theorem zmZ {l l':List Fil} (h:l.Perm l'):tot l=tot l':=by unfold tot;exact (h.map _).sum_nat
theorem zgJ (n b:List UInt8):∀ l:List Fil,tot (zbg n b l)+((zaj n l).getD []).length=tot l+b.length
 | []=>by simp[zbg,tot,zaj]
 | p::l=>by
  have ih:=zgJ n b l;rw[zbg,zaj]
  split
  ·rw[zcO,zcO];simp;omega
  ·rw[zcO,zcO];omega
theorem zix (n:List UInt8):∀ l:List Fil,tot (za7 n l)+((zaj n l).getD []).length=tot l
 | []=>by simp[za7,tot,zaj]
 | p::l=>by
  have ih:=zix n l;rw[za7,zaj]
  split
  ·rw[zcO];simp;omega
  ·rw[zcO,zcO];omega
theorem zpn (n:List UInt8) (l:List Fil):((zaj n l).getD []).length≤tot l:=by have:=zix n l;omega
theorem zfN (m:List Fil) (o:Oq):tot (zbn m o)≤tot m+o.b.length:=by
 unfold zbn
 split
 ·have:=zgJ o.n [] m;simp at this;omega
 ·split
  ·split
   ·omega
   ·rename_i b hb
    have:=zgJ o.n (b++o.b) m
    rw[hb] at this
    simp at this
    omega
  ·split
   ·split
    ·omega
    ·rename_i b hb
     have h1:=zgJ o.t b (za7 o.n m);have h2:=zix o.n m;rw[hb] at h2
     simp at h2
     omega
   ·split
    ·have:=zix o.n m;omega
    ·omega
def zaW (q:List Oq):Nat:=(q.map fun o=>o.b.length).sum
theorem zcm (o:Oq) (q:List Oq):zaW (o::q)=o.b.length+zaW q:=by simp[zaW]
theorem zeF (q q':List Oq):zaW (q++q')=zaW q+zaW q':=by simp[zaW]
theorem zk7:∀ (q:List Oq) (m:List Fil),tot (q.foldl zbn m)≤tot m+zaW q
 | [],m=>by simp[zaW]
 | o::q,m=>by
  have h1:=zfN m o;have h2:=zk7 q (zbn m o);rw[Pg,zcm];omega
theorem zia:∀ l:List Fil,tot (zcE l)≤tot l
 | []=>xN _
 | p::l=>by
  have h1:=zia l;have h2:=zgJ p.1 p.2 (zcE l);rw[zcE,zcO];omega
theorem zfO (fs:List Fil) (q:List Oq):tot (zbF fs q)≤tot fs+zaW q:=by
 have h1:=zk7 q (zcE fs);have h2:=zia fs;unfold zbF;omega
theorem zp9 {l m:List Fil} (h:Tells l m):l.Perm m:=by
 have nd:∀ {l:List Fil},Apart l→l.Nodup:=fun {l} h=>by
  unfold Apart Pd at h;rw[P7] at h
  exact Pz (fun h e=>h (congrArg Prod.fst e)) h
 refine (Pb (nd h.s.apart) (nd h.a)).2 fun p=>⟨fun hp=>zdq (b:=p.2) (by rw[←h.g];exact zdc h.s.apart hp),fun hp=>zdq (b:=p.2) (by rw[h.g];exact zdc h.a hp)⟩
theorem ziy (fs:List Fil) (q:List Oq):tot (zkk fs q)=tot (zbF fs q):=zmZ (zp9 (zh8 fs q))
/-! Disks -/
structure Dk where
 fs:List Fil
 q:List Oq
 quota:Int
 fuse:Int
 dead:Bool
def Dk.now (d:Dk):List Fil:=zkk d.fs d.q
def zbo (o:Oq):Bool:=(decide (o.k=1)||decide (o.k=2)||decide (o.k=3)||decide (o.k=4)) && !decide (o.n=[])&&(!decide (o.k=3) || !decide (o.t=[]))
def zbP:List UInt8→List Fil→Bool
 | _,[]=>true
 | last,p::l=>ltB last p.1&&zbP p.1 l
def Dk.right (d:Dk):Bool:=zbP [] d.fs&&d.q.all zbo&&decide (d.q.length≤400)&&decide (0≤d.quota)&&decide (0≤d.fuse)&&decide ((tot d.now:Int)≤d.quota)
def Dk.burn (d:Dk):Dk:=if 0<d.fuse then { d with fuse:=d.fuse-1,dead:=decide (d.fuse-1=0) } else d
def Dk.may (d:Dk):Int:=if d.right=false then 2 else if d.dead=true then 40 else 0
def Dk.doS (d:Dk) (o:Oq):Dk×Int :=
 if d.may≠0 then (d,d.may) else
 if zbo o=false then (d,2) else
 if zaj o.n d.now=none∧o.k≠1 then (d,42) else
 if (o.k=2∧d.quota<(tot d.now:Int)+(o.b.length:Int))∨d.q.length=400 then (d,41) else ({ d with q:=d.q++[o] }.burn,0)
def Dk.syncS (d:Dk):Dk×Int:=if d.may≠0 then (d,d.may) else ({ d with fs:=d.now,q:=[] }.burn,0)
def zbT (sync:Bool):Dk→List Oq→Dk×Int
 | d,[]=>if sync=true then d.syncS else (d,0)
 | d,o::l=>if (d.doS o).2=0 then zbT sync (d.doS o).1 l else d.doS o
theorem ltB_nil {n:List UInt8}:ltB [] n=true↔n≠[]:=by cases n <;> simp[ltB,Pp]
structure Rt (d:Dk):Prop where
 f:zbP [] d.fs=true
 q:∀ o∈d.q,zbo o=true
 l:d.q.length≤400
 u:0≤d.fuse
 t:(tot d.now:Int)≤d.quota
theorem zrB (d:Dk):d.right=true↔Rt d:=by
 unfold Dk.right;simp only[Q6,decide_eq_true_eq,List.all_eq_true]
 constructor
 ·rintro ⟨⟨⟨⟨⟨h1,h2⟩,h3⟩,h4⟩,h5⟩,h6⟩
  exact ⟨h1,h2,h3,h5,h6⟩
 ·rintro ⟨h1,h2,h3,h5,h6⟩
  exact ⟨⟨⟨⟨⟨h1,h2⟩,h3⟩,by omega⟩,h5⟩,h6⟩
theorem zeo (o:Oq):zbo o=true↔(o.k=1∨o.k=2∨o.k=3∨o.k=4)∧o.n≠[]∧(o.k=3→o.t≠[]):=by
 unfold zbo;simp only[Q6,Q7,decide_eq_true_eq,Bool.not_eq_true',decide_eq_false_iff_not]
 constructor
 ·rintro ⟨⟨h1,h2⟩,h3⟩
  exact ⟨by omega,h2,fun h=>h3.elim (fun h'=>absurd h h') id⟩
 ·rintro ⟨h1,h2,h3⟩
  refine ⟨⟨by omega,h2⟩,?_⟩
  by_cases h:o.k=3
  ·exact .inr (h3 h)
  ·exact .inl h
open Go.RowKit Go.Mv Go.MapKept Go.ChangeMaps
section
variable {P:Program} {T K E:TypeId} {F:Fence} {nF:Nat} {w:World} {ops:Array Oper} {rest:List Oper} {o:Oper} {a:Act} {Q:Exit→Act→World→Prop}
theorem ziE (hg:o.guard=none) (m x:Operand) (ok:Bool) (H3:o.op=Pr T m x ok) (hT:P.underlying T=D (.map K E)) (hK:P.underlying K=D .string) (hz:(zeroValue E).run P w=.ok (G none 0 0) w)
  (r:Nat) (l:List Fil) (hm:a.eval m=.map (some r)) (hF:FMap w r l) (n:List UInt8) (hx:a.eval x=sv n)
  (h:∀ A c,Bs w (G A ((zaj n l).getD []).length c) ((zaj n l).getD [])→wpListIn F nF P ops Q rest (a.put o.dst (if ok then .tuple #[G A ((zaj n l).getD []).length c,J (zaj n l).isSome] else G A ((zaj n l).getD []).length c)) w) :
  wpListIn F nF P ops Q (o::rest) a w:=by
 refine wpListIn_plain hg fun K' H4=>?_
 obtain ⟨v,H2,h1,h2⟩:=hF.lookup hT hK n hz ok
 have hv:Bs w v ((zaj n l).getD []):=by
  cases hf:zaj n l with
  | none=>rw[h1 hf];exact SlR.nil w 1
  | some b=>exact h2 b hf
 obtain ⟨A,c,rfl,_,_⟩:=xO hv;unfold Px
 refine ⟨by simp[Pw,H3],?_⟩
 rw[Pv F _ _ (by rw[H3];intro c H8;cases H8)]
 simp[execOp,H3,hm,hx,H2,P0]
 exact H4 _ _ (by simpa using h A c hv)
theorem ziF (hg:o.guard=none) (m x v:Operand) (H3:o.op=Pq T m x v) (hT:P.underlying T=D (.map K E)) (hK:P.underlying K=D .string)
  (r:Nat) (l:List Fil) (hm:a.eval m=.map (some r)) (hF:FMap w r l) (n:List UInt8) (hx:a.eval x=sv n) (u:Value) (b:List UInt8) (hv:a.eval v=u) (hb:Bs w u b)
  (h:∀ w',FMap w' r (zbg n b l)→MT w w' r→wpListIn F nF P ops Q rest (a.put o.dst undef) w'):wpListIn F nF P ops Q (o::rest) a w:=by
 refine wpListIn_plain hg fun K' H4=>?_
 obtain ⟨w',H2,h1,h2⟩:=hF.update hT hK n hb;unfold Px
 refine ⟨by simp[Pw,H3],?_⟩
 rw[Pv F _ _ (by rw[H3];intro c H8;cases H8)]
 simp[execOp,H3,hm,hx,hv,H2,P0]
 exact H4 _ _ (h w' h1 h2)
theorem zjm (hg:o.guard=none) (m:Operand) (H3:o.op=Ps T m) (hT:P.underlying T=D (.map K E)) (r:Nat) (l:List Fil) (hm:a.eval m=.map (some r)) (hF:FMap w r l)
  (h:∀ w',FIt w' r w.heap.size l l→Ext w w'→wpListIn F nF P ops Q rest (a.put o.dst (H (D ⟨w.heap.size,0,I⟩))) w'):wpListIn F nF P ops Q (o::rest) a w:=by
 refine wpListIn_plain hg fun K' H4=>?_
 obtain ⟨w',H2,h1,h2⟩:=hF.range hT;unfold Px
 refine ⟨by simp[Pw,H3],?_⟩
 rw[Pv F _ _ (by rw[H3];intro c H8;cases H8)]
 simp[execOp,H3,hm,H2,P0]
 exact H4 _ _ (h w' h1 h2)
theorem zj4 (hg:o.guard=none) (it:Operand) (H3:o.op=Pu it false) (r i:Nat) (l L:List Fil) (Ha:a.eval it=H (D ⟨i,0,I⟩)) (hI:FIt w r i l L)
  (H5:L=[]→wpListIn F nF P ops Q rest (a.put o.dst (.tuple #[.bool false])) w)
  (H6:∀ n b A c L' w',L.Perm ((n,b)::L')→FIt w' r i l L'→Bs w' (G A b.length c) b→MT w w' i→r≠i→(Qc (H (D ⟨i,0,I⟩))).run P w'=.ok (.tuple #[sv n,G A b.length c]) w' →
    wpListIn F nF P ops Q rest (a.put o.dst (.tuple #[.bool true,sv n,G A b.length c])) w'):wpListIn F nF P ops Q (o::rest) a w:=by
 refine wpListIn_plain hg fun K' H4=>?_
 unfold Px
 refine ⟨by simp[Pw,H3],?_⟩
 rw[Pv F _ _ (by rw[H3];intro c H8;cases H8)]
 rcases hI.next (P:=P) o.type with ⟨h0,H2⟩ | ⟨n,b,v,L',w',h1,H2,h3,h4,h5,h6,h7⟩
 ·simp[execOp,H3,Ha,H2,P0]
  exact H4 _ _ (H5 h0)
 ·obtain ⟨A,c,rfl,_,_⟩:=xO h4
  simp[execOp,H3,Ha,H2,P0]
  exact H4 _ _ (H6 n b A c L' w' h1 h3 h4 h5 h6 h7)
end
/-! A map while a range over a function goes on -/
theorem FMap.keep2 {A B:World} {r:Nat} {l:List Fil} (h:FMap A r l) (hr:∀ es c,A.heap[r]?=D (.map es c)→B.heap[r]?=D (.map es c)) (hk:∀ p x,A.cell? p=D x→B.cell? p=D x):FMap B r l:=by
 obtain ⟨es,c,hb,hs,he⟩:=h
 exact ⟨es,c,hr _ _ hb,hs,he.keep hk⟩
theorem FMap.moves {A B:World} {r n:Nat} {l:List Fil} (h:FMap A r l) (hm:Moves (zac (fun _ _=>False) n) A B) (hr:r<n):FMap B r l:=by
 refine h.keep2 (fun es c hb=>hm.same _ _ hb ?_) (fun p x hc=>hm.cell hc fun o ho Hf=>?_)
 ·rintro (h | ⟨h,_⟩)
  ·exact h
  ·omega
 ·rintro (h | ⟨_,h⟩)
  ·exact h
  ·rw[Hf] at h;cases h
theorem Bs.moves {A B:World} {n:Nat} {v:Value} {b:List UInt8} (h:Bs A v b) (hm:Moves (zac (fun _ _=>False) n) A B):Bs B v b:=by
 refine SlR.keep h fun p x hc=>hm.cell hc fun o ho Hf=>?_
 rintro (h | ⟨_,h⟩)
 ·exact h
 ·rw[Hf] at h;cases h
theorem Kept.mt {K:Nat→Obj→Prop} {A B C:World} {r:Nat} (h:Kept K A B) (hm:MT B C r) (hr:∀ o,A.heap[r]?=D o→¬ K r o):Kept K A C :=
 ⟨Nat.le_trans h.size (Nat.le_of_eq hm.size.symm),fun k o hk ho=>by
   have Hk:=h.same k o hk ho
   refine (hm.block k (fun e=>?_)).trans Hk
   subst e
   exact hr o hk ho⟩
open Go.RowKit Go.Mv
def zca (n:List UInt8):Oq:=⟨1,n,[],[]⟩
def zcn (n b:List UInt8):Oq:=⟨2,n,[],b⟩
def za0 (n:List UInt8):Oq:=⟨4,n,[],[]⟩
def zbi (l:List Fil) (ks:List (List UInt8)):List (List UInt8):=(l.map (·.1)).filter fun n=>!decide (n∈ks)
def zeB (d:Dk) (ks:List (List UInt8)):Dk×Int:=zbT false d ((zbi d.now ks).map za0)
def putS (d:Dk) (n b:List UInt8):Dk×Int:=zbT true d [zca n,zcn n b]
def zbR (n t:List UInt8):Oq:=⟨3,n,t,[]⟩
def zbE:List UInt8:=[77,46,110,101,119]
def zds:List UInt8:=[77]
def zlF (d:Dk) (b:List UInt8) (ks:List (List UInt8)):Dk×Int :=
 if (putS d zbE b).2≠0 then putS d zbE b else
 if (zbT true (putS d zbE b).1 [zbR zbE zds]).2≠0 then zbT true (putS d zbE b).1 [zbR zbE zds] else
 zeB (zbT true (putS d zbE b).1 [zbR zbE zds]).1 ks
end Go.Proofs.YteggfecbjgbndaaGreatDoor
