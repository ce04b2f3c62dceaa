/- Merged -/
import Derived.Test.YteggfecbjgbndaaGreatDoorZy18
import Derived.Maps.RangeWalk
import Derived.Maps.Own
import Derived.Sort.KeysCollected
import Derived.Maps.OwnIn
set_option linter.all false
set_option maxHeartbeats 8000000
set_option maxRecDepth 100000
open List renaming length->M
open Option renaming some->D,none->I
open Go.Value renaming slice->G,pointer->H,bool->J
open Go.Result renaming andThen->P0
open List renaming mem_map->P1,mem_cons->P2,mem_cons_of_mem->P3,filter_cons->P4,map_cons->P5,mem_cons_self->P6,pairwise_map->P7,nodup_cons->P8,mergeSort_perm->P9,pairwise_cons->Pa,perm_ext_iff_of_nodup->Pb,le_iff_lt_or_eq->Pc,Nodup->Pd,filter_congr->Pe,mem_filter->Pf,foldl_cons->Pg
open Go.MapKept renaming run_getObj_map->Ph,run_findKey->Pi,run_setObj_map->Pj,run_checkKey->Pk
open Array renaming getElem?_eq_some_iff->Pl,getElem?_toList->Pm,toList_filter->Pn
open Go.Sem renaming run_bind->Po
open Go.Op renaming bytesLess->Pp,mapUpdate->Pq,lookup->Pr,range->Ps,next->Pu
open Go.Oper renaming semAt_plain->Pv,about->Pw,wpIn->Px,wp->Py
open List.Pairwise renaming imp->Pz,sublist->Q0,nil->Q1,imp₂->Q2
open Ne renaming symm->Q3
open Go.Builtin renaming delete_->Q4,delete->Q5
open Bool renaming and_eq_true->Q6,or_eq_true->Q7,eq_false_iff->Q8
open Go.Instr renaming mapUpdate->Q9,checkKey->Qa,lookup->Qb,entry->Qc,findNow->Qd,next->Qe
namespace Go.Proofs.YteggfecbjgbndaaGreatDoor
open Go.RowKit Go.Mv Go.MapKept Go.ChangeMaps
variable {p:Fil} {l m:List Fil} {a b n:List UInt8} {r:Nat} {v:Value} {A B w w':World}
theorem Cb(h:sv a=sv b):a=b:=by
 unfold sv at h;injection h with h
 injection h with h
 exact Array.toList_inj.2 h
def E2(w:World):List MapEntry->List Fil->Prop
 |[],[]=>True
 |e::es,p::l=>e.key=sv p.1/\Bs w e.val p.2/\E2 w es l
 |_,_=>False
theorem E2.len:∀ {es:List MapEntry} {l:List Fil},E2 w es l->M es=M l
 |[],[],_=>rfl
 |_::_,_::_,h=>by rw[xC,xC,E2.len h.2.2]
 |[],_::_,h=>h.elim
 |_::_,[],h=>h.elim
theorem E2.keep(c:∀p u,w.cell? p=D u->w'.cell? p=D u):∀ {es:List MapEntry} {l:List Fil},E2 w es l->E2 w' es l
 |[],[],_=>trivial
 |_::_,_::_,h=>⟨h.1,SlR.keep h.2.1 c,E2.keep c h.2.2⟩
 |[],_::_,h=>h.elim
 |_::_,[],h=>h.elim
theorem E2.keys:∀ {es:List MapEntry} {l:List Fil},E2 w es l->es.map (·.key)=l.map (λp=>sv p.1)
 |[],[],_=>rfl
 |_::_,_::_,h=>by rw[P5,P5,h.1,E2.keys h.2.2]
 |[],_::_,h=>h.elim
 |_::_,[],h=>h.elim
theorem E2.at_:∀ {es:List MapEntry} {l:List Fil},E2 w es l->∀ {j:Nat} {e:MapEntry},es[j]?=D e->∃p,l[j]?=D p/\e.key=sv p.1/\Bs w e.val p.2
 |[],[],_,_,_,he=>by cases he
 |_::_,p::_,h,0,_,he=>by cases he;exact⟨p,rfl,h.1,h.2.1⟩
 | _::_,_::_,h,j+1,e,he=>by
  obtain⟨p,h1,h2⟩:=E2.at_ h.2.2 (j:=j) (e:=e) (by simpa using he);exact⟨p,by simpa using h1,h2⟩
 |[],_::_,h,_,_,_=>h.elim
 |_::_,[],h,_,_,_=>h.elim
theorem E2.push{e:MapEntry}(c:e.key=sv p.1)(hb:Bs w e.val p.2):∀ {es:List MapEntry} {l:List Fil},E2 w es l->E2 w (es++[e]) (l++[p])
 |[],[],_=>⟨c,hb,trivial⟩
 |_::_,_::_,h=>⟨h.1,h.2.1,E2.push c hb h.2.2⟩
 |[],_::_,h=>h.elim
 |_::_,[],h=>h.elim
theorem E2.set{e:MapEntry}(c:e.key=sv p.1)(hb:Bs w e.val p.2):∀ {es:List MapEntry} {l:List Fil} (j:Nat),E2 w es l->E2 w (es.set j e) (l.set j p)
 |[],[],_,_=>trivial
 |_::_,_::_,0,h=>⟨c,hb,h.2.2⟩
 |_::_,_::_,j+1,h=>⟨h.1,h.2.1,E2.set c hb j h.2.2⟩
 |[],_::_,_,h=>h.elim
 |_::_,[],_,h=>h.elim
theorem E2.erase:∀ {es:List MapEntry} {l:List Fil} (j:Nat),E2 w es l->E2 w (es.eraseIdx j) (l.eraseIdx j)
 |[],[],_,_=>trivial
 |_::_,_::_,0,h=>h.2.2
 |_::_,_::_,j+1,h=>⟨h.1,h.2.1,E2.erase j h.2.2⟩
 |[],_::_,_,h=>h.elim
 |_::_,[],_,h=>h.elim
def ak(n:List UInt8):List Fil->Option (List UInt8)
 |[]=>none
 |p::l=>if p.1=n then some p.2 else ak n l
def aX(n b:List UInt8):List Fil->List Fil
 |[]=>[(n,b)]
 |p::l=>if p.1=n then(n,b)::l else p::aX n b l
def aV(n:List UInt8):List Fil->List Fil
 |[]=>[]
 |p::l=>if p.1=n then l else p::aV n l
def Apart(l:List Fil):Prop:=(l.map (·.1)).Nodup
theorem ly:∀ {l:List Fil},(∀p∈l,p.1≠n)->ak n l=none
 |[],_=>rfl
 |p::l,h=>by rw[ak,if_neg (h p (by simp)),ly λq c=>h q (by simp[c])]
theorem zB:∀ {l:List Fil},(∀p∈l,p.1≠n)->aX n b l=l++[(n,b)]
 |[],_=>rfl
 |p::l,h=>by rw[aX,if_neg (h p (by simp)),zB λq c=>h q (by simp[c])];rfl
theorem qy:∀ {l:List Fil},(∀p∈l,p.1≠n)->aV n l=l
 |[],_=>rfl
 |p::l,h=>by rw[aV,if_neg (h p (by simp)),qy λq c=>h q (by simp[c])]
theorem mv{p:Fil}(h:Apart (p::l)):Apart l:=(P8.1 h).2
theorem mW{p q:Fil}(h:Apart (p::l))(c:q∈l):p.1≠q.1:=by
 intro e;exact(P8.1 h).1 (P1.2 ⟨q,c,e.symm⟩)
theorem oT:∀ {l:List Fil} {j:Nat} {p:Fil},Apart l->l[j]?=D p->p.1=n->ak n l=D p.2/\(∀b,aX n b l=l.set j (n,b))/\aV n l=l.eraseIdx j
 |[],_,_,_,h,_=>by cases h
 | q::l,0,p,_,h,he=>by
  cases h;refine⟨by rw[ak,if_pos he],λb=>by rw[aX,if_pos he];rfl,by rw[aV,if_pos he];rfl⟩
 | q::l,j+1,p,ha,h,he=>by
  have hm:p∈l:=List.mem_of_getElem? (by simpa using h:l[j]?=D p);have c:q.1≠n:=he▸mW ha hm;obtain⟨h1,h2,h3⟩:=oT (mv ha) (by simpa using h:l[j]?=D p) he;refine⟨by rw[ak,if_neg c,h1],λb=>by rw[aX,if_neg c,h2 b];rfl,by rw[aV,if_neg c,h3];rfl⟩
def FMap(w:World)(r:Nat)(l:List Fil):Prop:=∃es c,w.heap[r]?=D (.map es c)/\Stamped es c/\E2 w es.toList l
theorem FMap.lt(h:FMap w r l):r<w.heap.size:=by
 obtain⟨es,c,hb,_⟩:=h;exact(Pl.1 hb).1
theorem FMap.apart(h:FMap w r l):Apart l:=by
 obtain⟨es,c,_,hs,he⟩:=h;have h3:=hs.2.2;rw[he.keys]at h3;unfold Apart;unfold Pd at h3⊢;rw[P7]at h3⊢;exact h3.imp λh e=>h (congrArg sv e)
theorem FMap.ext(h:FMap w r l)(d:Ext w w'):FMap w' r l:=by
 have e:=h.lt;obtain⟨es,c,hb,hs,he⟩:=h;exact⟨es,c,(d.block r e).trans hb,hs,he.keep λ_ _ hc=>d.cell hc⟩
theorem FMap.new(w:World):FMap (w.alloc (.map #[] 0)) w.heap.size []:=⟨#[],0,heap_alloc_new w _,stamped_empty 0,trivial⟩
structure MT (w w':World) (r:Nat):Prop where
 os:w'.os=w.os
 tape:w'.tape=w.tape
 output:w'.output=w.output
 size:w'.heap.size=w.heap.size
 block:∀ k,k≠r->w'.heap[k]?=w.heap[k]?
 no:∀ cs t f,w.heap[r]?≠some (.cells cs t f)
theorem MT.blk(h:MT w w' r){b:Nat}{t:TypeId}{cs:Array Value}(hb:Blk w b t cs):Blk w' b t cs:=by
 have:b≠r:=by
  rintro rfl;exact h.no _ _ _ hb
 exact(h.block _ this).trans hb
theorem MT.cell(h:MT w w' r){p:Addr}{u:Value}(hc:w.cell? p=D u):w'.cell? p=D u:=by
 have:p.block≠r:=by
  intro e;unfold World.cell? at hc;rw[e]at hc;split at hc
  ·rename_i h1;exact h.no _ _ _ h1
  cases hc
 unfold World.cell? at hc⊢;rw[h.block _ this];exact hc
theorem MT.bs(h:MT w w' r)(hb:Bs w v b):Bs w' v b:=SlR.keep hb λ_ _ hc=>h.cell hc
theorem MT.ext{d:World}(h:MT w w' r)(c:Ext d w)(e:d.heap.size<=r):Ext d w':=
 ⟨h.os.trans c.os,h.tape.trans c.tape,h.output.trans c.output,by rw[h.size];exact c.size,λk d=>(h.block k (by omega)).trans (c.block k d)⟩
theorem lT{es d:Array MapEntry}{c c':Nat}(h:w.heap[r]?=D (.map es c)):MT w (setBlock w r (.map d c')) r:=
 ⟨rfl,rfl,rfl,by simp[setBlock],λk d=>(heap_set h).2 k d,λ_ _ _ e=>by rw[h]at e;cases e⟩
theorem O3{f:World}{m:Option Nat}{a:Nat}{s:Array Nat}{c:Nat}(h:w.heap[r]?=D (.mapIter m a s c))(g:f=w\/f=w.drew)(o:Obj):MT w (setBlock f r o) r:=by
 rcases g with rfl | rfl
 ·exact⟨rfl,rfl,rfl,by simp[setBlock],λk d=>(heap_set h).2 k d,λ_ _ _ e=>by rw[h]at e;cases e⟩
 ·exact⟨rfl,rfl,rfl,by show(w.heap.setIfInBounds r o).size=w.heap.size;rw[Array.size_setIfInBounds],λk d=>(heap_set (w:=w.drew) h).2 k d,λ_ _ _ e=>by rw[h]at e;cases e⟩
section
variable {P:Program} {T K E:TypeId}
theorem Oh{es:List MapEntry}(h:E2 w es l):∀x∈es,IsKey .string x.key:=by
 intro x hx;have:x.key∈es.map (·.key):=P1.2 ⟨x,hx,rfl⟩;rw[h.keys]at this;obtain⟨p,_,c⟩:=P1.1 this;rw[<-c];exact trivial
theorem qD{es:Array MapEntry}{c:Nat}(hs:Stamped es c)(he:E2 w es.toList l)(c:Apart l)(n:List UInt8):
  (Qd .string (sv n) es.toList 0=D none/\(∀x∈es.toList,x.key≠sv n)/\∀p∈l,p.1≠n) \/
  ∃j e p,Qd .string (sv n) es.toList 0=D (some (j,e.val))/\es[j]?=D e/\e.key=sv n/\l[j]?=D p/\p.1=n/\Bs w e.val p.2:=by
 rcases findNow_spec (d:=.string) (k:=sv n) trivial es.toList 0 (Oh he)with⟨h1,h2⟩|⟨j,e,h1,h2,h3⟩
 ·refine .inl ⟨h1,h2,λp f e=>?_⟩;have:sv p.1∈l.map (λp=>sv p.1):=P1.2 ⟨p,f,rfl⟩;rw[<-he.keys]at this;obtain⟨x,hx,c⟩:=P1.1 this;exact h2 x hx (by rw[c,e])
 ·obtain⟨p,f,c,hb⟩:=he.at_ h2;exact .inr ⟨j,e,p,by rw[h1,Nat.zero_add],by simpa using h2,h3,f,Cb (c.symm.trans h3),hb⟩
theorem FMap.lookup(h:FMap w r l)(g:P.underlying T=D (.map K E))(d:P.underlying K=D .string)(n:List UInt8){z:Value}(s:(zeroValue E).run P w=.ok z w)(ok:Bool):
  ∃v,(Qb T (.map (some r)) (sv n) ok).run P w=.ok (if ok then .tuple #[v,J (ak n l).isSome]else v) w/\(ak n l=none->v=z)/\∀b,ak n l=D b->Bs w v b:=by
 have i:=h.apart;obtain⟨es,c,hb,hs,he⟩:=h;have f:∀e,(Qa e 10000 K (sv n)).run P w=.ok () w:=λe=>Pk d (show IsKey .string (sv n)from trivial) e 9999;rcases qD hs he i n with⟨h1,h2,h3⟩|⟨j,e,p,h1,h2,h3,h4,h5,k⟩
 ·refine⟨z,?_,λ_=>rfl,λb hb=>by rw[ly h3]at hb;cases hb⟩;unfold Qb;cases ok<;>simp[Po,run_underlying g,Ph hb,f,Pi d h1,s,ly h3,go_sem]
 ·have hg:=(oT i h4 h5).1;refine⟨e.val,?_,λq=>(by rw[hg]at q;cases q),λb hb=>?_⟩
  ·unfold Qb;cases ok<;>simp[Po,run_underlying g,Ph hb,f,Pi d h1,hg,go_sem]
  ·rw[hg]at hb;injection hb with hb
   rw[<-hb];exact k
theorem FMap.update(h:FMap w r l)(t:P.underlying T=D (.map K E))(f:P.underlying K=D .string)(n:List UInt8)(y:Bs w v b):
  ∃w',(Q9 T (.map (some r)) (sv n) v).run P w=.ok () w'/\FMap w' r (aX n b l)/\MT w w' r:=by
 have x:=h.apart;obtain⟨es,c,hb,hs,he⟩:=h;have q:∀e,(Qa e 10000 K (sv n)).run P w=.ok () w:=λe=>Pk f (show IsKey .string (sv n)from trivial) e 9999;rcases qD hs he x n with⟨h1,h2,h3⟩|⟨j,e,p,h1,h2,h3,h4,h5,H⟩
 ·have hm:MT w (setBlock w r (.map (es.push { key:=sv n,val:=v,born:=c }) (c+1))) r:=lT hb;refine⟨_,?_,?_,hm⟩
  ·unfold Q9;simp only[Po,run_underlying t,P0,Ph hb,q,Pi f h1,Pj _ hb];rfl
  refine⟨_,_,(heap_set hb).1,stamped_push hs h2,?_⟩;rw[zB h3,Array.toList_push];exact E2.push rfl (hm.bs y) (he.keep λ_ _ hc=>hm.cell hc)
 ·have G:=(oT x h4 h5).2.1 b;have hm:MT w (setBlock w r (.map (es.modify j λe=>{ e with key:=sv n,val:=v }) c)) r:=lT hb;refine⟨_,?_,?_,hm⟩
  ·unfold Q9;simp only[Po,run_underlying t,P0,Ph hb,q,Pi f h1,h2,Option.map_some,Option.getD_some,h3,run_keyThatStays (d:=.string) (k:=sv n) trivial,Pj _ hb];rfl
  ·refine⟨_,_,(heap_set hb).1,stamped_modify hs _ _ (λ_ _=>rfl) (λe' _ s=>by rw[h2]at s;cases s;exact h3.symm),?_⟩;rw[G,show(es.modify j λe=>{ e with key:=sv n,val:=v }).toList=es.toList.set j { e with key:=sv n,val:=v }from by
    apply List.ext_getElem?;intro i;rw[Pm,Array.getElem?_modify,List.getElem?_set,Pm];split
    ·rename_i g;subst g;obtain⟨C,z⟩:=Pl.1 h2;simp[C,z]
    rfl]
   exact E2.set rfl (hm.bs y) j (he.keep λ_ _ hc=>hm.cell hc)
theorem FMap.delete(h:FMap w r l)(g:P.underlying T=D (.map K E))(d:P.underlying K=D .string)(n:List UInt8)(ty:TypeId):
  ∃w',(Q4 #[T,K] ty #[.map (some r),sv n]).run P w=.ok (.tuple #[]) w'/\FMap w' r (aV n l)/\MT w w' r:=by
 have i:=h.apart;obtain⟨es,c,hb,hs,he⟩:=h;have f:∀e,(Qa e 10000 K (sv n)).run P w=.ok () w:=λe=>Pk d (show IsKey .string (sv n)from trivial) e 9999;rcases qD hs he i n with⟨h1,h2,h3⟩|⟨j,e,p,h1,h2,h3,h4,h5,k⟩
 ·have hm:MT w (setBlock w r (.map es c)) r:=lT hb;refine⟨_,?_,?_,hm⟩
  ·unfold Q4;simp[Po,run_underlying g,Ph hb,f,Pi d h1,Pj _ hb,setBlock,P0]
  refine⟨_,_,(heap_set hb).1,hs,?_⟩;rw[qy h3];exact he.keep λ_ _ hc=>hm.cell hc
 ·have hd:=(oT i h4 h5).2.2;have hm:MT w (setBlock w r (.map (es.eraseIdxIfInBounds j) c)) r:=lT hb;refine⟨_,?_,?_,hm⟩
  ·unfold Q4;simp[Po,run_underlying g,Ph hb,f,Pi d h1,Pj _ hb,setBlock,P0]
  ·refine⟨_,_,(heap_set hb).1,stamped_erase hs _,?_⟩;have d:j<es.size:=(Pl.1 h2).1;rw[hd,show(es.eraseIdxIfInBounds j).toList=es.toList.eraseIdx j from by simp[Array.eraseIdxIfInBounds,d]];exact E2.erase j (he.keep λ_ _ hc=>hm.cell hc)
/-! Going over a map -/
abbrev Ze:=MapEntry×Fil
theorem BX:∀ {es:List MapEntry} {l:List Fil},E2 w es l->∃Z:List Ze,es=Z.map (·.1)/\l=Z.map (·.2)/\∀z∈Z,z.1.key=sv z.2.1/\Bs w z.1.val z.2.2
 |[],[],_=>⟨[],rfl,rfl,by simp⟩
 | e::_,p::_,h=>by
  obtain⟨Z,h1,h2,h3⟩:=BX h.2.2;refine⟨(e,p)::Z,by rw[P5,<-h1],by rw[P5,<-h2],λz c=>?_⟩;rcases P2.1 c with rfl | c
  ·exact⟨h.1,h.2.1⟩
  exact h3 z c
 |[],_::_,h=>h.elim
 |_::_,[],h=>h.elim
def FIt(w:World)(r i:Nat)(l L:List Fil):Prop:=∃es c H1 seen d,∃Z:List Ze,w.heap[r]?=D (.map es c)/\w.heap[i]?=D (.mapIter (some r) H1 seen d)/\Stamped es c/\(∀x∈es.toList,x.born<H1)/\H1<=d/\H1<=c /\
 es.toList=Z.map (·.1)/\l=Z.map (·.2)/\(∀z∈Z,z.1.key=sv z.2.1/\Bs w z.1.val z.2.2)/\L=(Z.filter λz=>!seen.contains z.1.born).map (·.2)
theorem FIt.ext{i:Nat}{L:List Fil}(h:FIt w r i l L)(c:Ext w w'):FIt w' r i l L:=by
 obtain⟨es,d,H1,seen,f,Z,h1,h2,h3,h4,h5,e,g,j,h8,k⟩:=h;exact⟨es,d,H1,seen,f,Z,(c.block r (Pl.1 h1).1).trans h1,(c.block i (Pl.1 h2).1).trans h2,h3,h4,h5,e,g,j,λz d=>⟨(h8 z d).1,SlR.ext (h8 z d).2 c⟩,k⟩
theorem FMap.range(h:FMap w r l)(f:P.underlying T=D (.map K E)):
  ∃w',(Instr.range T (.map (some r))).run P w=.ok (H (D ⟨w.heap.size,0,I⟩)) w'/\FIt w' r w.heap.size l l/\Ext w w':=by
 have e:=h.lt;obtain⟨es,c,hb,hs,he⟩:=h;obtain⟨Z,h1,h2,h3⟩:=BX he;have d:Ext w (w.alloc (.mapIter (some r) c #[] c)):=xA (xR _) _;refine⟨_,run_range_map w T K E r es c f hb,⟨es,c,c,#[],c,Z,(d.block r e).trans hb,heap_alloc_new w _,hs,hs.1,xN _,xN _,h1,h2,λz e=>⟨(h3 z e).1,SlR.ext (h3 z e).2 d⟩,?_⟩,d⟩;rw[h2,List.filter_eq_self.2 (λz _=>by simp)]
theorem Br{α:Type}[DecidableEq Nat](f:α->Nat)(s:α->Bool):∀(Z:List α),(Z.map f).Nodup->∀z∈Z,s z=true->(Z.filter s).Perm (z::Z.filter λy=>s y && !(f y==f z))
 | y::Z,hn,z,d,hs=>by
  have g:=P8.1 hn;rcases P2.1 d with rfl | d
  ·have:(Z.filter λy=>s y && !(f y==f z))=Z.filter s:=by
    apply Pe;intro y c;have:f y≠f z:=λe=>g.1 (P1.2 ⟨y,c,e⟩);simp[this]
   rw[P4,if_pos hs,P4,if_neg (by simp),this]
  ·have h:=Br f s Z g.2 z d hs;have i:f y≠f z:=λe=>g.1 (P1.2 ⟨z,d,e.symm⟩);by_cases c:s y=true
   ·rw[P4,if_pos c,P4,if_pos (by simp[c,i])];exact(h.cons y).trans (List.Perm.swap _ _ _)
   ·rw[P4,if_neg c,P4,if_neg (by simp[c])];exact h
theorem FIt.next{i:Nat}{L:List Fil}(h:FIt w r i l L)(ty:TypeId):
  (L=[]/\(Qe (H (D ⟨i,0,I⟩)) false ty).run P w=.ok (.tuple #[.bool false]) w) \/
  ∃n b v C w',L.Perm ((n,b)::C)/\(Qe (H (D ⟨i,0,I⟩)) false ty).run P w=.ok (.tuple #[.bool true,sv n,v]) w'/\FIt w' r i l C/\Bs w' v b/\MT w w' i/\r≠i /\
   (Qc (H (D ⟨i,0,I⟩))).run P w'=.ok (.tuple #[sv n,v]) w':=by
 obtain⟨es,c,H1,seen,R,Z,h1,h2,h3,h4,h5,t,f,U,h8,G⟩:=h;have x:r≠i:=by rintro rfl;rw[h1]at h2;cases h2
 rcases run_next_at w ty i r H1 R seen es c h2 h1 h4 h5 with⟨k,j⟩|⟨e,k,s,j,S⟩
 ·refine .inl ⟨?_,j⟩;rw[G,List.map_eq_nil_iff,List.filter_eq_nil_iff];intro z d V;have hm:z.1∈(leftOf es seen).toList:=by
   unfold leftOf;rw[Pn,Pf,f];exact⟨P1.2 ⟨z,d,rfl⟩,by simpa using V⟩
  have:M (leftOf es seen).toList=0:=k;rw[List.length_eq_zero_iff.1 this]at hm;cases hm
 ·right
  have hm:=k;unfold leftOf at hm;rw[Pn,Pf,f]at hm;obtain⟨Hl,N⟩:=hm;obtain⟨z,d,rfl⟩:=P1.1 Hl;have g:MT w (setBlock s i (.mapIter (some r) H1 (seen.push z.1.born) c)) i:=O3 h2 j _;have J:(setBlock s i (.mapIter (some r) H1 (seen.push z.1.born) c)).heap[i]?=D (.mapIter (some r) H1 (seen.push z.1.born) c):=by
   rcases j with rfl | rfl
   ·exact(heap_set h2).1
   exact(heap_set (w:=w.drew) h2).1
  have hb:(setBlock s i (.mapIter (some r) H1 (seen.push z.1.born) c)).heap[r]?=D (.map es c):=(g.block r x).trans h1;have O:z.1∈es.toList:=by rw[f];exact P1.2 ⟨z,d,rfl⟩
  have W:=Br (λz:Ze=>z.1.born) (λz=>!seen.contains z.1.born) Z (by have:=h3.2.1;rw[f,List.map_map]at this;exact this) z d (by simpa using N);refine⟨z.2.1,z.2.2,z.1.val,(Z.filter λy=>!(seen.push z.1.born).contains y.1.born).map (·.2),_,?_,?_,⟨es,c,H1,seen.push z.1.born,c,Z,hb,J,h3,h4,t,t,f,U,λy q=>⟨(h8 y q).1,g.bs (h8 y q).2⟩,rfl⟩,g.bs (h8 z d).2,g,x,?_⟩
  ·rw[G];have:=W.map (·.2);rw[P5]at this;refine this.trans ?_;rw[show(Z.filter λy=>!seen.contains y.1.born && !(y.1.born==z.1.born))=Z.filter λy=>!(seen.push z.1.born).contains y.1.born from by
    apply Pe;intro y q;rw[Bool.eq_iff_iff];simp]
  ·rw[S,(h8 z d).1]
  ·rw[run_entry_at _ i r H1 seen es c z.1 J hb O h3.2.1,(h8 z d).1]
/-! At the operation -/
section
variable {w:World} {ops:Array Oper} {rest:List Oper} {o:Oper} {a:Act} {Q:Exit->Act->World->Prop}
theorem nJ(hg:o.guard=none)(m x:Operand)(ok:Bool)(H3:o.op=Pr T m x ok)(j:P.underlying T=D (.map K E))(i:P.underlying K=D .string)(k:(zeroValue E).run P w=.ok (G none 0 0) w)(r:Nat)(l:List Fil)(hm:a.eval m=.map (some r))(g:FMap w r l)(n:List UInt8)(hx:a.eval x=sv n)(h:∀A c,Bs w (G A ((ak n l).getD []).length c) ((ak n l).getD [])->wpList P ops Q rest (a.put o.dst (if ok then .tuple #[G A ((ak n l).getD []).length c,J (ak n l).isSome]else G A ((ak n l).getD []).length c)) w):
  wpList P ops Q (o::rest) a w:=by
 refine wpList_plain hg λq f=>?_;obtain⟨v,e,h1,h2⟩:=g.lookup j i n k ok;have d:Bs w v ((ak n l).getD []):=by
  cases hf:ak n l with
  |none=>rw[h1 hf];exact SlR.nil w 1
  |some b=>exact h2 b hf
 obtain⟨A,c,rfl,_,_⟩:=xO d;unfold Py;simp[execOp,H3,hm,hx,e,P0];exact f _ _ (by simpa using h A c d)
theorem sX(hg:o.guard=none)(m x v:Operand)(H3:o.op=Pq T m x v)(g:P.underlying T=D (.map K E))(f:P.underlying K=D .string)(r:Nat)(l:List Fil)(hm:a.eval m=.map (some r))(e:FMap w r l)(n:List UInt8)(hx:a.eval x=sv n)(u:Value)(b:List UInt8)(i:a.eval v=u)(hb:Bs w u b)(h:∀w',FMap w' r (aX n b l)->MT w w' r->wpList P ops Q rest (a.put o.dst undef) w'):wpList P ops Q (o::rest) a w:=by
 refine wpList_plain hg λc d=>?_;obtain⟨w',c,h1,h2⟩:=e.update g f n hb;unfold Py;simp[execOp,H3,hm,hx,i,c,P0];exact d _ _ (h w' h1 h2)
theorem sW(hg:o.guard=none)(m x:Operand)(H3:o.op=Op.call { callee:=Callee.builtin Q5,args:=#[m,x],argTypes:=#[T,K] })(g:P.underlying T=D (.map K E))(f:P.underlying K=D .string)(r:Nat)(l:List Fil)(hm:a.eval m=.map (some r))(e:FMap w r l)(n:List UInt8)(hx:a.eval x=sv n)(h:∀w',FMap w' r (aV n l)->MT w w' r->wpList P ops Q rest (a.put o.dst (.tuple #[])) w'):wpList P ops Q (o::rest) a w:=by
 refine wpList_plain hg λc d=>?_;obtain⟨w',c,h1,h2⟩:=e.delete g f n o.type;unfold Py;simp[execOp,H3,resolve,invoke,builtin,hm,hx,c,P0];exact d _ _ (h w' h1 h2)
theorem CM(hg:o.guard=none)(m:Operand)(H3:o.op=Ps T m)(f:P.underlying T=D (.map K E))(r:Nat)(l:List Fil)(hm:a.eval m=.map (some r))(e:FMap w r l)(h:∀w',FIt w' r w.heap.size l l->Ext w w'->wpList P ops Q rest (a.put o.dst (H (D ⟨w.heap.size,0,I⟩))) w'):wpList P ops Q (o::rest) a w:=by
 refine wpList_plain hg λc d=>?_;obtain⟨w',c,h1,h2⟩:=e.range f;unfold Py;simp[execOp,H3,hm,c,P0];exact d _ _ (h w' h1 h2)
theorem C6(hg:o.guard=none)(h:Operand)(H3:o.op=Pu h false)(r i:Nat)(l L:List Fil)(g:a.eval h=H (D ⟨i,0,I⟩))(hI:FIt w r i l L)(j:L=[]->wpList P ops Q rest (a.put o.dst (.tuple #[.bool false])) w)(k:∀n b A c d w',L.Perm ((n,b)::d)->FIt w' r i l d->Bs w' (G A b.length c) b->MT w w' i->r≠i->(Qc (H (D ⟨i,0,I⟩))).run P w'=.ok (.tuple #[sv n,G A b.length c]) w' ->
    wpList P ops Q rest (a.put o.dst (.tuple #[.bool true,sv n,G A b.length c])) w'):wpList P ops Q (o::rest) a w:=by
 refine wpList_plain hg λx f=>?_;unfold Py;rcases hI.next (P:=P) o.type with⟨q,e⟩|⟨n,b,v,d,w',h1,e,h3,h4,h5,s,t⟩
 ·simp[execOp,H3,g,e,P0];exact f _ _ (j q)
 ·obtain⟨A,c,rfl,_,_⟩:=xO h4;simp[execOp,H3,g,e,P0];exact f _ _ (k n b A c d w' h1 h3 h4 h5 s t)
end
end
open Go.RowKit Go.Mv
abbrev ltB(a b:List UInt8):Bool:=Pp a b
theorem iy:∀(a b:List UInt8),ltB a b=true↔a<b
 |[],[]=>by simp[ltB,Pp]
 |_::_,[]=>by simp[ltB,Pp]
 |[],_::_=>by simp[ltB,Pp]
 | x::a,y::b=>by
  have c:=iy a b;unfold ltB at c⊢;rw[Pp,List.cons_lt_cons_iff,Q7,Q6,c];simp
theorem qO(a:List UInt8):ltB a a=false:=by
 rw[Q8];intro h;exact List.lt_irrefl a ((iy a a).1 h)
theorem qY{c:List UInt8}(h:ltB a b=true)(k:ltB b c=true):ltB a c=true:=(iy a c).2 (List.lt_trans ((iy a b).1 h) ((iy b c).1 k))
theorem sj(h:ltB a b=true):a≠b:=by rintro rfl;rw[qO]at h;cases h
theorem Bz(h:ltB a b=false)(hn:a≠b):ltB b a=true:=by
 rw[iy];rw[Q8,Ne,iy]at h;rcases Pc.1 (List.not_lt.1 h)with h | h
 ·exact h
 ·exact absurd h.symm hn
def Srt(l:List Fil):Prop:=l.Pairwise λp q=>ltB p.1 q.1=true
theorem Srt.apart(h:Srt l):Apart l:=by
 unfold Apart Pd;rw[P7];exact Pz (λh=>sj h) h
theorem ib:∀ {l:List Fil},ak n l=D b->(n,b)∈l
 |[],h=>by cases h
 | p::l,h=>by
  rw[ak]at h;split at h
  ·rename_i e;cases h;subst e;exact P6
  ·exact P3 _ (ib h)
theorem lu:∀ {l:List Fil},Apart l->(n,b)∈l->ak n l=D b
 | p::l,ha,h=>by
  rw[ak];rcases P2.1 h with rfl | h
  ·rw[if_pos rfl]
  ·rw[if_neg (mW ha h),lu (mv ha) h]
theorem getF_isNone:ak n l=none↔∀p∈l,p.1≠n:=by
 constructor
 ·intro h p c e;induction l with
  |nil=>cases c
  |cons q l ih=>
   rw[ak]at h;split at h
   ·cases h
   rename_i d;rcases P2.1 c with rfl | c
   ·exact d e
   exact ih h c
 ·exact ly
theorem Of{d:List Fil}(h:Srt l)(f:Srt d)(hg:∀n,ak n l=ak n d):l=d:=by
 have hm:∀p,p∈l↔p∈d:=λp=>⟨λc=>ib (by rw[<-hg];exact lu h.apart c),λc=>ib (by rw[hg];exact lu f.apart c)⟩;have g:∀ {l:List Fil},Srt l->l.Nodup:=λh=>Pz (fun {a b} h e=>sj h (congrArg Prod.fst e)) h;have c:l.Perm d:=(Pb (g h) (g f)).2 hm;refine List.Perm.eq_of_pairwise (le:=λp q:Fil=>ltB p.1 q.1=true) (λa b _ _ h1 h2=>?_) h f c;have:=qY h1 h2;rw[qO]at this;cases this
/-! Striking out, laying in -/
theorem eX(n:List UInt8):∀l:List Fil,(aV n l).Sublist l
 |[]=>List.Sublist.refl _
 | p::l=>by
  rw[aV];split
  ·exact List.sublist_cons_self _ _
  ·exact(eX n l).cons_cons _
theorem m8(e:Apart l)(n x:List UInt8):ak x (aV n l)=if x=n then none else ak x l:=by
 induction l with
 |nil=>simp[aV,ak]
 |cons p l d=>
  have d:=d (mv e);rw[aV];split
  ·rename_i c;subst c;split
   ·rename_i hx;subst hx;exact ly λq f=>Q3 (mW e f)
   rename_i hx;rw[ak,if_neg (Q3 hx)]
  ·rename_i c;rw[ak,ak,d];split
   ·rename_i hx;subst hx;rw[if_neg c]
   ·rfl
theorem oD(n b x:List UInt8):∀l:List Fil,ak x (aX n b l)=if x=n then some b else ak x l
 | []=>by
  rw[aX,ak,ak];by_cases h:x=n
  ·rw[if_pos h,if_pos h.symm]
  rw[if_neg h,if_neg (Q3 h)];rfl
 | p::l=>by
  have d:=oD n b x l;rw[aX];split
  ·rename_i c;rw[ak,ak];by_cases h:x=n
   ·rw[if_pos h,if_pos h.symm]
   rw[if_neg h,if_neg (Q3 h),if_neg (by rw[c];exact Q3 h)]
  ·rename_i c;rw[ak,ak,d];by_cases h:x=n
   ·subst h;rw[if_pos rfl,if_pos rfl,if_neg c]
   ·rw[if_neg h,if_neg h]
theorem zC(n b:List UInt8):∀l:List Fil,∀q∈aX n b l,q.1=n\/q∈l
 |[],q,c=>by rw[aX,List.mem_singleton]at c;subst c;exact .inl rfl
 | p::l,q,c=>by
  rw[aX]at c;split at c
  ·rcases P2.1 c with rfl | c
   ·exact .inl rfl
   exact .inr (P3 _ c)
  ·rcases P2.1 c with rfl | c
   ·exact .inr P6
   ·rcases zC n b l q c with h | h
    ·exact .inl h
    ·exact .inr (P3 _ h)
theorem yy{p:Fil}(h:Apart l)(hn:∀q∈l,p.1≠q.1):Apart (p::l):=by
 unfold Apart;rw[P5,P8];refine⟨λhm=>?_,h⟩;obtain⟨q,c,e⟩:=P1.1 hm;exact hn q c e.symm
theorem Apart.upd:∀ {l:List Fil},Apart l->Apart (aX n b l)
 |[],_=>by simp[aX,Apart]
 | p::l,ha=>by
  rw[aX];split
  ·rename_i c;exact yy (mv ha) λq d=>by rw[<-c];exact mW ha d
  ·rename_i c;refine yy (Apart.upd (mv ha)) λq d=>?_;rcases zC n b l q d with h | h
   ·rw[h];exact c
   ·exact mW ha h
theorem Apart.del(h:Apart l):Apart (aV n l):=((eX n l).map _).nodup h
theorem Srt.del(h:Srt l):Srt (aV n l):=Q0 (eX n l) h
def dn(p:Fil):List Fil->List Fil
 |[]=>[p]
 |q::l=>if ltB q.1 p.1 then q::dn p l else p::q::l
theorem sd(p:Fil):∀(l:List Fil) (q:Fil),q∈dn p l↔q=p\/q∈l
 |[],q=>by simp[dn]
 | r::l,q=>by
  rw[dn];split
  ·rw[P2,sd p l q,P2];exact⟨λh=>h.elim (λh=>.inr (.inl h)) (λh=>h.elim .inl λh=>.inr (.inr h)),λh=>h.elim (λh=>.inr (.inl h)) λh=>h.elim .inl λh=>.inr (.inr h)⟩
  ·rw[P2,P2]
theorem Srt.ins:∀ {l:List Fil},Srt l->(∀q∈l,q.1≠p.1)->Srt (dn p l)
 |[],_,_=>by simp[dn,Srt]
 | q::l,h,hn=>by
  have hc:=Pa.1 h;rw[dn];split
  ·rename_i d;refine Pa.2 ⟨λr c=>?_,Srt.ins hc.2 λq f=>hn q (P3 _ f)⟩;rcases(sd p l r).1 c with rfl | c
   ·exact d
   exact hc.1 r c
  ·rename_i d;have e:=Bz (by simpa using d) (hn q P6);refine Pa.2 ⟨λr c=>?_,h⟩;rcases P2.1 c with rfl | c
   ·exact e
   ·exact qY e (hc.1 r c)
theorem AG(p:Fil)(x:List UInt8):∀ {l:List Fil},(∀q∈l,q.1≠p.1)->ak x (dn p l)=if x=p.1 then some p.2 else ak x l
 | [],_=>by
  rw[dn,ak,ak];by_cases h:x=p.1
  ·rw[if_pos h,if_pos h.symm]
  rw[if_neg h,if_neg (Q3 h)];rfl
 | q::l,hn=>by
  have d:=AG p x (l:=l) λq c=>hn q (P3 _ c);rw[dn];split
  ·rw[ak,ak,d];by_cases h:x=p.1
   ·subst h;rw[if_pos rfl,if_neg (hn q P6),if_pos rfl]
   rw[if_neg h,if_neg h]
  ·rw[ak];by_cases h:x=p.1
   ·rw[if_pos h,if_pos h.symm]
   ·rw[if_neg h,if_neg (Q3 h)]
def withS(l:List Fil)(p:Fil):List Fil:=dn p (aV p.1 l)
theorem BW(c:Apart l):∀q∈aV n l,q.1≠n:=getF_isNone.1 (by rw[m8 c,if_pos rfl])
theorem Srt.withS(h:Srt l)(p:Fil):Srt (withS l p):=h.del.ins (BW h.apart)
theorem zK(h:Srt l)(p:Fil)(x:List UInt8):ak x (withS l p)=if x=p.1 then some p.2 else ak x l:=by
 unfold Go.Proofs.YteggfecbjgbndaaGreatDoor.withS;rw[AG p x (BW h.apart),m8 h.apart];split<;>rfl
/-! Operations -/
structure Oq where
 k:Int
 n:List UInt8
 t:List UInt8
 b:List UInt8
def dE(l:List Fil)(o:Oq):List Fil:=
 if o.k=1 then withS l (o.n,[])else
 match ak o.n l with
 |none=>l
 |some b=>if o.k=2 then withS l (o.n,b++o.b)else if o.k=3/\o.t≠o.n then withS (aV o.n l) (o.t,b)else if o.k=4 then aV o.n l else l
def bW(m:List Fil)(o:Oq):List Fil:=
 if o.k=1 then aX o.n [] m else
 if o.k=2 then(match ak o.n m with | none=>m | some b=>aX o.n (b++o.b) m)else
 if o.k=3 then(match ak o.n m with | none=>m | some b=>aX o.t b (aV o.n m))else
 if o.k=4 then aV o.n m else m
structure Tells (l m:List Fil):Prop where
 s:Srt l
 a:Apart m
 g:∀ x,ak x l=ak x m
theorem Tells.with_(h:Tells l m)(n b:List UInt8):Tells (withS l (n,b)) (aX n b m):=⟨h.s.withS _,h.a.upd,λx=>by rw[zK h.s,oD,h.g]⟩
theorem Tells.del(h:Tells l m)(n:List UInt8):Tells (aV n l) (aV n m):=⟨h.s.del,h.a.del,λx=>by rw[m8 h.s.apart,m8 h.a,h.g]⟩
theorem Tells.done(h:Tells l m)(o:Oq):Tells (dE l o) (bW m o):=by
 unfold dE bW;by_cases h1:o.k=1
 ·rw[if_pos h1,if_pos h1];exact h.with_ _ _
 ·rw[if_neg h1,if_neg h1];cases hg:ak o.n m with
  |none=>
   rw[h.g,hg];dsimp only;split
   ·exact h
   split
   ·exact h
   split
   ·rw[qy (getF_isNone.1 hg)];exact h
   exact h
  |some b=>
   rw[h.g,hg];dsimp only;split
   ·exact h.with_ _ _
   ·by_cases h3:o.k=3
    ·rw[if_pos h3];by_cases c:o.t=o.n
     ·rw[if_neg (λh=>h.2 c),if_neg (by omega),c];refine⟨h.s,h.a.del.upd,λx=>?_⟩;rw[oD,m8 h.a,h.g];split
      ·rename_i hx;rw[hx,hg]
      rfl
     rw[if_pos ⟨h3,c⟩];exact(h.del _).with_ _ _
    ·rw[if_neg (λh=>h3 h.1),if_neg h3];split
     ·exact h.del _
     ·exact h
def dq:List Fil->List Fil
 |[]=>[]
 |p::l=>aX p.1 p.2 (dq l)
def ci(l:List Fil)(p:Fil):List Fil:=if(ak p.1 l).isNone then withS l p else l
def mb(fs:List Fil)(q:List Oq):List Fil:=q.foldl dE (fs.foldl ci [])
def bD(fs:List Fil)(q:List Oq):List Fil:=q.foldl bW (dq fs)
theorem yt(x:List UInt8):∀l:List Fil,ak x (dq l)=ak x l
 |[]=>rfl
 | p::l=>by
  rw[dq,oD,yt x l,ak];by_cases h:x=p.1
  ·rw[if_pos h,if_pos h.symm]
  ·rw[if_neg h,if_neg (Q3 h)]
theorem tY:∀l:List Fil,Apart (dq l)
 |[]=>List.nodup_nil
 |_::l=>(tY l).upd
theorem MI(h:Srt l)(p:Fil):Srt (ci l p)/\∀x,ak x (ci l p)=(ak x l).or (if p.1=x then some p.2 else none):=by
 unfold ci;by_cases hn:ak p.1 l=none
 ·rw[if_pos (by rw[hn];rfl)];refine⟨h.withS p,λx=>?_⟩;rw[zK h];by_cases hx:x=p.1
  ·subst hx;rw[if_pos rfl,hn,if_pos rfl];rfl
  rw[if_neg hx,if_neg (Q3 hx),Option.or_none]
 ·obtain⟨b,hb⟩:=Option.ne_none_iff_exists'.1 hn;rw[if_neg (by rw[hb];simp)];refine⟨h,λx=>?_⟩;by_cases hx:p.1=x
  ·subst hx;rw[hb];rfl
  ·rw[if_neg hx,Option.or_none]
theorem zo:∀(fs l:List Fil),Srt l->Srt (fs.foldl ci l)/\∀x,ak x (fs.foldl ci l)=(ak x l).or (ak x fs)
 |[],l,h=>⟨h,λx=>by simp[ak]⟩
 | p::fs,l,h=>by
  obtain⟨h1,h2⟩:=MI h p;obtain⟨h3,h4⟩:=zo fs _ h1;refine⟨h3,λx=>?_⟩;rw[Pg,h4,h2,Option.or_assoc,ak];congr 1
  split<;>simp
theorem zr:∀(q:List Oq) {l m:List Fil},Tells l m->Tells (q.foldl dE l) (q.foldl bW m)
 |[],_,_,h=>h
 |o::q,_,_,h=>zr q (h.done o)
theorem rk(fs:List Fil)(q:List Oq):Tells (mb fs q) (bD fs q):=by
 obtain⟨h1,h2⟩:=zo fs [] Q1;exact zr q ⟨h1,tY fs,λx=>by rw[h2,yt];rfl⟩
def bP(m:List Fil):List Fil:=((m.map (·.1)).mergeSort leB).map λn=>(n,(ak n m).getD [])
theorem PI:∀a b c:List UInt8,leB a b=true->leB b c=true->leB a c=true:=λa b c h1 h2=>by simp only[leB,decide_eq_true_eq]at *;exact List.le_trans h1 h2
theorem PH:∀a b:List UInt8,(leB a b||leB b a)=true:=λa b=>by simp only[leB,Q7,decide_eq_true_eq];exact List.le_total a b
theorem La(l:List (List UInt8))(hn:l.Nodup):(l.mergeSort leB).Pairwise λa b=>ltB a b=true:=by
 have h1:=List.pairwise_mergeSort PI PH l;have h2:(l.mergeSort leB).Nodup:=(P9 l leB).nodup_iff.2 hn;refine Q2 (λa b h1 h2=>?_) h1 h2;simp only[leB,decide_eq_true_eq]at h1;rw[iy];rcases Pc.1 h1 with h | h
 ·exact h
 ·exact absurd h h2
theorem Io(d:Apart m):Tells (bP m) m:=by
 have hs:=La _ d;have c:Srt (bP m):=by
  unfold Srt bP;rw[P7];exact hs
 refine⟨c,d,λx=>?_⟩;cases hg:ak x m with
 |none=>
  refine ly λp f e=>?_;obtain⟨n,hn,rfl⟩:=P1.1 f;have d:=(P9 _ leB).mem_iff.1 hn;obtain⟨q,g,f⟩:=P1.1 d;exact getF_isNone.1 hg q g (f.trans e)
 |some b=>
  refine lu c.apart (P1.2 ⟨x,(P9 _ leB).mem_iff.2 (P1.2 ⟨_,ib hg,rfl⟩),by rw[hg];rfl⟩)
theorem Bq(fs:List Fil)(q:List Oq):bP (bD fs q)=mb fs q:=by
 have h1:=rk fs q;have h2:=Io h1.a;exact Of h2.s h1.s λx=>by rw[h2.g,h1.g]
/-! How many bytes -/
def tot(l:List Fil):Nat:=(l.map λp=>M p.2).sum
theorem fy(p:Fil)(l:List Fil):tot (p::l)=M p.2+tot l:=by simp[tot]
theorem zu(l c:List Fil):tot (l++c)=tot l+tot c:=by simp[tot]
theorem Bb{c:List Fil}(h:l.Perm c):tot l=tot c:=by unfold tot;exact(h.map _).sum_nat
theorem nk(n b:List UInt8):∀l:List Fil,tot (aX n b l)+M ((ak n l).getD [])=tot l+M b
 |[]=>by simp[aX,tot,ak]
 | p::l=>by
  have c:=nk n b l;rw[aX,ak];split
  ·rw[fy,fy];simp;omega
  ·rw[fy,fy];omega
theorem oV(n:List UInt8):∀l:List Fil,tot (aV n l)+M ((ak n l).getD [])=tot l
 |[]=>by simp[aV,tot,ak]
 | p::l=>by
  have c:=oV n l;rw[aV,ak];split
  ·rw[fy];simp;omega
  ·rw[fy,fy];omega
theorem FV(n:List UInt8)(l:List Fil):M ((ak n l).getD [])<=tot l:=by have:=oV n l;omega
theorem tc(m:List Fil)(o:Oq):tot (bW m o)<=tot m+M o.b:=by
 unfold bW;split
 ·have:=nk o.n [] m;simp at this;omega
 ·split
  ·split
   ·omega
   rename_i b hb;have:=nk o.n (b++o.b) m;rw[hb]at this;simp at this;omega
  ·split
   ·split
    ·omega
    rename_i b hb;have h1:=nk o.t b (aV o.n m);have h2:=oV o.n m;rw[hb]at h2;simp at h2;omega
   ·split
    ·have:=oV o.n m;omega
    ·omega
def aL(q:List Oq):Nat:=(q.map λo=>M o.b).sum
theorem eH(o:Oq)(q:List Oq):aL (o::q)=M o.b+aL q:=by simp[aL]
theorem mG(q q':List Oq):aL (q++q')=aL q+aL q':=by simp[aL]
theorem zA:∀(q:List Oq) (m:List Fil),tot (q.foldl bW m)<=tot m+aL q
 |[],m=>by simp[aL]
 | o::q,m=>by
  have h1:=tc m o;have h2:=zA q (bW m o);rw[Pg,eH];omega
theorem rp:∀l:List Fil,tot (dq l)<=tot l
 |[]=>xN _
 | p::l=>by
  have h1:=rp l;have h2:=nk p.1 p.2 (dq l);rw[dq,fy];omega
theorem mT(fs:List Fil)(q:List Oq):tot (bD fs q)<=tot fs+aL q:=by
 have h1:=zA q (dq fs);have h2:=rp fs;unfold bD;omega
theorem Im(h:Tells l m):l.Perm m:=by
 have c:∀ {l:List Fil},Apart l->l.Nodup:=fun {l} h=>by
  unfold Apart Pd at h;rw[P7]at h;exact Pz (λh e=>h (congrArg Prod.fst e)) h
 refine(Pb (c h.s.apart) (c h.a)).2 λp=>⟨λc=>ib (b:=p.2) (by rw[<-h.g];exact lu h.s.apart c),λc=>ib (b:=p.2) (by rw[h.g];exact lu h.a c)⟩
theorem oW(fs:List Fil)(q:List Oq):tot (mb fs q)=tot (bD fs q):=Bb (Im (rk fs q))
/-! Disks -/
structure Dk where
 fs:List Fil
 q:List Oq
 quota:Int
 fuse:Int
 dead:Bool
def Dk.now(d:Dk):List Fil:=mb d.fs d.q
def bO(o:Oq):Bool:=(decide (o.k=1)||decide (o.k=2)||decide (o.k=3)||decide (o.k=4)) && !decide (o.n=[])&&(!decide (o.k=3) || !decide (o.t=[]))
def dj:List UInt8->List Fil->Bool
 |_,[]=>true
 |last,p::l=>ltB last p.1&&dj p.1 l
def Dk.right(d:Dk):Bool:=dj [] d.fs&&d.q.all bO&&decide (M d.q<=400)&&decide (0<=d.quota)&&decide (0<=d.fuse)&&decide ((tot d.now:Int)<=d.quota)
def Dk.burn(d:Dk):Dk:=if 0<d.fuse then { d with fuse:=d.fuse-1,dead:=decide (d.fuse-1=0) }else d
def Dk.may(d:Dk):Int:=if d.right=false then 2 else if d.dead=true then 40 else 0
def Dk.doS(d:Dk)(o:Oq):Dk×Int:=
 if d.may≠0 then(d,d.may)else
 if bO o=false then(d,2)else
 if ak o.n d.now=none/\o.k≠1 then(d,42)else
 if(o.k=2/\d.quota<(tot d.now:Int)+(M o.b:Int))\/M d.q=400 then(d,41)else({ d with q:=d.q++[o] }.burn,0)
def Dk.syncS(d:Dk):Dk×Int:=if d.may≠0 then(d,d.may)else({ d with fs:=d.now,q:=[] }.burn,0)
def ct(sync:Bool):Dk->List Oq->Dk×Int
 |d,[]=>if sync=true then d.syncS else(d,0)
 |d,o::l=>if(d.doS o).2=0 then ct sync (d.doS o).1 l else d.doS o
theorem ltB_nil:ltB [] n=true↔n≠[]:=by cases n<;>simp[ltB,Pp]
structure Rt (d:Dk):Prop where
 f:dj [] d.fs=true
 q:∀ o∈d.q,bO o=true
 l:d.q.length<=400
 u:0<=d.fuse
 t:(tot d.now:Int)<=d.quota
theorem Lj(d:Dk):d.right=true↔Rt d:=by
 unfold Dk.right;simp only[Q6,decide_eq_true_eq,List.all_eq_true];constructor
 ·rintro⟨⟨⟨⟨⟨h1,h2⟩,h3⟩,h4⟩,h5⟩,c⟩;exact⟨h1,h2,h3,h5,c⟩
 ·rintro⟨h1,h2,h3,h5,c⟩;exact⟨⟨⟨⟨⟨h1,h2⟩,h3⟩,by omega⟩,h5⟩,c⟩
theorem lK(o:Oq):bO o=true↔(o.k=1\/o.k=2\/o.k=3\/o.k=4)/\o.n≠[]/\(o.k=3->o.t≠[]):=by
 unfold bO;simp only[Q6,Q7,decide_eq_true_eq,Bool.not_eq_true',decide_eq_false_iff_not];constructor
 ·rintro⟨⟨h1,h2⟩,h3⟩;exact⟨by omega,h2,λh=>h3.elim (λc=>absurd h c) id⟩
 ·rintro⟨h1,h2,h3⟩;refine⟨⟨by omega,h2⟩,?_⟩;by_cases h:o.k=3
  ·exact .inr (h3 h)
  ·exact .inl h
open Go.RowKit Go.Mv Go.MapKept Go.ChangeMaps
section
variable {P:Program} {T K E:TypeId} {F:Fence} {nF:Nat} {w:World} {ops:Array Oper} {rest:List Oper} {o:Oper} {a:Act} {Q:Exit->Act->World->Prop}
theorem CC(hg:o.guard=none)(m x:Operand)(ok:Bool)(H3:o.op=Pr T m x ok)(j:P.underlying T=D (.map K E))(i:P.underlying K=D .string)(k:(zeroValue E).run P w=.ok (G none 0 0) w)(r:Nat)(l:List Fil)(hm:a.eval m=.map (some r))(g:FMap w r l)(n:List UInt8)(hx:a.eval x=sv n)(h:∀A c,Bs w (G A ((ak n l).getD []).length c) ((ak n l).getD [])->wpListIn F nF P ops Q rest (a.put o.dst (if ok then .tuple #[G A ((ak n l).getD []).length c,J (ak n l).isSome]else G A ((ak n l).getD []).length c)) w):
  wpListIn F nF P ops Q (o::rest) a w:=by
 refine wpListIn_plain hg λq f=>?_;obtain⟨v,e,h1,h2⟩:=g.lookup j i n k ok;have d:Bs w v ((ak n l).getD []):=by
  cases hf:ak n l with
  |none=>rw[h1 hf];exact SlR.nil w 1
  |some b=>exact h2 b hf
 obtain⟨A,c,rfl,_,_⟩:=xO d;unfold Px;refine⟨by simp[Pw,H3],?_⟩;rw[Pv F _ _ (by rw[H3];intro c H8;cases H8)];simp[execOp,H3,hm,hx,e,P0];exact f _ _ (by simpa using h A c d)
theorem CD(hg:o.guard=none)(m x v:Operand)(H3:o.op=Pq T m x v)(i:P.underlying T=D (.map K E))(g:P.underlying K=D .string)(r:Nat)(l:List Fil)(hm:a.eval m=.map (some r))(f:FMap w r l)(n:List UInt8)(hx:a.eval x=sv n)(u:Value)(b:List UInt8)(j:a.eval v=u)(hb:Bs w u b)(h:∀w',FMap w' r (aX n b l)->MT w w' r->wpListIn F nF P ops Q rest (a.put o.dst undef) w'):wpListIn F nF P ops Q (o::rest) a w:=by
 refine wpListIn_plain hg λk e=>?_;obtain⟨w',d,h1,h2⟩:=f.update i g n hb;unfold Px;refine⟨by simp[Pw,H3],?_⟩;rw[Pv F _ _ (by rw[H3];intro c H8;cases H8)];simp[execOp,H3,hm,hx,j,d,P0];exact e _ _ (h w' h1 h2)
theorem CJ(hg:o.guard=none)(m:Operand)(H3:o.op=Ps T m)(g:P.underlying T=D (.map K E))(r:Nat)(l:List Fil)(hm:a.eval m=.map (some r))(f:FMap w r l)(h:∀w',FIt w' r w.heap.size l l->Ext w w'->wpListIn F nF P ops Q rest (a.put o.dst (H (D ⟨w.heap.size,0,I⟩))) w'):wpListIn F nF P ops Q (o::rest) a w:=by
 refine wpListIn_plain hg λi e=>?_;obtain⟨w',d,h1,h2⟩:=f.range g;unfold Px;refine⟨by simp[Pw,H3],?_⟩;rw[Pv F _ _ (by rw[H3];intro c H8;cases H8)];simp[execOp,H3,hm,d,P0];exact e _ _ (h w' h1 h2)
theorem CP(hg:o.guard=none)(h:Operand)(H3:o.op=Pu h false)(r i:Nat)(l L:List Fil)(g:a.eval h=H (D ⟨i,0,I⟩))(hI:FIt w r i l L)(j:L=[]->wpListIn F nF P ops Q rest (a.put o.dst (.tuple #[.bool false])) w)(k:∀n b A c d w',L.Perm ((n,b)::d)->FIt w' r i l d->Bs w' (G A b.length c) b->MT w w' i->r≠i->(Qc (H (D ⟨i,0,I⟩))).run P w'=.ok (.tuple #[sv n,G A b.length c]) w' ->
    wpListIn F nF P ops Q rest (a.put o.dst (.tuple #[.bool true,sv n,G A b.length c])) w'):wpListIn F nF P ops Q (o::rest) a w:=by
 refine wpListIn_plain hg λx f=>?_;unfold Px;refine⟨by simp[Pw,H3],?_⟩;rw[Pv F _ _ (by rw[H3];intro c H8;cases H8)];rcases hI.next (P:=P) o.type with⟨q,e⟩|⟨n,b,v,d,w',h1,e,h3,h4,h5,s,t⟩
 ·simp[execOp,H3,g,e,P0];exact f _ _ (j q)
 ·obtain⟨A,c,rfl,_,_⟩:=xO h4;simp[execOp,H3,g,e,P0];exact f _ _ (k n b A c d w' h1 h3 h4 h5 s t)
end
/-! A map while a range over a function goes on -/
theorem FMap.keep2(h:FMap A r l)(e:∀es c,A.heap[r]?=D (.map es c)->B.heap[r]?=D (.map es c))(d:∀p x,A.cell? p=D x->B.cell? p=D x):FMap B r l:=by
 obtain⟨es,c,hb,hs,he⟩:=h;exact⟨es,c,e _ _ hb,hs,he.keep d⟩
theorem FMap.moves{n:Nat}(h:FMap A r l)(hm:Moves (am (λ_ _=>False) n) A B)(d:r<n):FMap B r l:=by
 refine h.keep2 (λes c hb=>hm.same _ _ hb ?_) (λp x hc=>hm.cell hc λo d d=>?_)
 ·rintro(h | ⟨h,_⟩)
  ·exact h
  omega
 ·rintro(h | ⟨_,h⟩)
  ·exact h
  ·rw[d]at h;cases h
theorem Bs.moves{n:Nat}(h:Bs A v b)(hm:Moves (am (λ_ _=>False) n) A B):Bs B v b:=by
 refine SlR.keep h λp x hc=>hm.cell hc λo c c=>?_;rintro(h | ⟨_,h⟩)
 ·exact h
 ·rw[c]at h;cases h
theorem Kept.mt{K:Nat->Obj->Prop}{C:World}(h:Kept K A B)(hm:MT B C r)(g:∀o,A.heap[r]?=D o->¬K r o):Kept K A C:=
 ⟨Nat.le_trans h.size (Nat.le_of_eq hm.size.symm),λk o c d=>by
   have f:=h.same k o c d;refine(hm.block k (λe=>?_)).trans f;subst e;exact g o c d⟩
open Go.RowKit Go.Mv
def dP(n:List UInt8):Oq:=⟨1,n,[],[]⟩
def d8(n b:List UInt8):Oq:=⟨2,n,[],b⟩
def cE(n:List UInt8):Oq:=⟨4,n,[],[]⟩
def bG(l:List Fil)(c:List (List UInt8)):List (List UInt8):=(l.map (·.1)).filter λn=>!decide (n∈c)
def eQ(d:Dk)(c:List (List UInt8)):Dk×Int:=ct false d ((bG d.now c).map cE)
def putS(d:Dk)(n b:List UInt8):Dk×Int:=ct true d [dP n,d8 n b]
def dM(n t:List UInt8):Oq:=⟨3,n,t,[]⟩
def bq:List UInt8:=[77,46,110,101,119]
def dm:List UInt8:=[77]
def l7(d:Dk)(b:List UInt8)(c:List (List UInt8)):Dk×Int:=
 if(putS d bq b).2≠0 then putS d bq b else
 if(ct true (putS d bq b).1 [dM bq dm]).2≠0 then ct true (putS d bq b).1 [dM bq dm]else
 eQ (ct true (putS d bq b).1 [dM bq dm]).1 c
