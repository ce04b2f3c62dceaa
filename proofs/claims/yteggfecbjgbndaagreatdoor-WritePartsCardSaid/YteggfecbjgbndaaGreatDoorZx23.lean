/- Merged -/
import Derived.Test.YteggfecbjgbndaaGreatDoorZx17
import Derived.Maps.RangeWalk
import Derived.Maps.Own
set_option linter.all false
set_option maxHeartbeats 8000000
set_option maxRecDepth 100000
open List renaming length->M
open Option renaming some->C,none->H
open Go.Value renaming slice->D,pointer->F,int->G
open Go.IntKind renaming i64->I
open Go.MapKept renaming run_getObj_map->P0,run_findKey->P1,run_setObj_map->P2,run_checkKey->P3
open Go.Result renaming andThen->P4
open Array renaming getElem?_eq_some_iff->P5,toList_push->P6,getElem?_toList->P7,getElem?_modify->P8,toList_filter->P9
open List renaming mem_map->Pa,filter_cons->Pb,mem_append->Pc,mem_singleton->Pd,map_cons->Pe,mem_of_getElem?->Pf,take_succ_eq_append_getElem->Pg,nodup_cons->Ph,filter_congr->Pi,mem_filter->Pj,mem_cons->Pk
open Go.Sem renaming run_bind->Pl
open Go.Instr renaming mapUpdate->Pm,lookup->Pn,checkKey->Po,findNow->Pp,entry->Pq,next->Pr
open Go.Builtin renaming delete_->Ps,delete->Pu
open Option renaming map_some->Pv,getD_some->Pw
namespace Go.Proofs.YteggfecbjgbndaaGreatDoor
open Go.RowKit Go.Mv Go.MapKept Go.ChangeMaps
variable {p:Fil} {l:List Fil} {b n:List UInt8} {c i r:Nat} {u:Value} {w w':World}
theorem Cb{a:List UInt8}(h:sv a=sv b):a=b:=by
 unfold sv at h;injection h with h
 injection h with h
 exact Array.toList_inj.2 h
def E2(w:World):List MapEntry->List Fil->Prop
 |[],[]=>True
 |e::es,p::l=>e.key=sv p.1/\Bs w e.val p.2/\E2 w es l
 |_,_=>False
theorem E2.len:∀ {es:List MapEntry} {l:List Fil},E2 w es l->M es=M l
 |[],[],_=>rfl
 |_::_,_::_,h=>by rw[xC,xC,E2.len h.2.2]
 |[],_::_,h=>h.elim
 |_::_,[],h=>h.elim
theorem E2.keep(hk:∀p u,w.cell? p=C u->w'.cell? p=C u):∀ {es:List MapEntry} {l:List Fil},E2 w es l->E2 w' es l
 |[],[],_=>trivial
 |_::_,_::_,h=>⟨h.1,SlR.keep h.2.1 hk,E2.keep hk h.2.2⟩
 |[],_::_,h=>h.elim
 |_::_,[],h=>h.elim
theorem E2.keys:∀ {es:List MapEntry} {l:List Fil},E2 w es l->es.map (·.key)=l.map (λp=>sv p.1)
 |[],[],_=>rfl
 |_::_,_::_,h=>by rw[Pe,Pe,h.1,E2.keys h.2.2]
 |[],_::_,h=>h.elim
 |_::_,[],h=>h.elim
theorem E2.at_:∀ {es:List MapEntry} {l:List Fil},E2 w es l->∀ {j:Nat} {e:MapEntry},es[j]?=C e->∃p,l[j]?=C p/\e.key=sv p.1/\Bs w e.val p.2
 |[],[],_,_,_,he=>by cases he
 |_::_,p::_,h,0,_,he=>by cases he;exact⟨p,rfl,h.1,h.2.1⟩
 | _::_,_::_,h,j+1,e,he=>by
  obtain⟨p,h1,h2⟩:=E2.at_ h.2.2 (j:=j) (e:=e) (by simpa using he);exact⟨p,by simpa using h1,h2⟩
 |[],_::_,h,_,_,_=>h.elim
 |_::_,[],h,_,_,_=>h.elim
theorem E2.push{e:MapEntry}(hk:e.key=sv p.1)(hb:Bs w e.val p.2):∀ {es:List MapEntry} {l:List Fil},E2 w es l->E2 w (es++[e]) (l++[p])
 |[],[],_=>⟨hk,hb,trivial⟩
 |_::_,_::_,h=>⟨h.1,h.2.1,E2.push hk hb h.2.2⟩
 |[],_::_,h=>h.elim
 |_::_,[],h=>h.elim
theorem E2.set{e:MapEntry}(hk:e.key=sv p.1)(hb:Bs w e.val p.2):∀ {es:List MapEntry} {l:List Fil} (j:Nat),E2 w es l->E2 w (es.set j e) (l.set j p)
 |[],[],_,_=>trivial
 |_::_,_::_,0,h=>⟨hk,hb,h.2.2⟩
 |_::_,_::_,j+1,h=>⟨h.1,h.2.1,E2.set hk hb j h.2.2⟩
 |[],_::_,_,h=>h.elim
 |_::_,[],_,h=>h.elim
theorem E2.erase:∀ {es:List MapEntry} {l:List Fil} (j:Nat),E2 w es l->E2 w (es.eraseIdx j) (l.eraseIdx j)
 |[],[],_,_=>trivial
 |_::_,_::_,0,h=>h.2.2
 |_::_,_::_,j+1,h=>⟨h.1,h.2.1,E2.erase j h.2.2⟩
 |[],_::_,_,h=>h.elim
 |_::_,[],_,h=>h.elim
def ak(n:List UInt8):List Fil->Option (List UInt8)
 |[]=>none
 |p::l=>if p.1=n then some p.2 else ak n l
def aX(n b:List UInt8):List Fil->List Fil
 |[]=>[(n,b)]
 |p::l=>if p.1=n then(n,b)::l else p::aX n b l
def aV(n:List UInt8):List Fil->List Fil
 |[]=>[]
 |p::l=>if p.1=n then l else p::aV n l
def Apart(l:List Fil):Prop:=(l.map (·.1)).Nodup
theorem ly:∀ {l:List Fil},(∀p∈l,p.1≠n)->ak n l=none
 |[],_=>rfl
 |p::l,h=>by rw[ak,if_neg (h p (by simp)),ly λq e=>h q (by simp[e])]
theorem zB:∀ {l:List Fil},(∀p∈l,p.1≠n)->aX n b l=l++[(n,b)]
 |[],_=>rfl
 |p::l,h=>by rw[aX,if_neg (h p (by simp)),zB λq e=>h q (by simp[e])];rfl
theorem qy:∀ {l:List Fil},(∀p∈l,p.1≠n)->aV n l=l
 |[],_=>rfl
 |p::l,h=>by rw[aV,if_neg (h p (by simp)),qy λq e=>h q (by simp[e])]
theorem mv{p:Fil}(h:Apart (p::l)):Apart l:=(Ph.1 h).2
theorem mW{p q:Fil}(h:Apart (p::l))(f:q∈l):p.1≠q.1:=by
 intro e;exact(Ph.1 h).1 (Pa.2 ⟨q,f,e.symm⟩)
theorem oT:∀ {l:List Fil} {j:Nat} {p:Fil},Apart l->l[j]?=C p->p.1=n->ak n l=C p.2/\(∀b,aX n b l=l.set j (n,b))/\aV n l=l.eraseIdx j
 |[],_,_,_,h,_=>by cases h
 | q::l,0,p,_,h,he=>by
  cases h;refine⟨by rw[ak,if_pos he],λb=>by rw[aX,if_pos he];rfl,by rw[aV,if_pos he];rfl⟩
 | q::l,j+1,p,ha,h,he=>by
  have hm:p∈l:=Pf (by simpa using h:l[j]?=C p);have e:q.1≠n:=he▸mW ha hm;obtain⟨h1,h2,h3⟩:=oT (mv ha) (by simpa using h:l[j]?=C p) he;refine⟨by rw[ak,if_neg e,h1],λb=>by rw[aX,if_neg e,h2 b];rfl,by rw[aV,if_neg e,h3];rfl⟩
def FMap(w:World)(r:Nat)(l:List Fil):Prop:=∃es H0,w.heap[r]?=C (.map es H0)/\Stamped es H0/\E2 w es.toList l
theorem FMap.lt(h:FMap w r l):r<w.heap.size:=by
 obtain⟨es,c,hb,_⟩:=h;exact(P5.1 hb).1
theorem FMap.apart(h:FMap w r l):Apart l:=by
 obtain⟨es,c,_,hs,he⟩:=h;have h3:=hs.2.2;rw[he.keys]at h3;unfold Apart;unfold List.Nodup at h3⊢;rw[List.pairwise_map]at h3⊢;exact h3.imp λh e=>h (congrArg sv e)
theorem FMap.ext(h:FMap w r l)(e:Ext w w'):FMap w' r l:=by
 have f:=h.lt;obtain⟨es,c,hb,hs,he⟩:=h;exact⟨es,c,(e.block r f).trans hb,hs,he.keep λ_ _ hc=>e.cell hc⟩
theorem FMap.new(w:World):FMap (w.alloc (.map #[] 0)) w.heap.size []:=⟨#[],0,heap_alloc_new w _,stamped_empty 0,trivial⟩
structure MT (w w':World) (r:Nat):Prop where
 os:w'.os=w.os
 tape:w'.tape=w.tape
 output:w'.output=w.output
 size:w'.heap.size=w.heap.size
 block:∀ k,k≠r->w'.heap[k]?=w.heap[k]?
 no:∀ cs t f,w.heap[r]?≠some (.cells cs t f)
theorem MT.blk(h:MT w w' r){b:Nat}{t:TypeId}{cs:Array Value}(hb:Blk w b t cs):Blk w' b t cs:=by
 have:b≠r:=by
  rintro rfl;exact h.no _ _ _ hb
 exact(h.block _ this).trans hb
theorem MT.cell(h:MT w w' r){p:Addr}(hc:w.cell? p=C u):w'.cell? p=C u:=by
 have:p.block≠r:=by
  intro e;unfold World.cell? at hc;rw[e]at hc;split at hc
  ·rename_i h1;exact h.no _ _ _ h1
  cases hc
 unfold World.cell? at hc⊢;rw[h.block _ this];exact hc
theorem MT.bs(h:MT w w' r){v:Value}(hb:Bs w v b):Bs w' v b:=SlR.keep hb λ_ _ hc=>h.cell hc
theorem MT.ext{f:World}(h:MT w w' r)(e:Ext f w)(g:f.heap.size<=r):Ext f w':=
 ⟨h.os.trans e.os,h.tape.trans e.tape,h.output.trans e.output,by rw[h.size];exact e.size,λk hk=>(h.block k (by omega)).trans (e.block k hk)⟩
theorem lT{es f:Array MapEntry}{c':Nat}(h:w.heap[r]?=C (.map es c)):MT w (setBlock w r (.map f c')) r:=
 ⟨rfl,rfl,rfl,by simp[setBlock],λk hk=>(heap_set h).2 k hk,λ_ _ _ e=>by rw[h]at e;cases e⟩
theorem O3{f:World}{m:Option Nat}{a:Nat}{s:Array Nat}(h:w.heap[r]?=C (.mapIter m a s c))(g:f=w\/f=w.drew)(o:Obj):MT w (setBlock f r o) r:=by
 rcases g with rfl | rfl
 ·exact⟨rfl,rfl,rfl,by simp[setBlock],λk hk=>(heap_set h).2 k hk,λ_ _ _ e=>by rw[h]at e;cases e⟩
 ·exact⟨rfl,rfl,rfl,by show(w.heap.setIfInBounds r o).size=w.heap.size;rw[Array.size_setIfInBounds],λk hk=>(heap_set (w:=w.drew) h).2 k hk,λ_ _ _ e=>by rw[h]at e;cases e⟩
section
variable {P:Program} {T K E:TypeId}
theorem Oh{es:List MapEntry}(h:E2 w es l):∀x∈es,IsKey .string x.key:=by
 intro x hx;have:x.key∈es.map (·.key):=Pa.2 ⟨x,hx,rfl⟩;rw[h.keys]at this;obtain⟨p,_,e⟩:=Pa.1 this;rw[<-e];exact trivial
theorem qD{es:Array MapEntry}{H0:Nat}(hs:Stamped es H0)(he:E2 w es.toList l)(f:Apart l)(n:List UInt8):
  (Pp .string (sv n) es.toList 0=C none/\(∀x∈es.toList,x.key≠sv n)/\∀p∈l,p.1≠n) \/
  ∃j e p,Pp .string (sv n) es.toList 0=C (some (j,e.val))/\es[j]?=C e/\e.key=sv n/\l[j]?=C p/\p.1=n/\Bs w e.val p.2:=by
 rcases findNow_spec (d:=.string) (k:=sv n) trivial es.toList 0 (Oh he)with⟨h1,h2⟩|⟨j,e,h1,h2,h3⟩
 ·refine .inl ⟨h1,h2,λp f e=>?_⟩;have:sv p.1∈l.map (λp=>sv p.1):=Pa.2 ⟨p,f,rfl⟩;rw[<-he.keys]at this;obtain⟨x,hx,hk⟩:=Pa.1 this;exact h2 x hx (by rw[hk,e])
 ·obtain⟨p,f,hk,hb⟩:=he.at_ h2;exact .inr ⟨j,e,p,by rw[h1,Nat.zero_add],by simpa using h2,h3,f,Cb (hk.symm.trans h3),hb⟩
theorem FMap.lookup(h:FMap w r l)(g:P.underlying T=C (.map K E))(f:P.underlying K=C .string)(n:List UInt8){z:Value}(s:(zeroValue E).run P w=.ok z w)(ok:Bool):
  ∃v,(Pn T (.map (some r)) (sv n) ok).run P w=.ok (if ok then .tuple #[v,.bool (ak n l).isSome]else v) w/\(ak n l=none->v=z)/\∀b,ak n l=C b->Bs w v b:=by
 have k:=h.apart;obtain⟨es,c,hb,hs,he⟩:=h;have H3:∀e,(Po e 10000 K (sv n)).run P w=.ok () w:=λe=>P3 f (show IsKey .string (sv n)from trivial) e 9999;rcases qD hs he k n with⟨h1,h2,h3⟩|⟨j,e,p,h1,h2,h3,h4,h5,m⟩
 ·refine⟨z,?_,λ_=>rfl,λb hb=>by rw[ly h3]at hb;cases hb⟩;unfold Pn;cases ok<;>simp[Pl,run_underlying g,P0 hb,H3,P1 f h1,s,ly h3,go_sem]
 ·have hg:=(oT k h4 h5).1;refine⟨e.val,?_,λq=>(by rw[hg]at q;cases q),λb hb=>?_⟩
  ·unfold Pn;cases ok<;>simp[Pl,run_underlying g,P0 hb,H3,P1 f h1,hg,go_sem]
  ·rw[hg]at hb;injection hb with hb
   rw[<-hb];exact m
theorem FMap.update(h:FMap w r l)(m:P.underlying T=C (.map K E))(f:P.underlying K=C .string)(n:List UInt8){v:Value}(s:Bs w v b):
  ∃w',(Pm T (.map (some r)) (sv n) v).run P w=.ok () w'/\FMap w' r (aX n b l)/\MT w w' r:=by
 have q:=h.apart;obtain⟨es,c,hb,hs,he⟩:=h;have H3:∀e,(Po e 10000 K (sv n)).run P w=.ok () w:=λe=>P3 f (show IsKey .string (sv n)from trivial) e 9999;rcases qD hs he q n with⟨h1,h2,h3⟩|⟨j,e,p,h1,h2,h3,h4,h5,z⟩
 ·have hm:MT w (setBlock w r (.map (es.push { key:=sv n,val:=v,born:=c }) (c+1))) r:=lT hb;refine⟨_,?_,?_,hm⟩
  ·unfold Pm;simp only[Pl,run_underlying m,P4,P0 hb,H3,P1 f h1,P2 _ hb];rfl
  refine⟨_,_,(heap_set hb).1,stamped_push hs h2,?_⟩;rw[zB h3,P6];exact E2.push rfl (hm.bs s) (he.keep λ_ _ hc=>hm.cell hc)
 ·have y:=(oT q h4 h5).2.1 b;have hm:MT w (setBlock w r (.map (es.modify j λe=>{ e with key:=sv n,val:=v }) c)) r:=lT hb;refine⟨_,?_,?_,hm⟩
  ·unfold Pm;simp only[Pl,run_underlying m,P4,P0 hb,H3,P1 f h1,h2,Pv,Pw,h3,run_keyThatStays (d:=.string) (k:=sv n) trivial,P2 _ hb];rfl
  ·refine⟨_,_,(heap_set hb).1,stamped_modify hs _ _ (λ_ _=>rfl) (λe' _ Hq=>by rw[h2]at Hq;cases Hq;exact h3.symm),?_⟩;rw[y,show(es.modify j λe=>{ e with key:=sv n,val:=v }).toList=es.toList.set j { e with key:=sv n,val:=v }from by
    apply List.ext_getElem?;intro i;rw[P7,P8,List.getElem?_set,P7];split
    ·rename_i g;subst g;obtain⟨x,t⟩:=P5.1 h2;simp[x,t]
    rfl]
   exact E2.set rfl (hm.bs s) j (he.keep λ_ _ hc=>hm.cell hc)
theorem FMap.delete(h:FMap w r l)(g:P.underlying T=C (.map K E))(f:P.underlying K=C .string)(n:List UInt8)(ty:TypeId):
  ∃w',(Ps #[T,K] ty #[.map (some r),sv n]).run P w=.ok (.tuple #[]) w'/\FMap w' r (aV n l)/\MT w w' r:=by
 have k:=h.apart;obtain⟨es,c,hb,hs,he⟩:=h;have H3:∀e,(Po e 10000 K (sv n)).run P w=.ok () w:=λe=>P3 f (show IsKey .string (sv n)from trivial) e 9999;rcases qD hs he k n with⟨h1,h2,h3⟩|⟨j,e,p,h1,h2,h3,h4,h5,m⟩
 ·have hm:MT w (setBlock w r (.map es c)) r:=lT hb;refine⟨_,?_,?_,hm⟩
  ·unfold Ps;simp[Pl,run_underlying g,P0 hb,H3,P1 f h1,P2 _ hb,setBlock,P4]
  refine⟨_,_,(heap_set hb).1,hs,?_⟩;rw[qy h3];exact he.keep λ_ _ hc=>hm.cell hc
 ·have m:=(oT k h4 h5).2.2;have hm:MT w (setBlock w r (.map (es.eraseIdxIfInBounds j) c)) r:=lT hb;refine⟨_,?_,?_,hm⟩
  ·unfold Ps;simp[Pl,run_underlying g,P0 hb,H3,P1 f h1,P2 _ hb,setBlock,P4]
  ·refine⟨_,_,(heap_set hb).1,stamped_erase hs _,?_⟩;have f:j<es.size:=(P5.1 h2).1;rw[m,show(es.eraseIdxIfInBounds j).toList=es.toList.eraseIdx j from by simp[Array.eraseIdxIfInBounds,f]];exact E2.erase j (he.keep λ_ _ hc=>hm.cell hc)
/-! Going over a map -/
abbrev Ze:=MapEntry×Fil
theorem BX:∀ {es:List MapEntry} {l:List Fil},E2 w es l->∃Z:List Ze,es=Z.map (·.1)/\l=Z.map (·.2)/\∀z∈Z,z.1.key=sv z.2.1/\Bs w z.1.val z.2.2
 |[],[],_=>⟨[],rfl,rfl,by simp⟩
 | e::_,p::_,h=>by
  obtain⟨Z,h1,h2,h3⟩:=BX h.2.2;refine⟨(e,p)::Z,by rw[Pe,<-h1],by rw[Pe,<-h2],λz f=>?_⟩;rcases Pk.1 f with rfl | f
  ·exact⟨h.1,h.2.1⟩
  exact h3 z f
 |[],_::_,h=>h.elim
 |_::_,[],h=>h.elim
def FIt(w:World)(r i:Nat)(l L:List Fil):Prop:=∃es H0 e seen f,∃Z:List Ze,w.heap[r]?=C (.map es H0)/\w.heap[i]?=C (.mapIter (some r) e seen f)/\Stamped es H0/\(∀x∈es.toList,x.born<e)/\e<=f/\e<=H0 /\
 es.toList=Z.map (·.1)/\l=Z.map (·.2)/\(∀z∈Z,z.1.key=sv z.2.1/\Bs w z.1.val z.2.2)/\L=(Z.filter λz=>!seen.contains z.1.born).map (·.2)
theorem FIt.ext{L:List Fil}(h:FIt w r i l L)(e:Ext w w'):FIt w' r i l L:=by
 obtain⟨es,H0,f,seen,j,Z,h1,h2,h3,h4,h5,g,k,m,h8,q⟩:=h;exact⟨es,H0,f,seen,j,Z,(e.block r (P5.1 h1).1).trans h1,(e.block i (P5.1 h2).1).trans h2,h3,h4,h5,g,k,m,λz f=>⟨(h8 z f).1,SlR.ext (h8 z f).2 e⟩,q⟩
theorem FMap.range(h:FMap w r l)(g:P.underlying T=C (.map K E)):
  ∃w',(Instr.range T (.map (some r))).run P w=.ok (F (C ⟨w.heap.size,0,H⟩)) w'/\FIt w' r w.heap.size l l/\Ext w w':=by
 have f:=h.lt;obtain⟨es,c,hb,hs,he⟩:=h;obtain⟨Z,h1,h2,h3⟩:=BX he;have e:Ext w (w.alloc (.mapIter (some r) c #[] c)):=xA (xR _) _;refine⟨_,run_range_map w T K E r es c g hb,⟨es,c,c,#[],c,Z,(e.block r f).trans hb,heap_alloc_new w _,hs,hs.1,xN _,xN _,h1,h2,λz f=>⟨(h3 z f).1,SlR.ext (h3 z f).2 e⟩,?_⟩,e⟩;rw[h2,List.filter_eq_self.2 (λz _=>by simp)]
theorem Br{α:Type}[DecidableEq Nat](f:α->Nat)(s:α->Bool):∀(Z:List α),(Z.map f).Nodup->∀z∈Z,s z=true->(Z.filter s).Perm (z::Z.filter λy=>s y && !(f y==f z))
 | y::Z,hn,z,h,hs=>by
  have j:=Ph.1 hn;rcases Pk.1 h with rfl | h
  ·have:(Z.filter λy=>s y && !(f y==f z))=Z.filter s:=by
    apply Pi;intro y g;have:f y≠f z:=λe=>j.1 (Pa.2 ⟨y,g,e⟩);simp[this]
   rw[Pb,if_pos hs,Pb,if_neg (by simp),this]
  ·have k:=Br f s Z j.2 z h hs;have m:f y≠f z:=λe=>j.1 (Pa.2 ⟨z,h,e.symm⟩);by_cases g:s y=true
   ·rw[Pb,if_pos g,Pb,if_pos (by simp[g,m])];exact(k.cons y).trans (List.Perm.swap _ _ _)
   ·rw[Pb,if_neg g,Pb,if_neg (by simp[g])];exact k
theorem FIt.next{L:List Fil}(h:FIt w r i l L)(ty:TypeId):
  (L=[]/\(Pr (F (C ⟨i,0,H⟩)) false ty).run P w=.ok (.tuple #[.bool false]) w) \/
  ∃n b v B w',L.Perm ((n,b)::B)/\(Pr (F (C ⟨i,0,H⟩)) false ty).run P w=.ok (.tuple #[.bool true,sv n,v]) w'/\FIt w' r i l B/\Bs w' v b/\MT w w' i/\r≠i /\
   (Pq (F (C ⟨i,0,H⟩))).run P w'=.ok (.tuple #[sv n,v]) w':=by
 obtain⟨es,H0,f,seen,J,Z,h1,h2,h3,h4,h5,x,j,O,h8,D⟩:=h;have A:r≠i:=by rintro rfl;rw[h1]at h2;cases h2
 rcases run_next_at w ty i r f J seen es H0 h2 h1 h4 h5 with⟨q,m⟩|⟨e,q,t,m,N⟩
 ·refine .inl ⟨?_,m⟩;rw[D,List.map_eq_nil_iff,List.filter_eq_nil_iff];intro z g R;have hm:z.1∈(leftOf es seen).toList:=by
   unfold leftOf;rw[P9,Pj,j];exact⟨Pa.2 ⟨z,g,rfl⟩,by simpa using R⟩
  have:M (leftOf es seen).toList=0:=q;rw[List.length_eq_zero_iff.1 this]at hm;cases hm
 ·right
  have hm:=q;unfold leftOf at hm;rw[P9,Pj,j]at hm;obtain⟨G,HQ⟩:=hm;obtain⟨z,g,rfl⟩:=Pa.1 G;have k:MT w (setBlock t i (.mapIter (some r) f (seen.push z.1.born) H0)) i:=O3 h2 m _;have hi:(setBlock t i (.mapIter (some r) f (seen.push z.1.born) H0)).heap[i]?=C (.mapIter (some r) f (seen.push z.1.born) H0):=by
   rcases m with rfl | rfl
   ·exact(heap_set h2).1
   exact(heap_set (w:=w.drew) h2).1
  have hb:(setBlock t i (.mapIter (some r) f (seen.push z.1.born) H0)).heap[r]?=C (.map es H0):=(k.block r A).trans h1;have I:z.1∈es.toList:=by rw[j];exact Pa.2 ⟨z,g,rfl⟩
  have S:=Br (λz:Ze=>z.1.born) (λz=>!seen.contains z.1.born) Z (by have:=h3.2.1;rw[j,List.map_map]at this;exact this) z g (by simpa using HQ);refine⟨z.2.1,z.2.2,z.1.val,(Z.filter λy=>!(seen.push z.1.born).contains y.1.born).map (·.2),_,?_,?_,⟨es,H0,f,seen.push z.1.born,H0,Z,hb,hi,h3,h4,x,x,j,O,λy s=>⟨(h8 y s).1,k.bs (h8 y s).2⟩,rfl⟩,k.bs (h8 z g).2,k,A,?_⟩
  ·rw[D];have:=S.map (·.2);rw[Pe]at this;refine this.trans ?_;rw[show(Z.filter λy=>!seen.contains y.1.born && !(y.1.born==z.1.born))=Z.filter λy=>!(seen.push z.1.born).contains y.1.born from by
    apply Pi;intro y s;rw[Bool.eq_iff_iff];simp]
  ·rw[N,(h8 z g).1]
  ·rw[run_entry_at _ i r f seen es H0 z.1 hi hb I h3.2.1,(h8 z g).1]
/-! At the operation -/
section
variable {w:World} {ops:Array Oper} {rest:List Oper} {o:Oper} {a:Act} {Q:Exit->Act->World->Prop}
theorem nJ(hg:o.guard=none)(m x:Operand)(ok:Bool)(j:o.op=Op.lookup T m x ok)(s:P.underlying T=C (.map K E))(q:P.underlying K=C .string)(t:(zeroValue E).run P w=.ok (D none 0 0) w)(r:Nat)(l:List Fil)(hm:a.eval m=.map (some r))(k:FMap w r l)(n:List UInt8)(hx:a.eval x=sv n)(h:∀A c,Bs w (D A ((ak n l).getD []).length c) ((ak n l).getD [])->wpList P ops Q rest (a.put o.dst (if ok then .tuple #[D A ((ak n l).getD []).length c,.bool (ak n l).isSome]else D A ((ak n l).getD []).length c)) w):
  wpList P ops Q (o::rest) a w:=by
 refine wpList_plain hg λy g=>?_;obtain⟨v,f,h1,h2⟩:=k.lookup s q n t ok;have e:Bs w v ((ak n l).getD []):=by
  cases hf:ak n l with
  |none=>rw[h1 hf];exact SlR.nil w 1
  |some b=>exact h2 b hf
 obtain⟨A,c,rfl,_,_⟩:=xO e;unfold Oper.wp;simp[execOp,j,hm,hx,f,P4];exact g _ _ (by simpa using h A c e)
theorem sX(hg:o.guard=none)(m x v:Operand)(g:o.op=Op.mapUpdate T m x v)(q:P.underlying T=C (.map K E))(k:P.underlying K=C .string)(r:Nat)(l:List Fil)(hm:a.eval m=.map (some r))(j:FMap w r l)(n:List UInt8)(hx:a.eval x=sv n)(u:Value)(b:List UInt8)(s:a.eval v=u)(hb:Bs w u b)(h:∀w',FMap w' r (aX n b l)->MT w w' r->wpList P ops Q rest (a.put o.dst undef) w'):wpList P ops Q (o::rest) a w:=by
 refine wpList_plain hg λe f=>?_;obtain⟨w',e,h1,h2⟩:=j.update q k n hb;unfold Oper.wp;simp[execOp,g,hm,hx,s,e,P4];exact f _ _ (h w' h1 h2)
theorem sW(hg:o.guard=none)(m x:Operand)(g:o.op=Op.call { callee:=Callee.builtin Pu,args:=#[m,x],argTypes:=#[T,K] })(q:P.underlying T=C (.map K E))(k:P.underlying K=C .string)(r:Nat)(l:List Fil)(hm:a.eval m=.map (some r))(j:FMap w r l)(n:List UInt8)(hx:a.eval x=sv n)(h:∀w',FMap w' r (aV n l)->MT w w' r->wpList P ops Q rest (a.put o.dst (.tuple #[])) w'):wpList P ops Q (o::rest) a w:=by
 refine wpList_plain hg λe f=>?_;obtain⟨w',e,h1,h2⟩:=j.delete q k n o.type;unfold Oper.wp;simp[execOp,g,resolve,invoke,builtin,hm,hx,e,P4];exact f _ _ (h w' h1 h2)
theorem CM(hg:o.guard=none)(m:Operand)(g:o.op=Op.range T m)(k:P.underlying T=C (.map K E))(r:Nat)(l:List Fil)(hm:a.eval m=.map (some r))(j:FMap w r l)(h:∀w',FIt w' r w.heap.size l l->Ext w w'->wpList P ops Q rest (a.put o.dst (F (C ⟨w.heap.size,0,H⟩))) w'):wpList P ops Q (o::rest) a w:=by
 refine wpList_plain hg λe f=>?_;obtain⟨w',e,h1,h2⟩:=j.range k;unfold Oper.wp;simp[execOp,g,hm,e,P4];exact f _ _ (h w' h1 h2)
theorem C6(hg:o.guard=none)(k:Operand)(h:o.op=Op.next k false)(r i:Nat)(l L:List Fil)(j:a.eval k=F (C ⟨i,0,H⟩))(hI:FIt w r i l L)(m:L=[]->wpList P ops Q rest (a.put o.dst (.tuple #[.bool false])) w)(q:∀n b A c e w',L.Perm ((n,b)::e)->FIt w' r i l e->Bs w' (D A b.length c) b->MT w w' i->r≠i->(Pq (F (C ⟨i,0,H⟩))).run P w'=.ok (.tuple #[sv n,D A b.length c]) w' ->
    wpList P ops Q rest (a.put o.dst (.tuple #[.bool true,sv n,D A b.length c])) w'):wpList P ops Q (o::rest) a w:=by
 refine wpList_plain hg λy g=>?_;unfold Oper.wp;rcases hI.next (P:=P) o.type with⟨s,f⟩|⟨n,b,v,e,w',h1,f,h3,h4,h5,t,x⟩
 ·simp[execOp,h,j,f,P4];exact g _ _ (m s)
 ·obtain⟨A,c,rfl,_,_⟩:=xO h4;simp[execOp,h,j,f,P4];exact g _ _ (q n b A c e w' h1 h3 h4 h5 t x)
end
end
open Go.RowKit Go.Mv Go.MapKept Go.ChangeMaps
def SSet(w:World)(r:Nat)(d:TypeDesc)(u:Value)(S:Value->Prop):Prop:=
 ∃es H0,w.heap[r]?=C (.map es H0)/\Stamped es H0/\(∀x∈es.toList,x.val=u/\IsKey d x.key)/\∀k,S k↔∃x∈es.toList,x.key=k
theorem SSet.lt{d:TypeDesc}{S:Value->Prop}(h:SSet w r d u S):r<w.heap.size:=by
 obtain⟨es,c,hb,_⟩:=h;exact(P5.1 hb).1
theorem SSet.ext{d:TypeDesc}{S:Value->Prop}(h:SSet w r d u S)(f:Ext w w'):SSet w' r d u S:=by
 have e:=h.lt;obtain⟨es,c,hb,hs,h1,h2⟩:=h;exact⟨es,c,(f.block r e).trans hb,hs,h1,h2⟩
theorem MT.ext2{A B:World}(h:MT A B r)(e:Ext w A)(f:w.heap.size<=r):Ext w B:=⟨h.os.trans e.os,h.tape.trans e.tape,h.output.trans e.output,Nat.le_trans e.size (Nat.le_of_eq h.size.symm),λk hk=>(h.block k (by omega)).trans (e.block k hk)⟩
theorem SSet.new(w:World)(d:TypeDesc)(u:Value):SSet (w.alloc (.map #[] 0)) w.heap.size d u (λ_=>False):=⟨#[],0,heap_alloc_new w _,stamped_empty 0,by simp,by simp⟩
theorem SSet.congr{d:TypeDesc}{S e:Value->Prop}(h:SSet w r d u S)(f:∀k,e k↔S k):SSet w r d u e:=by
 obtain⟨es,c,hb,hs,h1,h2⟩:=h;exact⟨es,c,hb,hs,h1,λk=>(f k).trans (h2 k)⟩
section
variable {P:Program} {T K E:TypeId} {d:TypeDesc}
theorem SSet.lookup{S:Value->Prop}(h:SSet w r d u S)(q:P.underlying T=C (.map K E))(m:P.underlying K=C d){k:Value}(hk:IsKey d k){z:Value}(y:(zeroValue E).run P w=.ok z w):
  (S k/\(Pn T (.map (some r)) k false).run P w=.ok u w)\/(¬S k/\(Pn T (.map (some r)) k false).run P w=.ok z w):=by
 obtain⟨es,c,hb,hs,h1,h2⟩:=h;have H3:∀e,(Po e 10000 K k).run P w=.ok () w:=λe=>P3 m hk e 9999;rcases findNow_spec (d:=d) hk es.toList 0 (λx hx=>(h1 x hx).2)with⟨f,g⟩|⟨j,e,f,g,t⟩
 ·refine .inr ⟨λv=>?_,?_⟩
  ·obtain⟨x,hx,s⟩:=(h2 k).1 v;exact g x hx s
  unfold Pn;simp[Pl,run_underlying q,P0 hb,H3,P1 m f,y,go_sem]
 ·have hm:e∈es.toList:=Pf g;refine .inl ⟨(h2 k).2 ⟨e,hm,t⟩,?_⟩;unfold Pn;simp[Pl,run_underlying q,P0 hb,H3,P1 m f,(h1 e hm).1,go_sem]
theorem SSet.update{S:Value->Prop}(h:SSet w r d u S)(v:P.underlying T=C (.map K E))(q:P.underlying K=C d){k:Value}(hk:IsKey d k):
  ∃w',(Pm T (.map (some r)) k u).run P w=.ok () w'/\SSet w' r d u (λx=>S x\/x=k)/\MT w w' r:=by
 obtain⟨es,c,hb,hs,h1,h2⟩:=h;have H3:∀e,(Po e 10000 K k).run P w=.ok () w:=λe=>P3 q hk e 9999;rcases findNow_spec (d:=d) hk es.toList 0 (λx hx=>(h1 x hx).2)with⟨m,g⟩|⟨j,e,m,g,t⟩
 ·refine⟨setBlock w r (.map (es.push { key:=k,val:=u,born:=c }) (c+1)),?_,⟨_,_,(heap_set hb).1,stamped_push hs g,λx hx=>?_,λx=>?_⟩,lT hb⟩
  ·unfold Pm;simp only[Pl,run_underlying v,P4,P0 hb,H3,P1 q m,P2 _ hb];rfl
  ·rw[P6]at hx;rcases Pc.1 hx with hx | hx
   ·exact h1 x hx
   rw[Pd]at hx;subst hx;exact⟨rfl,hk⟩
  show(S x\/x=k)↔_;rw[P6,h2];constructor
  ·rintro(⟨y,f,rfl⟩| rfl)
   ·exact⟨y,Pc.2 (.inl f),rfl⟩
   exact⟨_,Pc.2 (.inr (Pd.2 rfl)),rfl⟩
  rintro⟨y,f,rfl⟩;rcases Pc.1 f with f | f
  ·exact .inl ⟨y,f,rfl⟩
  rw[Pd]at f;subst f;exact .inr rfl
 ·have z:es[j]?=C e:=by simpa using g
  have hm:e∈es.toList:=Pf g;have A:(es.modify j λe=>{ e with key:=k,val:=u })=es:=by
   apply Array.ext_getElem?;intro i;rw[P8];split
   ·rename_i s;subst s;rw[z,Pv];congr 1
    have:=(h1 e hm).1;cases e;simp_all
   rfl
  refine⟨setBlock w r (.map es c),?_,⟨_,_,(heap_set hb).1,hs,h1,λx=>?_⟩,lT hb⟩
  ·unfold Pm;simp only[Pl,run_underlying v,P4,P0 hb,H3,P1 q m,Nat.zero_add,z,Pv,Pw,t,run_keyThatStays hk,P2 _ hb,A];rfl
  ·show(S x\/x=k)↔_;rw[h2];constructor
   ·rintro(h | rfl)
    ·exact h
    exact⟨e,hm,t⟩
   ·exact .inl
variable {w:World} {ops:Array Oper} {rest:List Oper} {o:Oper} {a:Act} {Q:Exit->Act->World->Prop}
end
open Go.RowKit Go.Mv
theorem oe:∀(k:Nat) (e:List Int) (bs:List UInt8),ao k e bs=if(ao k [] bs).1=0 then(0,e++(ao k [] bs).2.1,(ao k [] bs).2.2)else ao k [] bs
 |0,e,bs=>by simp[ao]
 | k+1,e,bs=>by
  rw[ao,ao];by_cases h:(aJ bs).1=0
  ·rw[if_pos h,if_pos h,oe k (e++_),oe k ([]++_)];by_cases h2:(ao k [] (aJ bs).2.2).1=0
   ·simp[h2]
   simp[h2]
  ·rw[if_neg h,if_neg h];simp[h]
theorem qv(b:Nat):∀(a:Nat) (acc:List Int) (bs:List UInt8),ao (a+b) acc bs=if(ao a acc bs).1=0 then ao b (ao a acc bs).2.1 (ao a acc bs).2.2 else ao a acc bs
 |0,acc,bs=>by simp[ao]
 | a+1,acc,bs=>by
  rw[show a+1+b=(a+b)+1 by omega,ao,ao];by_cases h:(aJ bs).1=0
  ·rw[if_pos h,if_pos h,qv b a]
  ·rw[if_neg h,if_neg h];simp[h]
def lh:List Int->List Sg4
 |a::b::c::d::l=>⟨a,b,c,d-1⟩::lh l
 |_=>[]
theorem tQ:∀(k:Nat) (f:List Sg4) (r:List UInt8),dW k f r=if(ao (4*k) [] r).1=0 then some (f++lh (ao (4*k) [] r).2.1)else none
 |0,f,r=>by simp[dW,ao,lh]
 | k+1,f,r=>by
  have Hk:=qv (4*k) 4 [] r;rw[show 4*(k+1)=4+4*k by omega,Hk];by_cases h:(ao 4 [] r).1=0
  ·rw[if_pos h];obtain⟨e,l,g,hl⟩:∃e l g,ao 4 [] r=(e,l,g):=⟨_,_,_,rfl⟩;rw[hl]at h;dsimp only at h;subst h;obtain⟨a,b,c,d,rfl⟩:=four (mP hl).1;rw[Ac hl,tQ k,hl];dsimp only;rw[oe (4*k) [a,b,c,d]];by_cases h2:(ao (4*k) [] g).1=0
   ·simp[h2,lh]
   simp[h2]
  ·rw[if_neg h,zk h,if_neg h]
theorem Ld{p:List UInt8}{a b c d e f:Int}{r:List UInt8}(g:1<=M p)(g:ao 6 [] (p.drop 1)=(0,[a,b,c,d,e,f],r))(h:f<=60):
  fe p=if(ao (6+4*f.toNat) [] (p.drop 1)).1=0 then some ⟨a,b,c,d,e,lh ((ao (6+4*f.toNat) [] (p.drop 1)).2.1.drop 6)⟩else none:=by
 unfold fe;rw[if_neg (by omega),g,Bj (show ¬60<[a,b,c,d,e,f].getD 5 0 by simpa using h),qv (4*f.toNat) 6,g];simp only[if_true];rw[oe (4*f.toNat) [a,b,c,d,e,f]];show(dW f.toNat [] r).map _=_;rw[tQ];by_cases h2:(ao (4*f.toNat) [] r).1=0
 ·simp[h2]
 ·simp[h2]
theorem ry{p:List UInt8}{e:Int}{l:List Int}{r:List UInt8}(f:ao 6 [] (p.drop 1)=(e,l,r))(h:e≠0\/60<l.getD 5 0):fe p=none:=by
 unfold fe;split
 ·rfl
 ·rw[f];by_cases he:e=0
  ·subst he;exact Bi (h.resolve_left (by simp))
  ·exact zW he
def eJ(m:Mf)(k:Nat)(u:Value):Prop:=u=G I 0\/u=G I m.sq\/∃s∈m.segs.take k,u=G I s.seq
theorem se{a b:Int}(h:G I a=G I b):a=b:=by injection h
theorem Nn(m:Mf)(k:Nat)(n:Int):eJ m k (G I n)↔n=0\/n=m.sq\/∃s∈m.segs.take k,s.seq=n:=by
 unfold eJ;constructor
 ·rintro(h | h | ⟨s,hs,h⟩)
  ·exact .inl (se h)
  ·exact .inr (.inl (se h))
  exact .inr (.inr ⟨s,hs,(se h).symm⟩)
 ·rintro(rfl | rfl | ⟨s,hs,rfl⟩)
  ·exact .inl rfl
  ·exact .inr (.inl rfl)
  ·exact .inr (.inr ⟨s,hs,rfl⟩)
theorem Dq{m:Mf}(hi:i<M m.segs):cD m i m.segs[i]=true ↔
  (cP m.next m.segs[i].seq m.segs[i].fmt=true/\¬eJ m i (G I m.segs[i].seq))/\(1<=m.segs[i].first/\m.segs[i].first<=1073741820) /\
  ((m.segs[i].count = -1/\i+1=M m.segs)\/(1<=m.segs[i].count/\m.segs[i].count<=4))/\(i=0\/∃p,m.segs[i-1]?=C p/\m.segs[i].first=p.first+p.count):=by
 rw[Nn];unfold cD inB;have e:∃p,m.segs[i-1]?=C p:=⟨_,List.getElem?_eq_getElem (show i-1<M m.segs by omega)⟩;obtain⟨p,e⟩:=e;rw[e];generalize m.segs[i]=s at *;simp only[Bool.and_eq_true,decide_eq_true_eq,List.all_eq_true,Bool.or_eq_true];constructor
 ·rintro⟨⟨⟨⟨⟨h1,h2⟩,h3⟩,h4⟩,h5⟩,j⟩;refine⟨⟨h1,?_⟩,h3,?_,?_⟩
  ·rintro(h | h | ⟨t,f,h⟩)
   ·have:=(mZ h1).1;omega
   ·exact h2 h
   exact h4 t f h
  ·rcases j with h | h
   ·exact .inr h
   exact .inl h
  rcases h5 with h | h
  ·exact .inl h
  exact .inr ⟨p,rfl,h⟩
 ·rintro⟨⟨h1,h2⟩,h3,h4,h5⟩;refine⟨⟨⟨⟨⟨h1,λh=>h2 (.inr (.inl h))⟩,h3⟩,λt f h=>h2 (.inr (.inr ⟨t,f,h⟩))⟩,?_⟩,?_⟩
  ·rcases h5 with h | ⟨k,h,g⟩
   ·exact .inl h
   cases h;exact .inr g
  ·rcases h4 with h | h
   ·exact .inr h
   ·exact .inl h
theorem Dp{m:Mf}(hi:i<M m.segs)(u:Value):eJ m (i+1) u↔eJ m i u\/u=G I m.segs[i].seq:=by
 unfold eJ;rw[Pg hi];simp only[Pc,Pd];constructor
 ·rintro(h | h | ⟨s,h | rfl,h'⟩)
  ·exact .inl (.inl h)
  ·exact .inl (.inr (.inl h))
  ·exact .inl (.inr (.inr ⟨s,h,h'⟩))
  exact .inr h'
 ·rintro((h | h | ⟨s,h,h'⟩)| h)
  ·exact .inl h
  ·exact .inr (.inl h)
  ·exact .inr (.inr ⟨s,.inl h,h'⟩)
  ·exact .inr (.inr ⟨_,.inr rfl,h⟩)
open Go.RowKit Go.Mv Go.Shelf
attribute [local go_sem] Oper.semAt_some
def ea(l:List Sg4):List Int:=l.flatMap λs=>[s.seq,s.fmt,s.first,s.count]
theorem qn(l:List Sg4):M (ea l)=4*M l:=by
 induction l with
 |nil=>rfl
 |cons s l ih=>rw[show ea (s::l)=s.seq::s.fmt::s.first::s.count::ea l from rfl];simp[ih];omega
theorem Ee(es:List Sg4)(i:Nat)(h:i<M es):(ea es).drop (i*4)=es[i].seq::es[i].fmt::es[i].first::es[i].count::(ea es).drop (i*4+4):=by
 induction es generalizing i with
 |nil=>simp at h
 |cons e es ih=>
  rw[show ea (e::es)=e.seq::e.fmt::e.first::e.count::ea es from rfl];cases i with
  |zero=>rfl
  |succ i=>
   have:=ih i (by simpa using h);rw[show(i+1)*4=i*4+1+1+1+1 from by omega];simpa using this
theorem Ni{f:World}{b H4 n:Nat}{es:List Sg4}(h:Is f (D (C ⟨b,H4,H⟩) n c) (ea es))(i:Nat)(hi:i<M es):
  Is f (D (C ⟨b,H4+i*4,H⟩) 4 4) [es[i].seq,es[i].fmt,es[i].first,es[i].count]:=by
 have hl:=qn es;obtain⟨f,A,c',e,h1,h2,h3⟩:=h;cases e;obtain⟨f,f,e',hc⟩:=h3 (by omega);cases e';refine⟨by simp,_,4,rfl,xN _,by simp[maxLen],λ_=>⟨b,H4+i*4,rfl,λj u f=>?_⟩⟩;have g:=Ee es i hi;have k:j<4:=by
  have:=(List.getElem?_eq_some_iff.1 f).1;simpa using this
 rw[Nat.add_assoc];refine hc (i*4+j) u ?_;rw[<-f,<-List.getElem?_drop,<-List.map_drop,g];match j,k with
 |0,_=>rfl
 |1,_=>rfl
 |2,_=>rfl
 |3,_=>rfl
theorem yb(O m:World)(v:Value)(es:List Sg4)(x:Is O v (ea es))(HO:M es<=2000000)(bs g:Nat)(HH:Boxed m bs 64 v)(HI:Boxed m g 3 (G I 4)):
  Seq Tryz.prog 149 #[F (C ⟨bs,0,H⟩),F (C ⟨g,0,H⟩)]
   (λ(e:Sg4) av _=>∃b H4,av = #[D (C ⟨b,H4,H⟩) 4 4]/\Is O (D (C ⟨b,H4,H⟩) 4 4) [e.seq,e.fmt,e.first,e.count]) (λk o=>(k=bs/\o.ty=C 64)\/(k=g/\o.ty=C 3)) (λ_ _=>False) es m:=by
 intro l J O hJ O X h0;have L:=qn es;obtain⟨A,c,rfl,h1,h2⟩:=xO x;rw[L]at *;refine(callsIn_wd (ro:=none) (n:=9)).1 ?_;refine callsIn_of_wp Tryz.func149 rfl trivial ?_ rfl;simp only[Tryz.ntmps149,List.size_toArray,xC,List.length_nil,Nat.reduceAdd,Nat.reduceSub,Array.replicate_succ,Array.replicate_zero,List.push_toArray,List.append_toArray,xI,List.cons_append];have Y:=aN x;clear L x;gi_wp2;gi_loopw [4] (λj W=>∃(i:Nat),j=G I (i*4:Nat)/\i<=M es/\Hid (J (es.take i) W)/\Boxed W bs 64 (D A (4*M es) c)/\Boxed W g 3 (G I 4)/\m.heap.size<=W.heap.size) (λj _=>4*M es+5-(intOf j).toNat)
 case atStart=>exact⟨0,rfl,Nat.zero_le _,h0,HH,HI,xN _⟩
 case round=>
  obtain⟨i,rfl,hk,z,R,S,N⟩:=hrel;have U:=R.cell;have V:=S.cell;by_cases s:i<M es
  ·have t:=Y.out;obtain⟨hx,b,H4,rfl,hc⟩:=Is.at_ t (by rw[qn];omega);clear hc hx;have Y:=Ni t i s;have x:=aN Y;have HN:(i*4:Nat)<4*M es:=by omega
   have HM:(i*4:Nat)+4<=4*M es:=by omega
   have O:es.take (i+1)=es.take i++[es[i]]:=Pg s;have B:=aN O;have L:es=es.take i++es[i]::es.drop (i+1):=by rw[<-List.drop_eq_getElem_cons s,List.take_append_drop]
   have HD:=aN L;clear Y O L t;have y:((i*4:Nat):Int)=(i:Int)*4:=by omega
   obtain⟨k,f⟩:∃k,i*4=k:=⟨_,rfl⟩;have Z:=aN f;rw[f]at HN HM x;simp only[f];clear y f;gi_wp2;gi_region
   have s:min (4:Int) ((4*M es-k:Nat):Int)=4:=by omega
   have t:((k:Int)+4).toNat-k=4:=by omega
   have L:=aN s;have O:=aN t;clear s t;have s:=X (es.take i) es[i] (es.drop (i+1)) HD wr.drew #[D (C ⟨b,H4+k,H⟩) 4 4] (hJ _ _ _ z (Moves.refl.drew)) N ⟨b,H4+k,rfl,x.out⟩;have t:=aN s;have HE:Boxed wr.drew bs 64 (D (C ⟨b,H4,H⟩) (4*M es) c):=R;have HF:Boxed wr.drew g 3 (G I 4):=S;clear s X;gi_wp2;rw[L.out,O.out];refine ew t ?_;rintro e W' ⟨h,⟨rfl,q⟩|⟨rfl,q⟩⟩
   ·refine⟨true,rfl,?_⟩;have x:Boxed W' bs 64 (D (C ⟨b,H4,H⟩) (4*M es) c):=h.boxed HE (.inl (.inl ⟨rfl,rfl⟩));have s:Boxed W' g 3 (G I 4):=h.boxed HF (.inl (.inr ⟨rfl,rfl⟩));have g:=s.cell;have t:m.heap.size<=W'.heap.size:=Nat.le_trans N h.size;have g:=aN q;clear q h U V;gi_wp2;refine⟨⟨i+1,?_,by omega,?_,x,s,t⟩,by simp[intOf];omega⟩
    ·have:=Z.out;rw[show(i+1)*4=k+4 from by omega];go_num
    show J _ _;rw[B.out];exact g.out
   refine⟨false,rfl,?_⟩;have g:=aN q;clear q h U V;gi_wp2;refine bodyPost_ret (results_none rfl _ _ _) rfl ?_;refine⟨⟨_,rfl⟩,.inr ⟨es.take (i+1),?_,?_⟩⟩
   ·exact List.take_prefix _ _
   rw[B.out];exact g.out
  ·have g:es.take i=es:=List.take_of_length_le (by omega);have y:4*M es<=i*4:=by omega
   have h:¬(((i*4:Nat):Int)<((4*M es:Nat):Int)):=by omega
   obtain⟨k,f⟩:∃k,i*4=k:=⟨_,rfl⟩;have Hx:=aN g;have m:k<=4*M es:=by omega
   rw[f]at y;simp only[f];clear g h f;gi_wp2;refine bodyPost_end (results_none rfl _ _ _) rfl ?_;exact⟨⟨_,rfl⟩,.inl (by have:=z.out;rw[Hx.out]at this;exact this)⟩
theorem tX(A:Option Addr)(n c:Nat)(w:World):Calls Tryz.prog 80 #[D A n c,G I 4] w λe w'=>
  e=.returned (.func (.func 149) #[] #[F (C ⟨w.heap.size,0,H⟩),F (C ⟨w.heap.size+1,0,H⟩)]) /\
  (w.alloc (.cells #[D A n c] 64)).alloc (.cells #[G I 4] 3)=w':=by
 go_enter Tryz.func80,Tryz.ntmps80
 go_wp2;go_ret;exact⟨rfl,rfl⟩
