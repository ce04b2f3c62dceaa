/- Merged -/
import Derived.Test.YteggfecbjgbndaaGreatDoorZx14
import Derived.Test.YteggfecbjgbndaaGreatDoorZx23
import Derived.Shelf.Sort.Plain
import Derived.Shelf.Slices.In.SortNone
import Derived.Sort.KeysCollected
set_option linter.all false
set_option maxHeartbeats 8000000
set_option maxRecDepth 100000
open Go.Proofs.Tryz
open List renaming length->O
open Go.Value renaming slice->C,string->H,int->I,pointer->M,agg->N
open Option renaming some->D,none->F
open Go.Proofs.Tryz renaming prog->G
open Go.Obj renaming cells->J
open Go.Mv renaming aN->L
open List renaming mem_cons->P0,mem_cons_of_mem->P1,mem_cons_self->P2,mem_map->P3,mergeSort_perm->P4,pairwise_cons->P5,pairwise_map->P6,perm_ext_iff_of_nodup->P7,getElem?_eq_getElem->P8,le_iff_lt_or_eq->P9,mem_append->Pa,length_nil->Pb,foldl_cons->Pc,map_cons->Pd,Nodup->Pe
open Go.Op renaming bytesLess->Pf
open Go.RowKit.Below renaming setCell->Pg
open Go.World renaming block_lt_of_cell?->Ph,cell?_of_block->Pi
open List.Pairwise renaming imp->Pj,sublist->Pk,nil->Pl,imp₂->Pm
open Ne renaming symm->Pn
open Bool renaming and_eq_true->Po,or_eq_true->Pp,eq_false_iff->Pq
open Nat renaming add_assoc->Pr,zero_add->Ps,mul_le_mul_right->Pu,le_succ->Pv,add_mul->Pw
namespace Go.Proofs
open Go.Shelf
def Tryz.lays190_ren:Go.Shelf.Ren:=⟨fun | 190=>165 | 125=>217 | 258=>216 | 128=>264 | 129=>265 | 302=>255 | 303=>256 | 304=>257 | 305=>258 | 306=>259 | 307=>260 | 308=>261 | 309=>262 | 310=>263 | 333=>284 | 329=>285 | 330=>286 | 334=>287 | 335=>288 | 336=>289 | 344=>299 | n=>n,fun | 31=>102 | 9=>9 | 3=>3 | 46=>245 | 0=>0 | 51=>190 | 53=>303 | 4=>4 | 183=>295 | 182=>294 | 131=>275 | 5=>5 | 218=>321 | 222=>325 | 228=>334 | 229=>335 | n=>n,fun | n=>n⟩
theorem Tryz.lays190:Go.Proofs.Lays.n190 G Tryz.lays190_ren:={
 mixed:=by kernel_rfl
 f125:=func217.trans (congrArg some (by kernel_rfl))
 f128:=func264.trans (congrArg some (by kernel_rfl))
 f129:=func265.trans (congrArg some (by kernel_rfl))
 f190:=func165.trans (congrArg some (by kernel_rfl))
 f258:=func216.trans (congrArg some (by kernel_rfl))
 f302:=func255.trans (congrArg some (by kernel_rfl))
 f303:=func256.trans (congrArg some (by kernel_rfl))
 f304:=func257.trans (congrArg some (by kernel_rfl))
 f305:=func258.trans (congrArg some (by kernel_rfl))
 f306:=func259.trans (congrArg some (by kernel_rfl))
 f307:=func260.trans (congrArg some (by kernel_rfl))
 f308:=func261.trans (congrArg some (by kernel_rfl))
 f309:=func262.trans (congrArg some (by kernel_rfl))
 f310:=func263.trans (congrArg some (by kernel_rfl))
 f329:=func285.trans (congrArg some (by kernel_rfl))
 f330:=func286.trans (congrArg some (by kernel_rfl))
 f333:=func284.trans (congrArg some (by kernel_rfl))
 f334:=func287.trans (congrArg some (by kernel_rfl))
 f335:=func288.trans (congrArg some (by kernel_rfl))
 f336:=func289.trans (congrArg some (by kernel_rfl))
 f344:=func299.trans (congrArg some (by kernel_rfl))
 t0:=underlying0
 a0:=Tryz.isAgg0
 z0:=Tryz.sizeOf0
 v0:=Tryz.zeroValue0
 t3:=underlying3
 a3:=Tryz.isAgg3
 z3:=Tryz.sizeOf3
 v3:=Tryz.zeroValue3
 t4:=underlying4
 a4:=Tryz.isAgg4
 z4:=Tryz.sizeOf4
 v4:=Tryz.zeroValue4
 t5:=underlying5
 a5:=Tryz.isAgg5
 z5:=Tryz.sizeOf5
 v5:=Tryz.zeroValue5
 t9:=underlying9
 a9:=Tryz.isAgg9
 z9:=Tryz.sizeOf9
 v9:=Tryz.zeroValue9
 t31:=underlying102
 a31:=Tryz.isAgg102
 z31:=Tryz.sizeOf102
 v31:=Tryz.zeroValue102
 t46:=underlying245
 a46:=Tryz.isAgg245
 z46:=Tryz.sizeOf245
 v46:=Tryz.zeroValue245
 t51:=underlying190
 a51:=Tryz.isAgg190
 z51:=Tryz.sizeOf190
 v51:=Tryz.zeroValue190
 t53:=underlying303
 a53:=Tryz.isAgg303
 z53:=Tryz.sizeOf303
 v53:=Tryz.zeroValue303
 t131:=underlying275
 a131:=Tryz.isAgg275
 z131:=Tryz.sizeOf275
 v131:=Tryz.zeroValue275
 t182:=underlying294
 a182:=Tryz.isAgg294
 z182:=Tryz.sizeOf294
 v182:=Tryz.zeroValue294
 t183:=underlying295
 a183:=Tryz.isAgg295
 z183:=Tryz.sizeOf295
 v183:=Tryz.zeroValue295
 t218:=underlying321
 a218:=Tryz.isAgg321
 z218:=Tryz.sizeOf321
 v218:=Tryz.zeroValue321
 t222:=underlying325
 a222:=Tryz.isAgg325
 z222:=Tryz.sizeOf325
 v222:=Tryz.zeroValue325
 t228:=underlying334
 a228:=Tryz.isAgg334
 z228:=Tryz.sizeOf334
 v228:=Tryz.zeroValue334
 t229:=underlying335
 a229:=Tryz.isAgg335
 z229:=Tryz.sizeOf335
 v229:=Tryz.zeroValue335 }
open Go.Sort Go.RowKit in
theorem Tryz.slices_Sort_string(blk d cap:Nat)(c:List (List UInt8))(w:World)(i:Holds encStr w blk d c.toArray)(f:blk<w.heap.size)(h:O c<4611686018427387904):
  Calls G 165 #[C (D ⟨blk,d,F⟩) c.length cap] w λe w'=>
   e=.returned (.tuple #[])/\∃n j,w'=grow (putRow encStr (Sort.ahead w n) blk d (c.mergeSort λx y=>decide (x<=y)).toArray) j:=Any.slices_Sort_string Tryz.lays190 blk d cap c w i f h
open Go.RowKit Go.Sort in
theorem Tryz.slices_Sort_string_none(p:Option Addr)(cap:Nat)(w:World):
  Calls G 165 #[C p 0 cap] w λe w'=>e=.returned (.tuple #[])/\w'=w:=Any.slices_Sort_string_none Tryz.lays190 p cap w
end Go.Proofs

namespace Go.Proofs.YteggfecbjgbndaaGreatDoor
open Go.RowKit Go.Mv
variable {l m:List Fil} {b n:List UInt8} {xs:List Value} {g k size sz:Nat} {e t:TypeId} {a u v x y:Value} {W W' w:World}
abbrev ltB(a b:List UInt8):Bool:=Pf a b
theorem iy:∀(a b:List UInt8),ltB a b=true↔a<b
 |[],[]=>by simp[ltB,Pf]
 |_::_,[]=>by simp[ltB,Pf]
 |[],_::_=>by simp[ltB,Pf]
 | x::a,y::b=>by
  have c:=iy a b;unfold ltB at c⊢;rw[Pf,List.cons_lt_cons_iff,Pp,Po,c];simp
theorem qO(a:List UInt8):ltB a a=false:=by
 rw[Pq];intro h;exact List.lt_irrefl a ((iy a a).1 h)
theorem qY{a c:List UInt8}(h:ltB a b=true)(k:ltB b c=true):ltB a c=true:=(iy a c).2 (List.lt_trans ((iy a b).1 h) ((iy b c).1 k))
theorem sj{a:List UInt8}(h:ltB a b=true):a≠b:=by rintro rfl;rw[qO]at h;cases h
theorem Bz{a:List UInt8}(h:ltB a b=false)(hn:a≠b):ltB b a=true:=by
 rw[iy];rw[Pq,Ne,iy]at h;rcases P9.1 (List.not_lt.1 h)with h | h
 ·exact h
 ·exact absurd h.symm hn
def Srt(l:List Fil):Prop:=l.Pairwise λp q=>ltB p.1 q.1=true
theorem Srt.apart(h:Srt l):Apart l:=by
 unfold Apart Pe;rw[P6];exact Pj (λh=>sj h) h
theorem ib:∀ {l:List Fil},ak n l=D b->(n,b)∈l
 |[],h=>by cases h
 | p::l,h=>by
  rw[ak]at h;split at h
  ·rename_i e;cases h;subst e;exact P2
  ·exact P1 _ (ib h)
theorem lu:∀ {l:List Fil},Apart l->(n,b)∈l->ak n l=D b
 | p::l,ha,h=>by
  rw[ak];rcases P0.1 h with rfl | h
  ·rw[if_pos rfl]
  ·rw[if_neg (mW ha h),lu (mv ha) h]
theorem getF_isNone:ak n l=none↔∀p∈l,p.1≠n:=by
 constructor
 ·intro h p c e;induction l with
  |nil=>cases c
  |cons q l ih=>
   rw[ak]at h;split at h
   ·cases h
   rename_i d;rcases P0.1 c with rfl | c
   ·exact d e
   exact ih h c
 ·exact ly
theorem Of{d:List Fil}(h:Srt l)(f:Srt d)(hg:∀n,ak n l=ak n d):l=d:=by
 have hm:∀p,p∈l↔p∈d:=λp=>⟨λc=>ib (by rw[<-hg];exact lu h.apart c),λc=>ib (by rw[hg];exact lu f.apart c)⟩;have i:∀ {l:List Fil},Srt l->l.Nodup:=λh=>Pj (fun {a b} h e=>sj h (congrArg Prod.fst e)) h;have c:l.Perm d:=(P7 (i h) (i f)).2 hm;refine List.Perm.eq_of_pairwise (le:=λp q:Fil=>ltB p.1 q.1=true) (λa b _ _ h1 h2=>?_) h f c;have:=qY h1 h2;rw[qO]at this;cases this
/-! Striking out, laying in -/
theorem eX(n:List UInt8):∀l:List Fil,(aV n l).Sublist l
 |[]=>List.Sublist.refl _
 | p::l=>by
  rw[aV];split
  ·exact List.sublist_cons_self _ _
  ·exact(eX n l).cons_cons _
theorem m8(f:Apart l)(n x:List UInt8):ak x (aV n l)=if x=n then none else ak x l:=by
 induction l with
 |nil=>simp[aV,ak]
 |cons p l d=>
  have d:=d (mv f);rw[aV];split
  ·rename_i c;subst c;split
   ·rename_i hx;subst hx;exact ly λq h=>Pn (mW f h)
   rename_i hx;rw[ak,if_neg (Pn hx)]
  ·rename_i c;rw[ak,ak,d];split
   ·rename_i hx;subst hx;rw[if_neg c]
   ·rfl
theorem oD(n b x:List UInt8):∀l:List Fil,ak x (aX n b l)=if x=n then some b else ak x l
 | []=>by
  rw[aX,ak,ak];by_cases h:x=n
  ·rw[if_pos h,if_pos h.symm]
  rw[if_neg h,if_neg (Pn h)];rfl
 | p::l=>by
  have d:=oD n b x l;rw[aX];split
  ·rename_i c;rw[ak,ak];by_cases h:x=n
   ·rw[if_pos h,if_pos h.symm]
   rw[if_neg h,if_neg (Pn h),if_neg (by rw[c];exact Pn h)]
  ·rename_i c;rw[ak,ak,d];by_cases h:x=n
   ·subst h;rw[if_pos rfl,if_pos rfl,if_neg c]
   ·rw[if_neg h,if_neg h]
theorem zC(n b:List UInt8):∀l:List Fil,∀q∈aX n b l,q.1=n\/q∈l
 |[],q,c=>by rw[aX,List.mem_singleton]at c;subst c;exact .inl rfl
 | p::l,q,c=>by
  rw[aX]at c;split at c
  ·rcases P0.1 c with rfl | c
   ·exact .inl rfl
   exact .inr (P1 _ c)
  ·rcases P0.1 c with rfl | c
   ·exact .inr P2
   ·rcases zC n b l q c with h | h
    ·exact .inl h
    ·exact .inr (P1 _ h)
theorem yy{p:Fil}(h:Apart l)(hn:∀q∈l,p.1≠q.1):Apart (p::l):=by
 unfold Apart;rw[Pd,List.nodup_cons];refine⟨λhm=>?_,h⟩;obtain⟨q,c,e⟩:=P3.1 hm;exact hn q c e.symm
theorem Apart.upd:∀ {l:List Fil},Apart l->Apart (aX n b l)
 |[],_=>by simp[aX,Apart]
 | p::l,ha=>by
  rw[aX];split
  ·rename_i c;exact yy (mv ha) λq d=>by rw[<-c];exact mW ha d
  ·rename_i c;refine yy (Apart.upd (mv ha)) λq d=>?_;rcases zC n b l q d with h | h
   ·rw[h];exact c
   ·exact mW ha h
theorem Apart.del(h:Apart l):Apart (aV n l):=((eX n l).map _).nodup h
theorem Srt.del(h:Srt l):Srt (aV n l):=Pk (eX n l) h
def dn(p:Fil):List Fil->List Fil
 |[]=>[p]
 |q::l=>if ltB q.1 p.1 then q::dn p l else p::q::l
theorem sd(p:Fil):∀(l:List Fil) (q:Fil),q∈dn p l↔q=p\/q∈l
 |[],q=>by simp[dn]
 | r::l,q=>by
  rw[dn];split
  ·rw[P0,sd p l q,P0];exact⟨λh=>h.elim (λh=>.inr (.inl h)) (λh=>h.elim .inl λh=>.inr (.inr h)),λh=>h.elim (λh=>.inr (.inl h)) λh=>h.elim .inl λh=>.inr (.inr h)⟩
  ·rw[P0,P0]
theorem Srt.ins{p:Fil}:∀ {l:List Fil},Srt l->(∀q∈l,q.1≠p.1)->Srt (dn p l)
 |[],_,_=>by simp[dn,Srt]
 | q::l,h,hn=>by
  have hc:=P5.1 h;rw[dn];split
  ·rename_i c;refine P5.2 ⟨λr d=>?_,Srt.ins hc.2 λq i=>hn q (P1 _ i)⟩;rcases(sd p l r).1 d with rfl | d
   ·exact c
   exact hc.1 r d
  ·rename_i c;have f:=Bz (by simpa using c) (hn q P2);refine P5.2 ⟨λr d=>?_,h⟩;rcases P0.1 d with rfl | d
   ·exact f
   ·exact qY f (hc.1 r d)
theorem AG(p:Fil)(x:List UInt8):∀ {l:List Fil},(∀q∈l,q.1≠p.1)->ak x (dn p l)=if x=p.1 then some p.2 else ak x l
 | [],_=>by
  rw[dn,ak,ak];by_cases h:x=p.1
  ·rw[if_pos h,if_pos h.symm]
  rw[if_neg h,if_neg (Pn h)];rfl
 | q::l,hn=>by
  have d:=AG p x (l:=l) λq c=>hn q (P1 _ c);rw[dn];split
  ·rw[ak,ak,d];by_cases h:x=p.1
   ·subst h;rw[if_pos rfl,if_neg (hn q P2),if_pos rfl]
   rw[if_neg h,if_neg h]
  ·rw[ak];by_cases h:x=p.1
   ·rw[if_pos h,if_pos h.symm]
   ·rw[if_neg h,if_neg (Pn h)]
def withS(l:List Fil)(p:Fil):List Fil:=dn p (aV p.1 l)
theorem BW(c:Apart l):∀q∈aV n l,q.1≠n:=getF_isNone.1 (by rw[m8 c,if_pos rfl])
theorem Srt.withS(h:Srt l)(p:Fil):Srt (withS l p):=h.del.ins (BW h.apart)
theorem zK(h:Srt l)(p:Fil)(x:List UInt8):ak x (withS l p)=if x=p.1 then some p.2 else ak x l:=by
 unfold Go.Proofs.YteggfecbjgbndaaGreatDoor.withS;rw[AG p x (BW h.apart),m8 h.apart];split<;>rfl
/-! Operations -/
structure Oq where
 k:Int
 n:List UInt8
 t:List UInt8
 b:List UInt8
def dE(l:List Fil)(o:Oq):List Fil:=
 if o.k=1 then withS l (o.n,[])else
 match ak o.n l with
 |none=>l
 |some b=>if o.k=2 then withS l (o.n,b++o.b)else if o.k=3/\o.t≠o.n then withS (aV o.n l) (o.t,b)else if o.k=4 then aV o.n l else l
def bW(m:List Fil)(o:Oq):List Fil:=
 if o.k=1 then aX o.n [] m else
 if o.k=2 then(match ak o.n m with | none=>m | some b=>aX o.n (b++o.b) m)else
 if o.k=3 then(match ak o.n m with | none=>m | some b=>aX o.t b (aV o.n m))else
 if o.k=4 then aV o.n m else m
structure Tells (l m:List Fil):Prop where
 s:Srt l
 a:Apart m
 g:∀ x,ak x l=ak x m
theorem Tells.with_(h:Tells l m)(n b:List UInt8):Tells (withS l (n,b)) (aX n b m):=⟨h.s.withS _,h.a.upd,λx=>by rw[zK h.s,oD,h.g]⟩
theorem Tells.del(h:Tells l m)(n:List UInt8):Tells (aV n l) (aV n m):=⟨h.s.del,h.a.del,λx=>by rw[m8 h.s.apart,m8 h.a,h.g]⟩
theorem Tells.done(h:Tells l m)(o:Oq):Tells (dE l o) (bW m o):=by
 unfold dE bW;by_cases h1:o.k=1
 ·rw[if_pos h1,if_pos h1];exact h.with_ _ _
 ·rw[if_neg h1,if_neg h1];cases hg:ak o.n m with
  |none=>
   rw[h.g,hg];dsimp only;split
   ·exact h
   split
   ·exact h
   split
   ·rw[qy (getF_isNone.1 hg)];exact h
   exact h
  |some b=>
   rw[h.g,hg];dsimp only;split
   ·exact h.with_ _ _
   ·by_cases h3:o.k=3
    ·rw[if_pos h3];by_cases c:o.t=o.n
     ·rw[if_neg (λh=>h.2 c),if_neg (by omega),c];refine⟨h.s,h.a.del.upd,λx=>?_⟩;rw[oD,m8 h.a,h.g];split
      ·rename_i hx;rw[hx,hg]
      rfl
     rw[if_pos ⟨h3,c⟩];exact(h.del _).with_ _ _
    ·rw[if_neg (λh=>h3 h.1),if_neg h3];split
     ·exact h.del _
     ·exact h
def dq:List Fil->List Fil
 |[]=>[]
 |p::l=>aX p.1 p.2 (dq l)
def ci(l:List Fil)(p:Fil):List Fil:=if(ak p.1 l).isNone then withS l p else l
def mb(fs:List Fil)(q:List Oq):List Fil:=q.foldl dE (fs.foldl ci [])
def bD(fs:List Fil)(q:List Oq):List Fil:=q.foldl bW (dq fs)
theorem yt(x:List UInt8):∀l:List Fil,ak x (dq l)=ak x l
 |[]=>rfl
 | p::l=>by
  rw[dq,oD,yt x l,ak];by_cases h:x=p.1
  ·rw[if_pos h,if_pos h.symm]
  ·rw[if_neg h,if_neg (Pn h)]
theorem tY:∀l:List Fil,Apart (dq l)
 |[]=>List.nodup_nil
 |_::l=>(tY l).upd
theorem MI(h:Srt l)(p:Fil):Srt (ci l p)/\∀x,ak x (ci l p)=(ak x l).or (if p.1=x then some p.2 else none):=by
 unfold ci;by_cases hn:ak p.1 l=none
 ·rw[if_pos (by rw[hn];rfl)];refine⟨h.withS p,λx=>?_⟩;rw[zK h];by_cases hx:x=p.1
  ·subst hx;rw[if_pos rfl,hn,if_pos rfl];rfl
  rw[if_neg hx,if_neg (Pn hx),Option.or_none]
 ·obtain⟨b,hb⟩:=Option.ne_none_iff_exists'.1 hn;rw[if_neg (by rw[hb];simp)];refine⟨h,λx=>?_⟩;by_cases hx:p.1=x
  ·subst hx;rw[hb];rfl
  ·rw[if_neg hx,Option.or_none]
theorem zo:∀(fs l:List Fil),Srt l->Srt (fs.foldl ci l)/\∀x,ak x (fs.foldl ci l)=(ak x l).or (ak x fs)
 |[],l,h=>⟨h,λx=>by simp[ak]⟩
 | p::fs,l,h=>by
  obtain⟨h1,h2⟩:=MI h p;obtain⟨h3,h4⟩:=zo fs _ h1;refine⟨h3,λx=>?_⟩;rw[Pc,h4,h2,Option.or_assoc,ak];congr 1
  split<;>simp
theorem zr:∀(q:List Oq) {l m:List Fil},Tells l m->Tells (q.foldl dE l) (q.foldl bW m)
 |[],_,_,h=>h
 |o::q,_,_,h=>zr q (h.done o)
theorem rk(fs:List Fil)(q:List Oq):Tells (mb fs q) (bD fs q):=by
 obtain⟨h1,h2⟩:=zo fs [] Pl;exact zr q ⟨h1,tY fs,λx=>by rw[h2,yt];rfl⟩
def bP(m:List Fil):List Fil:=((m.map (·.1)).mergeSort leB).map λn=>(n,(ak n m).getD [])
theorem PI:∀a b c:List UInt8,leB a b=true->leB b c=true->leB a c=true:=λa b c h1 h2=>by simp only[leB,decide_eq_true_eq]at *;exact List.le_trans h1 h2
theorem PH:∀a b:List UInt8,(leB a b||leB b a)=true:=λa b=>by simp only[leB,Pp,decide_eq_true_eq];exact List.le_total a b
theorem La(l:List (List UInt8))(hn:l.Nodup):(l.mergeSort leB).Pairwise λa b=>ltB a b=true:=by
 have h1:=List.pairwise_mergeSort PI PH l;have h2:(l.mergeSort leB).Nodup:=(P4 l leB).nodup_iff.2 hn;refine Pm (λa b h1 h2=>?_) h1 h2;simp only[leB,decide_eq_true_eq]at h1;rw[iy];rcases P9.1 h1 with h | h
 ·exact h
 ·exact absurd h h2
theorem Io(d:Apart m):Tells (bP m) m:=by
 have hs:=La _ d;have c:Srt (bP m):=by
  unfold Srt bP;rw[P6];exact hs
 refine⟨c,d,λx=>?_⟩;cases hg:ak x m with
 |none=>
  refine ly λp f e=>?_;obtain⟨n,hn,rfl⟩:=P3.1 f;have d:=(P4 _ leB).mem_iff.1 hn;obtain⟨q,h,f⟩:=P3.1 d;exact getF_isNone.1 hg q h (f.trans e)
 |some b=>
  refine lu c.apart (P3.2 ⟨x,(P4 _ leB).mem_iff.2 (P3.2 ⟨_,ib hg,rfl⟩),by rw[hg];rfl⟩)
theorem Bq(fs:List Fil)(q:List Oq):bP (bD fs q)=mb fs q:=by
 have h1:=rk fs q;have h2:=Io h1.a;exact Of h2.s h1.s λx=>by rw[h2.g,h1.g]
/-! How many bytes -/
def tot(l:List Fil):Nat:=(l.map λp=>O p.2).sum
theorem fy(p:Fil)(l:List Fil):tot (p::l)=O p.2+tot l:=by simp[tot]
theorem zu(l c:List Fil):tot (l++c)=tot l+tot c:=by simp[tot]
theorem Bb{c:List Fil}(h:l.Perm c):tot l=tot c:=by unfold tot;exact(h.map _).sum_nat
theorem nk(n b:List UInt8):∀l:List Fil,tot (aX n b l)+O ((ak n l).getD [])=tot l+O b
 |[]=>by simp[aX,tot,ak]
 | p::l=>by
  have c:=nk n b l;rw[aX,ak];split
  ·rw[fy,fy];simp;omega
  ·rw[fy,fy];omega
theorem oV(n:List UInt8):∀l:List Fil,tot (aV n l)+O ((ak n l).getD [])=tot l
 |[]=>by simp[aV,tot,ak]
 | p::l=>by
  have c:=oV n l;rw[aV,ak];split
  ·rw[fy];simp;omega
  ·rw[fy,fy];omega
theorem FV(n:List UInt8)(l:List Fil):O ((ak n l).getD [])<=tot l:=by have:=oV n l;omega
theorem tc(m:List Fil)(o:Oq):tot (bW m o)<=tot m+O o.b:=by
 unfold bW;split
 ·have:=nk o.n [] m;simp at this;omega
 ·split
  ·split
   ·omega
   rename_i b hb;have:=nk o.n (b++o.b) m;rw[hb]at this;simp at this;omega
  ·split
   ·split
    ·omega
    rename_i b hb;have h1:=nk o.t b (aV o.n m);have h2:=oV o.n m;rw[hb]at h2;simp at h2;omega
   ·split
    ·have:=oV o.n m;omega
    ·omega
def aL(q:List Oq):Nat:=(q.map λo=>O o.b).sum
theorem eH(o:Oq)(q:List Oq):aL (o::q)=O o.b+aL q:=by simp[aL]
theorem mG(q q':List Oq):aL (q++q')=aL q+aL q':=by simp[aL]
theorem zA:∀(q:List Oq) (m:List Fil),tot (q.foldl bW m)<=tot m+aL q
 |[],m=>by simp[aL]
 | o::q,m=>by
  have h1:=tc m o;have h2:=zA q (bW m o);rw[Pc,eH];omega
theorem rp:∀l:List Fil,tot (dq l)<=tot l
 |[]=>xN _
 | p::l=>by
  have h1:=rp l;have h2:=nk p.1 p.2 (dq l);rw[dq,fy];omega
theorem mT(fs:List Fil)(q:List Oq):tot (bD fs q)<=tot fs+aL q:=by
 have h1:=zA q (dq fs);have h2:=rp fs;unfold bD;omega
theorem Im(h:Tells l m):l.Perm m:=by
 have c:∀ {l:List Fil},Apart l->l.Nodup:=fun {l} h=>by
  unfold Apart Pe at h;rw[P6]at h;exact Pj (λh e=>h (congrArg Prod.fst e)) h
 refine(P7 (c h.s.apart) (c h.a)).2 λp=>⟨λc=>ib (b:=p.2) (by rw[<-h.g];exact lu h.s.apart c),λc=>ib (b:=p.2) (by rw[h.g];exact lu h.a c)⟩
theorem oW(fs:List Fil)(q:List Oq):tot (mb fs q)=tot (bD fs q):=Bb (Im (rk fs q))
/-! Disks -/
structure Dk where
 fs:List Fil
 q:List Oq
 quota:Int
 fuse:Int
 dead:Bool
def Dk.now(d:Dk):List Fil:=mb d.fs d.q
def bO(o:Oq):Bool:=(decide (o.k=1)||decide (o.k=2)||decide (o.k=3)||decide (o.k=4)) && !decide (o.n=[])&&(!decide (o.k=3) || !decide (o.t=[]))
def dj:List UInt8->List Fil->Bool
 |_,[]=>true
 |last,p::l=>ltB last p.1&&dj p.1 l
def Dk.right(d:Dk):Bool:=dj [] d.fs&&d.q.all bO&&decide (O d.q<=400)&&decide (0<=d.quota)&&decide (0<=d.fuse)&&decide ((tot d.now:Int)<=d.quota)
def Dk.burn(d:Dk):Dk:=if 0<d.fuse then { d with fuse:=d.fuse-1,dead:=decide (d.fuse-1=0) }else d
def Dk.may(d:Dk):Int:=if d.right=false then 2 else if d.dead=true then 40 else 0
def Dk.doS(d:Dk)(o:Oq):Dk×Int:=
 if d.may≠0 then(d,d.may)else
 if bO o=false then(d,2)else
 if ak o.n d.now=none/\o.k≠1 then(d,42)else
 if(o.k=2/\d.quota<(tot d.now:Int)+(O o.b:Int))\/O d.q=400 then(d,41)else({ d with q:=d.q++[o] }.burn,0)
def Dk.syncS(d:Dk):Dk×Int:=if d.may≠0 then(d,d.may)else({ d with fs:=d.now,q:=[] }.burn,0)
def ct(sync:Bool):Dk->List Oq->Dk×Int
 |d,[]=>if sync=true then d.syncS else(d,0)
 |d,o::l=>if(d.doS o).2=0 then ct sync (d.doS o).1 l else d.doS o
theorem ltB_nil:ltB [] n=true↔n≠[]:=by cases n<;>simp[ltB,Pf]
structure Rt (d:Dk):Prop where
 f:dj [] d.fs=true
 q:∀ o∈d.q,bO o=true
 l:d.q.length<=400
 u:0<=d.fuse
 t:(tot d.now:Int)<=d.quota
theorem Lj(d:Dk):d.right=true↔Rt d:=by
 unfold Dk.right;simp only[Po,decide_eq_true_eq,List.all_eq_true];constructor
 ·rintro⟨⟨⟨⟨⟨h1,h2⟩,h3⟩,h4⟩,h5⟩,c⟩;exact⟨h1,h2,h3,h5,c⟩
 ·rintro⟨h1,h2,h3,h5,c⟩;exact⟨⟨⟨⟨⟨h1,h2⟩,h3⟩,by omega⟩,h5⟩,c⟩
theorem lK(o:Oq):bO o=true↔(o.k=1\/o.k=2\/o.k=3\/o.k=4)/\o.n≠[]/\(o.k=3->o.t≠[]):=by
 unfold bO;simp only[Po,Pp,decide_eq_true_eq,Bool.not_eq_true',decide_eq_false_iff_not];constructor
 ·rintro⟨⟨h1,h2⟩,h3⟩;exact⟨by omega,h2,λh=>h3.elim (λc=>absurd h c) id⟩
 ·rintro⟨h1,h2,h3⟩;refine⟨⟨by omega,h2⟩,?_⟩;by_cases h:o.k=3
  ·exact .inr (h3 h)
  ·exact .inl h
def bF(g:Nat)(u:Value):Prop:=∀b d n c,0<n->u=C (D ⟨b,d,F⟩) n c->b≠g
theorem da(g:Nat)(l:List UInt8):bF g (sv l):=λ_ _ _ _ _ h=>by cases h
theorem iP(g:Nat)(k:IntKind)(n:Int):bF g (.int k n):=λ_ _ _ _ _ h=>by cases h
theorem Bs.away(h:Bs W u b)(i:bF g u)(hk:∀p x,W.cell? p=D x->p.block≠g->W'.cell? p=D x):Bs W' u b:=by
 obtain⟨hl,A,c,rfl,h1,h2,h3⟩:=h;refine⟨hl,A,c,rfl,h1,h2,λhn=>?_⟩;obtain⟨f,d,rfl,hc⟩:=h3 hn;exact⟨f,d,rfl,λj x hx=>hk _ _ (hc j x hx) (i f d _ _ hn rfl)⟩
theorem Bs.fresh(h:Bs W u b)(hg:W.heap.size<=g):bF g u:=by
 intro f f n c hn d;obtain⟨hl,A,c',rfl,h1,h2,h3⟩:=h;cases d;obtain⟨d,d,e,hc⟩:=h3 hn;cases e;have hb:0<O (b.map bv):=by rw[List.length_map];exact hn
 have:=Ph _ _ (hc 0 _ (P8 hb));simp at this;omega
theorem OwnB.away{base:Nat}(h:OwnB W base u b)(hg:g<base):bF g u:=by
 intro f f n c _ d;subst d;rcases h.2 with⟨hn,_⟩|⟨d,cap,d,e,hb,_⟩
 ·cases hn
 ·cases e;omega
def RowOf{α:Type}(sz:Nat)(E:World->(Nat->Option Value)->α->Prop)(W:World)(xs:List Value)(l:List α):Prop:=
 O xs=O l*sz/\∀(k:Nat) (hk:k<O l),E W (λi=>if i<sz then xs[k*sz+i]? else none) l[k]
theorem RowOf.nil{α:Type}{E:World->(Nat->Option Value)->α->Prop}:RowOf sz E W [] []:=⟨by simp,λk hk=>by simp at hk⟩
theorem RowOf.append{α:Type}{E:World->(Nat->Option Value)->α->Prop}{c:List Value}{l m:List α}(h1:RowOf sz E W xs l)(h2:RowOf sz E W c m):RowOf sz E W (xs++c) (l++m):=by
 refine⟨by rw[xL,xL,h1.1,h2.1,Pw],λk hk=>?_⟩;rw[xL]at hk;have hl:=h1.1;by_cases h:k<O l
 ·have:=h1.2 k h;rw[List.getElem_append_left h];have e:(λi=>if i<sz then(xs++c)[k*sz+i]? else none)=λi=>if i<sz then xs[k*sz+i]? else none:=by
   funext i
   split
   ·rename_i hi;have:k*sz+i<O xs:=by
     rw[hl]
     calc k*sz+i<k*sz+sz:=by omega
      _=(k+1)*sz:=by rw[Pw,Nat.one_mul]
      _<=O l*sz:=Pu _ h
    rw[List.getElem?_append_left this]
   rfl
  rw[e];exact this
 ·have d:O l<=k:=by omega
  have:=h2.2 (k-O l) (by omega);rw[List.getElem_append_right d];have e:(λi=>if i<sz then(xs++c)[k*sz+i]? else none)=λi=>if i<sz then c[(k-O l)*sz+i]? else none:=by
   funext i
   split
   ·have h2:O l*sz<=k*sz:=Pu _ d;rw[List.getElem?_append_right (by rw[hl];omega),hl,Nat.sub_mul];congr 1
    omega
   rfl
  rw[e];exact this
structure zec {α:Type} (sz:Nat) (E:World->(Nat->Option Value)->α->Prop):Prop where
 keep:∀ {W W':World} {g:Nat} {c:Nat->Option Value} {p:α},E W c p->(∀ i u,c i=D u->bF g u)->(∀ p x,W.cell? p=D x->p.block≠g->W'.cell? p=D x)->E W' c p
 fresh:∀ {W:World} {c:Nat->Option Value} {p:α},E W c p->∀ i u,i<sz->c i=D u->bF W.heap.size u
 one:∀ {W:World} {c:Nat->Option Value} {p:α},E W c p->∀ i u,i<sz->c i=D u->u.oneCell'=true
section
variable {α:Type} {sz:Nat} {E:World->(Nat->Option Value)->α->Prop}
theorem oM{l:List α}(hl:O xs=O l*sz)(d:u∈xs):∃(k i:Nat),k<O l/\i<sz/\xs[k*sz+i]?=D u:=by
 obtain⟨j,c,rfl⟩:=List.mem_iff_getElem.1 d;have hs:0<sz:=by
  rcases Nat.eq_zero_or_pos sz with h | h
  ·rw[h,Nat.mul_zero]at hl;omega
  exact h
 refine⟨j / sz,j % sz,?_,Nat.mod_lt _ hs,?_⟩
 ·rw[Nat.div_lt_iff_lt_mul hs];omega
 ·rw[Nat.div_add_mod' j sz,P8 c]
theorem RowOf.keep(f:zec sz E){l:List α}(h:RowOf sz E W xs l)(j:∀u∈xs,bF g u)(hk:∀p x,W.cell? p=D x->p.block≠g->W'.cell? p=D x):RowOf sz E W' xs l:=by
 refine⟨h.1,λk d=>f.keep (h.2 k d) (λi u c=>?_) hk⟩;split at c
 ·exact j u (List.mem_of_getElem? c)
 ·cases c
theorem RowOf.fresh(c:zec sz E){l:List α}(h:RowOf sz E W xs l):∀u∈xs,bF W.heap.size u:=by
 intro u d;obtain⟨k,i,hk,hi,hx⟩:=oM h.1 d;exact c.fresh (h.2 k hk) i u hi (by rw[if_pos hi];exact hx)
theorem RowOf.one(c:zec sz E){l:List α}(h:RowOf sz E W xs l):∀u∈xs,u.oneCell'=true:=by
 intro u d;obtain⟨k,i,hk,hi,hx⟩:=oM h.1 d;exact c.one (h.2 k hk) i u hi (by rw[if_pos hi];exact hx)
theorem RowOf.ext(c:zec sz E){l:List α}(h:RowOf sz E W xs l)(d:Ext W W'):RowOf sz E W' xs l:=
 h.keep c (h.fresh c) λ_ _ hc _=>d.cell hc
def OwnX(sz:Nat)(E:World->(Nat->Option Value)->α->Prop)(t:TypeId)(w:World)(base:Nat)(v:Value)(l:List α):Prop:=
 ∃xs,w.ownsRow base t sz v l.length xs/\RowOf sz E w xs l/\∀g,v.ownBlock=D g->∀u∈xs,bF g u
theorem OwnX.nil(t:TypeId)(w:World)(base:Nat):OwnX sz E t w base (C none 0 0) []:=⟨[],⟨by simp,.inl ⟨rfl,rfl⟩⟩,RowOf.nil,λg h=>by cases h⟩
theorem OwnX.ext(d:zec sz E){w':World}{base:Nat}{l:List α}(h:OwnX sz E t w base v l)(c:Ext w w'):OwnX sz E t w' base v l:=by
 obtain⟨xs,h1,h2,h3⟩:=h;exact⟨xs,ai h1 c,h2.ext d c,h3⟩
theorem OwnX.base{base base':Nat}{l:List α}(h:OwnX sz E t w base v l)(hb:base'<=base):OwnX sz E t w base' v l:=by
 obtain⟨xs,h1,h2,h3⟩:=h;exact⟨xs,ay h1 hb,h2,h3⟩
theorem OwnX.open_{base:Nat}{l:List α}(h:OwnX sz E t w base v l):∃A c,v=C A l.length c:=by
 obtain⟨xs,h1,_⟩:=h;obtain⟨A,c,rfl,_,_⟩:=xO (xW h1);exact⟨A,c,rfl⟩
theorem me(f:zec sz E){r:Array Oper}{rest:List Oper}{o:Oper}{a:Act}{Q:Exit->Act->World->Prop}(HX:o.guard=none)(s x:Operand)(T:TypeId)(ho:o.op=.call { callee:=.builtin .append,args:=#[s,x],argTypes:=#[T,T] })(t:TypeId)(i:TypeInfo)(z:Value)(bytes:Nat)(Y:Tryz.prog.underlying T=D (.slice t))(hi:Tryz.prog.info? t=D i)(N:i.zero=D z)(R:i.size=sz)(S:i.bytes=bytes)(K3:z.cells.size=sz)(Hu:0<sz)(HW:bytes<=1000)(base:Nat)(v:Value)(l:List α)(hs:a.eval s=v)(Ht:OwnX sz E t w base v l)(vx:Value)(m:List α)(q:List Value)(hx:a.eval x=vx)(Z:SlR w sz vx m.length q)(Hk:RowOf sz E w q m)(L:0<O m)(U:∀g,v.ownBlock=D g->∀u∈q,bF g u)(z:O l+O m<=4000000)(Hf:base<=w.heap.size)(h:∀A c w',OwnX sz E t w' base (C A (O l+O m) c) (l++m)->eP base w w'->w.grownBy w' v.ownBlock->wpList G r Q rest (a.put o.dst (C A (O l+O m) c)) w'):wpList G r Q (o::rest) a w:=by
 obtain⟨xs,h1,h2,h3⟩:=Ht;have V:(O l+O m)*bytes<=140737488355328:=Nat.le_trans (Nat.mul_le_mul z HW) (by decide);obtain⟨r,w',M,X,B⟩:=ep (P:=G) w base T o.type t i _ sz bytes Y hi N R S K3 Hu v l.length xs h1 vx m.length q Z (Hk.one f) (by unfold maxLen;omega) V Hf;have Hb:r.ownBlock=v.ownBlock\/r.ownBlock=D w.heap.size:=by
  obtain⟨hl,A,c,rfl,_,_,hc⟩:=Z;obtain⟨b,H,rfl,r⟩:=hc L;have z:∀j,(⟨b,H,F⟩:Addr).add j=⟨b,H+j,F⟩:=by intro j;unfold Addr.add;split<;>simp_all
  exact mn (P:=G) w base T o.type t i _ sz bytes Y hi N R S v l.length xs h1 ⟨b,H,F⟩ m.length c q hl L (λj u d=>by rw[z];exact r j u d) (Hk.one f) (by unfold maxLen;omega) V M
 have J:∀ {i:List Value} {k:List α},RowOf sz E w i k->(∀g,v.ownBlock=D g->∀u∈i,bF g u)->RowOf sz E w' i k:=by
  intro i k I HU;cases hg:v.ownBlock with
  |none=>
   refine I.keep f (I.fresh f) λp y hc _=>?_;exact(Pi (B.block _ (Ph _ _ hc) (by rw[hg];simp))).trans hc
  |some g=>
   refine I.keep f (HU g hg) λp y hc i=>?_;exact(Pi (B.block _ (Ph _ _ hc) (by rw[hg];simpa using i))).trans hc
 refine wpList_plain HX λK i=>?_;unfold Oper.wp execOp;simp only[ho,resolve,invoke,builtin,Sem.run_bind,Sem.run_pure,Result.andThen_ok,List.map_toArray,Pd,List.map_nil,hs,hx,M];refine i _ _ ?_;obtain⟨A,c,rfl,_,_⟩:=xO (xW X);refine h A c w' ⟨xs++q,?_,(J h2 h3).append (J Hk U),λg hg u d=>?_⟩ (λi i hb=>Ext.grownOwn i (ay h1 hb) B) B
 ·rw[xL];exact X
 ·rcases Hb with hb | hb
  ·rw[hb]at hg;rcases Pa.1 d with d | d
   ·exact h3 g hg u d
   exact U g hg u d
  ·rw[hb]at hg;cases hg;rcases Pa.1 d with d | d
   ·exact h2.fresh f u d
   ·exact Hk.fresh f u d
end
/-! Files -/
def iE(W:World)(c:Nat->Option Value)(p:Fil):Prop:=c 0=D (sv p.1)/\∃u,c 1=D u/\Bs W u p.2
theorem dz:zec 2 iE where
 keep h ha hk:=by
  obtain⟨h1,u,h2,h3⟩:=h;exact⟨h1,u,h2,Bs.away h3 (ha 1 u h2) hk⟩
 fresh h i u hi hu:=by
  obtain⟨h1,v,h2,h3⟩:=h;match i,hi with
  |0,_=>rw[h1]at hu;cases hu;exact da _ _
  |1,_=>rw[h2]at hu;cases hu;exact Bs.fresh h3 (xN _)
 one h i u hi hu:=by
  obtain⟨h1,v,h2,h3⟩:=h;match i,hi with
  |0,_=>rw[h1]at hu;cases hu;rfl
  |1,_=>
   rw[h2]at hu;cases hu;obtain⟨A,c,rfl,_,_⟩:=xO h3;rfl
abbrev OwnF(w:World)(base:Nat)(v:Value)(l:List Fil):Prop:=OwnX 2 iE 68 w base v l
theorem fs_row:Fs W v l↔∃xs,SlR W 2 v l.length xs/\RowOf 2 iE W xs l:=by
 constructor
 ·rintro⟨xs,h1,h2⟩;exact⟨xs,h1,h1.1,λk hk=>by
   obtain⟨h3,u,h4,h5⟩:=h2 k hk;exact⟨h3,u,h4,h5⟩⟩
 ·rintro⟨xs,h1,h2⟩;exact⟨xs,h1,λk hk=>by
   obtain⟨h3,u,h4,h5⟩:=h2.2 k hk;exact⟨h3,u,h4,h5⟩⟩
theorem OwnF.fs{base:Nat}(h:OwnF w base v l):Fs w v l:=by
 obtain⟨xs,h1,h2,_⟩:=h;exact fs_row.2 ⟨xs,xW h1,h2⟩
/-! Operations -/
def OqE(W:World)(c:Nat->Option Value)(o:Oq):Prop:=c 0=D (I .u8 o.k)/\c 1=D (sv o.n)/\c 2=D (sv o.t)/\∃u,c 3=D u/\Bs W u o.b
theorem dy:zec 4 OqE where
 keep h ha hk:=by
  obtain⟨d,h1,h2,u,h3,h4⟩:=h;exact⟨d,h1,h2,u,h3,Bs.away h4 (ha 3 u h3) hk⟩
 fresh h i u hi hu:=by
  obtain⟨d,h1,h2,v,h3,h4⟩:=h;match i,hi with
  |0,_=>rw[d]at hu;cases hu;exact iP _ _ _
  |1,_=>rw[h1]at hu;cases hu;exact da _ _
  |2,_=>rw[h2]at hu;cases hu;exact da _ _
  |3,_=>rw[h3]at hu;cases hu;exact Bs.fresh h4 (xN _)
 one h i u hi hu:=by
  obtain⟨d,h1,h2,v,h3,h4⟩:=h;match i,hi with
  |0,_=>rw[d]at hu;cases hu;rfl
  |1,_=>rw[h1]at hu;cases hu;rfl
  |2,_=>rw[h2]at hu;cases hu;rfl
  |3,_=>
   rw[h3]at hu;cases hu;obtain⟨A,c,rfl,_,_⟩:=xO h4;rfl
abbrev OwnQ(w:World)(base:Nat)(v:Value)(l:List Oq):Prop:=OwnX 4 OqE 98 w base v l
def Qs(W:World)(v:Value)(l:List Oq):Prop:=∃xs,SlR W 4 v l.length xs/\RowOf 4 OqE W xs l
theorem Qs.ext{l:List Oq}(h:Qs W v l)(c:Ext W W'):Qs W' v l:=by
 obtain⟨xs,h1,h2⟩:=h;exact⟨xs,h1.ext c,h2.ext dy c⟩
theorem OwnQ.qs{base:Nat}{l:List Oq}(h:OwnQ w base v l):Qs w v l:=by
 obtain⟨xs,h1,h2,_⟩:=h;exact⟨xs,xW h1,h2⟩
theorem Qs.open_{l:List Oq}(h:Qs W v l):∃A c,v=C A l.length c/\O l<=c/\c<=9223372036854775807:=by
 obtain⟨xs,h1,_⟩:=h;exact xO h1
theorem Qs.at_{A:Option Addr}{m c:Nat}{l:List Oq}(h:Qs W (C A m c) l)(hn:0<O l):m=O l/\∃b f,A=D ⟨b,f,F⟩/\∀(k:Nat) (hk:k<O l),
  W.cell? ⟨b,f+k*4,F⟩=D (I .u8 l[k].k)/\W.cell? ⟨b,f+k*4+1,F⟩=D (sv l[k].n)/\W.cell? ⟨b,f+k*4+2,F⟩=D (sv l[k].t)/\∃B d,W.cell? ⟨b,f+k*4+3,F⟩=D (C B l[k].b.length d)/\Bs W (C B l[k].b.length d) l[k].b:=by
 obtain⟨xs,h1,h2⟩:=h;obtain⟨rfl,b,f,rfl,hc⟩:=SlR.at_ h1 hn;refine⟨rfl,b,f,rfl,λk hk=>?_⟩;obtain⟨i,j,o,u,p,q⟩:=h2.2 k hk;have i:xs[k*4+0]?=D (I .u8 l[k].k):=i;have j:xs[k*4+1]?=D (sv l[k].n):=j;have o:xs[k*4+2]?=D (sv l[k].t):=o;have p:xs[k*4+3]?=D u:=p;obtain⟨B,d,rfl,_,_⟩:=xO q;exact⟨hc _ _ i,by rw[Pr];exact hc _ _ j,by rw[Pr];exact hc _ _ o,B,d,by rw[Pr];exact hc _ _ p,q⟩
/-! Disks -/
def DkV(W:World)(v:Value)(d:Dk):Prop:=∃c f,v=N #[c,f,.int .i64 d.quota,.int .i64 d.fuse,.bool d.dead]/\Fs W c d.fs/\Qs W f d.q
theorem DkV.ext{d:Dk}(h:DkV W v d)(c:Ext W W'):DkV W' v d:=by
 obtain⟨f,i,rfl,h1,h2⟩:=h;exact⟨f,i,rfl,h1.ext c,h2.ext c⟩
open Go.RowKit Go.Mv Go.Shelf
theorem oY(v:Value)(bs:List UInt8)(w:World)(h:Bs w v bs)(hl:O bs<=2000000):Calls G 146 #[v] w λe w'=>∃A c,e=.returned (C A bs.length c)/\OwnB w' w.heap.size (C A bs.length c) bs/\Ext w w':=by
 obtain⟨A,c,rfl,h1,h2⟩:=xO h;have d:=λ(W:World)=>Lib.run_eql_slice_nil (P:=G) W;cases A with
 |none=>
  have hb:bs=[]:=by
   cases d:bs with
   |nil=>rfl
   |cons b l=>
    have:=(SlR.at_ h (by rw[d];simp)).2;obtain⟨_,_,e,_⟩:=this;cases e
  subst hb;go_enter func146,ntmps146
  go_wp2;go_ret;exact⟨_,_,rfl,World.ownsRow_nil _ _ _ _,xR _⟩
 |some a=>
  have d:=L h;go_enter func146,ntmps146
  go_wp2_with (at_builtin;refine eu (.tmp 5) (.tmp 6) rfl w.heap.size _ [] (iI w) _ bs (d.ext (xA (xR _) _)) (by simp) ?_;intro d d f H4 d;have H3:Ext w f:=d w (xA (xR _) _) (xN _);simp only[Pb,Ps,xI]at H4⊢)
  go_ret;exact⟨_,_,rfl,H4,H3⟩
theorem iF{b:Nat}(h:Blk W b t #[a,v]):W.cell? ⟨b,0,F⟩=D a/\W.cell? ⟨b,1,F⟩=D v:=⟨h.cell 0 rfl,h.cell 1 rfl⟩
theorem blk4{b:Nat}(h:Blk W b t #[a,v,u,x]):W.cell? ⟨b,0,F⟩=D a/\W.cell? ⟨b,1,F⟩=D v/\W.cell? ⟨b,2,F⟩=D u/\W.cell? ⟨b,3,F⟩=D x:=⟨h.cell 0 rfl,h.cell 1 rfl,h.cell 2 rfl,h.cell 3 rfl⟩
theorem Mz{b:Nat}(h:Blk W b t #[a,v])(c d:Value):Blk ((W.setCell ⟨b,0,F⟩ c).setCell ⟨b,1,F⟩ d) b t #[c,d]:=(h.set 0 c).set 1 d
theorem MA{b:Nat}(h:Blk W b t #[a,v,u,x])(c f d i:Value):Blk ((((W.setCell ⟨b,0,F⟩ c).setCell ⟨b,1,F⟩ f).setCell ⟨b,2,F⟩ d).setCell ⟨b,3,F⟩ i) b t #[c,f,d,i]:=(((h.set 0 c).set 1 f).set 2 d).set 3 i
theorem AB(h:Ext w W){b:Nat}(hb:w.heap.size<=b)(a v:Value):Ext w ((W.setCell ⟨b,0,F⟩ a).setCell ⟨b,1,F⟩ v):=Pg (p:=⟨b,1,F⟩) (Pg (p:=⟨b,0,F⟩) h hb _) hb _
theorem AC(h:Ext w W){b:Nat}(hb:w.heap.size<=b)(a v u x:Value):Ext w ((((W.setCell ⟨b,0,F⟩ a).setCell ⟨b,1,F⟩ v).setCell ⟨b,2,F⟩ u).setCell ⟨b,3,F⟩ x):=
 Pg (p:=⟨b,3,F⟩) (Pg (p:=⟨b,2,F⟩) (AB h hb a v) hb _) hb _
theorem NW{b:Nat}(f:Blk W b t #[a,v])(d:t≠e){base:Nat}(h:W.ownsRow base e size y k xs)(c j:Value):((W.setCell ⟨b,0,F⟩ c).setCell ⟨b,1,F⟩ j).ownsRow base e size y k xs:=by
 have i:=h.kept (ar _ b 0 c) (.inr (f.not_row d h).symm);exact i.kept (ar _ b 1 j) (.inr ((f.set 0 c).not_row d i).symm)
theorem NX{b:Nat}(j:Blk W b t #[a,v,u,x])(c:t≠e){base:Nat}(i:W.ownsRow base e size y k xs)(d h f p:Value):((((W.setCell ⟨b,0,F⟩ d).setCell ⟨b,1,F⟩ h).setCell ⟨b,2,F⟩ f).setCell ⟨b,3,F⟩ p).ownsRow base e size y k xs:=by
 have o:=i.kept (ar _ b 0 d) (.inr (j.not_row c i).symm);have i:=j.set 0 d;have j:=o.kept (ar _ b 1 h) (.inr (i.not_row c o).symm);have d:=i.set 1 h;have h:=j.kept (ar _ b 2 f) (.inr (d.not_row c j).symm);have i:=d.set 2 f;exact h.kept (ar _ b 3 p) (.inr (i.not_row c h).symm)
theorem ey{b:Nat}{cs:Array Value}(h:Blk W b t cs)(f:t≠e){base j:Nat}(d:W.ownsRow base e size y k xs)(c:Value):(W.setCell ⟨b,j,F⟩ c).ownsRow base e size y k xs:=
 d.kept (ar _ b j c) (.inr (h.not_row f d).symm)
theorem O8:Tryz.prog.underlying 68=D (.struct (Tryz.prog.fieldsOf 68)):=by kernel_rfl
theorem opU:Tryz.prog.underlying 98=D (.struct (Tryz.prog.fieldsOf 98)):=by kernel_rfl
theorem em:Tryz.prog.underlying 25=D (.struct (Tryz.prog.fieldsOf 25)):=by kernel_rfl
theorem NB(tmps:Array Value)(W:World)(b:Nat)(cs:Array Value)(h4:tmps.getD 2 undef=M (D ⟨b,0,F⟩))(hb:Blk W b 68 cs)(hs:cs.size=2):(results Tryz.f105 tmps).run G W=.ok (.agg cs) W:=by
 have hl:=hb.load (P:=G) O8 rfl (by rw[hs];kernel_rfl);have c:tmps[2]?.getD undef=M (D ⟨b,0,F⟩):=by simpa using h4
 simp[results,results105,c,asAddr,hl]
theorem PK(tmps:Array Value)(W:World)(b:Nat)(cs:Array Value)(h4:tmps.getD 2 undef=M (D ⟨b,0,F⟩))(hb:Blk W b 98 cs)(hs:cs.size=4):(results Tryz.f107 tmps).run G W=.ok (.agg cs) W:=by
 have hl:=hb.load (P:=G) opU rfl (by rw[hs];kernel_rfl);have c:tmps[2]?.getD undef=M (D ⟨b,0,F⟩):=by simpa using h4
 simp[results,results107,c,asAddr,hl]
theorem NA(n:List UInt8)(v:Value)(b:List UInt8)(w:World)(s:Bs w v b)(hl:O b<=2000000):Calls G 105 #[N #[sv n,v]] w λe w'=>∃A c,e=.returned (N #[sv n,C A b.length c])/\OwnB w' w.heap.size (C A b.length c) b/\Ext w w':=by
 obtain⟨A,c,rfl,_,_⟩:=xO s;have I:=(Blk.new w 68 #[sv n,C A b.length c]).alloc (J #[sv [],C none 0 0] 68);have q:=Blk.new (w.alloc (J #[sv n,C A b.length c] 68)) 68 #[sv [],C none 0 0];rw[xS]at q;have z:Ext w ((w.alloc (J #[sv n,C A b.length c] 68)).alloc (J #[sv [],C none 0 0] 68)):=xA (xA (xR _) _) _;have B:=L (s.ext z);have f:=L z;have H0:=L I;have d:=L q;unfold sv at *;obtain⟨i,j⟩:=iF H0;go_enter func105,ntmps105
 go_wp2_with fail
 refine wp_region_held_drew (S:=λW=>W.cell? ⟨w.heap.size,0,F⟩=D (H ⟨n.toArray⟩)/\W.cell? ⟨w.heap.size,1,F⟩=D (C A b.length c)) (by kernel_rfl) ⟨i,j⟩ (λ_=>?_);refine ab 0 ?_;refine ab 1 ?_;refine ab 2 ?_;refine ab 3 ?_;refine ah 4 (λK o=>?_);go_simp;refine(oY _ b _ (Bs.ext B (xD (xR _))) hl).mono ?_;rintro e M⟨p,r,rfl,H4,q⟩;have H3:=xT (xD (xR _)) q;obtain⟨i,j⟩:=iF (H0.ext H3);obtain⟨q,q⟩:=iF (d.ext H3);have q:=(d.ext H3).frozen 0;have q:=(d.ext H3).frozen 1;refine af o _ _ ⟨i,j⟩ (λ_=>?_);refine ab 5 ?_;refine ah 6 (λK o=>?_);go_simp;have j:=Mz (d.ext H3) (H ⟨n.toArray⟩) (C p b.length r);have i:=((H0.ext H3).other (by omega:w.heap.size≠w.heap.size+1) 0 (H ⟨n.toArray⟩)).other (by omega:w.heap.size≠w.heap.size+1) 1 (C p b.length r);refine af o _ _ (iF i) (λ_=>?_);refine aq ?_;go_wp2_with fail
 refine bodyPost_ret (NB _ _ _ _ rfl j rfl) rfl ?_;have i:w.heap.size<=M.heap.size:=(xT f H3).size;refine⟨_,_,rfl,ay (NW (d.ext H3) (by decide) H4 _ _) (by have:=f.size;exact this),AB (xT f H3) (Pv _) _ _⟩
theorem su(o:Oq)(v:Value)(w:World)(j:Bs w v o.b)(hl:O o.b<=2000000):Calls G 107 #[N #[I .u8 o.k,sv o.n,sv o.t,v]] w λe w'=>∃A c,e=.returned (N #[I .u8 o.k,sv o.n,sv o.t,C A o.b.length c])/\OwnB w' w.heap.size (C A o.b.length c) o.b/\Ext w w':=by
 obtain⟨A,c,rfl,_,_⟩:=xO j;obtain⟨k,n,t,b⟩:=o;dsimp only at *;have z:=(Blk.new w 98 #[I .u8 k,sv n,sv t,C A b.length c]).alloc (J #[I .u8 0,sv [],sv [],C none 0 0] 98);have d:=Blk.new (w.alloc (J #[I .u8 k,sv n,sv t,C A b.length c] 98)) 98 #[I .u8 0,sv [],sv [],C none 0 0];rw[xS]at d;have q:Ext w ((w.alloc (J #[I .u8 k,sv n,sv t,C A b.length c] 98)).alloc (J #[I .u8 0,sv [],sv [],C none 0 0] 98)):=xA (xA (xR _) _) _;have s:=L (j.ext q);have h:=L q;have H0:=L z;have r:=L d;unfold sv at *;have B:=blk4 H0;go_enter func107,ntmps107
 go_wp2_with fail
 refine(oY _ b _ s hl).mono ?_;rintro e d⟨f,i,rfl,H4,H3⟩;have d:=H0.ext H3;have h1:=r.ext H3;have B:=blk4 d;have j:=blk4 h1;have j:=d.frozen 3;have j:=h1.frozen 0;have j:=h1.frozen 1;have j:=h1.frozen 2;have j:=h1.frozen 3;have s:=L d;have r:=L h1;have q:=L H4;have j:=L H3;go_wp2_with fail
 have d:=r.other (show w.heap.size+1≠w.heap.size by omega) 3 (C f b.length i);have r:=MA d (I .u8 k) (H ⟨n.toArray⟩) (H ⟨t.toArray⟩) (C f b.length i);refine bodyPost_ret (PK _ _ _ _ rfl r rfl) rfl ?_;refine⟨_,_,rfl,ay (NX d (by decide) (ey s (by decide) q _) _ _ _ _) (by have:=h.size;exact this),AC (Pg (p:=⟨w.heap.size,3,F⟩) (xT h j) (xN _) _) (Pv _) _ _ _ _⟩
theorem sc:(Tryz.prog.info? 68).map (λi=>(i.zero,i.size,i.bytes))=D (some (N #[H ⟨#[]⟩,C none 0 0]),2,40):=by kernel_rfl
theorem mR:(Tryz.prog.info? 98).map (λi=>(i.zero,i.size,i.bytes))=D (some (N #[I .u8 0,H ⟨#[]⟩,H ⟨#[]⟩,C none 0 0]),4,64):=by kernel_rfl
theorem sw{α:Type}{E:World->(Nat->Option Value)->α->Prop}{base:Nat}{l:List α}(h:OwnX sz E t w base v l)(hg:v.ownBlock=D g):g<w.heap.size:=by
 obtain⟨xs,h1,_⟩:=h;rcases h1.2 with⟨rfl,_⟩|⟨c,cap,c,rfl,_,d,_⟩
 ·cases hg
 ·cases hg;exact(Array.getElem?_eq_some_iff.1 d).1
theorem rz(h:Bs W u b):RowOf 2 iE W [sv n,u] [(n,b)]:=by
 refine⟨rfl,λk hk=>?_⟩;obtain rfl:k=0:=by simpa using hk
 exact⟨rfl,u,rfl,h⟩
theorem ip{o:Oq}(h:Bs W u o.b):RowOf 4 OqE W [I .u8 o.k,sv o.n,sv o.t,u] [o]:=by
 refine⟨rfl,λk hk=>?_⟩;obtain rfl:k=0:=by simpa using hk
 exact⟨rfl,rfl,rfl,u,rfl,h⟩
theorem fu(W:World)(cs:List Value)(t:TypeId)(sz:Nat){n:Nat}(hn:W.heap.size=n)(hs:cs.length=1*sz:=by exact rfl):SlR (W.alloc (J cs.toArray t)) sz (C (D ⟨n,0,F⟩) 1 1) 1 cs:=by
 subst hn;refine⟨hs,_,_,rfl,xN _,by simp[maxLen],λ_=>⟨_,_,rfl,λj u hu=>?_⟩⟩;rw[Ps];exact(Blk.new W t cs.toArray).cell j (by simpa using hu)
theorem rV(v:Value)(fs:List Fil)(w:World)(z:Fs w v fs)(hl:O fs<=2000000)(B:∀f∈fs,O f.2<=2000000):Calls G 104 #[v,.func (.func 105) #[] #[]] w λe w'=>∃A c,e=.returned (C A fs.length c)/\OwnF w' w.heap.size (C A fs.length c) fs/\Ext w w':=by
 obtain⟨A,c,rfl,_,_⟩:=Fs.open_ z;have K:=L z;have S:=L B;clear z B;obtain⟨i0,hi,X,Y,Z⟩:=info_parts sc;go_enter func104,ntmps104
 go_wp2_with fail
 go_loopw [4,9] (λz i wr=>∃k:Nat,k<=O fs/\i=.int .i64 k/\(∃A' c',z=C A' k c')/\Hid (OwnF wr w.heap.size z (fs.take k))/\Ext w wr) (λ_ i _=>O fs-(intOf i).toNat)
 case atStart=>exact⟨0,Nat.zero_le _,rfl,⟨_,_,rfl⟩,OwnX.nil _ _ _,xR _⟩
 case round=>
  obtain⟨k,hk,rfl,⟨A',c',rfl⟩,s,p⟩:=hrel;by_cases h:k<O fs
  ·obtain⟨_,b,z,rfl,hc⟩:=(K.ext p).at_ (by omega);obtain⟨I,z,N,B,K⟩:=hc k h;have V:=S _ (List.getElem_mem h);have B:fs.take (k+1)=fs.take k++[fs[k]]:=List.take_succ_eq_append_getElem h;have U:=L B;have h:O (fs.take k)=k:=by rw[List.length_take];omega
   have q:=L h;have S:=L K;clear hc B h K;generalize fs[k]=x at *;obtain⟨n,d⟩:=x;dsimp only at *;have Hq:Ext wr (wr.alloc (J #[sv n,C z d.length N] 68)):=xA (xR _) _;have h:=Blk.new wr 68 #[sv n,C z d.length N];have z:=NA n _ d _ (Bs.ext S Hq) V;have HC:=L z;have HQ:=L Hq;obtain⟨Q,R⟩:=iF h;clear z Hq h;simp only[sv]at I Q R HC⊢;go_wp2_with fail
   refine HC.mono ?_;rintro e P⟨j,o,rfl,H4,H3⟩;have M:=L H4;have F:=xT HQ H3;have r:Ext wr (P.alloc (J #[H ⟨n.toArray⟩,C j d.length o] 68)):=xA F _;have T:=L (OwnX.ext dz s r);have Hx:∀g,(Value.slice A' k c').ownBlock=D g->∀u∈[H ⟨n.toArray⟩,C j d.length o],bF g u:=by
    intro g hg u h;have z:=sw s hg;simp only[P0,List.not_mem_nil,or_false]at h;rcases h with rfl | rfl
    ·exact da _ n
    exact M.away (by simp;omega)
   have z:=L Hx;have h:=L r;clear Hx H4 H3 F r Q R  I;go_wp2_with (at_builtin;refine me dz rfl (.tmp 13) (.tmp 17) 22 rfl 68 i0 _ 40 underlying22 hi X Y Z rfl (by decide) (by decide) w.heap.size _ (fs.take k) rfl T _ [(n,d)] [H ⟨n.toArray⟩,C j d.length o] rfl (fu P [H ⟨n.toArray⟩,C j d.length o] 68 2 rfl) (rz (n:=n) (Bs.ext M.bs (xA (xR _) _))) (by simp) z (by rw[q.out];simp;omega) (xT p h).size ?_;intro d d d d j o;rw[<-U.out,q.out]at d;simp only[q.out,xC,Pb,Ps]at d⊢;have o:=j w (xT p h) (xN _))
   go_roundw
   case rel=>exact⟨k+1,by omega,by go_num,⟨_,_,rfl⟩,d,o⟩
   case measure=>simp[intOf];omega
  ·go_wp2_with fail
   go_ret;obtain rfl:k=O fs:=by omega
   have:=s.out;rw[List.take_length]at this;exact⟨_,_,rfl,this,p⟩
