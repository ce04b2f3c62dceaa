/- Merged -/
import Derived.Test.YteggfecbjgbndaaGreatDoorZy3
import Derived.RangeFuncRecord
import Derived.MapKept
import Derived.Deep.RegionHeld3
set_option linter.all false
set_option maxHeartbeats 8000000
set_option maxRecDepth 100000
open Go.Proofs.Tryz
open List renaming length->O
open Go.Value renaming int->B,slice->G,bool->J,agg->N
open Go.IntKind renaming i64->C,u8->M
open Go.Proofs.Tryz renaming prog->D
open Option renaming some->F,none->I
open Go.Obj renaming cells->H
open Go.Mv renaming aN->L
open Go.World renaming ownsRow_nil->P0,alloc_heap_new->P1
open List renaming drop_eq_getElem_cons->P2,take_succ_eq_append_getElem->P3,drop_of_length_le->P4,take_of_length_le->P5,length_drop->P6,getElem_mem->P7,eq_nil_of_length_eq_zero->P8,getElem?_eq_getElem->P9,push_toArray->Pa,all_eq_false->Pb,cons_append->Pc,all_append->Pd
open Go.Instr renaming findNow->Pe,lookup->Pf,mapUpdate->Pg,findKey->Ph
open Nat renaming zero_le->Pi,pow_le_pow_right->Pj,lt_of_lt_of_le->Pk,reduceAdd->Pl,pow_succ->Pm,le_trans->Pn
open UInt8 renaming ofNat->Po,toNat_inj->Pp
open Go.Mv.SlR renaming len_le->Pq,at_->Pr,ext->Ps
namespace Go.Mv
open Go.RowKit
variable {E K T:TypeId}
theorem mcMapsa0{P:Prop}(h:P:=by
 have Hf:(getObj r).run P w=.ok (.map es c) w:=MapKept.run_getObj_map hr;unfold Pf;cases f with
 |none=>simp[Sem.run_bind,run_underlying hT,Hf,pz _ k n _ hK,pC _ k n es.toList none hK hf,hz,go_sem]
 |some p=>simp[Sem.run_bind,run_underlying hT,Hf,pz _ k n _ hK,pC _ k n es.toList (some p) hK hf,go_sem]):P:=h
variable {P:Program}
theorem pz(w:World)(k:IntKind)(n:Int)(b:Bool)(a:P.underlying K=F (.int k)):
  (Instr.checkKey b 10000 K (.int k n)).run P w=.ok () w:=
 MapKept.run_checkKey (k:=.int k n) a (show k=k from rfl) b 9999
theorem pC(w:World)(k:IntKind)(n:Int)(es:List MapEntry)(r:Option (Nat×Value))(a:P.underlying K=F (.int k))(hf:Pe (.int k) (.int k n) es 0=F r):(Ph K (.int k n) es).run P w=.ok r w:=by
 simp[Ph,run_underlying a,go_sem,hf]
theorem Ed(w:World)(o a:Obj):(w.alloc o).putObj w.heap.size a=w.alloc a:=by
 have h:(w.heap.push o).setIfInBounds w.heap.size a=w.heap.push a:=by
  apply Array.ext_getElem?;intro i;rw[Array.getElem?_setIfInBounds,Array.getElem?_push,Array.getElem?_push];split<;>rename_i h
  ·subst h;simp
  rw[if_neg (λe=>h e.symm),if_neg (λe=>h e.symm)]
 show({ (w.alloc o)with heap:=(w.heap.push o).setIfInBounds w.heap.size a }:World) = { w with heap:=w.heap.push a };rw[h];rfl
theorem nP(w:World)(k:IntKind)(e:P.underlying T=F (.map K E))(a:P.underlying K=F (.int k))(es:Array MapEntry)(c:Nat)(n:Int)(v:Value)(hn:Pe (.int k) (.int k n) es.toList 0=F none):
  (Pg T (.map (some w.heap.size)) (.int k n) v).run P (w.alloc (.map es c))=.ok () (w.alloc (.map (es.push { key:=.int k n,val:=v,born:=c }) (c+1))):=by
 have d:(getObj w.heap.size).run P (w.alloc (.map es c))=.ok (.map es c) (w.alloc (.map es c)):=MapKept.run_getObj_map (P1 _ _);have b:∀o,(setObj w.heap.size o).run P (w.alloc (.map es c))=.ok () ((w.alloc (.map es c)).putObj w.heap.size o):=λo=>MapKept.run_setObj_map o (P1 _ _);unfold Pg;simp only[Sem.run_bind,run_underlying e,Result.andThen_ok,d,pz _ k n false a,pC _ k n es.toList none a hn,b,Ed]
theorem tE(w:World)(k:IntKind)(hT:P.underlying T=F (.map K E))(hK:P.underlying K=F (.int k)){r:Nat}(es:Array MapEntry)(c:Nat)(n:Int)(z:Value)(hz:(zeroValue E).run P w=.ok z w)(hr:w.heap[r]?=F (.map es c))(f:Option (Nat×Value))(hf:Pe (.int k) (.int k n) es.toList 0=F f):
  (Pf T (.map (some r)) (.int k n) true).run P w=.ok (.tuple #[(f.map (·.2)).getD z,J f.isSome]) w:=by
 exact mcMapsa0
theorem tr(w:World)(k:IntKind)(hT:P.underlying T=F (.map K E))(hK:P.underlying K=F (.int k)){r:Nat}(es:Array MapEntry)(c:Nat)(n:Int)(z:Value)(hz:(zeroValue E).run P w=.ok z w)(hr:w.heap[r]?=F (.map es c))(f:Option (Nat×Value))(hf:Pe (.int k) (.int k n) es.toList 0=F f):
  (Pf T (.map (some r)) (.int k n) false).run P w=.ok ((f.map (·.2)).getD z) w:=by
 exact mcMapsa0
end Go.Mv

namespace Go.Proofs.YteggfecbjgbndaaGreatDoor
open Go.RowKit Go.Mv
variable {l:List Int} {c k m:Nat} {A:Option Addr} {w:World}
def aB(n:Int):Bool:=decide (0<=n/\n<=1073741824)
theorem Dm(n:Int)(w:World):
  Calls D 161 #[B C n] w λe w'=>e=.returned (J (aB n))/\w=w':=by
 by_cases a:0<=n
 ·by_cases h1:n<=1073741824
  ·go_enter func161,ntmps161
   go_wp2;go_ret;exact⟨by simp[aB,a,h1],rfl⟩
  go_enter func161,ntmps161
  go_wp2;go_ret;exact⟨by simp[aB,a,h1],rfl⟩
 ·go_enter func161,ntmps161
  go_wp2;go_ret;exact⟨by simp[aB];omega,rfl⟩
theorem tK(n:Int)(w:World):
  Calls D 207 #[B C n] w λe w'=>e=.returned (J (aB n))/\w=w':=by
 by_cases a:0<=n
 ·by_cases h1:n<=1073741824
  ·go_enter func207,ntmps207
   go_wp2;go_ret;exact⟨by simp[aB,a,h1],rfl⟩
  go_enter func207,ntmps207
  go_wp2;go_ret;exact⟨by simp[aB,a,h1],rfl⟩
 ·go_enter func207,ntmps207
  go_wp2;go_ret;exact⟨by simp[aB];omega,rfl⟩
theorem ret_bool{a b:Bool}(h:a=b):Ending.returned (J a)=.returned (J b):=by rw[h]
structure Ent where
 t:Int
 k:Int
 v:Int
deriving DecidableEq
def Ent.val(e:Ent):Value:=N #[B C e.t,B C e.k,B C e.v]
def Ent.cells(e:Ent):List Value:=[B C e.t,B C e.k,B C e.v]
def Ent.okP(t k v:Int):Prop:=1<=t/\t<=1073741824/\0<=k/\k<5/\0<=v/\v<=1073741824/\(k=1\/v=0)
instance (t k v:Int):Decidable (Ent.okP t k v):=by unfold Ent.okP;infer_instance
def okB(t k v:Int):Bool:=decide (Ent.okP t k v)
def Ent.ok(e:Ent):Bool:=okB e.t e.k e.v
theorem okB_true{t k v:Int}:okB t k v=true↔Ent.okP t k v:=by simp[okB]
theorem numB_true{n:Int}:aB n=true↔(0<=n/\n<=1073741824):=by simp[aB]
theorem pT(t k v:Int)(w:World):
  Calls D 95 #[N #[B C t,B C k,B C v]] w λe w'=>e=.returned (J (okB t k v))/\Below w.heap.size w w':=by
 go_enter func95,ntmps95
 go_wp2_with (go_at_call 161;refine(Dm _ _).mono ?_;rintro e w' ⟨rfl,rfl⟩)
 all_goals go_ret
 all_goals refine⟨ret_bool ?_,(Below.refl _ _).alloc (xN _) _⟩
 all_goals (try simp only[numB_true]at *)
 all_goals (rw[Bool.eq_iff_iff,okB_true];unfold Ent.okP;simp;try omega)
def deedsMap:Array MapEntry:=#[{ key:=B C 0,val:=.func (.func 244) #[] #[],born:=0 },{ key:=B C 1,val:=.func (.func 245) #[] #[],born:=1 },
 { key:=B C 2,val:=.func (.func 246) #[] #[],born:=2 },{ key:=B C 3,val:=.func (.func 247) #[] #[],born:=3 },
 { key:=B C 4,val:=.func (.func 248) #[] #[],born:=4 }]
theorem nD(w:World)(es:Array MapEntry)(c:Nat)(n:Int)(v:Value)(hn:Pe (.int .i64) (B C n) es.toList 0=F none):
  (Pg 254 (.map (some w.heap.size)) (B C n) v).run D (w.alloc (.map es c))=.ok () (w.alloc (.map (es.push { key:=B C n,val:=v,born:=c }) (c+1))):=
 nP w .i64 underlying254 underlying3 es c n v hn
theorem LT(w:World):
  Calls D 209 #[] w λe w'=>e=.returned (.map (some w.heap.size))/\w.alloc (.map deedsMap 5)=w':=by
 have KD:=@run_makeMap D;have a:=nD w #[] 0 0 (.func (.func 244) #[] #[]) rfl;have h1:=nD w #[{ key:=B C 0,val:=.func (.func 244) #[] #[],born:=0 }] 1 1 (.func (.func 245) #[] #[]) rfl;have h2:=nD w #[{ key:=B C 0,val:=.func (.func 244) #[] #[],born:=0 },{ key:=B C 1,val:=.func (.func 245) #[] #[],born:=1 }] 2 2 (.func (.func 246) #[] #[]) rfl;have h3:=nD w #[{ key:=B C 0,val:=.func (.func 244) #[] #[],born:=0 },{ key:=B C 1,val:=.func (.func 245) #[] #[],born:=1 },{ key:=B C 2,val:=.func (.func 246) #[] #[],born:=2 }] 3 3 (.func (.func 247) #[] #[]) rfl;have h4:=nD w #[{ key:=B C 0,val:=.func (.func 244) #[] #[],born:=0 },{ key:=B C 1,val:=.func (.func 245) #[] #[],born:=1 },{ key:=B C 2,val:=.func (.func 246) #[] #[],born:=2 },{ key:=B C 3,val:=.func (.func 247) #[] #[],born:=3 }] 4 4 (.func (.func 248) #[] #[]) rfl;simp only[Pa,xI,Pc,Pl]at a h1 h2 h3 h4;go_enter func209,ntmps209
 go_wp2;go_ret;exact⟨rfl,rfl⟩
theorem De(k:Int):∃f,Pe (.int .i64) (B C k) deedsMap.toList 0=F f/\f.isSome=decide (0<=k/\k<5):=by
 by_cases a:k=0
 ·subst a;exact⟨_,rfl,rfl⟩
 by_cases h1:k=1
 ·subst h1;exact⟨_,rfl,rfl⟩
 by_cases h2:k=2
 ·subst h2;exact⟨_,rfl,rfl⟩
 by_cases h3:k=3
 ·subst h3;exact⟨_,rfl,rfl⟩
 by_cases h4:k=4
 ·subst h4;exact⟨_,rfl,rfl⟩
 refine⟨none,?_,?_⟩
 ·have b:(k==0)=false:=by simp[a]
  have e1:(k==1)=false:=by simp[h1]
  have e2:(k==2)=false:=by simp[h2]
  have e3:(k==3)=false:=by simp[h3]
  have a:(k==4)=false:=by simp[h4]
  simp[deedsMap,Pe,Instr.sameNow,b,e1,e2,e3,a]
 ·simp;omega
def sF(k:Int):Bool:=decide (0<=k/\k<5)
theorem CG(k:Int):∃v,∀(W:World) (r:Nat),W.heap[r]?=F (.map deedsMap 5) ->
  (Pf 254 (.map (some r)) (B C k) true).run D W=.ok (.tuple #[v,J (sF k)]) W:=by
 obtain⟨f,hf,hb⟩:=De k;refine⟨(f.map (·.2)).getD .nilFunc,λW r h=>?_⟩;have:=tE (P:=D) W .i64 underlying254 underlying3 deedsMap 5 k .nilFunc (by kernel_rfl) h f hf;rw[this,hb];rfl
theorem mI(t k v:Int)(w:World):
  Calls D 156 #[N #[B C t,B C k,B C v]] w λe w'=>e=.returned (J (okB t k v))/\Below w.heap.size w w':=by
 obtain⟨a,hl⟩:=CG k;have a:=hl (((w.alloc (H #[B C t,B C k,B C v] 54)).alloc (.map deedsMap 5)).drew) (w.heap.size+1) (by
  have:=P1 (w.alloc (H #[B C t,B C k,B C v] 54)) (.map deedsMap 5);rwa[xS]at this)
 go_enter func156,ntmps156
 go_wp2_with fail
 go_region_held3 (λw'=>w'.cell? ⟨w.heap.size,0,I⟩=F (B C t)/\w'.cell? ⟨w.heap.size,1,I⟩=F (B C k)/\w'.cell? ⟨w.heap.size,2,I⟩=F (B C v)) (first|go_keep)
  (first|(go_at_call 209;refine(LT _).mono ?_;rintro e w' ⟨rfl,rfl⟩))
 go_wp2_with (go_at_call 207;refine(tK _ _).mono ?_;rintro e w' ⟨rfl,rfl⟩)
 all_goals go_ret
 all_goals refine⟨ret_bool ?_,(((Below.refl _ _).alloc (xN _) _).alloc (by simp) _).drew⟩
 all_goals (try simp only[numB_true,sF,decide_eq_true_eq]at *)
 all_goals (rw[Bool.eq_iff_iff,okB_true];unfold Ent.okP;simp[sF];try omega)
def ax(es:List Ent):List Value:=es.flatMap Ent.cells
def Es(w:World)(v:Value)(es:List Ent):Prop:=SlR w 3 v es.length (ax es)
theorem Es.ext{w':World}{v:Value}{es:List Ent}(h:Es w v es)(he:Ext w w'):Es w' v es:=Ps h he
theorem pQ(es:List Ent)(k:Nat)(h:k<O es)(i:Nat)(a:i<3):(ax es)[k*3+i]?=es[k].cells[i]?:=by
 induction es generalizing k with
 |nil=>simp at h
 |cons e es ih=>
  rw[show ax (e::es)=e.cells++ax es from rfl];have hl:O e.cells=3:=rfl;cases k with
  |zero=>rw[List.getElem?_append_left (by omega)];simp
  |succ k=>
   rw[List.getElem?_append_right (by omega),hl,show(k+1)*3+i-3=k*3+i from by omega];simpa using ih k (by simpa using h)
theorem Es.at_{es:List Ent}(h:Es w (G A m c) es)(hn:0<O es):m=O es/\∃b a,A=F ⟨b,a,I⟩/\∀(k:Nat) (d:k<O es),
  w.cell? ⟨b,a+k*3,I⟩=F (B C es[k].t)/\w.cell? ⟨b,a+k*3+1,I⟩=F (B C es[k].k)/\w.cell? ⟨b,a+k*3+2,I⟩=F (B C es[k].v):=by
 obtain⟨rfl,b,a,rfl,hc⟩:=Pr h hn;refine⟨rfl,b,a,rfl,λk d=>⟨?_,?_,?_⟩⟩
 ·exact hc (k*3) _ (pQ es k d 0 (by omega))
 ·exact hc (k*3+1) _ (pQ es k d 1 (by omega))
 ·exact hc (k*3+2) _ (pQ es k d 2 (by omega))
theorem FF(t k v:Int)(w:World):
  Calls D 367 #[N #[B C t,B C k,B C v]] w λe w'=>e=.returned (J (!okB t k v))/\Below w.heap.size w w':=by
 go_enter func367,ntmps367
 go_wp2_with (go_at_call 156;refine(mI _ _ _ _).mono ?_;rintro e w' ⟨rfl,hb⟩)
 go_ret;exact⟨rfl,((Below.refl _ _).alloc (xN _) _).trans (hb.mono (by simp))⟩
def fB:List Ent->Nat->Int
 |[],_=>-1
 |e::es,i=>if e.ok then fB es (i+1)else i
theorem C9(v:Value)(es:List Ent)(w:World)(h:Es w v es):
  Calls D 372 #[v,.func (.func 367) #[] #[]] w λe w'=>e=.returned (B C (fB es 0))/\Below w.heap.size w w':=by
 obtain⟨A,c,rfl,h1,h2⟩:=xO h;have hm:=Pq h;unfold maxLen at hm;go_enter func372,ntmps372
 go_wp2_with fail
 go_loopw [8] (λi wr=>∃k:Nat,k<=O es/\i=B C k/\Hid (fB es 0=fB (es.drop k) k)/\Below w.heap.size w wr) (λi _=>O es-(intOf i).toNat)
 case atStart=>exact⟨0,Pi _,rfl,rfl,Below.refl _ _⟩
 case round=>
  obtain⟨k,g,rfl,f,a⟩:=hrel;by_cases d:k<O es
  ·obtain⟨_,b,g,rfl,hc⟩:=Es.at_ (h.ext a) (by omega);obtain⟨g,g,g⟩:=hc k d;go_wp2_with (go_at_call 367;refine(FF _ _ _ _).mono ?_;rintro e w' ⟨rfl,hb⟩)
   ·go_ret;have Hl:es[k].ok=false:=by simpa[Ent.ok]using(by assumption:(!okB es[k].t es[k].k es[k].v)=true)
    refine⟨nj ?_,a.trans (hb.mono a.size)⟩;rw[f.out,P2 d,fB,Hl];simp
   go_roundw
   case rel=>
    have g:es[k].ok=true:=by simpa[Ent.ok]using(by assumption:(!okB es[k].t es[k].k es[k].v)=false)
    exact⟨k+1,by omega,by go_num,by rw[f.out,P2 d,fB,g];simp[Hid],a.trans (hb.mono a.size)⟩
   case measure=>simp[intOf];omega
  ·go_wp2_with fail
   go_ret;refine⟨nj ?_,a⟩;rw[f.out,P4 (by omega)];rfl
def bQ(es:List Ent):Bool:=es.all Ent.ok
theorem DE(es:List Ent)(i:Nat):(0<=fB es i↔bQ es=false)/\-1<=fB es i:=by
 induction es generalizing i with
 |nil=>simp[fB,bQ]
 |cons e es ih=>
  have:=ih (i+1);cases h:e.ok<;>simp[fB,bQ,h]at this⊢<;>first | omega | simpa[bQ]using this | skip
theorem CL(v:Value)(es:List Ent)(w:World)(h:Es w v es):
  Calls D 366 #[v,.func (.func 367) #[] #[]] w λe w'=>e=.returned (J (!bQ es))/\Below w.heap.size w w':=by
 obtain⟨h1,h2⟩:=DE es 0;have H1:=L h1;go_enter func366,ntmps366
 go_wp2_with (go_at_call 372;refine(C9 _ _ _ h).mono ?_;rintro e w' ⟨rfl,hb⟩)
 go_ret;refine⟨ret_bool ?_,hb⟩;have:=H1.out;cases h:bQ es<;>simp[h]at this⊢<;>omega
theorem Ng(v:Value)(es:List Ent)(w:World)(h:Es w v es):
  Calls D 361 #[v] w λe w'=>e=.returned (J (!bQ es))/\Below w.heap.size w w':=by
 go_enter func361,ntmps361
 go_wp2_with (go_at_call 366;refine(CL _ _ _ h).mono ?_;rintro e w' ⟨rfl,hb⟩)
 go_ret;exact⟨rfl,hb⟩
theorem FD{es:List Ent}(a:k<O es)(h:bQ (es.take k)=true):bQ (es.take (k+1))=es[k].ok:=by
 rw[P3 a];simp only[bQ,Pd]at h⊢;rw[h];simp
theorem D8{es:List Ent}(a:k<O es)(h:es[k].ok=false):bQ es=false:=by
 simp only[bQ,Pb];exact⟨es[k],P7 a,by simp[h]⟩
theorem AE(v:Value)(es:List Ent)(w:World)(h:Es w v es):
  Calls D 290 #[v] w λe w'=>e=.returned (J (bQ es))/\Below w.heap.size w w':=by
 obtain⟨A,c,rfl,h1,h2⟩:=xO h;have hm:=Pq h;unfold maxLen at hm;go_enter func290,ntmps290
 go_wp2_with fail
 go_loopw [3] (λi wr=>∃k:Nat,k<=O es/\i=B C k/\Hid (bQ (es.take k)=true)/\Below w.heap.size w wr) (λi _=>O es-(intOf i).toNat)
 case atStart=>exact⟨0,Pi _,rfl,rfl,Below.refl _ _⟩
 case round=>
  obtain⟨k,g,rfl,f,a⟩:=hrel;by_cases d:k<O es
  ·obtain⟨_,b,g,rfl,hc⟩:=Es.at_ (h.ext a) (by omega);obtain⟨g,g,g⟩:=hc k d;go_wp2_with (go_at_call 95;refine(pT _ _ _ _).mono ?_;rintro e w' ⟨rfl,hb⟩)
   ·go_ret;have Hl:es[k].ok=false:=by simpa[Ent.ok]using(by assumption:(!okB es[k].t es[k].k es[k].v)=true)
    exact⟨ret_bool (D8 d Hl).symm,a.trans (hb.mono a.size)⟩
   go_roundw
   case rel=>
    have g:es[k].ok=true:=by simpa[Ent.ok]using(by assumption:(!okB es[k].t es[k].k es[k].v)=false)
    exact⟨k+1,by omega,by go_num,(FD d f.out).trans g,a.trans (hb.mono a.size)⟩
   case measure=>simp[intOf];omega
  ·go_wp2_with fail
   go_ret;refine⟨ret_bool ?_,a⟩;have:=f.out;rw[P5 (by omega)]at this;exact this.symm
def aG(l:List Int):Bool:=l.all aB
def aF(l:List Int):List UInt8:=l.flatMap λn=>cO n.toNat
theorem Is.at_(h:Is w (G A m c) l)(hn:0<O l):m=O l/\∃b a,A=F ⟨b,a,I⟩/\∀(k:Nat) (d:k<O l),w.cell? ⟨b,a+k,I⟩=F (B C l[k]):=by
 obtain⟨rfl,b,a,rfl,hc⟩:=Pr h hn;exact⟨rfl,b,a,rfl,λk d=>hc k _ (by simp[P9 d,iv])⟩
theorem IC(n:Int)(w:World):
  Calls D 235 #[B C n] w λe w'=>e=.returned (J (!aB n))/\w=w':=by
 by_cases a:n<0
 ·go_enter func235,ntmps235
  go_wp2;go_ret;exact⟨ret_bool (by simp[aB];omega),rfl⟩
 ·by_cases h1:n>1073741824
  ·go_enter func235,ntmps235
   go_wp2;go_ret;exact⟨ret_bool (by simp[aB];omega),rfl⟩
  ·go_enter func235,ntmps235
   go_wp2;go_ret;exact⟨ret_bool (by simp[aB];omega),rfl⟩
def fA:List Int->Nat->Int
 |[],_=>-1
 |n::l,i=>if aB n then fA l (i+1)else i
theorem CQ(v:Value)(l:List Int)(w:World)(h:Is w v l):
  Calls D 279 #[v,.func (.func 235) #[] #[]] w λe w'=>e=.returned (B C (fA l 0))/\w=w':=by
 obtain⟨A,c,rfl,h1,h2⟩:=xO h;have hm:=Pq h;unfold maxLen at hm;go_enter func279,ntmps279
 go_wp2_with fail
 go_loop [8] (λi=>∃k:Nat,k<=O l/\i=B C k/\Hid (fA l 0=fA (l.drop k) k)) (λi=>O l-(intOf i).toNat)
 case atStart=>exact⟨0,Pi _,rfl,rfl⟩
 case round=>
  obtain⟨k,f,rfl,d⟩:=hrel;by_cases a:k<O l
  ·obtain⟨_,b,f,rfl,hc⟩:=Is.at_ h (by omega);have f:=hc k a;go_wp2_with (go_at_call 235;refine(IC _ _).mono ?_;rintro e w' ⟨rfl,rfl⟩)
   ·go_ret;have Hl:aB l[k]=false:=by simpa using(by assumption:(!aB l[k])=true)
    refine⟨nj ?_,rfl⟩;rw[d.out,P2 a,fA,Hl];simp
   go_round
   case rel=>
    have f:aB l[k]=true:=by simpa using(by assumption:(!aB l[k])=false)
    exact⟨k+1,by omega,by go_num,by rw[d.out,P2 a,fA,f];simp[Hid]⟩
   case measure=>simp[intOf];omega
  ·go_wp2_with fail
   go_ret;refine⟨nj ?_,rfl⟩;rw[d.out,P4 (by omega)];rfl
theorem Df(l:List Int)(i:Nat):(0<=fA l i↔aG l=false)/\-1<=fA l i:=by
 induction l generalizing i with
 |nil=>simp[fA,aG]
 |cons e es ih=>
  have:=ih (i+1);cases h:aB e<;>simp[fA,aG,h]at this⊢<;>first | omega | simpa[aG]using this | skip
theorem Cy(v:Value)(l:List Int)(w:World)(h:Is w v l):
  Calls D 234 #[v,.func (.func 235) #[] #[]] w λe w'=>e=.returned (J (!aG l))/\w=w':=by
 obtain⟨h1,h2⟩:=Df l 0;have H1:=L h1;go_enter func234,ntmps234
 go_wp2_with (go_at_call 279;refine(CQ _ _ _ h).mono ?_;rintro e w' ⟨rfl,rfl⟩)
 go_ret;refine⟨ret_bool ?_,rfl⟩;have:=H1.out;cases h:aG l<;>simp[h]at this⊢<;>omega
theorem ny(v:Value)(l:List Int)(w:World)(h:Is w v l):
  Calls D 203 #[v] w λe w'=>e=.returned (J (aG l))/\w=w':=by
 go_enter func203,ntmps203
 go_wp2_with (go_at_call 234;refine(Cy _ _ _ h).mono ?_;rintro e w' ⟨rfl,rfl⟩)
 go_ret;exact⟨ret_bool (by simp),rfl⟩
theorem tJ(a:k<O l)(h:aB l[k]=false):aG l=false:=by
 simp only[aG,Pb];exact⟨l[k],P7 a,by simp[h]⟩
theorem D7(a:k<O l)(h:aG (l.take k)=true):aG (l.take (k+1))=aB l[k]:=by
 rw[P3 a];simp only[aG,Pd]at h⊢;rw[h];simp
theorem lB(v:Value)(l:List Int)(w:World)(h:Is w v l):
  Calls D 183 #[v] w λe w'=>e=.returned (J (aG l))/\w=w':=by
 obtain⟨A,c,rfl,h1,h2⟩:=xO h;have hm:=Pq h;unfold maxLen at hm;go_enter func183,ntmps183
 go_wp2_with fail
 go_loop [3] (λi=>∃k:Nat,k<=O l/\i=B C k/\Hid (aG (l.take k)=true)) (λi=>O l-(intOf i).toNat)
 case atStart=>exact⟨0,Pi _,rfl,rfl⟩
 case round=>
  obtain⟨k,f,rfl,d⟩:=hrel;by_cases a:k<O l
  ·obtain⟨_,b,f,rfl,hc⟩:=Is.at_ h (by omega);have f:=hc k a;by_cases f:l[k]<0
   ·go_wp2_with fail
    go_ret;exact⟨ret_bool (tJ a (by simp[aB];omega)).symm,rfl⟩
   by_cases h1:1073741824<l[k]
   ·go_wp2_with fail
    go_ret;exact⟨ret_bool (tJ a (by simp[aB];omega)).symm,rfl⟩
   go_wp2_with fail
   go_round
   case rel=>exact⟨k+1,by omega,by go_num,(D7 a d.out).trans (by simp[aB];omega)⟩
   case measure=>simp[intOf];omega
  ·go_wp2_with fail
   go_ret;refine⟨ret_bool ?_,rfl⟩;have:=d.out;rw[P5 (by omega)]at this;exact this.symm
def hiB:Nat->Nat->List UInt8
 |0,_=>[]
 |f+1,m=>if m=0 then[]else hiB f (m / 128)++[Po (m % 128+128)]
theorem pu(m:Nat):Po (m % 128) ||| 128=Po (m % 128+128):=by
 have h2:∀m:Nat,m<128->Po m ||| 128=Po (m+128):=by decide
 exact h2 _ (Nat.mod_lt _ (by decide))
theorem lL(f:Nat):hiB f 0=[]:=by cases f<;>simp[hiB]
theorem q9(n:Nat)(hn:n<=1073741824):cO n=hiB 5 (n / 128)++[Po (n % 128)]:=by
 unfold cO;congr 1
 have a:n / 128 / 128=n / 16384:=by omega
 have b:n / 16384 / 128=n / 2097152:=by omega
 have d:n / 2097152 / 128=n / 268435456:=by omega
 have e:n / 268435456 / 128=0:=by omega
 by_cases h4:n / 268435456=0
 ·by_cases h3:n / 2097152=0
  ·by_cases h2:n / 16384=0
   ·by_cases h1:n / 128=0
    ·simp[a8,hiB,h1,h2,h3,h4]
    simp[a8,hiB,a,b,d,e,h1,h2,h3,h4,pu]
   have h1:n / 128≠0:=by omega
   simp[a8,hiB,a,b,d,e,h1,h2,h3,h4,pu]
  have h1:n / 128≠0:=by omega
  have h2:n / 16384≠0:=by omega
  simp[a8,hiB,a,b,d,e,h1,h2,h3,h4,pu]
 ·have h1:n / 128≠0:=by omega
  have h2:n / 16384≠0:=by omega
  have h3:n / 2097152≠0:=by omega
  simp[a8,hiB,a,b,d,e,h1,h2,h3,h4,pu]
def nu(w:World)(l:List Int)(e:Ending)(w':World):Prop:=
 ∃v,e=.returned (.tuple #[v,B C 0])/\w'.ownsRow w.heap.size 5 1 v (aF l).length ((aF l).map bv)/\Ext w w'
def mV(w:World)(e:Ending)(w':World):Prop:=e=.returned (.tuple #[G none 0 0,B C 2])/\Ext w w'
theorem zm(n:Nat):1<=O (cO n)/\O (cO n)<=5:=by
 have:=qa 7 n true 4;simp[cO];omega
theorem eY(l:List Int):O (aF l)<=5*O l:=by
 induction l with
 |nil=>simp[aF]
 |cons n l ih=>have:=(zm n.toNat).2;simp[aF]at ih⊢;omega
theorem tU(h:k<O l):aF (l.take (k+1))=aF (l.take k)++cO l[k].toNat:=by
 rw[P3 h];unfold aF;rw[List.flatMap_append];simp
theorem my(h:aG l=true)(a:k<O l):0<=l[k]/\l[k]<=1073741824:=by
 have:=List.all_eq_true.1 h l[k] (P7 a);simpa[aB]using this
theorem Fp(v:Value)(l:List Int)(w:World)(h:Is w v l)(hn:aG l=true)(hl:O l<=2000000):
  Calls D 180 #[v,.func (.func 181) #[] #[]] w (nu w l):=by
 obtain⟨A,c,rfl,h1,h2⟩:=xO h;have g:=L hn;go_enter func180,ntmps180
 go_wp2_with (go_at_call 203;refine(ny _ _ _ h).mono ?_;rintro e w' ⟨rfl,rfl⟩)
 go_loopw [4,13] (λj i wr=>∃k:Nat,k<=O l/\i=B C k/\wr.ownsRow w.heap.size 5 1 j (aF (l.take k)).length ((aF (l.take k)).map bv)/\Ext w wr) (λ_ i _=>O l-(intOf i).toNat)
 case atStart=>exact⟨0,Pi _,rfl,P0 _ _ _ _,xR _⟩
 case round=>
  obtain⟨k,j,rfl,f,a⟩:=hrel;by_cases d:k<O l
  ·obtain⟨_,b,j,rfl,hc⟩:=Is.at_ (h.ext a) (by omega);have j:=hc k d;obtain⟨Kw,j⟩:=my g d;have g:=eY (l.take k);have g:O (l.take k)<=k:=List.length_take_le _ _;have key:=F9 (aF (l.take k)) l[k].toNat (by omega) _ w.heap.size wr f a.size (by omega);rw[Int.toNat_of_nonneg Kw]at key;have g:=L key;go_wp2_with (go_at_call 181;refine g.mono ?_;rintro e g⟨g,rfl,g,j⟩)
   go_roundw
   case rel=>exact⟨k+1,by omega,by go_num,by rw[tU d];exact g,Below.trans a j⟩
   case measure=>simp[intOf];omega
  ·have d:l.take k=l:=P5 (by omega);rw[d]at f;go_wp2_with fail
   go_ret2;exact⟨_,rfl,f,a⟩
theorem AQ(v:Value)(l:List Int)(w:World)(h:Is w v l)(hn:aG l=true)(hl:O l<=2000000):Calls D 119 #[v] w (nu w l):=by
 go_enter func119,ntmps119
 go_wp2_with (go_at_call 180;refine(Fp _ _ _ h hn hl).mono ?_;rintro e w' ⟨a,rfl,a,hb⟩)
 go_ret2;exact⟨_,rfl,a,hb⟩
open Go.RowKit Go.Mv Go.Shelf
theorem mcTakesa0{P:Prop}(h:P:=by
 have Ha:(!aG [(n:Int)*128+(q':Int) % 128])=false:=by assumption
 have ht:=H3.out;rw[if_neg hb,if_pos (by simp[aG,aB]at Ha;omega)]at ht;refine⟨v',by rw[ht];simp,?_,?_⟩
 ·rw[ht];rw[P6];simpa using H6
 ·refine Below.grown H8 H5 H8.size (λk ek=>?_);have:w.heap.size+1=k:=by simpa[Value.ownBlock]using ek
  omega):P:=h
theorem mcTakesa1{P:Prop}(h:P:=by
 have ht:=H3.out;rw[if_neg hb,if_neg (by simp[aG,aB]at Hi;omega)]at ht;exact⟨_,by rw[ht];rfl,by rw[ht];exact P0 _ _ _ _,xA (xR _) _⟩):P:=h
def cI:Nat->Nat->List UInt8->Int×Nat×List UInt8
 |0,_,_=>(11,0,[])
 |_+1,_,[]=>(10,0,[])
 |f+1,n,b::l=>if 128<=b.toNat then cI f (n*128+b.toNat % 128) l else if n*128+b.toNat % 128<=1073741824 then(0,n*128+b.toNat % 128,l)else(11,0,[])
def aJ(l:List UInt8):Int×Nat×List UInt8:=if l.head?=F 128 then(11,0,[])else cI 5 0 l
def iB(w:World)(r:Int×Nat×List UInt8)(e:Ending)(w':World):Prop:=
 ∃v,e=.returned (.tuple #[B C r.2.1,v,B C r.1])/\w'.ownsRow w.heap.size 5 1 v r.2.2.length (r.2.2.map bv)/\Ext w w'
theorem Bs.at_{l:List UInt8}(h:Bs w (G A m c) l)(hn:0<O l):m=O l/\∃b a,A=F ⟨b,a,I⟩/\∀(k:Nat) (d:k<O l),w.cell? ⟨b,a+k,I⟩=F (B M (l[k].toNat:Int)):=by
 obtain⟨rfl,b,a,rfl,hc⟩:=Pr h hn;exact⟨rfl,b,a,rfl,λk d=>hc k _ (by simp[P9 d,bv])⟩
def TkR(bs:List UInt8)(A:Option Addr)(c:Nat)(w:World)(a:Act)(w':World):Prop:=
 ∃(i n:Nat) (u6 u7 u8 u9 HM HN HO HP HQ HR HS HU HV HW HX HY HZ K0 K1 K2 K3 K4 K5 K6 K7 K8 K9 Ka Kb Kc Kd Ke Kf Kg Kh Ki Kj Kk Kl Km Kn Ko Kp:Value),(i<=5/\i<=O bs/\n<128^i/\Hid (aJ bs=cI (5-i) n (bs.drop i))/\w=w')/\a=⟨#[G A bs.length c,undef,B C n,G none 0 0,B C 0,B C i,u6,u7,u8,u9,HM,HN,HO,HP,HQ,HR,HS,HU,HV,HW,HX,HY,HZ,K0,K1,K2,K3,K4,K5,K6,K7,K8,K9,Ka,Kb,Kc,Kd,Ke,Kf,Kg,Kh,Ki,Kj,Kk,Kl,Km,Kn,Ko,Kp],[]⟩
theorem AS(v:Value)(bs:List UInt8)(w:World)(o:Bs w v bs)(hl:bs.length<=140737488355328):Calls D 148 #[v] w (iB w (aJ bs)):=by
 obtain⟨A,c,rfl,h1,h2⟩:=xO o;refine(callsIn_wd (ro:=none) (n:=9)).1 ?_;refine callsIn_of_wp func148 rfl trivial ?_ rfl;simp only[ntmps148,List.size_toArray,xC,List.length_nil,Pl,Nat.reduceSub,Array.replicate_succ,Array.replicate_zero,Pa,List.append_toArray,xI,Pc];gi_wp2;refine eU 0 (TkR bs A c w) (λa _=>5-(intOf (a.tmps.getD 5 undef)).toNat) (hf:=rfl) (λl' h=>by cases l'<;>first | exact absurd rfl h | rfl) ?_ ?_
 ·intro S;have U:=L S;clear S;by_cases y:bs.length=0
  ·have hz:¬(0<bs.length):=by omega
   have hb:bs=[]:=P8 y;subst hb;have t:Hid (aJ []=cI (5-0) 0 ([].drop 0)):=rfl;gi_wp2;refine wpIn_label ?_;gi_step;gi_step;exact U.out _ _ ⟨0,0,_,_,_,_,_,_,_,_,_,_,_,_,_,_,_,_,_,_,_,_,_,_,_,_,_,_,_,_,_,_,_,_,_,_,_,_,_,_,_,_,_,_,_,⟨by omega,by simp,by decide,t,rfl⟩,rfl⟩
  obtain⟨_,b,O,rfl,hc⟩:=Bs.at_ o (by omega);have Hj:w.cell? ⟨b,O,I⟩=F (B M (bs[0].toNat:Int)):=hc 0 (by omega);by_cases f:bs[0].toNat=128
  ·have e:((bs[0].toNat:Int)==128)=true:=by simp;omega
   have ht:aJ bs=(11,0,[]):=by
    have:bs[0]=128:=by apply Pp.1;simpa using f
    cases bs with
    |nil=>simp at y
    |cons x l=>simp at this;simp[aJ,this]
   have d:=L ht;clear ht hc;gi_wp2;refine bJ ?_;go_ret3;exact⟨_,by rw[d.out];rfl,by rw[d.out];exact P0 _ _ _ _,xR _⟩
  have e:((bs[0].toNat:Int)==128)=false:=by simp;omega
  have ht:aJ bs=cI (5-0) 0 (bs.drop 0):=by
   have:bs[0]≠128:=λe=>f (by rw[e];rfl);cases bs with
   |nil=>simp at y
   |cons x l=>simp at this;simp[aJ,this]
  have t:=L ht;clear ht hc;gi_wp2;refine wpIn_label ?_;gi_step;gi_step;exact U.out _ _ ⟨0,0,_,_,_,_,_,_,_,_,_,_,_,_,_,_,_,_,_,_,_,_,_,_,_,_,_,_,_,_,_,_,_,_,_,_,_,_,_,_,_,_,_,_,_,⟨by omega,by omega,by decide,t,rfl⟩,rfl⟩
 ·intro a w' hR;obtain⟨i,n,u6,u7,u8,u9,HM,HN,HO,HP,HQ,HR,HS,HU,HV,HW,HX,HY,HZ,K0,K1,K2,K3,K4,K5,K6,K7,K8,K9,Ka,Kb,Kc,Kd,Ke,Kf,Kg,Kh,Ki,Kj,Kk,Kl,Km,Kn,Ko,Kp,⟨Ku,Kv,hn,r,rfl⟩,rfl⟩:=hR;by_cases h5:i=5
  ·subst h5;gi_wp2;refine bJ ?_;go_ret3;have ht:aJ bs=(11,0,[]):=r.out;exact⟨_,by rw[ht];rfl,by rw[ht];exact P0 _ _ _ _,xR _⟩
  have e1:((i:Int)==5)=false:=by simp;omega
  have X:i<=4:=by omega
  have hf:5-i=(4-i)+1:=by omega
  have g:=r.out;rw[hf]at g;by_cases j:i=bs.length
  ·have e2:((i:Int)==(bs.length:Int))=true:=by simp;omega
   have ht:aJ bs=(10,0,[]):=by
    rw[g,P4 (by omega),cI]
   have d:=L ht;clear ht g hf j;gi_wp2;refine bJ ?_;go_ret3;exact⟨_,by rw[d.out];rfl,by rw[d.out];exact P0 _ _ _ _,xR _⟩
  obtain⟨_,b,O,rfl,hc⟩:=Bs.at_ o (by omega);have N:i<bs.length:=by omega
  have Kt:=hc i N;have e2:((i:Int)==(bs.length:Int))=false:=by simp;omega
  rw[P2 N,cI]at g;have Kx:n<268435456:=Pk hn (Pn (Pj (by decide) X) (by decide));have hq:=bs[i].toNat_lt;generalize bs[i].toNat=q at *;have ha:bits .and .u8 (q:Int) 127=(q:Int) % 128:=bits_mask .u8 8 (by decide) wraps_u8 7 (by decide) _ (by omega) (by omega);have p:bits .or .i64 ((n:Int)*128) ((q:Int) % 128)=(n:Int)*128+(q:Int) % 128:=bits_join .i64 62 (by decide) lD 7 _ _ (by omega) (by omega) (by omega) (by omega) (by omega) (by omega);have H3:=L g;have V:n*128+q % 128<128^(i+1):=by rw[Pm];omega
  have W:=L V;clear g hf hc V hn r;by_cases hb:128<=q
  ·have s:=H3.out;rw[if_pos hb]at s;have Z:=L s;clear s;gi_wp2;refine wpIn_goto ?_;try simp only[Exit.then]
   refine bI (h:=by simp) ⟨?_,by simp[intOf];omega⟩;have ec:((n:Int)*128+(q:Int) % 128)=((n*128+q % 128:Nat):Int):=by simp
   rw[ec];exact⟨i+1,n*128+q % 128,_,_,_,_,_,_,_,_,_,_,_,_,_,_,_,_,_,_,_,_,_,_,_,_,_,_,_,_,_,_,_,_,_,_,_,_,_,_,_,_,_,_,_,⟨by omega,by omega,W.out,by show _=_;rw[Z.out,show 5-(i+1)=4-i from by omega],rfl⟩,rfl⟩
  ·have Q:=xW (be w [B C ((n:Int)*128+(q:Int) % 128)] 3 1 (hm:=rfl) (hl:=by simp[maxLen]) (xN _));have Y:Is (w.alloc (H #[B C ((n:Int)*128+(q:Int) % 128)] 3)) (G (F ⟨w.heap.size,0,I⟩) 1 1) [(n:Int)*128+(q:Int) % 128]:=Q;clear Q;gi_wp2_with (refine⟨trivial,?_⟩;gi_at_call 203;refine(callsIn_wd.2 (ny _ _ _ Y)).mono ?_;rintro e w' ⟨rfl,rfl⟩)
   ·refine bJ ?_;go_ret3;have Hi:(!aG [(n:Int)*128+(q:Int) % 128])=true:=by assumption
    exact mcTakesa1
   all_goals
    have R:(!aG [(n:Int)*128+(q:Int) % 128])=false:=by assumption
    have ht:=H3.out;rw[if_neg hb,if_pos (by simp[aG,aB]at R;omega)]at ht;have d:=L ht;clear ht R H3
   ·refine⟨trivial,(callsIn_wd.2 (ol _ (bs.drop (i+1)) _ (Bs.cut0 (by omega) rfl (by omega)) (by simp;omega))).mono ?_⟩;rintro e w1⟨J,rfl,p,z⟩;gi_wp2;refine bJ ?_;go_ret3;exact⟨J,by rw[d.out];simp,by rw[d.out];exact ay p (by simp),xT (xA (xR _) _) z⟩
   ·refine⟨trivial,(callsIn_wd.2 (ol _ (bs.drop (i+1)) _ (Bs.cut (o.ext (xA (xR _) _)) (i+1) (by omega) rfl) (by simp;omega))).mono ?_⟩;rintro e w1⟨J,rfl,p,z⟩;gi_wp2;refine bJ ?_;go_ret3;exact⟨J,by rw[d.out];simp,by rw[d.out];exact ay p (by simp),xT (xA (xR _) _) z⟩
theorem Dl(A:Option Addr)(c:Nat)(bs:List UInt8)(w:World)(f:¬(0<bs.length))(e:bs.length<5):Calls D 157 #[G A bs.length c] w (iB w (aJ bs)):=by
 have b:aJ bs=(10,0,[]):=by rw[P8 (by omega:bs.length=0)];rfl
 have a:=L b;clear b;go_enter func157,ntmps157
 go_wp2_with fail
 go_loop [5,6] (λn i=>∃k:Nat,Hid (k=0)/\n=B C k/\i=B C k) (λ_ i=>(intOf i).toNat)
 case atStart=>exact⟨0,rfl,rfl,rfl⟩
 case round=>
  obtain⟨k,d,rfl,rfl⟩:=hrel;obtain rfl:k=0:=d.out;go_wp2_with fail
  go_ret3;exact⟨_,by rw[a.out];rfl,by rw[a.out];exact P0 _ _ _ _,xR _⟩
theorem El(c:Nat)(bs:List UInt8)(w:World)(b d q:Nat)(x:Bs w (G (F ⟨b,d,I⟩) bs.length c) bs)(hl:bs.length<=140737488355328)(h1:bs.length<=c)(h2:c<=9223372036854775807)(h0:0<bs.length)(hq:w.cell? ⟨b,d,I⟩=F (B M q))(R:((q:Int)==128)=false)(a:Hid (aJ bs=cI 5 0 bs)):Calls D 157 #[G (F ⟨b,d,I⟩) bs.length c] w (iB w (aJ bs)):=by
 obtain⟨S,p,z,J,N⟩:=info_parts dC;go_enter func157,ntmps157
 go_wp2_with fail
 go_loop [5,6] (λZ Y=>∃i n:Nat,i<=5/\i<=bs.length/\Hid (n<128^i)/\Hid (aJ bs=cI (5-i) n (bs.drop i))/\Z=B C n/\Y=B C i) (λ_ i=>5-(intOf i).toNat)
 case atStart=>exact⟨0,0,by omega,by omega,by show _<_;decide,a.out,rfl,rfl⟩
 case round=>
  obtain⟨i,n,Ku,Kv,j,g,rfl,rfl⟩:=hrel;by_cases f:i<bs.length/\i<5
  ·obtain⟨r,HK⟩:=f;obtain⟨_,b',KB,e',hc⟩:=Bs.at_ x (by omega);cases e';have Kt:=hc i r;have v:=g.out;rw[show 5-i=(4-i)+1 from by omega,P2 r,cI]at v;have Kx:n<268435456:=Pk j.out (Pn (Pj (by decide) (by omega:i<=4)) (by decide));have KF:=bs[i].toNat_lt;generalize bs[i].toNat=q' at *;have O:n*128+q' % 128<128^(i+1):=by have:=j.out;rw[Pm];omega
   have H3:=L v;have U:=L O;clear v hc O j g a;by_cases hb:128<=q'
   ·have s:=H3.out;rw[if_pos hb]at s;have V:=L s;clear s;go_wp2_with fail
    go_round
    case rel=>exact⟨i+1,n*128+q' % 128,by omega,by omega,U.out,by show _=_;rw[V.out,show 5-(i+1)=4-i from by omega],by go_num,by go_num⟩
    case measure=>simp[intOf];omega
   have y:Is (w.alloc (H #[B C ((n:Int)*128+(q':Int) % 128)] 3)) (G (F ⟨w.heap.size,0,I⟩) 1 1) [(n:Int)*128+(q':Int) % 128]:=xW (be w [B C ((n:Int)*128+(q':Int) % 128)] 3 1 (hm:=rfl) (hl:=by simp[maxLen]) (xN _));have Q:((w.alloc (H #[B C ((n:Int)*128+(q':Int) % 128)] 3)).alloc (H #[] 5)).ownsRow w.heap.size 5 1 (G (F ⟨w.heap.size+1,0,I⟩) 0 0) 0 []:=by
    have:=be (w.alloc (H #[B C ((n:Int)*128+(q':Int) % 128)] 3)) [] 5 0 (hm:=rfl) (hl:=by simp[maxLen]) (base:=w.heap.size) (by simp);rwa[xS]at this
   have H8:Ext w ((w.alloc (H #[B C ((n:Int)*128+(q':Int) % 128)] 3)).alloc (H #[] 5)):=xA (xA (xR w) _) _;by_cases W:c=i+1
   ·have t:SlR ((w.alloc (H #[B C ((n:Int)*128+(q':Int) % 128)] 3)).alloc (H #[] 5)) 1 (G (F ⟨b,d,I⟩) (bs.length-(i+1)) 0) (bs.length-(i+1)) ((bs.drop (i+1)).map bv):=by
     have h:=Bs.cut0 (w:=((w.alloc (H #[B C ((n:Int)*128+(q':Int) % 128)] 3)).alloc (H #[] 5))) (A:=F ⟨b,d,I⟩) (n:=bs.length) (k:=i+1) (c:=0) (bs:=bs) (by omega) rfl (by omega);unfold Bs at h;rwa[P6]at h
    go_wp2_with (first
     |(go_at_call 183;refine(lB _ _ _ y).mono ?_;rintro e w' ⟨rfl,rfl⟩)
     |(at_builtin;refine dT _ rfl (.tmp 45) (.tmp 49) 33 rfl w.heap.size 5 S (B M 0) 1 1 underlying33 p z J N rfl (by decide) (G (F ⟨w.heap.size+1,0,I⟩) 0 0) 0 [] rfl Q (G (F ⟨b,d,I⟩) (bs.length-(i+1)) 0) (bs.length-(i+1)) ((bs.drop (i+1)).map bv) rfl t (de _) (by unfold maxLen;omega) (by omega) H8.size ?_;intro v' w1 H6 H5))
    ·go_ret3;have Hi:(!aG [(n:Int)*128+(q':Int) % 128])=true:=by assumption
     exact mcTakesa1
    go_ret3;exact mcTakesa0
   have t:SlR ((w.alloc (H #[B C ((n:Int)*128+(q':Int) % 128)] 3)).alloc (H #[] 5)) 1 (G (F ⟨b,d+(i+1),I⟩) (bs.length-(i+1)) (c-(i+1))) (bs.length-(i+1)) ((bs.drop (i+1)).map bv):=by
    have h:=Bs.cut (x.ext H8) (i+1) (by omega) rfl;unfold Bs at h;rwa[P6]at h
   go_wp2_with (first
    |(go_at_call 183;refine(lB _ _ _ y).mono ?_;rintro e w' ⟨rfl,rfl⟩)
    |(at_builtin;refine dT _ rfl (.tmp 45) (.tmp 49) 33 rfl w.heap.size 5 S (B M 0) 1 1 underlying33 p z J N rfl (by decide) (G (F ⟨w.heap.size+1,0,I⟩) 0 0) 0 [] rfl Q (G (F ⟨b,d+(i+1),I⟩) (bs.length-(i+1)) (c-(i+1))) (bs.length-(i+1)) ((bs.drop (i+1)).map bv) rfl t (de _) (by unfold maxLen;omega) (by omega) H8.size ?_;intro v' w1 H6 H5))
   ·go_ret3;have Hi:(!aG [(n:Int)*128+(q':Int) % 128])=true:=by assumption
    exact mcTakesa1
   go_ret3;exact mcTakesa0
  ·by_cases X:bs.length<5
   ·have r:¬(i<bs.length):=by omega
    have ht:aJ bs=(10,0,[]):=by
     rw[g.out,show 5-i=(4-i)+1 from by omega,P4 (by omega),cI]
    have o:=L ht;clear ht g a j;go_wp2_with fail
    go_ret3;exact⟨_,by rw[o.out];rfl,by rw[o.out];exact P0 _ _ _ _,xR _⟩
   ·have p:i=5:=by omega
    subst p;have ht:aJ bs=(11,0,[]):=g.out;have o:=L ht;clear ht g a j f;go_wp2_with fail
    all_goals go_ret3
    all_goals exact⟨_,by rw[o.out];rfl,by rw[o.out];exact P0 _ _ _ _,xR _⟩
theorem tO(v:Value)(bs:List UInt8)(w:World)(d:Bs w v bs)(hl:bs.length<=140737488355328):Calls D 157 #[v] w (iB w (aJ bs)):=by
 obtain⟨A,c,rfl,h1,h2⟩:=xO d;by_cases h:bs.length=0
 ·exact Dl A c bs w (by omega) (by omega)
 obtain⟨_,b,f,rfl,hc⟩:=Bs.at_ d (by omega);have j:w.cell? ⟨b,f,I⟩=F (B M (bs[0].toNat:Int)):=hc 0 (by omega);by_cases a:bs[0].toNat=128
 ·have e:((bs[0].toNat:Int)==128)=true:=by simp;omega
  have i:aJ bs=(11,0,[]):=by
   have:bs[0]=128:=by apply Pp.1;simpa using a
   cases bs with
   |nil=>simp at h
   |cons x l=>simp at this;simp[aJ,this]
  have g:=L i;clear i hc;go_enter func157,ntmps157
  go_wp2_with fail
  go_ret3;exact⟨_,by rw[g.out];rfl,by rw[g.out];exact P0 _ _ _ _,xR _⟩
 ·refine El c bs w b f bs[0].toNat d hl h1 h2 (by omega) j (by simp;omega) ?_;have:bs[0]≠128:=λe=>a (by rw[e];rfl);cases bs with
  |nil=>simp at h
  |cons x l=>simp at this;show aJ _=_;simp[aJ,this]
def ao:Nat->List Int->List UInt8->Int×List Int×List UInt8
 |0,H7,bs=>(0,H7,bs)
 |k+1,H7,bs=>if(aJ bs).1=0 then ao k (H7++[((aJ bs).2.1:Int)]) (aJ bs).2.2 else((aJ bs).1,[],[])
def ir(w:World)(r:Int×List Int×List UInt8)(e:Ending)(w':World):Prop:=
 ∃a b,e=.returned (.tuple #[a,b,B C r.1])/\w'.ownsRow w.heap.size 3 1 a r.2.1.length (r.2.1.map iv)/\w'.ownsRow w.heap.size 5 1 b r.2.2.length (r.2.2.map bv)/\Ext w w'
theorem EM(f n:Nat)(l:List UInt8):O (cI f n l).2.2<=O l:=by
 induction f generalizing n l with
 |zero=>simp[cI]
 |succ f ih=>
  cases l with
  |nil=>simp[cI]
  |cons b l=>
   simp only[cI];split
   ·have:=ih (n*128+b.toNat % 128) l;simp;omega
   ·split<;>simp
theorem oA(l:List UInt8):O (aJ l).2.2<=O l:=by
 unfold aJ;split
 ·simp
 ·exact EM _ _ _
theorem m9:(Tryz.prog.info? 3).map (λi=>(i.zero,i.size,i.bytes))=F (some (B C 0),1,8):=by kernel_rfl
theorem iN(v:Value)(bs:List UInt8)(a:Nat)(hm:a<=2000000)(w:World)(q:Bs w v bs)(hl:O bs<=140737488355328):Calls D 79 #[v,B C a] w (ir w (ao a [] bs)):=by
 obtain⟨R,Q,J,M,N⟩:=info_parts m9;go_enter func79,ntmps79
 go_wp2_with (go_at_call 147;refine(ol _ _ _ q hl).mono ?_;rintro e q⟨q,rfl,y,q⟩)
 go_loopw [4,5,6,11] (λS U o i wr=>∃(k:Nat) (b:List Int) (rest:List UInt8),k<=a/\i=B C k/\o=B C 0/\O b<=k/\O rest<=O bs/\Hid (ao a [] bs=ao (a-k) b rest) /\
   wr.ownsRow w.heap.size 3 1 S b.length (b.map iv)/\wr.ownsRow w.heap.size 5 1 U rest.length (rest.map bv)/\Ext w wr) (λ_ _ _ i _=>a-(intOf i).toNat)
 case atStart=>exact⟨0,[],bs,Pi _,rfl,rfl,by simp,xN _,rfl,P0 _ _ _ _,y,q⟩
 case round=>
    
  obtain⟨k,b,rest,q,rfl,rfl,q,q,s,j,x,g⟩:=hrel;by_cases q:k<a
  ·have d:=s.out;rw[show a-k=(a-k-1)+1 from by omega,ao]at d;have y:=oA rest;have key:=AS _ rest wr (xW x) (by omega);rcases q:aJ rest with⟨o,n,r⟩
   rw[q]at d y key;simp only at d y;by_cases f:o=0
   ·subst f;simp only[if_true]at d;have H3:=L d;have p:=L key;go_wp2_with (first
     |(go_at_call 148;refine p.mono ?_;rintro e h⟨z,rfl,t,H8⟩)
     |(at_builtin;refine dT _ rfl (.tmp 22) (.tmp 24) 64 rfl w.heap.size 3 R (B C 0) 1 8 underlying64 Q J M N rfl (by decide) _ b.length (b.map iv) rfl (ai j (xA H8 _)) (G (F ⟨h.heap.size,0,I⟩) 1 1) 1 [B C n] rfl (xW (be h [B C n] 3 1 (xN _))) (by simp[Value.oneCell']) (by unfold maxLen;omega) (by omega) (by have:=g.size;have:=H8.size;simp;omega) ?_;intro q M y q))
    go_roundw
    case rel=>
     have J:Ext w M:=Ext.grownOwn (xA (xT g H8) _) (ai j (xA H8 _)) q;refine⟨k+1,b++[(n:Int)],r,by omega,by go_num,rfl,by simp;omega,by omega,?_,by simpa[iv]using y,?_,J⟩
     ·show _=_;rw[H3.out,show a-(k+1)=a-k-1 from by omega]
     have hb3:(h.alloc (H #[B C n] 3)).ownsRow w.heap.size 5 1 z r.length (r.map bv):=ai (ay t g.size) (xA (xR _) _);have r:(h.alloc (H #[B C n] 3)).ownsRow w.heap.size 3 1 _ b.length (b.map iv):=ai j (xA H8 _);exact hb3.kept q (zT hb3 r (by decide))
    case measure=>simp[intOf];omega
   have Hl:((o:Int) != 0)=true:=by simp[f]
   rw[if_neg f]at d;have H3:=L d;have p:=L key;go_wp2_with (go_at_call 148;refine p.mono ?_;rintro e h⟨z,rfl,t,H8⟩)
   go_ret3;exact⟨_,_,by rw[H3.out];rfl,by rw[H3.out];exact P0 _ _ _ _,by rw[H3.out];exact P0 _ _ _ _,xT g H8⟩
  ·have d:=s.out;rw[show a-k=0 from by omega,ao]at d;have H3:=L d;go_wp2_with fail
   go_ret3;exact⟨_,_,by rw[H3.out];rfl,by rw[H3.out];exact j,by rw[H3.out];exact x,g⟩
theorem mA(v:Value)(bs:List UInt8)(many:Nat)(w:World)(H9:Bs w v bs)(hl:bs.length<=140737488355328)(hm:many<=2000000:=by omega):Calls D 91 #[v,B C many] w (ir w (ao many [] bs)):=by
 obtain⟨i0,hi,Hm,Ho,Hp⟩:=info_parts m9;go_enter Tryz.func91,Tryz.ntmps91
 obtain⟨j0,hj,Ky,Kz,KA⟩:=info_parts dC;have Hv:(w.alloc (H #[] 5)).ownsRow w.heap.size 5 1 (G (F ⟨w.heap.size,0,I⟩) 0 0) 0 []:=be w [] 5 0 (xN _);have HB:Ext w (w.alloc (H #[] 5)):=xA (xR _) _;go_wp2_with (at_builtin;refine dT _ rfl (.tmp 13) (.tmp 14) 33 rfl w.heap.size 5 j0 (B M 0) 1 1 Tryz.underlying33 hj Ky Kz KA rfl (by decide) (G (F ⟨w.heap.size,0,I⟩) 0 0) 0 [] rfl Hv v bs.length (bs.map bv) rfl (Ps H9 HB) (de _) (by unfold maxLen;omega) (by omega) HB.size ?_;intro v1 w1 HG Hk)
 have HD:Ext w w1:=Ext.grownOwn HB Hv Hk;go_loopw [7,8,9] (λvr vl i wr=>∃(k:Nat) (H7:List Int) (rest:List UInt8),k<=many/\i=B C k/\H7.length<=k/\rest.length<=bs.length/\Hid (ao many [] bs=ao (many-k) H7 rest) /\
   wr.ownsRow w.heap.size 3 1 vl H7.length (H7.map iv)/\wr.ownsRow w.heap.size 5 1 vr rest.length (rest.map bv)/\Ext w wr) (λ_ _ i _=>many-(intOf i).toNat)
 case atStart=>exact⟨0,[],bs,Pi _,rfl,by simp,xN _,rfl,P0 _ _ _ _,by simpa using HG,HD⟩
 case round=>
    
  obtain⟨k,H7,rest,hk,rfl,HF,Hc,HT,H4,Hr,hE⟩:=hrel;by_cases H0:k<many
  ·have hT:=HT.out;rw[show many-k=(many-k-1)+1 from by omega,ao]at hT;have Hw:=oA rest;have key:=tO _ rest wr (xW Hr) (by omega);rcases hts:aJ rest with⟨er,n,r2⟩
   rw[hts]at hT Hw key;simp only at hT Hw;by_cases her:er=0
   ·subst her;simp only[if_true]at hT;have H3:=L hT;have Hd:=L key;go_wp2_with (first
     |(go_at_call 157;refine Hd.mono ?_;rintro e w2⟨v2,rfl,Hq,H8⟩)
     |(at_builtin;refine dT _ rfl (.tmp 30) (.tmp 32) 64 rfl w.heap.size 3 i0 (B C 0) 1 8 Tryz.underlying64 hi Hm Ho Hp rfl (by decide) _ H7.length (H7.map iv) rfl (ai H4 (xA H8 _)) (G (F ⟨w2.heap.size,0,I⟩) 1 1) 1 [B C n] rfl (xW (be w2 [B C n] 3 1 (xN _))) (by simp[Value.oneCell']) (by unfold maxLen;omega) (by omega) (by have:=hE.size;have:=H8.size;simp;omega) ?_;intro v' w3 H6 H5))
    go_roundw
    case rel=>
     have HE:Ext w w3:=Ext.grownOwn (xA (xT hE H8) _) (ai H4 (xA H8 _)) H5;refine⟨k+1,H7++[(n:Int)],r2,by omega,by go_num,by simp;omega,by omega,?_,by simpa[iv]using H6,?_,HE⟩
     ·show _=_;rw[H3.out,show many-(k+1)=many-k-1 from by omega]
     have hb3:(w2.alloc (H #[B C n] 3)).ownsRow w.heap.size 5 1 v2 r2.length (r2.map bv):=ai (ay Hq hE.size) (xA (xR _) _);have HH:(w2.alloc (H #[B C n] 3)).ownsRow w.heap.size 3 1 _ H7.length (H7.map iv):=ai H4 (xA H8 _);exact hb3.kept H5 (zT hb3 HH (by decide))
    case measure=>simp[intOf];omega
   have Hl:((er:Int) != 0)=true:=by simp[her]
   rw[if_neg her]at hT;have H3:=L hT;have Hd:=L key;go_wp2_with (go_at_call 157;refine Hd.mono ?_;rintro e w2⟨v2,rfl,Hq,H8⟩)
   go_ret3;exact⟨_,_,by rw[H3.out];rfl,by rw[H3.out];exact P0 _ _ _ _,by rw[H3.out];exact P0 _ _ _ _,xT hE H8⟩
  ·have hT:=HT.out;rw[show many-k=0 from by omega,ao]at hT;have H3:=L hT;go_wp2_with fail
   go_ret3;exact⟨_,_,by rw[H3.out];rfl,by rw[H3.out];exact H4,by rw[H3.out];exact Hr,hE⟩
