/- Merged -/
import Derived.Test.YteggfecbjgbndaaGreatDoorZx2
import Derived.RangeFuncRecord
import Derived.MapKept
import Derived.Deep.RegionHeld3
set_option linter.all false
set_option maxHeartbeats 8000000
set_option maxRecDepth 100000
open Go.Proofs.Tryz
open List renaming length->M
open Go.Value renaming int->B,bool->G,slice->I,agg->L
open Go.Proofs.Tryz renaming prog->C
open Go.IntKind renaming i64->D,u8->J
open Option renaming some->F,none->H
open UInt8 renaming ofNat->P0
open List renaming drop_eq_getElem_cons->P1,take_succ_eq_append_getElem->P2,take_of_length_le->P3,getElem_mem->P4,drop_of_length_le->P5,length_take_le->P6,all_eq_false->P7,all_append->P8,map->P9
open Go.Instr renaming findNow->Pa,lookup->Pb,mapUpdate->Pc,findKey->Pd
open Nat renaming zero_le->Pe
open Go.World renaming alloc_heap_new->Pf,ownsRow_nil->Pg
namespace Go.Mv
open Go.RowKit
variable {E K T:TypeId}
theorem mcMapsa0{P:Prop}(h:P:=by
 have Hc:(getObj r).run P w=.ok (.map es c) w:=MapKept.run_getObj_map hr;unfold Pb;cases f with
 |none=>simp[Sem.run_bind,run_underlying hT,Hc,pz _ k n _ hK,pC _ k n es.toList none hK hf,hz,go_sem]
 |some p=>simp[Sem.run_bind,run_underlying hT,Hc,pz _ k n _ hK,pC _ k n es.toList (some p) hK hf,go_sem]):P:=h
variable {P:Program}
theorem pz(w:World)(k:IntKind)(n:Int)(b:Bool)(a:P.underlying K=F (.int k)):
  (Instr.checkKey b 10000 K (.int k n)).run P w=.ok () w:=
 MapKept.run_checkKey (k:=.int k n) a (show k=k from rfl) b 9999
theorem pC(w:World)(k:IntKind)(n:Int)(es:List MapEntry)(r:Option (Nat×Value))(a:P.underlying K=F (.int k))(hf:Pa (.int k) (.int k n) es 0=F r):(Pd K (.int k n) es).run P w=.ok r w:=by
 simp[Pd,run_underlying a,go_sem,hf]
theorem Ed(w:World)(o a:Obj):(w.alloc o).putObj w.heap.size a=w.alloc a:=by
 have h:(w.heap.push o).setIfInBounds w.heap.size a=w.heap.push a:=by
  apply Array.ext_getElem?;intro i;rw[Array.getElem?_setIfInBounds,Array.getElem?_push,Array.getElem?_push];split<;>rename_i h
  ·subst h;simp
  rw[if_neg (λe=>h e.symm),if_neg (λe=>h e.symm)]
 show({ (w.alloc o)with heap:=(w.heap.push o).setIfInBounds w.heap.size a }:World) = { w with heap:=w.heap.push a };rw[h];rfl
theorem nP(w:World)(k:IntKind)(e:P.underlying T=F (.map K E))(a:P.underlying K=F (.int k))(es:Array MapEntry)(c:Nat)(n:Int)(v:Value)(hn:Pa (.int k) (.int k n) es.toList 0=F none):
  (Pc T (.map (some w.heap.size)) (.int k n) v).run P (w.alloc (.map es c))=.ok () (w.alloc (.map (es.push { key:=.int k n,val:=v,born:=c }) (c+1))):=by
 have b:(getObj w.heap.size).run P (w.alloc (.map es c))=.ok (.map es c) (w.alloc (.map es c)):=MapKept.run_getObj_map (Pf _ _);have d:∀o,(setObj w.heap.size o).run P (w.alloc (.map es c))=.ok () ((w.alloc (.map es c)).putObj w.heap.size o):=λo=>MapKept.run_setObj_map o (Pf _ _);unfold Pc;simp only[Sem.run_bind,run_underlying e,Result.andThen_ok,b,pz _ k n false a,pC _ k n es.toList none a hn,d,Ed]
theorem tE(w:World)(k:IntKind)(hT:P.underlying T=F (.map K E))(hK:P.underlying K=F (.int k)){r:Nat}(es:Array MapEntry)(c:Nat)(n:Int)(z:Value)(hz:(zeroValue E).run P w=.ok z w)(hr:w.heap[r]?=F (.map es c))(f:Option (Nat×Value))(hf:Pa (.int k) (.int k n) es.toList 0=F f):
  (Pb T (.map (some r)) (.int k n) true).run P w=.ok (.tuple #[(f.map (·.2)).getD z,G f.isSome]) w:=by
 exact mcMapsa0
theorem tr(w:World)(k:IntKind)(hT:P.underlying T=F (.map K E))(hK:P.underlying K=F (.int k)){r:Nat}(es:Array MapEntry)(c:Nat)(n:Int)(z:Value)(hz:(zeroValue E).run P w=.ok z w)(hr:w.heap[r]?=F (.map es c))(f:Option (Nat×Value))(hf:Pa (.int k) (.int k n) es.toList 0=F f):
  (Pb T (.map (some r)) (.int k n) false).run P w=.ok ((f.map (·.2)).getD z) w:=by
 exact mcMapsa0
end Go.Mv

namespace Go.Proofs.YteggfecbjgbndaaGreatDoor
open Go.RowKit Go.Mv
variable {l:List Int} {k:Nat} {w:World}
def aB(n:Int):Bool:=decide (0<=n/\n<=1073741824)
theorem Dm(n:Int)(w:World):
  Calls C 161 #[B D n] w λe w'=>e=.returned (G (aB n))/\w=w':=by
 by_cases a:0<=n
 ·by_cases h1:n<=1073741824
  ·go_enter func161,ntmps161
   go_wp2;go_ret;exact⟨by simp[aB,a,h1],rfl⟩
  go_enter func161,ntmps161
  go_wp2;go_ret;exact⟨by simp[aB,a,h1],rfl⟩
 ·go_enter func161,ntmps161
  go_wp2;go_ret;exact⟨by simp[aB];omega,rfl⟩
theorem tK(n:Int)(w:World):
  Calls C 207 #[B D n] w λe w'=>e=.returned (G (aB n))/\w=w':=by
 by_cases a:0<=n
 ·by_cases h1:n<=1073741824
  ·go_enter func207,ntmps207
   go_wp2;go_ret;exact⟨by simp[aB,a,h1],rfl⟩
  go_enter func207,ntmps207
  go_wp2;go_ret;exact⟨by simp[aB,a,h1],rfl⟩
 ·go_enter func207,ntmps207
  go_wp2;go_ret;exact⟨by simp[aB];omega,rfl⟩
theorem ret_bool{a b:Bool}(h:a=b):Ending.returned (G a)=.returned (G b):=by rw[h]
structure Ent where
 t:Int
 k:Int
 v:Int
deriving DecidableEq
def Ent.val(e:Ent):Value:=L #[B D e.t,B D e.k,B D e.v]
def Ent.cells(e:Ent):List Value:=[B D e.t,B D e.k,B D e.v]
def Ent.okP(t k v:Int):Prop:=1<=t/\t<=1073741824/\0<=k/\k<5/\0<=v/\v<=1073741824/\(k=1\/v=0)
instance (t k v:Int):Decidable (Ent.okP t k v):=by unfold Ent.okP;infer_instance
def okB(t k v:Int):Bool:=decide (Ent.okP t k v)
def Ent.ok(e:Ent):Bool:=okB e.t e.k e.v
theorem okB_true{t k v:Int}:okB t k v=true↔Ent.okP t k v:=by simp[okB]
theorem numB_true{n:Int}:aB n=true↔(0<=n/\n<=1073741824):=by simp[aB]
theorem pT(t k v:Int)(w:World):
  Calls C 95 #[L #[B D t,B D k,B D v]] w λe w'=>e=.returned (G (okB t k v))/\Below w.heap.size w w':=by
 go_enter func95,ntmps95
 go_wp2_with (go_at_call 161;refine(Dm _ _).mono ?_;rintro e w' ⟨rfl,rfl⟩)
 all_goals go_ret
 all_goals refine⟨ret_bool ?_,(Below.refl _ _).alloc (xN _) _⟩
 all_goals (try simp only[numB_true]at *)
 all_goals (rw[Bool.eq_iff_iff,okB_true];unfold Ent.okP;simp;try omega)
def deedsMap:Array MapEntry:=#[{ key:=B D 0,val:=.func (.func 244) #[] #[],born:=0 },{ key:=B D 1,val:=.func (.func 245) #[] #[],born:=1 },
 { key:=B D 2,val:=.func (.func 246) #[] #[],born:=2 },{ key:=B D 3,val:=.func (.func 247) #[] #[],born:=3 },
 { key:=B D 4,val:=.func (.func 248) #[] #[],born:=4 }]
theorem nD(w:World)(es:Array MapEntry)(c:Nat)(n:Int)(v:Value)(hn:Pa (.int .i64) (B D n) es.toList 0=F none):
  (Pc 254 (.map (some w.heap.size)) (B D n) v).run C (w.alloc (.map es c))=.ok () (w.alloc (.map (es.push { key:=B D n,val:=v,born:=c }) (c+1))):=
 nP w .i64 underlying254 underlying3 es c n v hn
theorem LT(w:World):
  Calls C 209 #[] w λe w'=>e=.returned (.map (some w.heap.size))/\w.alloc (.map deedsMap 5)=w':=by
 have a:=@run_makeMap C;have a:=nD w #[] 0 0 (.func (.func 244) #[] #[]) rfl;have h1:=nD w #[{ key:=B D 0,val:=.func (.func 244) #[] #[],born:=0 }] 1 1 (.func (.func 245) #[] #[]) rfl;have h2:=nD w #[{ key:=B D 0,val:=.func (.func 244) #[] #[],born:=0 },{ key:=B D 1,val:=.func (.func 245) #[] #[],born:=1 }] 2 2 (.func (.func 246) #[] #[]) rfl;have h3:=nD w #[{ key:=B D 0,val:=.func (.func 244) #[] #[],born:=0 },{ key:=B D 1,val:=.func (.func 245) #[] #[],born:=1 },{ key:=B D 2,val:=.func (.func 246) #[] #[],born:=2 }] 3 3 (.func (.func 247) #[] #[]) rfl;have h4:=nD w #[{ key:=B D 0,val:=.func (.func 244) #[] #[],born:=0 },{ key:=B D 1,val:=.func (.func 245) #[] #[],born:=1 },{ key:=B D 2,val:=.func (.func 246) #[] #[],born:=2 },{ key:=B D 3,val:=.func (.func 247) #[] #[],born:=3 }] 4 4 (.func (.func 248) #[] #[]) rfl;simp only[List.push_toArray,xI,List.cons_append,Nat.reduceAdd]at a h1 h2 h3 h4;go_enter func209,ntmps209
 go_wp2;go_ret;exact⟨rfl,rfl⟩
theorem De(k:Int):∃f,Pa (.int .i64) (B D k) deedsMap.toList 0=F f/\f.isSome=decide (0<=k/\k<5):=by
 by_cases a:k=0
 ·subst a;exact⟨_,rfl,rfl⟩
 by_cases h1:k=1
 ·subst h1;exact⟨_,rfl,rfl⟩
 by_cases h2:k=2
 ·subst h2;exact⟨_,rfl,rfl⟩
 by_cases h3:k=3
 ·subst h3;exact⟨_,rfl,rfl⟩
 by_cases h4:k=4
 ·subst h4;exact⟨_,rfl,rfl⟩
 refine⟨none,?_,?_⟩
 ·have b:(k==0)=false:=by simp[a]
  have a:(k==1)=false:=by simp[h1]
  have c:(k==2)=false:=by simp[h2]
  have d:(k==3)=false:=by simp[h3]
  have e:(k==4)=false:=by simp[h4]
  simp[deedsMap,Pa,Instr.sameNow,b,a,c,d,e]
 ·simp;omega
def sF(k:Int):Bool:=decide (0<=k/\k<5)
theorem CG(k:Int):∃v,∀(W:World) (r:Nat),W.heap[r]?=F (.map deedsMap 5) ->
  (Pb 254 (.map (some r)) (B D k) true).run C W=.ok (.tuple #[v,G (sF k)]) W:=by
 obtain⟨f,hf,hb⟩:=De k;refine⟨(f.map (·.2)).getD .nilFunc,λW r h=>?_⟩;have:=tE (P:=C) W .i64 underlying254 underlying3 deedsMap 5 k .nilFunc (by kernel_rfl) h f hf;rw[this,hb];rfl
theorem mI(t k v:Int)(w:World):
  Calls C 156 #[L #[B D t,B D k,B D v]] w λe w'=>e=.returned (G (okB t k v))/\Below w.heap.size w w':=by
 obtain⟨a,hl⟩:=CG k;have a:=hl (((w.alloc (.cells #[B D t,B D k,B D v] 54)).alloc (.map deedsMap 5)).drew) (w.heap.size+1) (by
  have:=Pf (w.alloc (.cells #[B D t,B D k,B D v] 54)) (.map deedsMap 5);rwa[xS]at this)
 go_enter func156,ntmps156
 go_wp2_with fail
 go_region_held3 (λw'=>w'.cell? ⟨w.heap.size,0,H⟩=F (B D t)/\w'.cell? ⟨w.heap.size,1,H⟩=F (B D k)/\w'.cell? ⟨w.heap.size,2,H⟩=F (B D v)) (first|go_keep)
  (first|(go_at_call 209;refine(LT _).mono ?_;rintro e w' ⟨rfl,rfl⟩))
 go_wp2_with (go_at_call 207;refine(tK _ _).mono ?_;rintro e w' ⟨rfl,rfl⟩)
 all_goals go_ret
 all_goals refine⟨ret_bool ?_,(((Below.refl _ _).alloc (xN _) _).alloc (by simp) _).drew⟩
 all_goals (try simp only[numB_true,sF,decide_eq_true_eq]at *)
 all_goals (rw[Bool.eq_iff_iff,okB_true];unfold Ent.okP;simp[sF];try omega)
def ax(es:List Ent):List Value:=es.flatMap Ent.cells
def Es(w:World)(v:Value)(es:List Ent):Prop:=SlR w 3 v es.length (ax es)
theorem Es.ext{w':World}{v:Value}{es:List Ent}(h:Es w v es)(he:Ext w w'):Es w' v es:=SlR.ext h he
theorem pQ(es:List Ent)(k:Nat)(h:k<M es)(i:Nat)(hi:i<3):(ax es)[k*3+i]?=es[k].cells[i]?:=by
 induction es generalizing k with
 |nil=>simp at h
 |cons e es ih=>
  rw[show ax (e::es)=e.cells++ax es from rfl];have hl:M e.cells=3:=rfl;cases k with
  |zero=>rw[List.getElem?_append_left (by omega)];simp
  |succ k=>
   rw[List.getElem?_append_right (by omega),hl,show(k+1)*3+i-3=k*3+i from by omega];simpa using ih k (by simpa using h)
theorem Es.at_{A:Option Addr}{m c:Nat}{es:List Ent}(h:Es w (I A m c) es)(hn:0<M es):m=M es/\∃b H4,A=F ⟨b,H4,H⟩/\∀(k:Nat) (hk:k<M es),
  w.cell? ⟨b,H4+k*3,H⟩=F (B D es[k].t)/\w.cell? ⟨b,H4+k*3+1,H⟩=F (B D es[k].k)/\w.cell? ⟨b,H4+k*3+2,H⟩=F (B D es[k].v):=by
 obtain⟨rfl,b,H4,rfl,hc⟩:=SlR.at_ h hn;refine⟨rfl,b,H4,rfl,λk hk=>⟨?_,?_,?_⟩⟩
 ·exact hc (k*3) _ (pQ es k hk 0 (by omega))
 ·exact hc (k*3+1) _ (pQ es k hk 1 (by omega))
 ·exact hc (k*3+2) _ (pQ es k hk 2 (by omega))
theorem FF(t k v:Int)(w:World):
  Calls C 367 #[L #[B D t,B D k,B D v]] w λe w'=>e=.returned (G (!okB t k v))/\Below w.heap.size w w':=by
 go_enter func367,ntmps367
 go_wp2_with (go_at_call 156;refine(mI _ _ _ _).mono ?_;rintro e w' ⟨rfl,hb⟩)
 go_ret;exact⟨rfl,((Below.refl _ _).alloc (xN _) _).trans (hb.mono (by simp))⟩
def fB:List Ent->Nat->Int
 |[],_=>-1
 |e::es,i=>if e.ok then fB es (i+1)else i
theorem C9(v:Value)(es:List Ent)(w:World)(h:Es w v es):
  Calls C 372 #[v,.func (.func 367) #[] #[]] w λe w'=>e=.returned (B D (fB es 0))/\Below w.heap.size w w':=by
 obtain⟨A,c,rfl,h1,h2⟩:=xO h;have hm:=SlR.len_le h;unfold maxLen at hm;go_enter func372,ntmps372
 go_wp2_with fail
 go_loopw [8] (λi wr=>∃k:Nat,k<=M es/\i=B D k/\Hid (fB es 0=fB (es.drop k) k)/\Below w.heap.size w wr) (λi _=>M es-(intOf i).toNat)
 case atStart=>exact⟨0,Pe _,rfl,rfl,Below.refl _ _⟩
 case round=>
  obtain⟨k,hk,rfl,d,a⟩:=hrel;by_cases H0:k<M es
  ·obtain⟨_,b,H4,rfl,hc⟩:=Es.at_ (h.ext a) (by omega);obtain⟨f,f,f⟩:=hc k H0;go_wp2_with (go_at_call 367;refine(FF _ _ _ _).mono ?_;rintro e w' ⟨rfl,hb⟩)
   ·go_ret;have f:es[k].ok=false:=by simpa[Ent.ok]using(by assumption:(!okB es[k].t es[k].k es[k].v)=true)
    refine⟨nj ?_,a.trans (hb.mono a.size)⟩;rw[d.out,P1 H0,fB,f];simp
   go_roundw
   case rel=>
    have f:es[k].ok=true:=by simpa[Ent.ok]using(by assumption:(!okB es[k].t es[k].k es[k].v)=false)
    exact⟨k+1,by omega,by go_num,by rw[d.out,P1 H0,fB,f];simp[Hid],a.trans (hb.mono a.size)⟩
   case measure=>simp[intOf];omega
  ·go_wp2_with fail
   go_ret;refine⟨nj ?_,a⟩;rw[d.out,P5 (by omega)];rfl
def bQ(es:List Ent):Bool:=es.all Ent.ok
theorem DE(es:List Ent)(i:Nat):(0<=fB es i↔bQ es=false)/\-1<=fB es i:=by
 induction es generalizing i with
 |nil=>simp[fB,bQ]
 |cons e es ih=>
  have:=ih (i+1);cases h:e.ok<;>simp[fB,bQ,h]at this⊢<;>first | omega | simpa[bQ]using this | skip
theorem CL(v:Value)(es:List Ent)(w:World)(h:Es w v es):
  Calls C 366 #[v,.func (.func 367) #[] #[]] w λe w'=>e=.returned (G (!bQ es))/\Below w.heap.size w w':=by
 obtain⟨h1,h2⟩:=DE es 0;have a:=aN h1;go_enter func366,ntmps366
 go_wp2_with (go_at_call 372;refine(C9 _ _ _ h).mono ?_;rintro e w' ⟨rfl,hb⟩)
 go_ret;refine⟨ret_bool ?_,hb⟩;have:=a.out;cases h:bQ es<;>simp[h]at this⊢<;>omega
theorem Ng(v:Value)(es:List Ent)(w:World)(h:Es w v es):
  Calls C 361 #[v] w λe w'=>e=.returned (G (!bQ es))/\Below w.heap.size w w':=by
 go_enter func361,ntmps361
 go_wp2_with (go_at_call 366;refine(CL _ _ _ h).mono ?_;rintro e w' ⟨rfl,hb⟩)
 go_ret;exact⟨rfl,hb⟩
theorem FD{es:List Ent}(H0:k<M es)(h:bQ (es.take k)=true):bQ (es.take (k+1))=es[k].ok:=by
 rw[P2 H0];simp only[bQ,P8]at h⊢;rw[h];simp
theorem D8{es:List Ent}(H0:k<M es)(h:es[k].ok=false):bQ es=false:=by
 simp only[bQ,P7];exact⟨es[k],P4 H0,by simp[h]⟩
theorem AE(v:Value)(es:List Ent)(w:World)(h:Es w v es):
  Calls C 290 #[v] w λe w'=>e=.returned (G (bQ es))/\Below w.heap.size w w':=by
 obtain⟨A,c,rfl,h1,h2⟩:=xO h;have hm:=SlR.len_le h;unfold maxLen at hm;go_enter func290,ntmps290
 go_wp2_with fail
 go_loopw [3] (λi wr=>∃k:Nat,k<=M es/\i=B D k/\Hid (bQ (es.take k)=true)/\Below w.heap.size w wr) (λi _=>M es-(intOf i).toNat)
 case atStart=>exact⟨0,Pe _,rfl,rfl,Below.refl _ _⟩
 case round=>
  obtain⟨k,hk,rfl,d,a⟩:=hrel;by_cases H0:k<M es
  ·obtain⟨_,b,H4,rfl,hc⟩:=Es.at_ (h.ext a) (by omega);obtain⟨f,f,f⟩:=hc k H0;go_wp2_with (go_at_call 95;refine(pT _ _ _ _).mono ?_;rintro e w' ⟨rfl,hb⟩)
   ·go_ret;have f:es[k].ok=false:=by simpa[Ent.ok]using(by assumption:(!okB es[k].t es[k].k es[k].v)=true)
    exact⟨ret_bool (D8 H0 f).symm,a.trans (hb.mono a.size)⟩
   go_roundw
   case rel=>
    have f:es[k].ok=true:=by simpa[Ent.ok]using(by assumption:(!okB es[k].t es[k].k es[k].v)=false)
    exact⟨k+1,by omega,by go_num,(FD H0 d).trans f,a.trans (hb.mono a.size)⟩
   case measure=>simp[intOf];omega
  ·go_wp2_with fail
   go_ret;refine⟨ret_bool ?_,a⟩;have:=d.out;rw[P3 (by omega)]at this;exact this.symm
def aG(l:List Int):Bool:=l.all aB
def aF(l:List Int):List UInt8:=l.flatMap λn=>cO n.toNat
theorem Is.at_{A:Option Addr}{m c:Nat}(h:Is w (I A m c) l)(hn:0<M l):m=M l/\∃b H4,A=F ⟨b,H4,H⟩/\∀(k:Nat) (hk:k<M l),w.cell? ⟨b,H4+k,H⟩=F (B D l[k]):=by
 obtain⟨rfl,b,H4,rfl,hc⟩:=SlR.at_ h hn;exact⟨rfl,b,H4,rfl,λk hk=>hc k _ (by simp[List.getElem?_eq_getElem hk,iv])⟩
theorem IC(n:Int)(w:World):
  Calls C 235 #[B D n] w λe w'=>e=.returned (G (!aB n))/\w=w':=by
 by_cases a:n<0
 ·go_enter func235,ntmps235
  go_wp2;go_ret;exact⟨ret_bool (by simp[aB];omega),rfl⟩
 ·by_cases h1:n>1073741824
  ·go_enter func235,ntmps235
   go_wp2;go_ret;exact⟨ret_bool (by simp[aB];omega),rfl⟩
  ·go_enter func235,ntmps235
   go_wp2;go_ret;exact⟨ret_bool (by simp[aB];omega),rfl⟩
def fA:List Int->Nat->Int
 |[],_=>-1
 |n::l,i=>if aB n then fA l (i+1)else i
theorem CQ(v:Value)(l:List Int)(w:World)(h:Is w v l):
  Calls C 279 #[v,.func (.func 235) #[] #[]] w λe w'=>e=.returned (B D (fA l 0))/\w=w':=by
 obtain⟨A,c,rfl,h1,h2⟩:=xO h;have hm:=SlR.len_le h;unfold maxLen at hm;go_enter func279,ntmps279
 go_wp2_with fail
 go_loop [8] (λi=>∃k:Nat,k<=M l/\i=B D k/\Hid (fA l 0=fA (l.drop k) k)) (λi=>M l-(intOf i).toNat)
 case atStart=>exact⟨0,Pe _,rfl,rfl⟩
 case round=>
  obtain⟨k,hk,rfl,a⟩:=hrel;by_cases H0:k<M l
  ·obtain⟨_,b,H4,rfl,hc⟩:=Is.at_ h (by omega);have d:=hc k H0;go_wp2_with (go_at_call 235;refine(IC _ _).mono ?_;rintro e w' ⟨rfl,rfl⟩)
   ·go_ret;have d:aB l[k]=false:=by simpa using(by assumption:(!aB l[k])=true)
    refine⟨nj ?_,rfl⟩;rw[a.out,P1 H0,fA,d];simp
   go_round
   case rel=>
    have d:aB l[k]=true:=by simpa using(by assumption:(!aB l[k])=false)
    exact⟨k+1,by omega,by go_num,by rw[a.out,P1 H0,fA,d];simp[Hid]⟩
   case measure=>simp[intOf];omega
  ·go_wp2_with fail
   go_ret;refine⟨nj ?_,rfl⟩;rw[a.out,P5 (by omega)];rfl
theorem Df(l:List Int)(i:Nat):(0<=fA l i↔aG l=false)/\-1<=fA l i:=by
 induction l generalizing i with
 |nil=>simp[fA,aG]
 |cons e es ih=>
  have:=ih (i+1);cases h:aB e<;>simp[fA,aG,h]at this⊢<;>first | omega | simpa[aG]using this | skip
theorem Cy(v:Value)(l:List Int)(w:World)(h:Is w v l):
  Calls C 234 #[v,.func (.func 235) #[] #[]] w λe w'=>e=.returned (G (!aG l))/\w=w':=by
 obtain⟨h1,h2⟩:=Df l 0;have a:=aN h1;go_enter func234,ntmps234
 go_wp2_with (go_at_call 279;refine(CQ _ _ _ h).mono ?_;rintro e w' ⟨rfl,rfl⟩)
 go_ret;refine⟨ret_bool ?_,rfl⟩;have:=a.out;cases h:aG l<;>simp[h]at this⊢<;>omega
theorem ny(v:Value)(l:List Int)(w:World)(h:Is w v l):
  Calls C 203 #[v] w λe w'=>e=.returned (G (aG l))/\w=w':=by
 go_enter func203,ntmps203
 go_wp2_with (go_at_call 234;refine(Cy _ _ _ h).mono ?_;rintro e w' ⟨rfl,rfl⟩)
 go_ret;exact⟨ret_bool (by simp),rfl⟩
theorem tJ(H0:k<M l)(h:aB l[k]=false):aG l=false:=by
 simp only[aG,P7];exact⟨l[k],P4 H0,by simp[h]⟩
theorem D7(H0:k<M l)(h:aG (l.take k)=true):aG (l.take (k+1))=aB l[k]:=by
 rw[P2 H0];simp only[aG,P8]at h⊢;rw[h];simp
theorem lB(v:Value)(l:List Int)(w:World)(h:Is w v l):
  Calls C 183 #[v] w λe w'=>e=.returned (G (aG l))/\w=w':=by
 obtain⟨A,c,rfl,h1,h2⟩:=xO h;have hm:=SlR.len_le h;unfold maxLen at hm;go_enter func183,ntmps183
 go_wp2_with fail
 go_loop [3] (λi=>∃k:Nat,k<=M l/\i=B D k/\Hid (aG (l.take k)=true)) (λi=>M l-(intOf i).toNat)
 case atStart=>exact⟨0,Pe _,rfl,rfl⟩
 case round=>
  obtain⟨k,hk,rfl,a⟩:=hrel;by_cases H0:k<M l
  ·obtain⟨_,b,H4,rfl,hc⟩:=Is.at_ h (by omega);have d:=hc k H0;by_cases d:l[k]<0
   ·go_wp2_with fail
    go_ret;exact⟨ret_bool (tJ H0 (by simp[aB];omega)).symm,rfl⟩
   by_cases h1:1073741824<l[k]
   ·go_wp2_with fail
    go_ret;exact⟨ret_bool (tJ H0 (by simp[aB];omega)).symm,rfl⟩
   go_wp2_with fail
   go_round
   case rel=>exact⟨k+1,by omega,by go_num,(D7 H0 a).trans (by simp[aB];omega)⟩
   case measure=>simp[intOf];omega
  ·go_wp2_with fail
   go_ret;refine⟨ret_bool ?_,rfl⟩;have:=a.out;rw[P3 (by omega)]at this;exact this.symm
def hiB:Nat->Nat->List UInt8
 |0,_=>[]
 |f+1,m=>if m=0 then[]else hiB f (m / 128)++[P0 (m % 128+128)]
theorem pu(m:Nat):P0 (m % 128) ||| 128=P0 (m % 128+128):=by
 have h2:∀m:Nat,m<128->P0 m ||| 128=P0 (m+128):=by decide
 exact h2 _ (Nat.mod_lt _ (by decide))
theorem lL(f:Nat):hiB f 0=[]:=by cases f<;>simp[hiB]
theorem q9(n:Nat)(hn:n<=1073741824):cO n=hiB 5 (n / 128)++[P0 (n % 128)]:=by
 unfold cO;congr 1
 have a:n / 128 / 128=n / 16384:=by omega
 have b:n / 16384 / 128=n / 2097152:=by omega
 have c:n / 2097152 / 128=n / 268435456:=by omega
 have d:n / 268435456 / 128=0:=by omega
 by_cases h4:n / 268435456=0
 ·by_cases h3:n / 2097152=0
  ·by_cases h2:n / 16384=0
   ·by_cases h1:n / 128=0
    ·simp[a8,hiB,h1,h2,h3,h4]
    simp[a8,hiB,a,b,c,d,h1,h2,h3,h4,pu]
   have h1:n / 128≠0:=by omega
   simp[a8,hiB,a,b,c,d,h1,h2,h3,h4,pu]
  have h1:n / 128≠0:=by omega
  have h2:n / 16384≠0:=by omega
  simp[a8,hiB,a,b,c,d,h1,h2,h3,h4,pu]
 ·have h1:n / 128≠0:=by omega
  have h2:n / 16384≠0:=by omega
  have h3:n / 2097152≠0:=by omega
  simp[a8,hiB,a,b,c,d,h1,h2,h3,h4,pu]
def nu(w:World)(l:List Int)(e:Ending)(w':World):Prop:=
 ∃v,e=.returned (.tuple #[v,B D 0])/\w'.ownsRow w.heap.size 5 1 v (aF l).length ((aF l).map bv)/\Ext w w'
def mV(w:World)(e:Ending)(w':World):Prop:=e=.returned (.tuple #[I none 0 0,B D 2])/\Ext w w'
theorem zm(n:Nat):1<=M (cO n)/\M (cO n)<=5:=by
 have:=qa 7 n true 4;simp[cO];omega
theorem eY(l:List Int):M (aF l)<=5*M l:=by
 induction l with
 |nil=>simp[aF]
 |cons n l ih=>have:=(zm n.toNat).2;simp[aF]at ih⊢;omega
theorem tU(h:k<M l):aF (l.take (k+1))=aF (l.take k)++cO l[k].toNat:=by
 rw[P2 h];unfold aF;rw[List.flatMap_append];simp
theorem my(h:aG l=true)(hk:k<M l):0<=l[k]/\l[k]<=1073741824:=by
 have:=List.all_eq_true.1 h l[k] (P4 hk);simpa[aB]using this
theorem zyR(v:Value)(l:List Int)(w:World)(h:Is w v l)(hn:aG l=false)(f:Value):
  Calls C 180 #[v,f] w (mV w):=by
 go_enter func180,ntmps180
 go_wp2_with (go_at_call 203;refine(ny _ _ _ h).mono ?_;rintro e w' ⟨rfl,rfl⟩)
 go_ret2;exact⟨rfl,xR _⟩
theorem Fp(v:Value)(l:List Int)(w:World)(h:Is w v l)(hn:aG l=true)(hl:M l<=2000000):
  Calls C 180 #[v,.func (.func 181) #[] #[]] w (nu w l):=by
 obtain⟨A,c,rfl,h1,h2⟩:=xO h;have g:=aN hn;go_enter func180,ntmps180
 go_wp2_with (go_at_call 203;refine(ny _ _ _ h).mono ?_;rintro e w' ⟨rfl,rfl⟩)
 go_loopw [4,13] (λf i wr=>∃k:Nat,k<=M l/\i=B D k/\wr.ownsRow w.heap.size 5 1 f (aF (l.take k)).length ((aF (l.take k)).map bv)/\Ext w wr) (λ_ i _=>M l-(intOf i).toNat)
 case atStart=>exact⟨0,Pe _,rfl,Pg _ _ _ _,xR _⟩
 case round=>
  obtain⟨k,hk,rfl,d,a⟩:=hrel;by_cases H0:k<M l
  ·obtain⟨_,b,H4,rfl,hc⟩:=Is.at_ (h.ext a) (by omega);have f:=hc k H0;obtain⟨f,j⟩:=my g H0;have g:=eY (l.take k);have HQ:M (l.take k)<=k:=P6 _ _;have key:=F9 (aF (l.take k)) l[k].toNat (by omega) _ w.heap.size wr d a.size (by omega);rw[Int.toNat_of_nonneg f]at key;have f:=aN key;go_wp2_with (go_at_call 181;refine f.mono ?_;rintro e f⟨f,rfl,H3,f⟩)
   go_roundw
   case rel=>exact⟨k+1,by omega,by go_num,by rw[tU H0];exact H3,Below.trans a f⟩
   case measure=>simp[intOf];omega
  ·have f:l.take k=l:=P3 (by omega);rw[f]at d;go_wp2_with fail
   go_ret2;exact⟨_,rfl,d,a⟩
theorem zzh(v:Value)(l:List Int)(w:World)(h:Is w v l)(hn:aG l=false):Calls C 119 #[v] w (mV w):=by
 go_enter func119,ntmps119
 go_wp2_with (go_at_call 180;refine(zyR _ _ _ h hn _).mono ?_;rintro e w' ⟨rfl,hb⟩)
 go_ret2;exact⟨rfl,hb⟩
theorem AQ(v:Value)(l:List Int)(w:World)(h:Is w v l)(hn:aG l=true)(hl:M l<=2000000):Calls C 119 #[v] w (nu w l):=by
 go_enter func119,ntmps119
 go_wp2_with (go_at_call 180;refine(Fp _ _ _ h hn hl).mono ?_;rintro e w' ⟨a,rfl,a,hb⟩)
 go_ret2;exact⟨_,rfl,a,hb⟩
theorem qq(v:Value)(l:List Int)(w:World)(h:Is w v l)(hn:aG l=true)(hl:M l<=2000000):Calls C 121 #[v] w (nu w l):=by
 obtain⟨A,c,rfl,h1,h2⟩:=xO h;obtain⟨O,hi,Hx,G,L⟩:=info_parts dC;have U:=aN hn;go_enter func121,ntmps121
 go_wp2_with (go_at_call 183;refine(lB _ _ _ h).mono ?_;rintro e w' ⟨rfl,rfl⟩)
 go_loopw [4,5] (λx i wr=>∃k:Nat,k<=M l/\i=B D k/\wr.ownsRow w.heap.size 5 1 x (aF (l.take k)).length ((aF (l.take k)).map bv)/\Ext w wr) (λ_ i _=>M l-(intOf i).toNat)
 case atStart=>exact⟨0,Pe _,rfl,Pg _ _ _ _,xR _⟩
 case round=>
  obtain⟨k,hk,rfl,p,o⟩:=hrel;by_cases H0:k<M l
  ·obtain⟨_,b,H4,rfl,hc⟩:=Is.at_ (h.ext o) (by omega);have x:=hc k H0;obtain⟨S,V⟩:=my U H0;obtain⟨N,q⟩:=Int.eq_ofNat_of_zero_le S;rw[q]at x V;have R:=aN q;have S:=eY (l.take k);have HQ:M (l.take k)<=k:=P6 _ _;have S:b<wr.heap.size:=World.block_lt_of_cell? wr _ x;have x:cO N=hiB 5 (N / 128)++[P0 (N % 128)]:=q9 N (by omega);have Q:=aN x;go_wp2_with fail;obtain⟨n,rfl⟩:∃n:World,n=wr:=⟨_,rfl⟩;go_loopw [6,7] (λS m x=>∃(f a:Nat) (d:List UInt8),a<128^f/\f<=5/\a<=1073741824/\m=B D a/\M d+f=6/\Hid (cO N=hiB f a++d)/\x.ownsRow n.heap.size 5 1 S d.length (d.map bv)/\Ext n x) (λ_ m _=>(intOf m).toNat)
   case atStart=>
    refine⟨5,N / 128,[P0 (N % 128)],by omega,by omega,by omega,by simp,rfl,Q.out,?_,(xR _).alloc _⟩;have h:=be n [B J ((N:Int) % 128)] 5 1 (xN _);have hm:P9 bv [P0 (N % 128)]=[B J ((N:Int) % 128)]:=by simp[bv];omega
    rw[hm];exact h
   case round=>
    obtain⟨f,a,d,Hq,x,x,rfl,x,s,t,j⟩:=hrel;obtain⟨g,y,rfl,x,x,x⟩:=ia t;by_cases z:a=0
    ·subst z;rw[lL,xI]at s;go_wp2_with (at_builtin;refine wpList_append_own _ rfl (.tmp 40) (.tmp 41) 33 rfl w.heap.size 5 O (B J 0) 1 1 underlying33 hi Hx G L rfl (by decide) _ _ _ rfl (ai p j) ⟨g,0,H⟩ d.length y (d.map bv) rfl (by simp) (t.cells rfl) (de _) (by simp[maxLen];omega) (by omega) (by have:=o.size;have:=j.size;omega) ?_;intro W X H3 r _)
     go_roundw
     case rel=>
      refine⟨k+1,by omega,by go_num,?_,Ext.grownOwn (xT o j) (ai p j) r⟩;have q:=R.out;rw[tU H0,q,Int.toNat_natCast,s.out];simpa using H3
     case measure=>simp[intOf];omega
    obtain⟨f',rfl⟩:∃f',f=f'+1:=⟨f-1,by cases f with | zero=>simp at Hq;omega | succ f=>omega⟩;have x:cO N=hiB f' (a / 128)++(P0 (a % 128+128)::d):=by
     have:=s.out;rw[hiB,if_neg z]at this;simpa using this
    have q:=aN x;have x:a / 128<128^f':=by
     rw[Nat.div_lt_iff_lt_mul (by decide)];rw[Nat.pow_succ]at Hq;exact Hq
    have s:=aN x;go_wp2_with (at_builtin;refine wpList_append_own _ rfl (.tmp 37) (.tmp 38) 33 rfl n.heap.size 5 O (B J 0) 1 1 underlying33 hi Hx G L rfl (by decide) (I (F ⟨wr.heap.size,0,H⟩) 1 1) 1 [B J ((a:Int) % 128+128)] rfl (be wr [B J ((a:Int) % 128+128)] 5 1 j.size) ⟨g,0,H⟩ d.length y (d.map bv) rfl (by simp) ((t.alloc _).cells rfl) (de _) (by simp[maxLen];omega) (by omega) (by have:=o.size;have:=j.size;simp;omega) ?_;intro W X H3 r _)
    go_roundw
    case rel=>
     refine⟨f',a / 128,P0 (a % 128+128)::d,s.out,by omega,by omega,by simp,by simp;omega,q.out,?_,?_⟩
     ·have e:P9 bv (P0 (a % 128+128)::d)=[B J ((a:Int) % 128+128)]++d.map bv:=by simp[bv];omega
      rw[e];simpa[Nat.add_comm]using H3
     refine(Below.grown (xA j _) r (by have:=j.size;simp;omega) (λk a=>?_));have:wr.heap.size=k:=by simpa[Value.ownBlock]using a
     have:=j.size;omega
    case measure=>simp[intOf];omega
  ·have a:l.take k=l:=P3 (by omega);rw[a]at p;go_wp2_with fail
   go_ret2;exact⟨_,rfl,p,o⟩
end Go.Proofs.YteggfecbjgbndaaGreatDoor

namespace Go.Mv
open Go.RowKit
theorem mn{P:Program}(w:World)(base:Nat)(t ty e:TypeId)(i:TypeInfo)(z:Value)(d bytes:Nat)(x:P.underlying t=F (.slice e))(hi:P.info? e=F i)(A:i.zero=F z)(D:i.size=d)(C:i.bytes=bytes)(v:Value)(n:Nat)(xs:List Value)(p:w.ownsRow base e d v n xs)(a:Addr)(m c:Nat)(b:List Value)(hl:M b=m*d)(hm:0<m)(q:∀j u,b[j]?=F u->w.cell? (a.add j)=F u)(h1:∀u∈b,u.oneCell'=true)(B:n+m<=maxLen)(y:(n+m)*bytes<=140737488355328){d:Value}{w':World}(f:(Builtin.append_ #[t,t] ty #[v,I (some a) m c]).run P w=.ok d w'):d.ownBlock=v.ownBlock\/d.ownBlock=F w.heap.size:=by
 subst D;subst C;have d:n+m<=9223372036854775807:=by simp only[maxLen]at B;omega
 rcases p.2 with⟨rfl,rfl⟩|⟨g,r,h,rfl,d,hg,d,d,s,d⟩
 ·have o:=run_append_nil (P:=P) w t ty e i z x hi A a m c b hl q (by omega) (by omega) (by have hb:=y;simp only[Nat.zero_add]at hb;omega);rw[o]at f;cases f;exact .inr rfl
 ·by_cases d:n+m<=r
  ·have B:n*i.size+M b<=h.size:=by rw[hl,s,<-Nat.add_mul];exact Nat.mul_le_mul_right _ d
   have o:=run_append_room (P:=P) w t ty e i x hi g n r h hg a m c b hl q h1 d B;rw[o]at f;cases f;exact .inl rfl
  ·have Hk:∀j u,xs[j]?=F u->w.cell? ((⟨g,0,H⟩:Addr).add j)=F u:=p.cells (g:=g) rfl;have o:=run_append_grow (P:=P) w t ty e i z x hi A ⟨g,0,H⟩ n r xs p.1 Hk a m c b hl q (by omega) (by omega) (growslice_fits (by omega) y);rw[o]at f;cases f;exact .inr rfl
end Go.Mv
