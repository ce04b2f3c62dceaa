/- Merged -/
import Derived.Test.YteggfecbjgbndaaGreatDoorZw3
import Derived.RangeFuncRecord
import Derived.MapKept
import Derived.Deep.RegionHeld3
set_option linter.all false
set_option maxHeartbeats 8000000
set_option maxRecDepth 100000
open Go.Value renaming int→B,slice→G,bool→J,agg→N
open Go.IntKind renaming i64→C,u8→M
open Go.Proofs.Tryz renaming prog→D
open Option renaming some→F,none→I
open Go.Obj renaming cells→H
open Go.Mv renaming zhd→L
open Go.World renaming ownsRow_nil→P0,alloc_heap_new→P1
open List renaming drop_eq_getElem_cons→P2,take_succ_eq_append_getElem→P3,drop_of_length_le→P4,take_of_length_le→P5,length_drop→P6,getElem_mem→P7,eq_nil_of_length_eq_zero→P8,getElem?_eq_getElem→P9,push_toArray→Pa,all_eq_false→Pb,cons_append→Pc,all_append→Pd
open Go.Instr renaming findNow→Pe,lookup→Pf,mapUpdate→Pg,findKey→Ph
open Nat renaming zero_le→Pi,pow_le_pow_right→Pj,lt_of_lt_of_le→Pk,reduceAdd→Pl,pow_succ→Pm,le_trans→Pn
open UInt8 renaming ofNat→Po,toNat_inj→Pp
open Go.Mv.SlR renaming len_le→Pq,at_→Pr,ext→Ps
namespace Go.Mv
open Go.RowKit
theorem mcMapsa0 {P:Prop} (h:P:=by
 have Hf:(getObj r).run P w=.ok (.map es c) w:=MapKept.run_getObj_map hr
 unfold Pf
 cases f with
 | none=>simp[Sem.run_bind,run_underlying hT,Hf,zct _ k n _ hK,zcJ _ k n es.toList none hK hf,hz,go_sem]
 | some p=>simp[Sem.run_bind,run_underlying hT,Hf,zct _ k n _ hK,zcJ _ k n es.toList (some p) hK hf,go_sem]):P:=h
variable {P:Program}
theorem zct {K:TypeId} (w:World) (k:IntKind) (n:Int) (b:Bool) (hK:P.underlying K=F (.int k)) :
  (Instr.checkKey b 10000 K (.int k n)).run P w=.ok () w :=
 MapKept.run_checkKey (k:=.int k n) hK (show k=k from rfl) b 9999
theorem zcJ {K:TypeId} (w:World) (k:IntKind) (n:Int) (es:List MapEntry) (r:Option (Nat×Value)) (hK:P.underlying K=F (.int k))
  (hf:Pe (.int k) (.int k n) es 0=F r):(Ph K (.int k n) es).run P w=.ok r w:=by
 simp[Ph,run_underlying hK,go_sem,hf]
theorem zmw (w:World) (o o':Obj):(w.alloc o).putObj w.heap.size o'=w.alloc o':=by
 have h:(w.heap.push o).setIfInBounds w.heap.size o'=w.heap.push o':=by
  apply Array.ext_getElem?
  intro i;rw[Array.getElem?_setIfInBounds,Array.getElem?_push,Array.getElem?_push]
  split <;> rename_i h
  ·subst h;simp
  ·rw[if_neg (fun e=>h e.symm),if_neg (fun e=>h e.symm)]
 show ({ (w.alloc o) with heap:=(w.heap.push o).setIfInBounds w.heap.size o' }:World) = { w with heap:=w.heap.push o' }
 rw[h];rfl
theorem zev (w:World) {T K E:TypeId} (k:IntKind) (hT:P.underlying T=F (.map K E)) (hK:P.underlying K=F (.int k)) (es:Array MapEntry) (c:Nat) (n:Int) (v:Value)
  (hn:Pe (.int k) (.int k n) es.toList 0=F none) :
  (Pg T (.map (some w.heap.size)) (.int k n) v).run P (w.alloc (.map es c))=.ok () (w.alloc (.map (es.push { key:=.int k n,val:=v,born:=c }) (c+1))):=by
 have Hf:(getObj w.heap.size).run P (w.alloc (.map es c))=.ok (.map es c) (w.alloc (.map es c)):=MapKept.run_getObj_map (P1 _ _)
 have HI:∀ o,(setObj w.heap.size o).run P (w.alloc (.map es c))=.ok () ((w.alloc (.map es c)).putObj w.heap.size o):=fun o=>MapKept.run_setObj_map o (P1 _ _)
 unfold Pg;simp only[Sem.run_bind,run_underlying hT,Result.andThen_ok,Hf,zct _ k n false hK,zcJ _ k n es.toList none hK hn,HI,zmw]
theorem zlq (w:World) {T K E:TypeId} (k:IntKind) (hT:P.underlying T=F (.map K E)) (hK:P.underlying K=F (.int k)) {r:Nat} (es:Array MapEntry) (c:Nat) (n:Int) (z:Value)
  (hz:(zeroValue E).run P w=.ok z w) (hr:w.heap[r]?=F (.map es c)) (f:Option (Nat×Value)) (hf:Pe (.int k) (.int k n) es.toList 0=F f) :
  (Pf T (.map (some r)) (.int k n) true).run P w=.ok (.tuple #[(f.map (·.2)).getD z,J f.isSome]) w:=by
 exact mcMapsa0
theorem zkm (w:World) {T K E:TypeId} (k:IntKind) (hT:P.underlying T=F (.map K E)) (hK:P.underlying K=F (.int k)) {r:Nat} (es:Array MapEntry) (c:Nat) (n:Int) (z:Value)
  (hz:(zeroValue E).run P w=.ok z w) (hr:w.heap[r]?=F (.map es c)) (f:Option (Nat×Value)) (hf:Pe (.int k) (.int k n) es.toList 0=F f) :
  (Pf T (.map (some r)) (.int k n) false).run P w=.ok ((f.map (·.2)).getD z) w:=by
 exact mcMapsa0
end Go.Mv

namespace Go.Proofs.YteggfecbjgbndaaGreatDoor
open Go.RowKit Go.Mv
def zaD (n:Int):Bool:=decide (0≤n∧n≤1073741824)
theorem zlo (n:Int) (w:World) :
  Calls D 161 #[B C n] w fun e w'=>e=.returned (J (zaD n))∧w=w':=by
 by_cases h0:0≤n
 ·by_cases h1:n≤1073741824
  ·go_enter Tryz.func161,Tryz.ntmps161
   go_wp2
   go_ret
   exact ⟨by simp[zaD,h0,h1],rfl⟩
  ·go_enter Tryz.func161,Tryz.ntmps161
   go_wp2
   go_ret
   exact ⟨by simp[zaD,h0,h1],rfl⟩
 ·go_enter Tryz.func161,Tryz.ntmps161
  go_wp2
  go_ret
  exact ⟨by simp[zaD];omega,rfl⟩
theorem zg9 (n:Int) (w:World) :
  Calls D 207 #[B C n] w fun e w'=>e=.returned (J (zaD n))∧w=w':=by
 by_cases h0:0≤n
 ·by_cases h1:n≤1073741824
  ·go_enter Tryz.func207,Tryz.ntmps207
   go_wp2
   go_ret
   exact ⟨by simp[zaD,h0,h1],rfl⟩
  ·go_enter Tryz.func207,Tryz.ntmps207
   go_wp2
   go_ret
   exact ⟨by simp[zaD,h0,h1],rfl⟩
 ·go_enter Tryz.func207,Tryz.ntmps207
  go_wp2
  go_ret
  exact ⟨by simp[zaD];omega,rfl⟩
theorem ret_bool {a b:Bool} (h:a=b):Ending.returned (J a)=.returned (J b):=by rw[h]
structure Ent where
 t:Int
 k:Int
 v:Int
deriving DecidableEq
def Ent.val (e:Ent):Value:=N #[B C e.t,B C e.k,B C e.v]
def Ent.cells (e:Ent):List Value:=[B C e.t,B C e.k,B C e.v]
def Ent.okP (t k v:Int):Prop:=1≤t∧t≤1073741824∧0≤k∧k<5∧0≤v∧v≤1073741824∧(k=1∨v=0)
instance (t k v:Int):Decidable (Ent.okP t k v):=by unfold Ent.okP;infer_instance
def okB (t k v:Int):Bool:=decide (Ent.okP t k v)
def Ent.ok (e:Ent):Bool:=okB e.t e.k e.v
theorem okB_true {t k v:Int}:okB t k v=true↔Ent.okP t k v:=by simp[okB]
theorem numB_true {n:Int}:zaD n=true↔(0≤n∧n≤1073741824):=by simp[zaD]
theorem zfF (t k v:Int) (w:World) :
  Calls D 95 #[N #[B C t,B C k,B C v]] w fun e w'=>e=.returned (J (okB t k v))∧Below w.heap.size w w':=by
 go_enter Tryz.func95,Tryz.ntmps95
 go_wp2_with (go_at_call 161;refine (zlo _ _).mono ?_;rintro e w' ⟨rfl,rfl⟩)
 all_goals go_ret
 all_goals refine ⟨ret_bool ?_,(Below.refl _ _).alloc (xN _) _⟩
 all_goals (try simp only[numB_true] at *)
 all_goals (rw[Bool.eq_iff_iff,okB_true];unfold Ent.okP;simp;try omega)
def deedsMap:Array MapEntry:=#[{ key:=B C 0,val:=.func (.func 244) #[] #[],born:=0 },{ key:=B C 1,val:=.func (.func 245) #[] #[],born:=1 },
 { key:=B C 2,val:=.func (.func 246) #[] #[],born:=2 },{ key:=B C 3,val:=.func (.func 247) #[] #[],born:=3 },
 { key:=B C 4,val:=.func (.func 248) #[] #[],born:=4 }]
theorem zmc (w:World) (es:Array MapEntry) (c:Nat) (n:Int) (v:Value) (hn:Pe (.int .i64) (B C n) es.toList 0=F none) :
  (Pg 254 (.map (some w.heap.size)) (B C n) v).run D (w.alloc (.map es c))=.ok () (w.alloc (.map (es.push { key:=B C n,val:=v,born:=c }) (c+1))) :=
 zev w .i64 Tryz.underlying254 Tryz.underlying3 es c n v hn
theorem zqU (w:World) :
  Calls D 209 #[] w fun e w'=>e=.returned (.map (some w.heap.size))∧w.alloc (.map deedsMap 5)=w':=by
 have KE:=@run_makeMap D;have h0:=zmc w #[] 0 0 (.func (.func 244) #[] #[]) rfl;have h1:=zmc w #[{ key:=B C 0,val:=.func (.func 244) #[] #[],born:=0 }] 1 1 (.func (.func 245) #[] #[]) rfl;have h2:=zmc w #[{ key:=B C 0,val:=.func (.func 244) #[] #[],born:=0 },{ key:=B C 1,val:=.func (.func 245) #[] #[],born:=1 }] 2 2 (.func (.func 246) #[] #[]) rfl;have h3:=zmc w #[{ key:=B C 0,val:=.func (.func 244) #[] #[],born:=0 },{ key:=B C 1,val:=.func (.func 245) #[] #[],born:=1 },{ key:=B C 2,val:=.func (.func 246) #[] #[],born:=2 }] 3 3 (.func (.func 247) #[] #[]) rfl;have h4:=zmc w #[{ key:=B C 0,val:=.func (.func 244) #[] #[],born:=0 },{ key:=B C 1,val:=.func (.func 245) #[] #[],born:=1 },{ key:=B C 2,val:=.func (.func 246) #[] #[],born:=2 },{ key:=B C 3,val:=.func (.func 247) #[] #[],born:=3 }] 4 4 (.func (.func 248) #[] #[]) rfl;simp only[Pa,xI,Pc,Pl] at h0 h1 h2 h3 h4
 go_enter Tryz.func209,Tryz.ntmps209
 go_wp2
 go_ret
 exact ⟨rfl,rfl⟩
theorem zlh (k:Int):∃ f,Pe (.int .i64) (B C k) deedsMap.toList 0=F f∧f.isSome=decide (0≤k∧k<5):=by
 by_cases h0:k=0
 ·subst h0;exact ⟨_,rfl,rfl⟩
 by_cases h1:k=1
 ·subst h1;exact ⟨_,rfl,rfl⟩
 by_cases h2:k=2
 ·subst h2;exact ⟨_,rfl,rfl⟩
 by_cases h3:k=3
 ·subst h3;exact ⟨_,rfl,rfl⟩
 by_cases h4:k=4
 ·subst h4;exact ⟨_,rfl,rfl⟩
 refine ⟨none,?_,?_⟩
 ·have e0:(k==0)=false:=by simp[h0]
  have e1:(k==1)=false:=by simp[h1]
  have e2:(k==2)=false:=by simp[h2]
  have e3:(k==3)=false:=by simp[h3]
  have e4:(k==4)=false:=by simp[h4]
  simp[deedsMap,Pe,Instr.sameNow,e0,e1,e2,e3,e4]
 ·simp;omega
def zpz (k:Int):Bool:=decide (0≤k∧k<5)
theorem zjD (k:Int):∃ v,∀ (W:World) (r:Nat),W.heap[r]?=F (.map deedsMap 5) →
  (Pf 254 (.map (some r)) (B C k) true).run D W=.ok (.tuple #[v,J (zpz k)]) W:=by
 obtain ⟨f,hf,hb⟩:=zlh k
 refine ⟨(f.map (·.2)).getD .nilFunc,fun W r h=>?_⟩
 have:=zlq (P:=D) W .i64 Tryz.underlying254 Tryz.underlying3 deedsMap 5 k .nilFunc (by kernel_rfl) h f hf
 rw[this,hb];rfl
theorem zfS (t k v:Int) (w:World) :
  Calls D 156 #[N #[B C t,B C k,B C v]] w fun e w'=>e=.returned (J (okB t k v))∧Below w.heap.size w w':=by
 obtain ⟨fv,hl⟩:=zjD k
 have KD:=hl (((w.alloc (H #[B C t,B C k,B C v] 54)).alloc (.map deedsMap 5)).drew) (w.heap.size+1) (by
  have:=P1 (w.alloc (H #[B C t,B C k,B C v] 54)) (.map deedsMap 5)
  rwa [xS] at this)
 clear hl
 go_enter Tryz.func156,Tryz.ntmps156
 go_wp2_with fail
 go_region_held3 (fun w'=>w'.cell? ⟨w.heap.size,0,I⟩=F (B C t)∧w'.cell? ⟨w.heap.size,1,I⟩=F (B C k)∧w'.cell? ⟨w.heap.size,2,I⟩=F (B C v)) (first | go_keep)
  (first | (go_at_call 209;refine (zqU _).mono ?_;rintro e w' ⟨rfl,rfl⟩))
 go_wp2_with (go_at_call 207;refine (zg9 _ _).mono ?_;rintro e w' ⟨rfl,rfl⟩)
 all_goals go_ret
 all_goals refine ⟨ret_bool ?_,(((Below.refl _ _).alloc (xN _) _).alloc (by simp) _).drew⟩
 all_goals (try simp only[numB_true,zpz,decide_eq_true_eq] at *)
 all_goals (rw[Bool.eq_iff_iff,okB_true];unfold Ent.okP;simp[zpz];try omega)
def zat (es:List Ent):List Value:=es.flatMap Ent.cells
def Es (w:World) (v:Value) (es:List Ent):Prop:=SlR w 3 v es.length (zat es)
theorem Es.ext {w w':World} {v:Value} {es:List Ent} (h:Es w v es) (he:Ext w w'):Es w' v es:=Ps h he
theorem zgi (es:List Ent) (k:Nat) (h:k<es.length) (i:Nat) (hi:i<3):(zat es)[k*3+i]?=es[k].cells[i]?:=by
 induction es generalizing k with
 | nil=>simp at h
 | cons e es ih =>
  rw[show zat (e::es)=e.cells++zat es from rfl]
  have hl:e.cells.length=3:=rfl
  cases k with
  | zero=>rw[List.getElem?_append_left (by omega)];simp
  | succ k =>
   rw[List.getElem?_append_right (by omega),hl,show (k+1)*3+i-3=k*3+i from by omega]
   simpa using ih k (by simpa using h)
theorem Es.at_ {w:World} {A:Option Addr} {m c:Nat} {es:List Ent} (h:Es w (G A m c) es) (hn:0<es.length):m=es.length∧∃ b H2,A=F ⟨b,H2,I⟩∧∀ (k:Nat) (hk:k<es.length),
  w.cell? ⟨b,H2+k*3,I⟩=F (B C es[k].t)∧w.cell? ⟨b,H2+k*3+1,I⟩=F (B C es[k].k)∧w.cell? ⟨b,H2+k*3+2,I⟩=F (B C es[k].v):=by
 obtain ⟨rfl,b,H2,rfl,hc⟩:=Pr h hn
 refine ⟨rfl,b,H2,rfl,fun k hk=>⟨?_,?_,?_⟩⟩
 ·exact hc (k*3) _ (zgi es k hk 0 (by omega))
 ·exact hc (k*3+1) _ (zgi es k hk 1 (by omega))
 ·exact hc (k*3+2) _ (zgi es k hk 2 (by omega))
theorem zo1 (t k v:Int) (w:World) :
  Calls D 367 #[N #[B C t,B C k,B C v]] w fun e w'=>e=.returned (J (!okB t k v))∧Below w.heap.size w w':=by
 go_enter Tryz.func367,Tryz.ntmps367
 go_wp2_with (go_at_call 156;refine (zfS _ _ _ _).mono ?_;rintro e w' ⟨rfl,hb⟩)
 go_ret
 exact ⟨rfl,((Below.refl _ _).alloc (xN _) _).trans (hb.mono (by simp))⟩
def zik:List Ent→Nat→Int
 | [],_=>-1
 | e::es,i=>if e.ok then zik es (i+1) else i
theorem zuj (v:Value) (es:List Ent) (w:World) (h:Es w v es) :
  Calls D 372 #[v,.func (.func 367) #[] #[]] w fun e w'=>e=.returned (B C (zik es 0))∧Below w.heap.size w w':=by
 obtain ⟨A,c,rfl,h1,h2⟩:=xO h;have hm:=Pq h;unfold maxLen at hm
 go_enter Tryz.func372,Tryz.ntmps372
 go_wp2_with fail
 go_loopw [8] (fun i wr=>∃ k:Nat,k≤es.length∧i=B C k∧Hid (zik es 0=zik (es.drop k) k)∧Below w.heap.size w wr) (fun i _=>es.length-(intOf i).toNat)
 case atStart=>exact ⟨0,Pi _,rfl,rfl,Below.refl _ _⟩
 case round =>
  obtain ⟨k,hk,rfl,Hb,hB⟩:=hrel
  by_cases H0:k<es.length
  ·obtain ⟨_,b,H2,rfl,hc⟩:=Es.at_ (h.ext hB) (by omega)
   obtain ⟨Hj,Kr,Ks⟩:=hc k H0;clear hc
   go_wp2_with (go_at_call 367;refine (zo1 _ _ _ _).mono ?_;rintro e w' ⟨rfl,hb⟩)
   ·go_ret
    have Hl:es[k].ok=false:=by simpa [Ent.ok] using (by assumption:(!okB es[k].t es[k].k es[k].v)=true)
    refine ⟨zgG ?_,hB.trans (hb.mono hB.size)⟩
    rw[Hb.out,P2 H0,zik,Hl]
    simp
   ·go_roundw
    case rel =>
     have Hu:es[k].ok=true:=by simpa [Ent.ok] using (by assumption:(!okB es[k].t es[k].k es[k].v)=false)
     exact ⟨k+1,by omega,by go_num,by rw[Hb.out,P2 H0,zik,Hu];simp[Hid],hB.trans (hb.mono hB.size)⟩
    case measure=>simp[intOf];omega
  ·go_wp2_with fail
   go_ret
   refine ⟨zgG ?_,hB⟩
   rw[Hb.out,P4 (by omega)];rfl
def zcA (es:List Ent):Bool:=es.all Ent.ok
theorem zoZ {es:List Ent} {k:Nat} (H0:k<es.length) (h:zcA (es.take k)=true):zcA (es.take (k+1))=es[k].ok:=by
 rw[P3 H0]
 simp only[zcA,Pd] at h ⊢
 rw[h];simp
theorem znk {es:List Ent} {k:Nat} (H0:k<es.length) (h:es[k].ok=false):zcA es=false:=by
 simp only[zcA,Pb]
 exact ⟨es[k],P7 H0,by simp[h]⟩
theorem zl8 (v:Value) (es:List Ent) (w:World) (h:Es w v es) :
  Calls D 290 #[v] w fun e w'=>e=.returned (J (zcA es))∧Below w.heap.size w w':=by
 obtain ⟨A,c,rfl,h1,h2⟩:=xO h;have hm:=Pq h;unfold maxLen at hm
 go_enter Tryz.func290,Tryz.ntmps290
 go_wp2_with fail
 go_loopw [3] (fun i wr=>∃ k:Nat,k≤es.length∧i=B C k∧Hid (zcA (es.take k)=true)∧Below w.heap.size w wr) (fun i _=>es.length-(intOf i).toNat)
 case atStart=>exact ⟨0,Pi _,rfl,rfl,Below.refl _ _⟩
 case round =>
  obtain ⟨k,hk,rfl,Hb,hB⟩:=hrel
  by_cases H0:k<es.length
  ·obtain ⟨_,b,H2,rfl,hc⟩:=Es.at_ (h.ext hB) (by omega)
   obtain ⟨Hj,Kr,Ks⟩:=hc k H0;clear hc
   go_wp2_with (go_at_call 95;refine (zfF _ _ _ _).mono ?_;rintro e w' ⟨rfl,hb⟩)
   ·go_ret
    have Hl:es[k].ok=false:=by simpa [Ent.ok] using (by assumption:(!okB es[k].t es[k].k es[k].v)=true)
    exact ⟨ret_bool (znk H0 Hl).symm,hB.trans (hb.mono hB.size)⟩
   ·go_roundw
    case rel =>
     have Hu:es[k].ok=true:=by simpa [Ent.ok] using (by assumption:(!okB es[k].t es[k].k es[k].v)=false)
     exact ⟨k+1,by omega,by go_num,(zoZ H0 Hb.out).trans Hu,hB.trans (hb.mono hB.size)⟩
    case measure=>simp[intOf];omega
  ·go_wp2_with fail
   go_ret
   refine ⟨ret_bool ?_,hB⟩
   have:=Hb.out
   rw[P5 (by omega)] at this
   exact this.symm
def zau (l:List Int):Bool:=l.all zaD
def zao (l:List Int):List UInt8:=l.flatMap fun n=>zbC n.toNat
theorem Is.at_ {w:World} {A:Option Addr} {m c:Nat} {l:List Int} (h:Is w (G A m c) l) (hn:0<l.length):m=l.length∧∃ b H2,A=F ⟨b,H2,I⟩∧∀ (k:Nat) (hk:k<l.length),w.cell? ⟨b,H2+k,I⟩=F (B C l[k]):=by
 obtain ⟨rfl,b,H2,rfl,hc⟩:=Pr h hn
 exact ⟨rfl,b,H2,rfl,fun k hk=>hc k _ (by simp[P9 hk,iv])⟩
theorem zqr (n:Int) (w:World) :
  Calls D 235 #[B C n] w fun e w'=>e=.returned (J (!zaD n))∧w=w':=by
 by_cases h0:n<0
 ·go_enter Tryz.func235,Tryz.ntmps235
  go_wp2
  go_ret
  exact ⟨ret_bool (by simp[zaD];omega),rfl⟩
 ·by_cases h1:n>1073741824
  ·go_enter Tryz.func235,Tryz.ntmps235
   go_wp2
   go_ret
   exact ⟨ret_bool (by simp[zaD];omega),rfl⟩
  ·go_enter Tryz.func235,Tryz.ntmps235
   go_wp2
   go_ret
   exact ⟨ret_bool (by simp[zaD];omega),rfl⟩
def zdK:List Int→Nat→Int
 | [],_=>-1
 | n::l,i=>if zaD n then zdK l (i+1) else i
theorem zj7 (v:Value) (l:List Int) (w:World) (h:Is w v l) :
  Calls D 279 #[v,.func (.func 235) #[] #[]] w fun e w'=>e=.returned (B C (zdK l 0))∧w=w':=by
 obtain ⟨A,c,rfl,h1,h2⟩:=xO h;have hm:=Pq h;unfold maxLen at hm
 go_enter Tryz.func279,Tryz.ntmps279
 go_wp2_with fail
 go_loop [8] (fun i=>∃ k:Nat,k≤l.length∧i=B C k∧Hid (zdK l 0=zdK (l.drop k) k)) (fun i=>l.length-(intOf i).toNat)
 case atStart=>exact ⟨0,Pi _,rfl,rfl⟩
 case round =>
  obtain ⟨k,hk,rfl,Hb⟩:=hrel
  by_cases H0:k<l.length
  ·obtain ⟨_,b,H2,rfl,hc⟩:=Is.at_ h (by omega)
   have Hj:=hc k H0;clear hc
   go_wp2_with (go_at_call 235;refine (zqr _ _).mono ?_;rintro e w' ⟨rfl,rfl⟩)
   ·go_ret
    have Hl:zaD l[k]=false:=by simpa using (by assumption:(!zaD l[k])=true)
    refine ⟨zgG ?_,rfl⟩
    rw[Hb.out,P2 H0,zdK,Hl]
    simp
   ·go_round
    case rel =>
     have Hu:zaD l[k]=true:=by simpa using (by assumption:(!zaD l[k])=false)
     exact ⟨k+1,by omega,by go_num,by rw[Hb.out,P2 H0,zdK,Hu];simp[Hid]⟩
    case measure=>simp[intOf];omega
  ·go_wp2_with fail
   go_ret
   refine ⟨zgG ?_,rfl⟩
   rw[Hb.out,P4 (by omega)];rfl
theorem zli (l:List Int) (i:Nat):(0≤zdK l i↔zau l=false)∧-1≤zdK l i:=by
 induction l generalizing i with
 | nil=>simp[zdK,zau]
 | cons e es ih =>
  have:=ih (i+1)
  cases h:zaD e <;> simp[zdK,zau,h] at this ⊢ <;> first | omega | simpa [zau] using this | skip
theorem ziA (v:Value) (l:List Int) (w:World) (h:Is w v l) :
  Calls D 234 #[v,.func (.func 235) #[] #[]] w fun e w'=>e=.returned (J (!zau l))∧w=w':=by
 obtain ⟨h1,h2⟩:=zli l 0;have H1:=L h1;clear h1
 go_enter Tryz.func234,Tryz.ntmps234
 go_wp2_with (go_at_call 279;refine (zj7 _ _ _ h).mono ?_;rintro e w' ⟨rfl,rfl⟩)
 go_ret
 refine ⟨ret_bool ?_,rfl⟩
 have:=H1.out
 cases h:zau l <;> simp[h] at this ⊢ <;> omega
theorem zqs (v:Value) (l:List Int) (w:World) (h:Is w v l) :
  Calls D 203 #[v] w fun e w'=>e=.returned (J (zau l))∧w=w':=by
 go_enter Tryz.func203,Tryz.ntmps203
 go_wp2_with (go_at_call 234;refine (ziA _ _ _ h).mono ?_;rintro e w' ⟨rfl,rfl⟩)
 go_ret
 exact ⟨ret_bool (by simp),rfl⟩
theorem zhE {l:List Int} {k:Nat} (H0:k<l.length) (h:zaD l[k]=false):zau l=false:=by
 simp only[zau,Pb]
 exact ⟨l[k],P7 H0,by simp[h]⟩
theorem znj {l:List Int} {k:Nat} (H0:k<l.length) (h:zau (l.take k)=true):zau (l.take (k+1))=zaD l[k]:=by
 rw[P3 H0]
 simp only[zau,Pd] at h ⊢
 rw[h];simp
theorem zd4 (v:Value) (l:List Int) (w:World) (h:Is w v l) :
  Calls D 183 #[v] w fun e w'=>e=.returned (J (zau l))∧w=w':=by
 obtain ⟨A,c,rfl,h1,h2⟩:=xO h;have hm:=Pq h;unfold maxLen at hm
 go_enter Tryz.func183,Tryz.ntmps183
 go_wp2_with fail
 go_loop [3] (fun i=>∃ k:Nat,k≤l.length∧i=B C k∧Hid (zau (l.take k)=true)) (fun i=>l.length-(intOf i).toNat)
 case atStart=>exact ⟨0,Pi _,rfl,rfl⟩
 case round =>
  obtain ⟨k,hk,rfl,Hb⟩:=hrel
  by_cases H0:k<l.length
  ·obtain ⟨_,b,H2,rfl,hc⟩:=Is.at_ h (by omega)
   have Hj:=hc k H0;clear hc
   by_cases h0:l[k]<0
   ·go_wp2_with fail
    go_ret
    exact ⟨ret_bool (zhE H0 (by simp[zaD];omega)).symm,rfl⟩
   ·by_cases h1:1073741824<l[k]
    ·go_wp2_with fail
     go_ret
     exact ⟨ret_bool (zhE H0 (by simp[zaD];omega)).symm,rfl⟩
    ·go_wp2_with fail
     go_round
     case rel=>exact ⟨k+1,by omega,by go_num,(znj H0 Hb.out).trans (by simp[zaD];omega)⟩
     case measure=>simp[intOf];omega
  ·go_wp2_with fail
   go_ret
   refine ⟨ret_bool ?_,rfl⟩
   have:=Hb.out
   rw[P5 (by omega)] at this
   exact this.symm
def hiB:Nat→Nat→List UInt8
 | 0,_=>[]
 | f+1,m=>if m=0 then [] else hiB f (m / 128)++[Po (m % 128+128)]
theorem zlE (m:Nat):Po (m % 128) ||| 128=Po (m % 128+128):=by
 have h2:∀ m:Nat,m<128→Po m ||| 128=Po (m+128):=by decide
 exact h2 _ (Nat.mod_lt _ (by decide))
theorem zep (f:Nat):hiB f 0=[]:=by cases f <;> simp[hiB]
theorem zh4 (n:Nat) (hn:n≤1073741824):zbC n=hiB 5 (n / 128)++[Po (n % 128)]:=by
 unfold zbC
 congr 1
 have d2:n / 128 / 128=n / 16384:=by omega
 have d3:n / 16384 / 128=n / 2097152:=by omega
 have d4:n / 2097152 / 128=n / 268435456:=by omega
 have d5:n / 268435456 / 128=0:=by omega
 by_cases h4:n / 268435456=0
 ·by_cases h3:n / 2097152=0
  ·by_cases h2:n / 16384=0
   ·by_cases h1:n / 128=0
    ·simp[zaP,hiB,h1,h2,h3,h4]
    ·simp[zaP,hiB,d2,d3,d4,d5,h1,h2,h3,h4,zlE]
   ·have h1:n / 128≠0:=by omega
    simp[zaP,hiB,d2,d3,d4,d5,h1,h2,h3,h4,zlE]
  ·have h1:n / 128≠0:=by omega
   have h2:n / 16384≠0:=by omega
   simp[zaP,hiB,d2,d3,d4,d5,h1,h2,h3,h4,zlE]
 ·have h1:n / 128≠0:=by omega
  have h2:n / 16384≠0:=by omega
  have h3:n / 2097152≠0:=by omega
  simp[zaP,hiB,d2,d3,d4,d5,h1,h2,h3,h4,zlE]
def zgy (w:World) (l:List Int) (e:Ending) (w':World):Prop :=
 ∃ v,e=.returned (.tuple #[v,B C 0])∧w'.ownsRow w.heap.size 5 1 v (zao l).length ((zao l).map bv)∧Ext w w'
def zi0 (w:World) (e:Ending) (w':World):Prop:=e=.returned (.tuple #[G none 0 0,B C 2])∧Ext w w'
theorem zjV (n:Nat):1≤(zbC n).length∧(zbC n).length≤5:=by
 have:=zjE 7 n true 4
 simp[zbC];omega
theorem zcj (l:List Int):(zao l).length≤5*l.length:=by
 induction l with
 | nil=>simp[zao]
 | cons n l ih=>have:=(zjV n.toNat).2;simp[zao] at ih ⊢;omega
theorem ziW {l:List Int} {k:Nat} (h:k<l.length):zao (l.take (k+1))=zao (l.take k)++zbC l[k].toNat:=by
 rw[P3 h];unfold zao;rw[List.flatMap_append];simp
theorem ze6 {l:List Int} (h:zau l=true) {k:Nat} (hk:k<l.length):0≤l[k]∧l[k]≤1073741824:=by
 have:=List.all_eq_true.1 h l[k] (P7 hk)
 simpa [zaD] using this
theorem znP (v:Value) (l:List Int) (w:World) (h:Is w v l) (hn:zau l=true) (hl:l.length≤2000000) :
  Calls D 180 #[v,.func (.func 181) #[] #[]] w (zgy w l):=by
 obtain ⟨A,c,rfl,h1,h2⟩:=xO h;have Hn:=L hn
 go_enter Tryz.func180,Tryz.ntmps180
 go_wp2_with (go_at_call 203;refine (zqs _ _ _ h).mono ?_;rintro e w' ⟨rfl,rfl⟩)
 clear hn
 go_loopw [4,13] (fun vb i wr=>∃ k:Nat,k≤l.length∧i=B C k∧wr.ownsRow w.heap.size 5 1 vb (zao (l.take k)).length ((zao (l.take k)).map bv)∧Ext w wr) (fun _ i _=>l.length-(intOf i).toNat)
 case atStart=>exact ⟨0,Pi _,rfl,P0 _ _ _ _,xR _⟩
 case round =>
  obtain ⟨k,hk,rfl,H4,hB⟩:=hrel
  by_cases H0:k<l.length
  ·obtain ⟨_,b,H2,rfl,hc⟩:=Is.at_ (h.ext hB) (by omega)
   have Hj:=hc k H0;clear hc;obtain ⟨Kw,KF⟩:=ze6 Hn.out H0;have Hx:=zcj (l.take k)
   have KI:(l.take k).length≤k:=List.length_take_le _ _
   have key:=zoS (zao (l.take k)) l[k].toNat (by omega) _ w.heap.size wr H4 hB.size (by omega);rw[Int.toNat_of_nonneg Kw] at key;have Hd:=L key;clear key
   go_wp2_with (go_at_call 181;refine Hd.out.mono ?_;rintro e w1 ⟨v',rfl,H6,Kq⟩)
   go_roundw
   case rel=>exact ⟨k+1,by omega,by go_num,by rw[ziW H0];exact H6,Below.trans hB Kq⟩
   case measure=>simp[intOf];omega
  ·have HL:l.take k=l:=P5 (by omega)
   rw[HL] at H4;clear HL;go_wp2_with fail
   go_ret2
   exact ⟨_,rfl,H4,hB⟩
theorem zlQ (v:Value) (l:List Int) (w:World) (h:Is w v l) (hn:zau l=true) (hl:l.length≤2000000):Calls D 119 #[v] w (zgy w l):=by
 go_enter Tryz.func119,Tryz.ntmps119
 go_wp2_with (go_at_call 180;refine (znP _ _ _ h hn hl).mono ?_;rintro e w' ⟨v',rfl,ho,hb⟩)
 go_ret2
 exact ⟨_,rfl,ho,hb⟩
open Go.RowKit Go.Mv Go.Shelf
theorem mcTakesa0 {P:Prop} (h:P:=by
 have Ha:(!zau [(n:Int)*128+(q':Int) % 128])=false:=by assumption
 have ht:=H3.out
 rw[if_neg hb,if_pos (by simp[zau,zaD] at Ha;omega)] at ht
 refine ⟨v',by rw[ht];simp,?_,?_⟩
 ·rw[ht]
  rw[P6]
  simpa using H6
 ·refine Below.grown H8 H5 H8.size (fun k ek=>?_)
  have:w.heap.size+1=k:=by simpa [Value.ownBlock] using ek
  omega):P:=h
theorem mcTakesa1 {P:Prop} (h:P:=by
 have ht:=H3.out
 rw[if_neg hb,if_neg (by simp[zau,zaD] at Hi;omega)] at ht
 exact ⟨_,by rw[ht];rfl,by rw[ht];exact P0 _ _ _ _,xA (xR _) _⟩):P:=h
def zbz:Nat→Nat→List UInt8→Int×Nat×List UInt8
 | 0,_,_=>(11,0,[])
 | _+1,_,[]=>(10,0,[])
 | f+1,n,b::l=>if 128≤b.toNat then zbz f (n*128+b.toNat % 128) l else if n*128+b.toNat % 128≤1073741824 then (0,n*128+b.toNat % 128,l) else (11,0,[])
def zaI (l:List UInt8):Int×Nat×List UInt8:=if l.head?=F 128 then (11,0,[]) else zbz 5 0 l
def zij (w:World) (r:Int×Nat×List UInt8) (e:Ending) (w':World):Prop :=
 ∃ v,e=.returned (.tuple #[B C r.2.1,v,B C r.1])∧w'.ownsRow w.heap.size 5 1 v r.2.2.length (r.2.2.map bv)∧Ext w w'
theorem Bs.at_ {w:World} {A:Option Addr} {m c:Nat} {l:List UInt8} (h:Bs w (G A m c) l) (hn:0<l.length):m=l.length∧∃ b H2,A=F ⟨b,H2,I⟩∧∀ (k:Nat) (hk:k<l.length),w.cell? ⟨b,H2+k,I⟩=F (B M (l[k].toNat:Int)):=by
 obtain ⟨rfl,b,H2,rfl,hc⟩:=Pr h hn
 exact ⟨rfl,b,H2,rfl,fun k hk=>hc k _ (by simp[P9 hk,bv])⟩
def TkR (bs:List UInt8) (A:Option Addr) (c:Nat) (w:World) (a:Act) (w':World):Prop :=
 ∃ (i n:Nat) (u6 u7 u8 u9 HM HN HO HP HQ HR HS HU HV HW HX HY HZ K0 K1 K2 K3 K4 K5 K6 K7 K8 K9 Ka Kb Kc Kd Ke Kf Kg Kh Ki Kj Kk Kl Km Kn Ko Kp:Value),(i≤5∧i≤bs.length∧n<128^i∧Hid (zaI bs=zbz (5-i) n (bs.drop i))∧w=w')∧a=⟨#[G A bs.length c,undef,B C n,G none 0 0,B C 0,B C i,u6,u7,u8,u9,HM,HN,HO,HP,HQ,HR,HS,HU,HV,HW,HX,HY,HZ,K0,K1,K2,K3,K4,K5,K6,K7,K8,K9,Ka,Kb,Kc,Kd,Ke,Kf,Kg,Kh,Ki,Kj,Kk,Kl,Km,Kn,Ko,Kp],[]⟩
theorem zsf (v:Value) (bs:List UInt8) (w:World) (H9:Bs w v bs) (hl:bs.length≤140737488355328):Calls D 148 #[v] w (zij w (zaI bs)):=by
 obtain ⟨A,c,rfl,h1,h2⟩:=xO H9
 refine (callsIn_wd (ro:=none) (n:=9)).1 ?_
 refine callsIn_of_wp Tryz.func148 rfl trivial ?_ rfl
 simp only[Tryz.ntmps148,List.size_toArray,xC,List.length_nil,Pl,Nat.reduceSub,Array.replicate_succ,Array.replicate_zero,Pa,List.append_toArray,xI,Pc]
 gi_wp2
 refine zcX 0 (TkR bs A c w) (fun a _=>5-(intOf (a.tmps.getD 5 undef)).toNat) rfl (fun l' h=>by cases l' <;> first | exact absurd rfl h | rfl) ?_ ?_
 ·intro Hc
  have Hg:=L Hc;clear Hc
  by_cases h0:bs.length=0
  ·have hz:¬ (0<bs.length):=by omega
   have hb:bs=[]:=P8 h0
   subst hb
   have Hz:Hid (zaI []=zbz (5-0) 0 ([].drop 0)):=rfl
   gi_wp2
   refine wpIn_label ?_
   gi_step
   gi_step
   exact Hg.out _ _ ⟨0,0,_,_,_,_,_,_,_,_,_,_,_,_,_,_,_,_,_,_,_,_,_,_,_,_,_,_,_,_,_,_,_,_,_,_,_,_,_,_,_,_,_,_,_,⟨by omega,by simp,by decide,Hz,rfl⟩,rfl⟩
  ·obtain ⟨_,b,H2,rfl,hc⟩:=Bs.at_ H9 (by omega)
   have Hj:w.cell? ⟨b,H2,I⟩=F (B M (bs[0].toNat:Int)):=hc 0 (by omega)
   by_cases h128:bs[0].toNat=128
   ·have e:((bs[0].toNat:Int)==128)=true:=by simp;omega
    have ht:zaI bs=(11,0,[]):=by
     have:bs[0]=128:=by apply Pp.1;simpa using h128
     cases bs with
     | nil=>simp at h0
     | cons x l=>simp at this;simp[zaI,this]
    have Ht:=L ht;clear ht hc
    gi_wp2
    refine za5 ?_
    go_ret3
    exact ⟨_,by rw[Ht.out];rfl,by rw[Ht.out];exact P0 _ _ _ _,xR _⟩
   ·have e:((bs[0].toNat:Int)==128)=false:=by simp;omega
    have ht:zaI bs=zbz (5-0) 0 (bs.drop 0):=by
     have:bs[0]≠128:=fun e=>h128 (by rw[e];rfl)
     cases bs with
     | nil=>simp at h0
     | cons x l=>simp at this;simp[zaI,this]
    have Hz:=L ht;clear ht hc
    gi_wp2
    refine wpIn_label ?_
    gi_step
    gi_step
    exact Hg.out _ _ ⟨0,0,_,_,_,_,_,_,_,_,_,_,_,_,_,_,_,_,_,_,_,_,_,_,_,_,_,_,_,_,_,_,_,_,_,_,_,_,_,_,_,_,_,_,_,⟨by omega,by omega,by decide,Hz,rfl⟩,rfl⟩
 ·intro a w' hR
  obtain ⟨i,n,u6,u7,u8,u9,HM,HN,HO,HP,HQ,HR,HS,HU,HV,HW,HX,HY,HZ,K0,K1,K2,K3,K4,K5,K6,K7,K8,K9,Ka,Kb,Kc,Kd,Ke,Kf,Kg,Kh,Ki,Kj,Kk,Kl,Km,Kn,Ko,Kp,⟨Ku,Kv,hn,HT,rfl⟩,rfl⟩:=hR
  by_cases h5:i=5
  ·subst h5
   gi_wp2
   refine za5 ?_
   go_ret3
   have ht:zaI bs=(11,0,[]):=HT.out
   exact ⟨_,by rw[ht];rfl,by rw[ht];exact P0 _ _ _ _,xR _⟩
  have e1:((i:Int)==5)=false:=by simp;omega
  have HK:i≤4:=by omega
  have hf:5-i=(4-i)+1:=by omega
  have hT:=HT.out;rw[hf] at hT
  by_cases hlen:i=bs.length
  ·have e2:((i:Int)==(bs.length:Int))=true:=by simp;omega
   have ht:zaI bs=(10,0,[]):=by
    rw[hT,P4 (by omega),zbz]
   have Ht:=L ht;clear ht hT hf hlen
   gi_wp2
   refine za5 ?_
   go_ret3
   exact ⟨_,by rw[Ht.out];rfl,by rw[Ht.out];exact P0 _ _ _ _,xR _⟩
  obtain ⟨_,b,H2,rfl,hc⟩:=Bs.at_ H9 (by omega)
  have H0:i<bs.length:=by omega
  have Kt:=hc i H0
  have e2:((i:Int)==(bs.length:Int))=false:=by simp;omega
  rw[P2 H0,zbz] at hT
  have Kx:n<268435456:=Pk hn (Pn (Pj (by decide) HK) (by decide))
  have hq:=bs[i].toNat_lt
  generalize bs[i].toNat=q at *
  have ha:bits .and .u8 (q:Int) 127=(q:Int) % 128:=bits_mask .u8 8 (by decide) wraps_u8 7 (by decide) _ (by omega) (by omega)
  have ho:bits .or .i64 ((n:Int)*128) ((q:Int) % 128)=(n:Int)*128+(q:Int) % 128:=bits_join .i64 62 (by decide) zeS 7 _ _ (by omega) (by omega) (by omega) (by omega) (by omega) (by omega)
  have H3:=L hT
  have Hs:n*128+q % 128<128^(i+1):=by rw[Pm];omega
  have HA:=L Hs;clear hT hf hc Hs hn HT
  by_cases hb:128≤q
  ·have Hh:=H3.out
   rw[if_pos hb] at Hh;have Hy:=L Hh;clear Hh
   gi_wp2
   refine wpIn_goto ?_
   try simp only[Exit.then]
   refine zar (by simp) ⟨?_,by simp[intOf];omega⟩
   have ec:((n:Int)*128+(q:Int) % 128)=((n*128+q % 128:Nat):Int):=by simp
   rw[ec]
   exact ⟨i+1,n*128+q % 128,_,_,_,_,_,_,_,_,_,_,_,_,_,_,_,_,_,_,_,_,_,_,_,_,_,_,_,_,_,_,_,_,_,_,_,_,_,_,_,_,_,_,_,⟨by omega,by omega,HA.out,by show _=_;rw[Hy.out,show 5-(i+1)=4-i from by omega],rfl⟩,rfl⟩
  ·have HJ:=xW (zaG w [B C ((n:Int)*128+(q:Int) % 128)] 3 1 rfl (by simp[maxLen]) (xN _))
   have He:Is (w.alloc (H #[B C ((n:Int)*128+(q:Int) % 128)] 3)) (G (F ⟨w.heap.size,0,I⟩) 1 1) [(n:Int)*128+(q:Int) % 128]:=HJ
   clear HJ
   gi_wp2_with (refine ⟨trivial,?_⟩;gi_at_call 203;refine (callsIn_wd.2 (zqs _ _ _ He)).mono ?_;rintro e w' ⟨rfl,rfl⟩)
   ·refine za5 ?_
    go_ret3
    have Hi:(!zau [(n:Int)*128+(q:Int) % 128])=true:=by assumption
    exact mcTakesa1
   all_goals
    have Ha:(!zau [(n:Int)*128+(q:Int) % 128])=false:=by assumption
    have ht:=H3.out
    rw[if_neg hb,if_pos (by simp[zau,zaD] at Ha;omega)] at ht
    have Ht:=L ht;clear ht Ha H3
   ·refine ⟨trivial,(callsIn_wd.2 (zhy _ (bs.drop (i+1)) _ (Bs.cut0 (by omega) rfl (by omega)) (by simp;omega))).mono ?_⟩
    rintro e w1 ⟨v',rfl,ho,hE⟩
    gi_wp2
    refine za5 ?_
    go_ret3
    exact ⟨v',by rw[Ht.out];simp,by rw[Ht.out];exact zaf ho (by simp),xT (xA (xR _) _) hE⟩
   ·refine ⟨trivial,(callsIn_wd.2 (zhy _ (bs.drop (i+1)) _ (Bs.cut (H9.ext (xA (xR _) _)) (i+1) (by omega) rfl) (by simp;omega))).mono ?_⟩
    rintro e w1 ⟨v',rfl,ho,hE⟩
    gi_wp2
    refine za5 ?_
    go_ret3
    exact ⟨v',by rw[Ht.out];simp,by rw[Ht.out];exact zaf ho (by simp),xT (xA (xR _) _) hE⟩
theorem zln (A:Option Addr) (c:Nat) (bs:List UInt8) (w:World) (hz:¬ (0<bs.length)) (KJ:bs.length<5):Calls D 157 #[G A bs.length c] w (zij w (zaI bs)):=by
 have ht:zaI bs=(10,0,[]):=by rw[P8 (by omega:bs.length=0)];rfl
 have Ht:=L ht;clear ht
 go_enter Tryz.func157,Tryz.ntmps157
 go_wp2_with fail
 go_loop [5,6] (fun n i=>∃ k:Nat,Hid (k=0)∧n=B C k∧i=B C k) (fun _ i=>(intOf i).toNat)
 case atStart=>exact ⟨0,rfl,rfl,rfl⟩
 case round =>
  obtain ⟨k,hk,rfl,rfl⟩:=hrel
  obtain rfl:k=0:=hk.out
  go_wp2_with fail
  go_ret3
  exact ⟨_,by rw[Ht.out];rfl,by rw[Ht.out];exact P0 _ _ _ _,xR _⟩
theorem zmF (c:Nat) (bs:List UInt8) (w:World) (b H2 q:Nat) (H9:Bs w (G (F ⟨b,H2,I⟩) bs.length c) bs) (hl:bs.length≤140737488355328) (h1:bs.length≤c) (h2:c≤9223372036854775807) (h0:0<bs.length)
  (hq:w.cell? ⟨b,H2,I⟩=F (B M q)) (e128:((q:Int)==128)=false) (HT0:Hid (zaI bs=zbz 5 0 bs)):Calls D 157 #[G (F ⟨b,H2,I⟩) bs.length c] w (zij w (zaI bs)):=by
 obtain ⟨i0,hi,Hm,Ho,Hp⟩:=info_parts zb0
 go_enter Tryz.func157,Tryz.ntmps157
 go_wp2_with fail
 go_loop [5,6] (fun nn ii=>∃ i n:Nat,i≤5∧i≤bs.length∧Hid (n<128^i)∧Hid (zaI bs=zbz (5-i) n (bs.drop i))∧nn=B C n∧ii=B C i) (fun _ i=>5-(intOf i).toNat)
 case atStart=>exact ⟨0,0,by omega,by omega,by show _<_;decide,HT0.out,rfl,rfl⟩
 case round =>
  obtain ⟨i,n,Ku,Kv,Hn,HT,rfl,rfl⟩:=hrel
  by_cases hend:i<bs.length∧i<5
  ·obtain ⟨H0,HK⟩:=hend
   obtain ⟨_,b',KC,e',hc⟩:=Bs.at_ H9 (by omega)
   cases e'
   have Kt:=hc i H0;have hT:=HT.out
   rw[show 5-i=(4-i)+1 from by omega,P2 H0,zbz] at hT
   have Kx:n<268435456:=Pk Hn.out (Pn (Pj (by decide) (by omega:i≤4)) (by decide))
   have KH:=bs[i].toNat_lt
   generalize bs[i].toNat=q' at *
   have Hs:n*128+q' % 128<128^(i+1):=by have:=Hn.out;rw[Pm];omega
   have H3:=L hT;have HA:=L Hs;clear hT hc Hs Hn HT HT0
   by_cases hb:128≤q'
   ·have Hh:=H3.out
    rw[if_pos hb] at Hh;have Hy:=L Hh;clear Hh;go_wp2_with fail
    go_round
    case rel=>exact ⟨i+1,n*128+q' % 128,by omega,by omega,HA.out,by show _=_;rw[Hy.out,show 5-(i+1)=4-i from by omega],by go_num,by go_num⟩
    case measure=>simp[intOf];omega
   ·have He:Is (w.alloc (H #[B C ((n:Int)*128+(q':Int) % 128)] 3)) (G (F ⟨w.heap.size,0,I⟩) 1 1) [(n:Int)*128+(q':Int) % 128]:=xW (zaG w [B C ((n:Int)*128+(q':Int) % 128)] 3 1 rfl (by simp[maxLen]) (xN _))
    have Hv:((w.alloc (H #[B C ((n:Int)*128+(q':Int) % 128)] 3)).alloc (H #[] 5)).ownsRow w.heap.size 5 1 (G (F ⟨w.heap.size+1,0,I⟩) 0 0) 0 []:=by
     have:=zaG (w.alloc (H #[B C ((n:Int)*128+(q':Int) % 128)] 3)) [] 5 0 rfl (by simp[maxLen]) (base:=w.heap.size) (by simp)
     rwa [xS] at this
    have H8:Ext w ((w.alloc (H #[B C ((n:Int)*128+(q':Int) % 128)] 3)).alloc (H #[] 5)):=xA (xA (xR w) _) _
    by_cases hcc:c=i+1
    ·have Hx:SlR ((w.alloc (H #[B C ((n:Int)*128+(q':Int) % 128)] 3)).alloc (H #[] 5)) 1 (G (F ⟨b,H2,I⟩) (bs.length-(i+1)) 0) (bs.length-(i+1)) ((bs.drop (i+1)).map bv):=by
      have h:=Bs.cut0 (w:=((w.alloc (H #[B C ((n:Int)*128+(q':Int) % 128)] 3)).alloc (H #[] 5))) (A:=F ⟨b,H2,I⟩) (n:=bs.length) (k:=i+1) (c:=0) (bs:=bs) (by omega) rfl (by omega);unfold Bs at h
      rwa [P6] at h
     go_wp2_with (first
      | (go_at_call 183;refine (zd4 _ _ _ He).mono ?_;rintro e w' ⟨rfl,rfl⟩)
      | (at_builtin;refine zaC _ rfl (.tmp 45) (.tmp 49) 33 rfl w.heap.size 5 i0 (B M 0) 1 1 Tryz.underlying33 hi Hm Ho Hp rfl (by decide) (G (F ⟨w.heap.size+1,0,I⟩) 0 0) 0 [] rfl Hv (G (F ⟨b,H2,I⟩) (bs.length-(i+1)) 0) (bs.length-(i+1)) ((bs.drop (i+1)).map bv) rfl Hx (zbI _) (by unfold maxLen;omega) (by omega) H8.size ?_;intro v' w1 H6 H5))
     ·go_ret3
      have Hi:(!zau [(n:Int)*128+(q':Int) % 128])=true:=by assumption
      exact mcTakesa1
     ·go_ret3
      exact mcTakesa0
    ·have Hx:SlR ((w.alloc (H #[B C ((n:Int)*128+(q':Int) % 128)] 3)).alloc (H #[] 5)) 1 (G (F ⟨b,H2+(i+1),I⟩) (bs.length-(i+1)) (c-(i+1))) (bs.length-(i+1)) ((bs.drop (i+1)).map bv):=by
      have h:=Bs.cut (H9.ext H8) (i+1) (by omega) rfl;unfold Bs at h
      rwa [P6] at h
     go_wp2_with (first
      | (go_at_call 183;refine (zd4 _ _ _ He).mono ?_;rintro e w' ⟨rfl,rfl⟩)
      | (at_builtin;refine zaC _ rfl (.tmp 45) (.tmp 49) 33 rfl w.heap.size 5 i0 (B M 0) 1 1 Tryz.underlying33 hi Hm Ho Hp rfl (by decide) (G (F ⟨w.heap.size+1,0,I⟩) 0 0) 0 [] rfl Hv (G (F ⟨b,H2+(i+1),I⟩) (bs.length-(i+1)) (c-(i+1))) (bs.length-(i+1)) ((bs.drop (i+1)).map bv) rfl Hx (zbI _) (by unfold maxLen;omega) (by omega) H8.size ?_;intro v' w1 H6 H5))
     ·go_ret3
      have Hi:(!zau [(n:Int)*128+(q':Int) % 128])=true:=by assumption
      exact mcTakesa1
     ·go_ret3
      exact mcTakesa0
  ·by_cases hl5:bs.length<5
   ·have H0:¬ (i<bs.length):=by omega
    have ht:zaI bs=(10,0,[]):=by
     rw[HT.out,show 5-i=(4-i)+1 from by omega,P4 (by omega),zbz]
    have Ht:=L ht;clear ht HT HT0 Hn;go_wp2_with fail
    go_ret3
    exact ⟨_,by rw[Ht.out];rfl,by rw[Ht.out];exact P0 _ _ _ _,xR _⟩
   ·have hi:i=5:=by omega
    subst hi
    have ht:zaI bs=(11,0,[]):=HT.out
    have Ht:=L ht;clear ht HT HT0 Hn hend;go_wp2_with fail
    all_goals go_ret3
    all_goals exact ⟨_,by rw[Ht.out];rfl,by rw[Ht.out];exact P0 _ _ _ _,xR _⟩
theorem ziR (v:Value) (bs:List UInt8) (w:World) (H9:Bs w v bs) (hl:bs.length≤140737488355328):Calls D 157 #[v] w (zij w (zaI bs)):=by
 obtain ⟨A,c,rfl,h1,h2⟩:=xO H9
 by_cases h0:bs.length=0
 ·exact zln A c bs w (by omega) (by omega)
 obtain ⟨_,b,H2,rfl,hc⟩:=Bs.at_ H9 (by omega)
 have Hj:w.cell? ⟨b,H2,I⟩=F (B M (bs[0].toNat:Int)):=hc 0 (by omega)
 by_cases h128:bs[0].toNat=128
 ·have e:((bs[0].toNat:Int)==128)=true:=by simp;omega
  have ht:zaI bs=(11,0,[]):=by
   have:bs[0]=128:=by apply Pp.1;simpa using h128
   cases bs with
   | nil=>simp at h0
   | cons x l=>simp at this;simp[zaI,this]
  have Ht:=L ht;clear ht hc
  go_enter Tryz.func157,Tryz.ntmps157
  go_wp2_with fail
  go_ret3
  exact ⟨_,by rw[Ht.out];rfl,by rw[Ht.out];exact P0 _ _ _ _,xR _⟩
 ·refine zmF c bs w b H2 bs[0].toNat H9 hl h1 h2 (by omega) Hj (by simp;omega) ?_
  have:bs[0]≠128:=fun e=>h128 (by rw[e];rfl)
  cases bs with
  | nil=>simp at h0
  | cons x l=>simp at this;show zaI _=_;simp[zaI,this]
def zap:Nat→List Int→List UInt8→Int×List Int×List UInt8
 | 0,H7,bs=>(0,H7,bs)
 | k+1,H7,bs=>if (zaI bs).1=0 then zap k (H7++[((zaI bs).2.1:Int)]) (zaI bs).2.2 else ((zaI bs).1,[],[])
def zfn (w:World) (r:Int×List Int×List UInt8) (e:Ending) (w':World):Prop :=
 ∃ vl vr,e=.returned (.tuple #[vl,vr,B C r.1])∧w'.ownsRow w.heap.size 3 1 vl r.2.1.length (r.2.1.map iv)∧w'.ownsRow w.heap.size 5 1 vr r.2.2.length (r.2.2.map bv)∧Ext w w'
theorem zn4 (f n:Nat) (l:List UInt8):(zbz f n l).2.2.length≤l.length:=by
 induction f generalizing n l with
 | zero=>simp[zbz]
 | succ f ih =>
  cases l with
  | nil=>simp[zbz]
  | cons b l =>
   simp only[zbz]
   split
   ·have:=ih (n*128+b.toNat % 128) l;simp;omega
   ·split <;> simp
theorem zho (l:List UInt8):(zaI l).2.2.length≤l.length:=by
 unfold zaI;split
 ·simp
 ·exact zn4 _ _ _
theorem zgY:(Tryz.prog.info? 3).map (fun i=>(i.zero,i.size,i.bytes))=F (some (B C 0),1,8):=by kernel_rfl
theorem zkC (v:Value) (bs:List UInt8) (many:Nat) (hm:many≤2000000) (w:World) (H9:Bs w v bs) (hl:bs.length≤140737488355328):Calls D 79 #[v,B C many] w (zfn w (zap many [] bs)):=by
 obtain ⟨i0,hi,Hm,Ho,Hp⟩:=info_parts zgY
 go_enter Tryz.func79,Tryz.ntmps79
 go_wp2_with (go_at_call 147;refine (zhy _ _ _ H9 hl).mono ?_;rintro e w1 ⟨v1,rfl,HG,HD⟩)
 go_loopw [4,5,6,11] (fun vl vr er i wr=>∃ (k:Nat) (H7:List Int) (rest:List UInt8),k≤many∧i=B C k∧er=B C 0∧H7.length≤k∧rest.length≤bs.length∧Hid (zap many [] bs=zap (many-k) H7 rest) ∧
   wr.ownsRow w.heap.size 3 1 vl H7.length (H7.map iv)∧wr.ownsRow w.heap.size 5 1 vr rest.length (rest.map bv)∧Ext w wr) (fun _ _ _ i _=>many-(intOf i).toNat)
 case atStart=>exact ⟨0,[],bs,Pi _,rfl,rfl,by simp,xN _,rfl,P0 _ _ _ _,HG,HD⟩
 case round =>
    
  obtain ⟨k,H7,rest,hk,rfl,rfl,HF,Hc,HT,H4,Hr,hE⟩:=hrel
  by_cases H0:k<many
  ·have hT:=HT.out
   rw[show many-k=(many-k-1)+1 from by omega,zap] at hT
   have Hw:=zho rest;have key:=zsf _ rest wr (xW Hr) (by omega)
   rcases hts:zaI rest with ⟨er,n,r2⟩
   rw[hts] at hT Hw key
   simp only at hT Hw
   by_cases her:er=0
   ·subst her
    simp only[if_true] at hT;have H3:=L hT;have Hd:=L key;clear hT HT key hts
    go_wp2_with (first
     | (go_at_call 148;refine Hd.out.mono ?_;rintro e w2 ⟨v2,rfl,Hq,H8⟩)
     | (at_builtin;refine zaC _ rfl (.tmp 22) (.tmp 24) 64 rfl w.heap.size 3 i0 (B C 0) 1 8 Tryz.underlying64 hi Hm Ho Hp rfl (by decide) _ H7.length (H7.map iv) rfl (zab H4 (xA H8 _)) (G (F ⟨w2.heap.size,0,I⟩) 1 1) 1 [B C n] rfl (xW (zaG w2 [B C n] 3 1 rfl (by simp[maxLen]) (xN _))) (by simp[Value.oneCell']) (by unfold maxLen;omega) (by omega) (by have:=hE.size;have:=H8.size;simp;omega) ?_;intro v' w3 H6 H5))
    go_roundw
    case rel =>
     have HE:Ext w w3:=Ext.grownOwn (xA (xT hE H8) _) (zab H4 (xA H8 _)) H5
     refine ⟨k+1,H7++[(n:Int)],r2,by omega,by go_num,rfl,by simp;omega,by omega,?_,by simpa [iv] using H6,?_,HE⟩
     ·show _=_;rw[H3.out,show many-(k+1)=many-k-1 from by omega]
     ·have hb3:(w2.alloc (H #[B C n] 3)).ownsRow w.heap.size 5 1 v2 r2.length (r2.map bv):=zab (zaf Hq hE.size) (xA (xR _) _)
      have HH:(w2.alloc (H #[B C n] 3)).ownsRow w.heap.size 3 1 _ H7.length (H7.map iv):=zab H4 (xA H8 _)
      exact hb3.kept H5 (zkO hb3 HH (by decide))
    case measure=>simp[intOf];omega
   ·have Hl:((er:Int) != 0)=true:=by simp[her]
    rw[if_neg her] at hT;have H3:=L hT;have Hd:=L key;clear hT HT key hts
    go_wp2_with (go_at_call 148;refine Hd.out.mono ?_;rintro e w2 ⟨v2,rfl,Hq,H8⟩)
    go_ret3
    exact ⟨_,_,by rw[H3.out];rfl,by rw[H3.out];exact P0 _ _ _ _,by rw[H3.out];exact P0 _ _ _ _,xT hE H8⟩
  ·have hT:=HT.out
   rw[show many-k=0 from by omega,zap] at hT
   have H3:=L hT;clear hT HT;go_wp2_with fail
   go_ret3
   exact ⟨_,_,by rw[H3.out];rfl,by rw[H3.out];exact H4,by rw[H3.out];exact Hr,hE⟩
theorem zdw (v:Value) (bs:List UInt8) (many:Nat) (hm:many≤2000000) (w:World) (H9:Bs w v bs) (hl:bs.length≤140737488355328):Calls D 91 #[v,B C many] w (zfn w (zap many [] bs)):=by
 obtain ⟨i0,hi,Hm,Ho,Hp⟩:=info_parts zgY
 go_enter Tryz.func91,Tryz.ntmps91
 obtain ⟨j0,hj,Ky,Kz,KA⟩:=info_parts zb0
 have Hv:(w.alloc (H #[] 5)).ownsRow w.heap.size 5 1 (G (F ⟨w.heap.size,0,I⟩) 0 0) 0 []:=zaG w [] 5 0 rfl (by simp[maxLen]) (xN _)
 have HB:Ext w (w.alloc (H #[] 5)):=xA (xR _) _
 go_wp2_with (at_builtin;refine zaC _ rfl (.tmp 13) (.tmp 14) 33 rfl w.heap.size 5 j0 (B M 0) 1 1 Tryz.underlying33 hj Ky Kz KA rfl (by decide) (G (F ⟨w.heap.size,0,I⟩) 0 0) 0 [] rfl Hv v bs.length (bs.map bv) rfl (Ps H9 HB) (zbI _) (by unfold maxLen;omega) (by omega) HB.size ?_;intro v1 w1 HG Hk)
 have HD:Ext w w1:=Ext.grownOwn HB Hv Hk
 go_loopw [7,8,9] (fun vr vl i wr=>∃ (k:Nat) (H7:List Int) (rest:List UInt8),k≤many∧i=B C k∧H7.length≤k∧rest.length≤bs.length∧Hid (zap many [] bs=zap (many-k) H7 rest) ∧
   wr.ownsRow w.heap.size 3 1 vl H7.length (H7.map iv)∧wr.ownsRow w.heap.size 5 1 vr rest.length (rest.map bv)∧Ext w wr) (fun _ _ i _=>many-(intOf i).toNat)
 case atStart=>exact ⟨0,[],bs,Pi _,rfl,by simp,xN _,rfl,P0 _ _ _ _,by simpa using HG,HD⟩
 case round =>
    
  obtain ⟨k,H7,rest,hk,rfl,HF,Hc,HT,H4,Hr,hE⟩:=hrel
  by_cases H0:k<many
  ·have hT:=HT.out
   rw[show many-k=(many-k-1)+1 from by omega,zap] at hT
   have Hw:=zho rest;have key:=ziR _ rest wr (xW Hr) (by omega)
   rcases hts:zaI rest with ⟨er,n,r2⟩
   rw[hts] at hT Hw key
   simp only at hT Hw
   by_cases her:er=0
   ·subst her
    simp only[if_true] at hT;have H3:=L hT;have Hd:=L key;clear hT HT key hts
    go_wp2_with (first
     | (go_at_call 157;refine Hd.out.mono ?_;rintro e w2 ⟨v2,rfl,Hq,H8⟩)
     | (at_builtin;refine zaC _ rfl (.tmp 30) (.tmp 32) 64 rfl w.heap.size 3 i0 (B C 0) 1 8 Tryz.underlying64 hi Hm Ho Hp rfl (by decide) _ H7.length (H7.map iv) rfl (zab H4 (xA H8 _)) (G (F ⟨w2.heap.size,0,I⟩) 1 1) 1 [B C n] rfl (xW (zaG w2 [B C n] 3 1 rfl (by simp[maxLen]) (xN _))) (by simp[Value.oneCell']) (by unfold maxLen;omega) (by omega) (by have:=hE.size;have:=H8.size;simp;omega) ?_;intro v' w3 H6 H5))
    go_roundw
    case rel =>
     have HE:Ext w w3:=Ext.grownOwn (xA (xT hE H8) _) (zab H4 (xA H8 _)) H5
     refine ⟨k+1,H7++[(n:Int)],r2,by omega,by go_num,by simp;omega,by omega,?_,by simpa [iv] using H6,?_,HE⟩
     ·show _=_;rw[H3.out,show many-(k+1)=many-k-1 from by omega]
     ·have hb3:(w2.alloc (H #[B C n] 3)).ownsRow w.heap.size 5 1 v2 r2.length (r2.map bv):=zab (zaf Hq hE.size) (xA (xR _) _)
      have HH:(w2.alloc (H #[B C n] 3)).ownsRow w.heap.size 3 1 _ H7.length (H7.map iv):=zab H4 (xA H8 _)
      exact hb3.kept H5 (zkO hb3 HH (by decide))
    case measure=>simp[intOf];omega
   ·have Hl:((er:Int) != 0)=true:=by simp[her]
    rw[if_neg her] at hT;have H3:=L hT;have Hd:=L key;clear hT HT key hts
    go_wp2_with (go_at_call 157;refine Hd.out.mono ?_;rintro e w2 ⟨v2,rfl,Hq,H8⟩)
    go_ret3
    exact ⟨_,_,by rw[H3.out];rfl,by rw[H3.out];exact P0 _ _ _ _,by rw[H3.out];exact P0 _ _ _ _,xT hE H8⟩
  ·have hT:=HT.out
   rw[show many-k=0 from by omega,zap] at hT
   have H3:=L hT;clear hT HT;go_wp2_with fail
   go_ret3
   exact ⟨_,_,by rw[H3.out];rfl,by rw[H3.out];exact H4,by rw[H3.out];exact Hr,hE⟩
end Go.Proofs.YteggfecbjgbndaaGreatDoor
