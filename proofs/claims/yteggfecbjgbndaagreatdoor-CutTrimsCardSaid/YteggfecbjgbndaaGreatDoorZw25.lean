/- Merged -/
import Derived.Test.YteggfecbjgbndaaGreatDoorZw14
import Derived.Test.YteggfecbjgbndaaGreatDoorZw16
set_option linter.all false
set_option maxHeartbeats 8000000
set_option maxRecDepth 100000
namespace Go.Mv
open Go.RowKit
section
variable {n:Nat} {P:Program} {ops:Array Oper} {Q:Exit→Act→World→Prop} {md:Region.Mode} {S:World→Prop}
def NoH (Q:Exit→Act→World→Prop) (df:List Deferred) (Pn:List PanicEntry→World→Prop):Exit→Act→World→Prop
 | .normal,a,w=>Q .normal a w
 | .panic c,a,w=>a.defers=df∧Pn c w
 | _,_,_=>False
theorem zg8 {df:List Deferred} {Pn:List PanicEntry→World→Prop} {a:Act} {w:World} (h:Q .normal a w):NoH Q df Pn .normal a w:=h
theorem ztn {df:List Deferred} {Pn:List PanicEntry→World→Prop} {i:Nat} {K:Act→World→Prop} {a:Act} {w:World} (h:wpOp P ops (NoH Q df Pn) i K a w):wpOpIn (Wd none) n P ops (NoH Q df Pn) i K a w:=by
 unfold wpOp at h;unfold wpOpIn
 cases ho:ops[i]? with
 | none=>rw[ho] at h;exact h
 | some o =>
  rw[ho] at h
  dsimp only at h ⊢
  split
  ·rename_i hw
   rw[if_pos hw] at h
   rcases h with h | ⟨_,_,_,h⟩
   ·refine ⟨fun _ _=>trivial,?_⟩
    rw[show (Wd none).round=none from rfl,Oper.semAt_none]
    exact zoB h
   ·exact h.elim
  ·rename_i hw
   rw[if_neg hw] at h
   exact ⟨fun _ _=>trivial,h⟩
theorem zld {df:List Deferred} {Pn:List PanicEntry→World→Prop}:∀ (fuel:Nat) (listed:Array Bool) (a:Act) (w:World),wpAny P md ops (NoH Q df Pn) fuel listed a w→wpAnyIn (Wd none) n P md ops (NoH Q df Pn) fuel listed a w
 | 0,_,_,_,h=>h
 | fuel+1,listed,a,w,h=>⟨h.1,fun i hi=>wpOpIn_mono (fun a w=>zld fuel _ a w) (ztn (h.2 i hi))⟩
theorem zht {id:Nat} {a:Act} {w:World} (df:List Deferred) (Pn:List PanicEntry→World→Prop) (hp:∀ c a w,a.defers=df→Pn c w→Q (.panic c) a w) (hm:P.follows .mixedOrders=true) (hS:S w.drew)
  (h:S w.drew→wpAnyH P .any ops (NoH Q df Pn) S ops.size (Array.replicate ops.size false) a w.drew):(Code.region id ops true).wpIn (Wd none) n P Q a w :=
 wpIn_mono (wpIn_region_any hm (zld _ _ _ _ (wpAny_of_held _ _ _ _ (h hS)))) fun e a w h=>by
  cases e <;> first | exact h | exact hp _ _ _ h.1 h.2 | exact h.elim
end
end Go.Mv
namespace Go.Proofs.YteggfecbjgbndaaGreatDoor
open Go.RowKit Go.Mv
abbrev HC (A B:World):Prop:=Kept (fun _ o=>o.isCells=true) A B
end Go.Proofs.YteggfecbjgbndaaGreatDoor
