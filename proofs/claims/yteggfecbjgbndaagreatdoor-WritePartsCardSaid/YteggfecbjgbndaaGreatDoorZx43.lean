/- Merged -/
import Derived.Test.YteggfecbjgbndaaGreatDoorZx33
set_option linter.all false
set_option maxHeartbeats 8000000
set_option maxRecDepth 100000
open Go.Value renaming int->B
open Go.IntKind renaming i64->C
namespace Go.Proofs.YteggfecbjgbndaaGreatDoor
open Go.RowKit Go.Mv
theorem yad(A:Option Addr)(n c:Nat)(d a:Int)(g:d=0)(w:World):Calls Tryz.prog 37 #[.slice A n c,.agg #[B C d,B C a]] w (Cr w (some ⟨0,0,0,1,false⟩)):=by
 subst g;have b:=Blk.new (w.alloc (.cells #[B C 0,B C a] 27)) 41 #[B C 0,B C 0,B C 0,B C 0,.bool false];rw[xS]at b;have f:=aN (show Ext w ((w.alloc (.cells #[B C 0,B C a] 27)).alloc (.cells #[B C 0,B C 0,B C 0,B C 0,.bool false] 41))from xA (xA (xR _) _) _);go_enter Tryz.func37,Tryz.ntmps37
 go_wp2_with fail
 refine(yM _).mono ?_;rintro e a⟨rfl,a⟩;have H0:=aN (b.ext a);have H3:=aN (xT f a);have a:=bR H0;have a:=ae H0;go_wp2_with fail
 refine bodyPost_ret (tj _ _ _ _ rfl (cB H0 _ _ _ _ _) rfl) rfl ?_;exact⟨rfl,cC H3 (by omega) _ _ _ _ _⟩
