/- Merged -/
import Derived.Test.YtgonhdeochgkoaaGreatDoorZx9
set_option linter.all false
set_option maxHeartbeats 8000000
set_option maxRecDepth 100000
open Go.World renaming block_lt_of_cell?→P0
open Go.Mv.Ext renaming grown→P1,cell→P2
open Go.Boxed renaming new→P3
open List renaming cons_append→P4,append_toArray→P5,size_toArray→P6,push_toArray→P7,flatMap_cons→P8,length_nil→P9
open Bool renaming eq_iff_iff→Pa
open Array renaming replicate_zero→Pb,replicate_succ→Pc
open Nat renaming reduceSub→Pd,reduceAdd→Pe,le_trans→Pf
namespace Go.Proofs.YtgonhdeochgkoaaGreatDoor
open Go.RowKit Go.Mv
theorem mcStatea0 {P:Prop} (h:P:=by
 refine tkN 0 rfl ?_;refine tkN 1 rfl ?_;refine tkN 2 rfl ?_;refine tkN 3 rfl ?_;refine tkS 4 rfl ?_;refine tkS 5 rfl ?_;refine tkS 6 rfl ?_;refine tkN 7 rfl ?_;refine tkN 8 rfl ?_;refine wpAnyH_done (by kernel_rfl) ?_ _;go_wp2_with fail;go_ret
 refine ⟨ret_bool ?_,xT hX (xD (xR _))⟩
 rw[Hf.out]
 simp_all
 try (intro h;omega)):P:=h
theorem mcStatea1 {P:Prop} (h:P:=by
 try (go_wp2_with fail)
 refine shK hK _ _ (zac (hb.ext Hb)) (fun _=>?_)
 refine tkN 6 rfl ?_;refine tkN 7 rfl ?_;refine tkN 8 rfl ?_;refine wpAnyH_done (by kernel_rfl) ?_ _;go_wp2_with fail;go_ret
 refine ⟨ret_bool ?_,xT hX Hb⟩
 rw[Hf.out]
 simp_all
 try (intro h;omega)):P:=h
theorem mcStatea2 {P:Prop} (h:P:=by
 have HA:=zhd He;clear He h0
 go_enter Tryz.func145,Tryz.ntmps145
 go_wp2_with (go_at_call 170;refine (zhl _ _).mono ?_;rintro e w1 ⟨rfl,rfl⟩)
 all_goals
  go_ret
  refine ⟨ret_bool ?_,xA (xR _) _⟩
  rw[HA.out]
  simp_all
  try (intro h;omega)):P:=h
theorem zfV:Tryz.prog.underlying 53=some (.struct (Tryz.prog.fieldsOf 53)):=by kernel_rfl
theorem zut:Tryz.prog.stoodInHeld 53=false:=by kernel_rfl
theorem zjP:Tryz.prog.eqGuardType Tryz.prog.depth 53=false:=by kernel_rfl
def zew (a b:Sta):Bool:=a.idx==b.idx&&a.term==b.term&&a.sum==b.sum&&a.lvl==b.lvl&&a.fin==b.fin
theorem zrU (a b:Sta):zew a b=true↔a=b:=by
 cases a;cases b
 simp[zew,and_assoc]
theorem zis (a b:Sta) (W:World):(Op.equalIn 10000 53 (.agg #[.int .i64 a.idx,.int .i64 a.term,.int .i64 a.sum,.int .i64 a.lvl,.bool a.fin]) (.agg #[.int .i64 b.idx,.int .i64 b.term,.int .i64 b.sum,.int .i64 b.lvl,.bool b.fin])).run Tryz.prog W=.ok (zew a b) W:=by
 rw[run_equalIn_struct W 9999 53 _ _ zfV zut];unfold zew
 cases h0:(a.idx==b.idx) <;> cases h1:(a.term==b.term) <;> cases h2:(a.sum==b.sum) <;> cases h3:(a.lvl==b.lvl) <;> cases h4:(a.fin==b.fin) <;> simp[go_sem,h0,h1,h2,h3,h4]
theorem zn0 (n:Int) (w:World):Calls Tryz.prog 113 #[.int .i64 n] w fun e w'=>e=.returned (.bool (zaE n))∧w=w':=by
 by_cases h0:n<0
 ·go_enter Tryz.func113,Tryz.ntmps113
  go_wp2
  go_ret
  exact ⟨ret_bool (by simp[zaE];omega),rfl⟩
 ·have KH:0≤n:=by omega
  go_enter Tryz.func113,Tryz.ntmps113
  go_wp2
  go_ret
  exact ⟨ret_bool (by simp[zaE];omega),rfl⟩
theorem zk1 (w:World):Calls Tryz.prog 107 #[] w fun e w'=>e=.returned (.agg #[.int .i64 0,.int .i64 0,.int .i64 0,.int .i64 1,.bool false])∧Ext w w':=by
 go_enter Tryz.func107,Tryz.ntmps107
 go_wp2
 refine bodyPost_ret (results_cell_row rfl _ _ _ 53 _ _ _ rfl (heap_alloc_new _ _) zfV rfl (by kernel_rfl)) rfl ⟨rfl,xA (xR _) _⟩
theorem zgO (w:World):Calls Tryz.prog 114 #[] w fun e w'=>e=.returned (.agg #[.int .i64 0,.int .i64 0,.int .i64 0,.int .i64 1,.bool false])∧Ext w w':=by
 go_enter Tryz.func114,Tryz.ntmps114
 go_wp2
 refine bodyPost_ret (results_cell_row rfl _ _ _ 53 _ _ _ rfl (heap_alloc_new _ _) zfV rfl (by kernel_rfl)) rfl ⟨rfl,xA (xR _) _⟩
theorem zh3 (s:Sta) (w:World):Calls Tryz.prog 201 #[.agg #[.int .i64 s.idx,.int .i64 s.term,.int .i64 s.sum,.int .i64 s.lvl,.bool s.fin]] w fun e w'=>e=.returned (.int .i64 s.finI)∧Ext w w':=by
 cases hf:s.fin
 ·have h:s.finI=0:=by unfold Sta.finI;rw[hf];rfl
  go_enter Tryz.func201,Tryz.ntmps201
  go_wp2
  go_ret
  exact ⟨by rw[h];rfl,xA (xR _) _⟩
 ·have h:s.finI=1:=by unfold Sta.finI;rw[hf];rfl
  go_enter Tryz.func201,Tryz.ntmps201
  go_wp2
  go_ret
  exact ⟨by rw[h];rfl,xA (xR _) _⟩
theorem zac {W:World} {b:Nat} {t:TypeId} {a v u x y:Value} (h:Blk W b t #[a,v,u,x,y]):W.cell? ⟨b,0,none⟩=some a∧W.cell? ⟨b,1,none⟩=some v∧W.cell? ⟨b,2,none⟩=some u∧W.cell? ⟨b,3,none⟩=some x∧W.cell? ⟨b,4,none⟩=some y :=
 ⟨h.cell 0 rfl,h.cell 1 rfl,h.cell 2 rfl,h.cell 3 rfl,h.cell 4 rfl⟩
theorem zcU (s:Sta) (w:World):Calls Tryz.prog 145 #[.agg #[.int .i64 s.idx,.int .i64 s.term,.int .i64 s.sum,.int .i64 s.lvl,.bool s.fin]] w fun e w'=>e=.returned (.bool s.ok)∧Ext w w':=by
 have hX:Ext w (w.alloc (.cells #[.int .i64 s.idx,.int .i64 s.term,.int .i64 s.sum,.int .i64 s.lvl,.bool s.fin] 53)):=xA (xR _) _
 have hb:=Blk.new w 53 #[.int .i64 s.idx,.int .i64 s.term,.int .i64 s.sum,.int .i64 s.lvl,.bool s.fin]
 by_cases h0:s.idx=0
 ·have e0:(s.idx==0)=true:=by rw[h0];rfl
  have Hd:=zis s ⟨0,0,0,1,false⟩;have Km:=zjP
  have He:s.ok=zew s ⟨0,0,0,1,false⟩:=by
   unfold Sta.ok zew;rw[if_pos h0,h0];rw[Pa]
   simp[and_assoc]
  have HA:=zhd He;clear He h0;dsimp only at Hd
  go_enter Tryz.func145,Tryz.ntmps145
  go_wp2_with fail
  go_region_held3 (fun w'=>w'.cell? ⟨w.heap.size,0,none⟩=some (.int .i64 s.idx)∧w'.cell? ⟨w.heap.size,1,none⟩=some (.int .i64 s.term)∧w'.cell? ⟨w.heap.size,2,none⟩=some (.int .i64 s.sum)∧w'.cell? ⟨w.heap.size,3,none⟩=some (.int .i64 s.lvl)∧w'.cell? ⟨w.heap.size,4,none⟩=some (.bool s.fin)) (first | go_keep | (refine ⟨?_,?_,?_,?_,?_⟩ <;> assumption))
   (first | (go_at_call 107;refine (zk1 _).mono ?_;rintro e w1 ⟨rfl,H7⟩;have Hb:Ext (w.alloc (.cells #[.int .i64 s.idx,.int .i64 s.term,.int .i64 s.sum,.int .i64 s.lvl,.bool s.fin] 53)) w1:=xT (xD (xR _)) H7;obtain ⟨g0,g1,g2,g3,g4⟩:=zac (hb.ext Hb)))
  go_wp2_with fail;go_ret
  exact ⟨by rw[HA.out];rfl,xT hX Hb⟩
 ·have e0:(s.idx==0)=false:=by rw[beq_eq_false_iff_ne];exact h0
  cases hf:s.fin with
  | true =>
   have He:s.ok=((s.lvl==2)&&zaE s.idx&&decide (0<s.term)&&zaE s.term&&zaE s.sum):=by
    unfold Sta.ok;rw[if_neg h0,if_pos hf]
    congr 4
   exact mcStatea2
  | false =>
   have He:s.ok=(decide (s.lvl=1∨s.lvl=2)&&zaE s.idx&&decide (0<s.term)&&zaE s.term&&zaE s.sum):=by
    unfold Sta.ok
    rw[if_neg h0,if_neg (by rw[hf];simp)]
   exact mcStatea2
def zlY (s:Sta):Bool:=zaE s.idx&&zaE s.term&&zaE s.sum&&((s.term==0)==(s.idx==0))&&(s.lvl==1||s.lvl==2)&&(!s.fin||s.lvl==2)&&(decide (0<s.idx)||zew s ⟨0,0,0,1,false⟩)
theorem zsP (s:Sta):zlY s=s.ok:=by
 obtain ⟨i,t,u,l,b⟩:=s;unfold zlY Sta.ok zew;dsimp only
 by_cases hi:i=0
 ·subst hi
  rw[if_pos rfl,Pa];simp only[Bool.and_eq_true,Bool.or_eq_true,beq_iff_eq,decide_eq_true_eq,Bool.not_eq_true',zaE]
  constructor
  ·rintro ⟨_,h⟩
   rcases h with h | ⟨⟨⟨⟨_,h1⟩,h2⟩,h3⟩,h4⟩
   ·omega
   ·exact ⟨h1,h2,h3,h4⟩
  ·rintro ⟨rfl,rfl,rfl,rfl⟩
   simp
 ·rw[if_neg hi]
  have e1:(i==0)=false:=by simpa using hi
  have Ko:zaE i=true→decide (0<i)=true:=fun h=>decide_eq_true (by have:=numB_true.1 h;omega)
  cases hn:zaE i with
  | false=>simp
  | true =>
   cases ht:zaE t with
   | false=>simp
   | true =>
    have h0:=numB_true.1 ht
    by_cases t0:t=0
    ·subst t0
     simp[e1]
    ·have e2:(t==0)=false:=by simpa using t0
     have e3:decide (0<t)=true:=decide_eq_true (by omega)
     rw[e1,e2,e3,Ko hn]
     cases hu:zaE u with
     | false=>simp
     | true =>
      cases b
      ·simp
       rw[Pa]
       simp
      ·by_cases l2:l=2
       ·simp[l2]
       ·simp[l2]
theorem zqg (i t u l:Int) (b:Bool) (w:World):Calls Tryz.prog 67 #[.agg #[.int .i64 i,.int .i64 t,.int .i64 u,.int .i64 l,.bool b]] w fun e w'=>e=.returned (.bool (zlY ⟨i,t,u,l,b⟩))∧Ext w w':=by
 have hX:Ext w (w.alloc (.cells #[.int .i64 i,.int .i64 t,.int .i64 u,.int .i64 l,.bool b] 53)):=xA (xR _) _
 have hb:=Blk.new w 53 #[.int .i64 i,.int .i64 t,.int .i64 u,.int .i64 l,.bool b]
 have Hf:Hid (zlY ⟨i,t,u,l,b⟩=(zaE i&&zaE t&&zaE u&&((t==0)==(i==0))&&(l==1||l==2)&&(!b||l==2)&&(decide (0<i)||zew ⟨i,t,u,l,b⟩ ⟨0,0,0,1,false⟩))):=rfl
 have Hd:=zis ⟨i,t,u,l,b⟩ ⟨0,0,0,1,false⟩;have Km:=zjP;dsimp only at Hd
 go_enter Tryz.func67,Tryz.ntmps67
 go_wp2_with (go_at_call 113;refine (zn0 _ _).mono ?_;rintro e w1 ⟨rfl,rfl⟩)
 all_goals try (go_ret;refine ⟨ret_bool ?_,xA (xR _) _⟩;rw[Hf.out];simp_all;done)
 ·subst l
  obtain rfl:b=false:=by simp_all
  by_cases hi:0<i
  ·skip
   refine wp_region_held_drew (S:=(fun w'=>w'.cell? ⟨w.heap.size,0,none⟩=some (.int .i64 i)∧w'.cell? ⟨w.heap.size,1,none⟩=some (.int .i64 t)∧w'.cell? ⟨w.heap.size,2,none⟩=some (.int .i64 u)∧w'.cell? ⟨w.heap.size,3,none⟩=some (.int .i64 1)∧w'.cell? ⟨w.heap.size,4,none⟩=some (.bool false))) (by kernel_rfl) (zac (hb.ext (xD (xR _)))) (fun _=>?_)
   exact mcStatea0
  ·skip
   refine wp_region_held_drew (S:=(fun w'=>w'.cell? ⟨w.heap.size,0,none⟩=some (.int .i64 i)∧w'.cell? ⟨w.heap.size,1,none⟩=some (.int .i64 t)∧w'.cell? ⟨w.heap.size,2,none⟩=some (.int .i64 u)∧w'.cell? ⟨w.heap.size,3,none⟩=some (.int .i64 1)∧w'.cell? ⟨w.heap.size,4,none⟩=some (.bool false))) (by kernel_rfl) (zac (hb.ext (xD (xR _)))) (fun _=>?_)
   refine tkN 0 rfl ?_;refine tkN 1 rfl ?_;refine tkN 2 rfl ?_;refine tkN 3 rfl ?_;refine tkN 4 rfl ?_
   refine ar1 5 rfl (fun K hK=>?_)
   go_simp
   refine (zgO _).mono ?_
   rintro e w1 ⟨rfl,H7⟩
   have Hb:Ext (w.alloc (.cells #[.int .i64 i,.int .i64 t,.int .i64 u,.int .i64 1,.bool false] 53)) w1:=xT (xD (xR _)) H7
   exact mcStatea1
 ·try subst l
  try subst b
  by_cases hi:0<i
  ·skip
   refine wp_region_held_drew (S:=(fun w'=>w'.cell? ⟨w.heap.size,0,none⟩=some (.int .i64 i)∧w'.cell? ⟨w.heap.size,1,none⟩=some (.int .i64 t)∧w'.cell? ⟨w.heap.size,2,none⟩=some (.int .i64 u)∧w'.cell? ⟨w.heap.size,3,none⟩=some (.int .i64 2)∧w'.cell? ⟨w.heap.size,4,none⟩=some (.bool true))) (by kernel_rfl) (zac (hb.ext (xD (xR _)))) (fun _=>?_)
   exact mcStatea0
  ·skip
   refine wp_region_held_drew (S:=(fun w'=>w'.cell? ⟨w.heap.size,0,none⟩=some (.int .i64 i)∧w'.cell? ⟨w.heap.size,1,none⟩=some (.int .i64 t)∧w'.cell? ⟨w.heap.size,2,none⟩=some (.int .i64 u)∧w'.cell? ⟨w.heap.size,3,none⟩=some (.int .i64 2)∧w'.cell? ⟨w.heap.size,4,none⟩=some (.bool true))) (by kernel_rfl) (zac (hb.ext (xD (xR _)))) (fun _=>?_)
   refine tkN 0 rfl ?_;refine tkN 1 rfl ?_;refine tkN 2 rfl ?_;refine tkN 3 rfl ?_;refine tkN 4 rfl ?_
   refine ar1 5 rfl (fun K hK=>?_)
   go_simp
   refine (zgO _).mono ?_
   rintro e w1 ⟨rfl,H7⟩
   have Hb:Ext (w.alloc (.cells #[.int .i64 i,.int .i64 t,.int .i64 u,.int .i64 2,.bool true] 53)) w1:=xT (xD (xR _)) H7
   exact mcStatea1
 ·subst l
  obtain rfl:b=false:=by simp_all
  by_cases hi:0<i
  ·skip
   refine wp_region_held_drew (S:=(fun w'=>w'.cell? ⟨w.heap.size,0,none⟩=some (.int .i64 i)∧w'.cell? ⟨w.heap.size,1,none⟩=some (.int .i64 t)∧w'.cell? ⟨w.heap.size,2,none⟩=some (.int .i64 u)∧w'.cell? ⟨w.heap.size,3,none⟩=some (.int .i64 2)∧w'.cell? ⟨w.heap.size,4,none⟩=some (.bool false))) (by kernel_rfl) (zac (hb.ext (xD (xR _)))) (fun _=>?_)
   exact mcStatea0
  ·skip
   refine wp_region_held_drew (S:=(fun w'=>w'.cell? ⟨w.heap.size,0,none⟩=some (.int .i64 i)∧w'.cell? ⟨w.heap.size,1,none⟩=some (.int .i64 t)∧w'.cell? ⟨w.heap.size,2,none⟩=some (.int .i64 u)∧w'.cell? ⟨w.heap.size,3,none⟩=some (.int .i64 2)∧w'.cell? ⟨w.heap.size,4,none⟩=some (.bool false))) (by kernel_rfl) (zac (hb.ext (xD (xR _)))) (fun _=>?_)
   refine tkN 0 rfl ?_;refine tkN 1 rfl ?_;refine tkN 2 rfl ?_;refine tkN 3 rfl ?_;refine tkN 4 rfl ?_
   refine ar1 5 rfl (fun K hK=>?_)
   go_simp
   refine (zgO _).mono ?_
   rintro e w1 ⟨rfl,H7⟩
   have Hb:Ext (w.alloc (.cells #[.int .i64 i,.int .i64 t,.int .i64 u,.int .i64 2,.bool false] 53)) w1:=xT (xD (xR _)) H7
   exact mcStatea1
theorem zqf (s:Sta) (w:World):Calls Tryz.prog 67 #[.agg #[.int .i64 s.idx,.int .i64 s.term,.int .i64 s.sum,.int .i64 s.lvl,.bool s.fin]] w fun e w'=>e=.returned (.bool s.ok)∧Ext w w':=by
 rw[←zsP s]
 exact zqg s.idx s.term s.sum s.lvl s.fin w
open Go.RowKit Go.Mv Go.Shelf
attribute [local go_sem] Oper.semAt_some zeK
def zgl (z:Nat×Nat) (ps:List (List UInt8)):Nat×Nat:=ps.foldl zaL z
def zb5 (z:Nat×Nat):List (List UInt8)→List (List UInt8×(Nat×Nat))
 | []=>[]
 | p::ps=>(p,zaL z p)::zb5 (zaL z p) ps
def zdF (x:List UInt8×(Nat×Nat)):List UInt8:=x.1++zbp x.2
theorem zry (z:Nat×Nat) (ps:List (List UInt8)) (p:List UInt8):zgl z (ps++[p])=zaL (zgl z ps) p:=by unfold zgl;rw[List.foldl_append];rfl
theorem zfw (a b:List (List UInt8)):∀ (z:Nat×Nat),zb5 z (a++b)=zb5 z a++zb5 (zgl z a) b:=by
 induction a with
 | nil=>intro z;rfl
 | cons x a ih=>intro z;rw[P4,zb5,ih,zb5];rfl
theorem zn7 (z:Nat×Nat) (t:List UInt8):(zb5 z (zbf 4 t)).flatMap zdF=zb2 z t:=by
 generalize hn:t.length=n
 induction n using Nat.strongRecOn generalizing z t with
 | _ n ih =>
  rcases Nat.eq_zero_or_pos t.length with h | h
  ·have:t=[]:=List.eq_nil_of_length_eq_zero h
   subst this;rw[zfn,zi8];rfl
  ·rw[zeR 4 t (by decide) h,zb5,P8,ih (t.drop 4).length (by rw[List.length_drop];omega) _ (t.drop 4) rfl,zie z t h]
   unfold zdF;rw[List.append_assoc]
def PcK (bo:Nat) (k:Nat) (o:Obj):Prop:=o.isCells=true∧k≠bo
def PcM (n0:Nat) (k:Nat) (o:Obj):Prop:=n0≤k∧o.ty=some 201
def PcI (wo:World) (N l:Nat) (z:Nat×Nat) (J:List (List UInt8×(Nat×Nat))→World→Prop) (ps:List (List UInt8)) (W:World):Prop :=
 ∃ zv,J (zb5 z ps) W∧Boxed W (N+1) 201 zv∧PtV zv (zgl z ps)∧Boxed W N 282 (.func (.yield l) #[] #[])∧Hold wo W∧N≤W.heap.size
theorem zn8 (wo W0:World) (v:Value) (t:List UInt8) (ht:Bs wo v t) (Hn:t.length≤2000000) (hH:Hold wo W0) (bt bo n0:Nat) (Ke:Boxed W0 bt 38 v) (KM:n0≤W0.heap.size) (KN:wo.heap.size≤n0) (KI:wo.heap.size≤bo) (Kk:bo<W0.heap.size) :
  Seq Tryz.prog 246 #[.pointer (some ⟨bt,0,none⟩)]
   (fun (x:List UInt8×(Nat×Nat)) av W=>∃ u,av = #[u,.agg ((zbp x.2).map bv).toArray]∧Bs W u x.1∧x.1.length≤4) (PcK bo) (PcM n0) (zb5 (0,0) (zbf 4 t)) W0:=by
 intro l J Jx hJ HV hY h0;obtain ⟨A,c,rfl,h1,h2⟩:=xO ht;have c1:=Ke.cell
 have HX:bt<W0.heap.size:=P0 W0 _ c1
 refine (callsIn_wd (ro:=none) (n:=9)).1 ?_
 refine callsIn_of_wp_marks Tryz.func246 rfl trivial ?_ rfl
 simp only[Tryz.ntmps246,P6,xC,P9,Pe,Pd,Pc,Pb,P7,P5,xI,P4]
 gi_wp2_with (refine ⟨trivial,?_⟩;gi_at_call 168;refine (callsIn_wd.2 (zgN _ _ _ 4 (by decide) _)).mono ?_;rintro e w' ⟨rfl,rfl⟩)
 have q0:Boxed ((((W0.alloc (.cells #[.func (.yield l) #[] #[]] 282)).alloc (.cells #[.complex .f64 0 0] 201)).alloc (.cells #[.slice A t.length c] 38)).alloc (.cells #[.int .i64 4] 3)) W0.heap.size 282 (.func (.yield l) #[] #[]):=(((P3 W0 _ _).alloc _).alloc _).alloc _
 have qz:Boxed ((((W0.alloc (.cells #[.func (.yield l) #[] #[]] 282)).alloc (.cells #[.complex .f64 0 0] 201)).alloc (.cells #[.slice A t.length c] 38)).alloc (.cells #[.int .i64 4] 3)) (W0.heap.size+1) 201 (.complex .f64 0 0):=by
  have:=P3 (W0.alloc (.cells #[.func (.yield l) #[] #[]] 282)) 201 (.complex .f64 0 0)
  rw[xS] at this
  exact (this.alloc _).alloc _
 have q1:Boxed ((((W0.alloc (.cells #[.func (.yield l) #[] #[]] 282)).alloc (.cells #[.complex .f64 0 0] 201)).alloc (.cells #[.slice A t.length c] 38)).alloc (.cells #[.int .i64 4] 3)) (W0.heap.size+1+1) 38 (.slice A t.length c):=by
  have:=P3 ((W0.alloc (.cells #[.func (.yield l) #[] #[]] 282)).alloc (.cells #[.complex .f64 0 0] 201)) 38 (.slice A t.length c)
  rw[xS,xS] at this
  exact this.alloc _
 have q2:Boxed ((((W0.alloc (.cells #[.func (.yield l) #[] #[]] 282)).alloc (.cells #[.complex .f64 0 0] 201)).alloc (.cells #[.slice A t.length c] 38)).alloc (.cells #[.int .i64 4] 3)) (W0.heap.size+1+1+1) 3 (.int .i64 4):=by
  have:=P3 (((W0.alloc (.cells #[.func (.yield l) #[] #[]] 282)).alloc (.cells #[.complex .f64 0 0] 201)).alloc (.cells #[.slice A t.length c] 38)) 3 (.int .i64 4)
  rwa [xS,xS,xS] at this
 have Ht:Ext W0 ((((W0.alloc (.cells #[.func (.yield l) #[] #[]] 282)).alloc (.cells #[.complex .f64 0 0] 201)).alloc (.cells #[.slice A t.length c] 38)).alloc (.cells #[.int .i64 4] 3)):=xA (xA (xA (xA (xR _) _) _) _) _
 have Ks:Moves (zad (PcM n0) W0.heap.size) W0 ((((W0.alloc (.cells #[.func (.yield l) #[] #[]] 282)).alloc (.cells #[.complex .f64 0 0] 201)).alloc (.cells #[.slice A t.length c] 38)).alloc (.cells #[.int .i64 4] 3)):=(((Moves.refl.alloc _).alloc _).alloc _).alloc _
 have Ku:((((W0.alloc (.cells #[.func (.yield l) #[] #[]] 282)).alloc (.cells #[.complex .f64 0 0] 201)).alloc (.cells #[.slice A t.length c] 38)).alloc (.cells #[.int .i64 4] 3)).heap.size=W0.heap.size+4:=by simp
 have Kg:=hJ _ _ _ h0 Ks
 generalize ((((W0.alloc (.cells #[.func (.yield l) #[] #[]] 282)).alloc (.cells #[.complex .f64 0 0] 201)).alloc (.cells #[.slice A t.length c] 38)).alloc (.cells #[.int .i64 4] 3))=w2 at *
 have Kf:Hold wo w2:=fun q u hq=>P2 Ht (hH q u hq)
 refine zbN (a:=⟨_,_⟩) rfl (enters_of Tryz.func198 (by kernel_rfl) rfl)
  (fun W1 hb _=>zgZ 4 (by decide) (by decide) wo W1 _ t ht Hn (W0.heap.size+1+1) (W0.heap.size+1+1+1) (q1.kept (row:=none) (P1 hb none) (by simp)) (q2.kept (row:=none) (P1 hb none) (by simp)))
  (fun k o h=>h.elim) (fun k o h=>by rcases h with h | h <;> exact za5 h.2) (fun x av W h=>by obtain ⟨_,_,rfl,_⟩:=h;rfl)
  (PcI wo W0.heap.size l (0,0) J) (fun cd ps W=>cd=Code.ret∧Jx (zb5 (0,0) ps) W) ?hI ?hIx ⟨_,Kg,qz,PtV.zero,q0,Kf,by omega⟩
  (fun x a' _=>∃ b' H2,Bs wo (.slice (some ⟨b',H2,none⟩) x.length x.length) x∧x.length≤4∧a'=⟨#[.func (.yield l) #[] #[],.pointer (some ⟨bt,0,none⟩),.pointer (some ⟨W0.heap.size,0,none⟩),.pointer (some ⟨W0.heap.size+1,0,none⟩),.slice (some ⟨b',H2,none⟩) x.length x.length,.slice A t.length c,.func (.func 198) #[] #[.pointer (some ⟨W0.heap.size+1+1,0,none⟩),.pointer (some ⟨W0.heap.size+1+1+1,0,none⟩)],.slice (some ⟨b',H2,none⟩) x.length x.length,undef,undef,undef,undef,undef,undef,undef,undef,undef,undef],[]⟩)
  (fun _ _ _ _ h _=>h) ?assign ?body ?done ?stop
 case hI =>
  rintro cs X Y ⟨zv,hj,hb,hp,hy,hh,hs⟩ hm
  have Kr:Moves (zad (PcM n0) W0.heap.size) X Y:=hm.weaken (fun k o h=>by rcases h with h | h;exact h.elim;exact .inr ⟨by omega,h.2⟩)
  refine ⟨zv,hJ _ _ _ hj Kr,hm.boxed hb ?_,hp,hm.boxed hy ?_,hh.moves hm ?_,Pf hs hm.size⟩
  ·rintro (h | h)
   ·exact h
   ·cases h.2
  ·rintro (h | h)
   ·exact h
   ·cases h.2
  ·rintro k o _ hc (h | h)
   ·exact h
   ·rw[hc] at h;cases h.2
 case hIx =>
  rintro cd cs X Y ⟨rfl,hj⟩ hm
  exact ⟨rfl,HV _ _ _ hj (hm.weaken (fun k o h=>by rcases h with h | h;exact h.elim;exact .inr ⟨by omega,h.2⟩))⟩
 case assign =>
  rintro l' H0 x H9 W av K' hx hi HO ⟨b',H2,rfl,hu,_,Ha⟩ hK
  gi_wp2
  exact hK _ _ Kept.refl hi ⟨b',H2,hu,Ha,rfl⟩
 case body =>
  rintro l' H0 x H9 a' W hx KL hr ⟨zv,hj,hb,hp,hy,hh,hs⟩ HO ⟨b',H2,hu,Ha,rfl⟩;have Kt:=hp.pt;obtain ⟨z1,z2,rfl,K6,K7⟩:=hp
  have HQ:Bs W (.slice (some ⟨b',H2,none⟩) x.length x.length) x:=SlR.keep hu hh
  have Kz:=zhd HQ;have cb:=hb.cell
  have KJ:W0.heap.size+1<W.heap.size:=P0 W _ cb
  have HI:=zhd (show PcI wo W0.heap.size l (0,0) J H0 W from ⟨_,hj,hb,⟨z1,z2,rfl,K6,K7⟩,hy,hh,hs⟩)
  have H3:=zmN HQ;have HP:=zhd H3;clear HQ K6 K7 H3
  gi_wp2_with (refine ⟨trivial,?_⟩;gi_at_call 247;refine (callsIn_wd.2 (zhL z1 z2 _ _ _ HP.out)).mono ?_;rintro e W2 ⟨KQ,rfl,Hv,hE⟩;rw[show [x].flatten=x from by simp,Kt] at Hv;have K9:=zhd Hv;have HN:=Hv.pt;obtain ⟨y1,y2,rfl,_,_⟩:=Hv;have H5:Ext W W2:=xT (xA (xR _) _) hE;have HG:Boxed W2 (W0.heap.size+1) 201 (.complex .f64 z1 z2):=hb.kept (row:=none) (P1 H5 none) (by simp);have Kw:Boxed W2 W0.heap.size 282 (.func (.yield l) #[] #[]):=hy.kept (row:=none) (P1 H5 none) (by simp);have KA:=HG.cell;have KE:=HG.frozen)
  have hb3:Boxed (W2.setCell ⟨W0.heap.size+1,0,none⟩ (.complex .f64 y1 y2)) (W0.heap.size+1) 201 (.complex .f64 y1 y2):=HG.set _
  have K5:Boxed (W2.setCell ⟨W0.heap.size+1,0,none⟩ (.complex .f64 y1 y2)) W0.heap.size 282 (.func (.yield l) #[] #[]):=Kw.other (by omega) _
  have HT:=hb3.cell;have HB:=K5.cell
  have HY:Moves (zad (PcM n0) W0.heap.size) W (W2.setCell ⟨W0.heap.size+1,0,none⟩ (.complex .f64 y1 y2)) :=
   (Moves.refl.below H5 (xN _)).setCell (fun o ho _=>.inl ⟨by show n0≤W0.heap.size+1;omega,by rw[show W.heap[W0.heap.size+1]?=_ from hb] at ho;cases ho;rfl⟩) _
  have k1:Kept (zad (fun k o=>(k=W0.heap.size+1+1∧o.ty=some 38)∨(k=W0.heap.size+1+1+1∧o.ty=some 3)) w2.heap.size) W (W2.setCell ⟨W0.heap.size+1,0,none⟩ (.complex .f64 y1 y2)) :=
   (Kept.refl.below H5 (xN _)).setCell (fun o ho hc=>by
    rintro ((⟨h,_⟩ | ⟨h,_⟩) | ⟨h,_⟩)
    ·have:W0.heap.size+1=W0.heap.size+1+1:=h
     omega
    ·have:W0.heap.size+1=W0.heap.size+1+1+1:=h
     omega
    ·have:w2.heap.size≤W0.heap.size+1:=h
     omega) _
  have Kn:Hold wo (W2.setCell ⟨W0.heap.size+1,0,none⟩ (.complex .f64 y1 y2)):=fun q u hq=>by
   have HK:=P0 wo q hq
   exact (World.cell?_setCell_other _ _ _ _ (fun e=>by rw[←e] at HK;have:W0.heap.size+1<wo.heap.size:=HK;omega)).trans (P2 H5 (hh q u hq))
  have Hd:zb5 (0,0) (zbf 4 t)=zb5 (0,0) H0++(x,zaL (zgl (0,0) H0) x)::zb5 (zaL (zgl (0,0) H0) x) H9:=by rw[hx,zfw,zb5]
  have Ki:(W2.setCell ⟨W0.heap.size+1,0,none⟩ (.complex .f64 y1 y2)).heap.size=W2.heap.size:=by simp[World.setCell]
  have fin:∀ W5:World,Ext (W2.setCell ⟨W0.heap.size+1,0,none⟩ (.complex .f64 y1 y2)) W5→∃ R:Ending→World→Prop,Mv.YieldsAt Tryz.prog l #[.slice (some ⟨b',H2,none⟩) x.length x.length,.agg ((zbp (zaL (zgl (0,0) H0) x)).map bv).toArray] W5 R∧(∀ e W6,R e W6→Kept (zad (fun k o=>(k=W0.heap.size+1+1∧o.ty=some 38)∨(k=W0.heap.size+1+1+1∧o.ty=some 3)) w2.heap.size) W W6 ∧
    ((e=.returned (.bool true)∧PcI wo W0.heap.size l (0,0) J (H0++[x]) W6)∨(e=.returned (.bool false)∧Jx (zb5 (0,0) (H0++[x])) W6))):=by
   intro W5 H4;have Kh:=hJ _ _ _ hj (HY.below H4 (xN _))
   have Hr:W0.heap.size≤W5.heap.size:=by have:=H5.size;have:=H4.size;omega
   have HH:Hold wo W5:=fun q u hq=>P2 H4 (Kn q u hq)
   have Kj:Boxed W5 (W0.heap.size+1) 201 (.complex .f64 y1 y2):=hb3.kept (row:=none) (P1 H4 none) (by simp)
   have Kx:Boxed W5 W0.heap.size 282 (.func (.yield l) #[] #[]):=K5.kept (row:=none) (P1 H4 none) (by simp)
   have Ky:=hY _ _ _ Hd W5 #[.slice (some ⟨b',H2,none⟩) x.length x.length,.agg ((zbp (zaL (zgl (0,0) H0) x)).map bv).toArray] Kh Hr ⟨_,rfl,SlR.keep hu HH,Ha⟩;have k5:=k1.below H4 (xN _)
   refine ⟨_,Ky,?_⟩
   rintro e W6 ⟨Hm,Kp⟩
   have k2:=k5.trans (Hm.mono (fun k o h=>by
    rcases h with (⟨h,ht⟩ | ⟨h,ht⟩) | ⟨h,ht⟩
    ·exact .inl ⟨za5 ht,by omega⟩
    ·exact .inl ⟨za5 ht,by omega⟩
    ·exact .inr ⟨by omega,ht⟩))
   refine ⟨k2,?_⟩
   rcases Kp with ⟨rfl,hj4⟩ | ⟨rfl,hj4⟩
   ·refine .inl ⟨rfl,(.complex .f64 y1 y2),by rw[zfw];exact hj4,Hm.boxed Kj (.inl ⟨rfl,by omega⟩),by rw[zry];exact K9.out,Hm.boxed Kx (.inl ⟨rfl,by omega⟩),?_,Pf Hr Hm.size⟩
    intro q u hq;have HK:=P0 wo q hq;obtain ⟨o,ho,hc⟩:=cells_of_cell (HH q u hq)
    exact Hm.cell (HH q u hq) (fun o' HZ=>by rw[ho] at HZ;cases HZ;exact .inl ⟨hc,by omega⟩)
   ·exact .inr ⟨rfl,by rw[zfw];exact hj4⟩
  have HR:=zhd fin
  have hf:∀ Wx:World,Calls Tryz.prog 248 #[(.complex .f64 y1 y2)] Wx fun e w'=>e=.returned (.agg ((zbp (zaL (zgl (0,0) H0) x)).map bv).toArray)∧Ext Wx w':=by
   intro Wx
   have:=zl2 y1 y2 Wx
   unfold zlU at this;rw[HN] at this
   exact this
  have HF:=zhd hf
  have Hh:Ext (W2.setCell ⟨W0.heap.size+1,0,none⟩ (.complex .f64 y1 y2)) (W2.setCell ⟨W0.heap.size+1,0,none⟩ (.complex .f64 y1 y2)).drew:=xD (xR _)
  clear fin hf k1 HY Hd hx hJ hY
  refine zcs (by kernel_rfl) (by kernel_rfl) ?_
  refine tkF 1 rfl rfl rfl ?_
  refine zdm (Read4 (⟨W0.heap.size+1,0,none⟩,.complex .f64 y1 y2) (⟨W0.heap.size+1,0,none⟩,.complex .f64 y1 y2) (⟨W0.heap.size,0,none⟩,.func (.yield l) #[] #[]) (⟨W0.heap.size,0,none⟩,.func (.yield l) #[] #[])) [3,4,5] (i:=2) (v:=?v2) rfl rfl (by kernel_rfl) (by kernel_rfl) (by kernel_rfl) (by kernel_rfl) (by kernel_rfl) (fun _ _ _ h=>h) (fun w o hw=>hw.alloc o) (⟨HT,HT,HB,HB⟩) (zgL rfl (fun w hw=>?h2) (fun w=>rfl)) ?r2
  case h2=>obtain ⟨g0,g1,g2,g3⟩:=hw;dsimp only at g0 g1 g2 g3;go_simp;try with_reducible rfl
  refine zqb (i:=0) (j:=3) (vi:=?va3) (f:=248) (args:=?vb3) (wi:=?wa3) (wj:=?wb3) (by kernel_rfl) rfl rfl rfl rfl rfl ?ha3 ?hb3 ?ra3 ?rb3
  case ha3=>go_simp;try (first | with_reducible rfl | (refine ⟨?_,?_⟩ <;> with_reducible rfl))
  case hb3=>go_simp;try (first | with_reducible rfl | (refine ⟨?_,?_⟩ <;> with_reducible rfl))
  case' ra3=>skip
  case' rb3=>skip
  ·refine (HF.out _).mono ?_
   rintro e W5 ⟨rfl,H4⟩;have H8:=xT Hh H4;have KD:=H8.cell HB
   refine ⟨_,rfl,?_⟩
   refine zal (i:=0) (v:=?v4) (w':=?w4) rfl (by kernel_rfl) rfl rfl rfl ?h4 ?r4
   case h4=>go_simp;try (first | with_reducible rfl | (refine ⟨?_,?_⟩ <;> with_reducible rfl))
   refine ziw (i:=4) rfl (by kernel_rfl) rfl rfl ?h5 ?r5
   case h5=>first | (intro f hf;exact trivial) | (intro f hf;cases hf)
   case' r5=>go_simp
   obtain ⟨R,hy,hR⟩:=HR.out W5 H8
   refine zbb hy ?_
   rintro e W6 hr
   obtain ⟨k2,⟨rfl,hI⟩ | ⟨rfl,hj⟩⟩:=hR _ _ hr
   ·refine ⟨true,rfl,?_⟩
    have K2:=zhd k2;have Hy:=zhd hI;clear k2 hI hr hR hy
    refine zal (i:=5) (v:=?v6) (w':=?w6) rfl (by kernel_rfl) rfl rfl rfl ?h6 ?r6
    case h6=>go_simp;try (first | with_reducible rfl | (refine ⟨?_,?_⟩ <;> with_reducible rfl))
    refine wpAnyIn_done (by kernel_rfl) (zbr ?_) _
    simp only[Act.put,sA,sZ,sS]
    gi_wp2
    exact ⟨K2.out,Hy.out⟩
   ·refine ⟨false,rfl,?_⟩
    have K2:=zhd k2;have Hz:=zhd hj;clear k2 hj hr hR hy
    refine zal (i:=5) (v:=?v8) (w':=?w8) rfl (by kernel_rfl) rfl rfl rfl ?h8 ?r8
    case h8=>go_simp;try (first | with_reducible rfl | (refine ⟨?_,?_⟩ <;> with_reducible rfl))
    refine wpAnyIn_done (by kernel_rfl) (zbr ?_) _
    simp only[Act.put,sA,sZ,sS]
    gi_wp2
    exact ⟨K2.out,rfl,Hz.out⟩
  ·skip
   refine zc7 (i:=3) (f:=248) (args:=?b10) (w':=?w10) (by kernel_rfl) rfl rfl ?h10 ?r10
   case h10=>go_simp;try (first | with_reducible rfl | (refine ⟨?_,?_⟩ <;> with_reducible rfl))
   refine (HF.out _).mono ?_
   rintro e W5 ⟨rfl,H4⟩;have H8:=xT Hh H4
   refine ⟨_,rfl,?_⟩
   refine ziw (i:=4) rfl (by kernel_rfl) rfl rfl ?h11 ?r11
   case h11=>first | (intro f hf;exact trivial) | (intro f hf;cases hf)
   case' r11=>go_simp
   obtain ⟨R,hy,hR⟩:=HR.out W5 H8
   refine zbb hy ?_
   rintro e W6 hr
   obtain ⟨k2,⟨rfl,hI⟩ | ⟨rfl,hj⟩⟩:=hR _ _ hr
   ·refine ⟨true,rfl,?_⟩
    have K2:=zhd k2;have Hy:=zhd hI;clear k2 hI hr hR hy
    refine zal (i:=5) (v:=?v12) (w':=?w12) rfl (by kernel_rfl) rfl rfl rfl ?h12 ?r12
    case h12=>go_simp;try (first | with_reducible rfl | (refine ⟨?_,?_⟩ <;> with_reducible rfl))
    refine wpAnyIn_done (by kernel_rfl) (zbr ?_) _
    simp only[Act.put,sA,sZ,sS]
    gi_wp2
    exact ⟨K2.out,Hy.out⟩
   ·refine ⟨false,rfl,?_⟩
    have K2:=zhd k2;have Hz:=zhd hj;clear k2 hj hr hR hy
    refine zal (i:=5) (v:=?v14) (w':=?w14) rfl (by kernel_rfl) rfl rfl rfl ?h14 ?r14
    case h14=>go_simp;try (first | with_reducible rfl | (refine ⟨?_,?_⟩ <;> with_reducible rfl))
    refine wpAnyIn_done (by kernel_rfl) (zbr ?_) _
    simp only[Act.put,sA,sZ,sS]
    gi_wp2
    exact ⟨K2.out,rfl,Hz.out⟩
 case done =>
  rintro D W hD ⟨zv,hj,hb,hp,hy,hh,hs⟩ hK
  have HL:Moves (zad (PcM n0) W0.heap.size) W (W.putObj D (.deferred none)):=Moves.refl.putObj (fun o ho=>.inr ⟨by omega,by rw[hK] at ho;cases ho;rfl⟩) _
  have HJ:=zhd (hJ _ _ _ hj HL);clear hj
  gi_wp2
  refine zjw hK _ (results_none rfl _ _ _) ?_
  exact ⟨⟨_,rfl⟩,.inl HJ.out⟩
 case stop =>
  rintro D cd H0 W hD HM ⟨rfl,hj⟩ hK
  have HL:Moves (zad (PcM n0) W0.heap.size) W (W.putObj D (.deferred none)):=Moves.refl.putObj (fun o ho=>.inr ⟨by omega,by rw[hK] at ho;cases ho;rfl⟩) _
  have HJ:=zhd (HV _ _ _ hj HL)
  have K1:zb5 (0,0) H0 <+: zb5 (0,0) (zbf 4 t):=by
   obtain ⟨r,hr⟩:=HM
   rw[←hr,zfw];exact ⟨_,rfl⟩
  have Kb:=zhd K1;clear hj K1
  gi_wp2
  refine zbc hK _ (results_none rfl _ _ _) ?_
  exact ⟨⟨_,rfl⟩,.inr ⟨_,Kb.out,HJ.out⟩⟩
attribute [local go_sem] Oper.semAt_some
theorem zkp {W:World} {va vb vc:Value} {a b c:List UInt8} (ha:Bs W va a) (hb:Bs W vb b) (hc:Bs W vc c):Parts (W.alloc (.cells #[va,vb,vc] 38)) (.slice (some ⟨W.heap.size,0,none⟩) 3 3) [a,b,c]:=by
 refine ⟨[va,vb,vc],rfl,xW (zaV W [va,vb,vc] 38 3 rfl (by simp[maxLen]) (xN _)),fun i hi KK=>?_⟩
 match i,hi with
 | 0,_=>exact Bs.ext ha (xA (xR _) _)
 | 1,_=>exact Bs.ext hb (xA (xR _) _)
 | 2,_=>exact Bs.ext hc (xA (xR _) _)
theorem zol (A:Option Addr) (n c:Nat) (w:World):Calls Tryz.prog 235 #[.slice A n c] w fun e w'=>e=.returned (.func (.func 246) #[] #[.pointer (some ⟨w.heap.size,0,none⟩)])∧w.alloc (.cells #[.slice A n c] 38)=w':=by
 go_enter Tryz.func235,Tryz.ntmps235
 go_wp2
 go_ret
 exact ⟨rfl,rfl⟩
def PsI (w:World) (H0:List (List UInt8×(Nat×Nat))) (X:World):Prop:=∃ v,Boxed X w.heap.size 38 v∧X.ownsRow w.heap.size 5 1 v (H0.flatMap zdF).length ((H0.flatMap zdF).map bv)∧Below w.heap.size w X
theorem zoY (v:Value) (t:List UInt8) (w:World) (ht:Bs w v t) (Hn:t.length≤100000):Calls Tryz.prog 204 #[v] w (zjX w (zb2 (0,0) t)):=by
 obtain ⟨A,c,rfl,h1,h2⟩:=xO ht
 refine (callsIn_wd (ro:=none) (n:=9)).1 ?_
 refine callsIn_of_wp_marks Tryz.func204 rfl trivial ?_ rfl
 simp only[Tryz.ntmps204,P6,xC,P9,Pe,Pd,Pc,Pb,P7,P5,xI,P4];have Hu:=zn7 (0,0) t;have Hs:=zi7 (0,0) t
 gi_wp2_with (refine ⟨trivial,?_⟩;gi_at_call 235;refine (callsIn_wd.2 (zol _ _ _ _)).mono ?_;rintro e w' ⟨rfl,rfl⟩)
 have qb:Boxed ((w.alloc (.cells #[.slice none 0 0] 38)).alloc (.cells #[.slice A t.length c] 38)) w.heap.size 38 (.slice none 0 0):=(P3 w _ _).alloc _
 have qt:Boxed ((w.alloc (.cells #[.slice none 0 0] 38)).alloc (.cells #[.slice A t.length c] 38)) (w.heap.size+1) 38 (.slice A t.length c):=by
  have:=P3 (w.alloc (.cells #[.slice none 0 0] 38)) 38 (.slice A t.length c)
  rwa [xS] at this
 have Ht:Ext w ((w.alloc (.cells #[.slice none 0 0] 38)).alloc (.cells #[.slice A t.length c] 38)):=xA (xA (xR _) _) _
 have Ku:((w.alloc (.cells #[.slice none 0 0] 38)).alloc (.cells #[.slice A t.length c] 38)).heap.size=w.heap.size+2:=by simp
 have h0:PsI w [] ((w.alloc (.cells #[.slice none 0 0] 38)).alloc (.cells #[.slice A t.length c] 38)):=⟨_,qb,World.ownsRow_nil _ _ _ _,Ht⟩
 generalize (w.alloc (.cells #[.slice none 0 0] 38)).alloc (.cells #[.slice A t.length c] 38)=w2 at *
 refine zbN (a:=⟨_,_⟩) rfl (enters_of Tryz.func246 (by kernel_rfl) rfl)
  (fun W1 hb hs=>zn8 w W1 _ t ht (by omega) (fun q u hc=>P2 (xT Ht hb) hc) (w.heap.size+1) w.heap.size w2.heap.size (qt.kept (row:=none) (P1 hb none) (by simp)) hb.size (by omega) (xN _) (by have:=hb.size;omega))
  (fun k o h=>za5 h.2) (fun k o h=>h.1) (fun x av W h=>by obtain ⟨u,rfl,_⟩:=h;rfl)
  (PsI w) (fun _ _ _=>False) ?hI (fun _ _ _ _ h _=>h) h0
  (fun x a' W=>∃ u q,Bs W u x.1∧x.1.length≤4∧Bs W (.slice (some ⟨q,0,none⟩) 4 4) (zbp x.2)∧a'=⟨#[.slice A t.length c,undef,.pointer (some ⟨w.heap.size,0,none⟩),u,.pointer (some ⟨q,0,none⟩),.slice A t.length c,.func (.func 246) #[] #[.pointer (some ⟨w.heap.size+1,0,none⟩)],u,.agg ((zbp x.2).map bv).toArray,undef,undef,undef,undef,undef,undef],[]⟩)
  ?hAx ?assign ?body ?done ?stop
 case hI =>
  rintro s X Y ⟨v1,hv,hr,hB⟩ hm
  refine ⟨v1,hm.boxed hv ?_,hm.ownsRow hr ?_,hm.belowOf hB ?_ (xN _)⟩
  ·rintro (h | h)
   ·cases h.2
   ·cases h.2
  ·rintro k KB _ (h | h)
   ·cases h.2
   ·cases h.2
  ·rintro k o hk (h | h)
   ·have:=h.1;omega
   ·have:=h.1;omega
 case hAx =>
  rintro x a' X Y ⟨u,q,hu,Ha,hq,rfl⟩ hm
  refine ⟨u,q,SlR.keep hu (fun q t hq=>hm.cell hq (fun o ho hc=>?_)),Ha,SlR.keep hq (fun q t hq=>hm.cell hq (fun o ho hc=>?_)),rfl⟩
  all_goals
   rintro (h | h)
   ·exact h
   ·rw[hc] at h;cases h.2
 case assign =>
  rintro l H0 x H9 W av K' hx hi HO ⟨u,rfl,hu,Ha⟩ hK;obtain ⟨f0,f1,f2,f3,hf⟩:=zqZ x.2;rw[hf];have Hx:=zhd hx;have Hf:=zhd hf;clear hx hf;simp only[List.map_cons,List.map_nil,bv];obtain ⟨v1,hv,hr,hB⟩:=hi
  have Hi:Hid (PsI w H0 (W.alloc (.cells #[.int .u8 (f0.toNat:Int),.int .u8 (f1.toNat:Int),.int .u8 (f2.toNat:Int),.int .u8 (f3.toNat:Int)] 140))):=⟨v1,hv.alloc _,hr.alloc _,Below.alloc hB hB.size _⟩
  have HW:Bs (W.alloc (.cells #[.int .u8 (f0.toNat:Int),.int .u8 (f1.toNat:Int),.int .u8 (f2.toNat:Int),.int .u8 (f3.toNat:Int)] 140)) (.slice (some ⟨W.heap.size,0,none⟩) 4 4) (zbp x.2):=by
   rw[Hf.out]
   exact zdy (cs:=[f0,f1,f2,f3].map bv) (Blk.new W _ _) rfl (by simp[maxLen])
  have K8:=zhd HW
  have HU:Hid (Bs (W.alloc (.cells #[.int .u8 (f0.toNat:Int),.int .u8 (f1.toNat:Int),.int .u8 (f2.toNat:Int),.int .u8 (f3.toNat:Int)] 140)) u x.1):=Bs.ext hu (xA (xR _) _)
  clear HW hu hv hr hB
  gi_wp2
  exact hK _ _ (Kept.refl.alloc _) Hi.out ⟨u,W.heap.size,HU.out,Ha,K8.out,by rw[Hf.out];rfl⟩
 case body =>
  rintro l H0 x H9 a' W hx hl hr ⟨v1,hv,H1,hB⟩ HO ⟨u,q,hu,Ha,hq,rfl⟩
  have KO:(H0.flatMap zdF).length+(x.1.length+4)≤40000000:=by
   have:=congrArg (fun l=>(List.flatMap zdF l).length) hx
   simp only[Hu,List.flatMap_append,P8,xL,zdF,ze5] at this;omega
  have Hj:(H0++[x]).flatMap zdF=H0.flatMap zdF++(x.1++zbp x.2):=by simp[zdF]
  have Ka:=zhd Hj;clear Hj hx Hu Hs
  generalize H0.flatMap zdF=Q at *
  obtain ⟨A1,H6,rfl,_,_⟩:=xO (xW H1);have K4:=hu;obtain ⟨A2,Kd,rfl,_,_⟩:=xO hu;have hc:=hv.cell
  have KP:Boxed W.drew w.heap.size 38 (.slice A1 Q.length H6):=hv
  have K3:Parts (W.drew.alloc (.cells #[.slice A1 Q.length H6,.slice A2 x.1.length Kd,.slice (some ⟨q,0,none⟩) 4 4] 38)) (.slice (some ⟨W.heap.size,0,none⟩) 3 3) [Q,x.1,zbp x.2]:=zkp (W:=W.drew) (Bs.ext (xW H1:Bs W (.slice A1 Q.length H6) Q) (xD (xR _))) (Bs.ext K4 (xD (xR _))) (Bs.ext hq (xD (xR _)))
  have Hk:[Q,x.1,zbp x.2].flatten=Q++(x.1++zbp x.2):=by simp
  have Kc:=zhd K3;have Hg:=zhd Hk
  have Hl:(zbp x.2).length=4:=ze5 _
  have HD:=zhd hB;clear K3 Hk hu K4 hq H1 hB
  gi_wp2
  refine zcs (by kernel_rfl) (by kernel_rfl) ?_
  refine tkF 1 rfl rfl rfl ?_;refine tkF 2 rfl rfl rfl ?_
  refine zal (i:=0) (v:=?v3) (w':=?w3) rfl (by kernel_rfl) rfl rfl rfl ?h3 ?r3
  case h3=>go_simp;try (first | with_reducible rfl | (refine ⟨?_,?_⟩ <;> with_reducible rfl))
  refine zal (i:=3) (v:=?v4) (w':=?w4) rfl (by kernel_rfl) rfl rfl rfl ?h4 ?r4
  case h4=>go_simp;try (first | with_reducible rfl | (refine ⟨?_,?_⟩ <;> with_reducible rfl))
  refine zc7 (i:=4) (f:=195) (args:=?b5) (w':=?w5) (by kernel_rfl) rfl rfl ?h5 ?r5
  case h5=>go_simp;try (first | with_reducible rfl | (refine ⟨?_,?_⟩ <;> with_reducible rfl))
  have Hc:=zej _ _ _ Kc.out (by rw[Hg.out,xL,xL,Hl];omega);rw[Hg.out] at Hc
  refine Hc.mono ?_
  rintro e w1 ⟨v',rfl,K0,H7⟩;obtain ⟨A3,HS,rfl,_,_⟩:=xO (xW K0)
  have H5:Ext W w1:=xT (xA (xD (xR _)) _) H7
  have Hw:Boxed w1 w.heap.size 38 (.slice A1 Q.length H6):=hv.kept (row:=none) (P1 H5 none) (by simp)
  have KC:=Hw.cell;have KF:=Hw.frozen
  refine ⟨_,rfl,?_⟩
  clear Hc
  refine zbQ (i:=5) (w':=?w6) rfl (by kernel_rfl) rfl rfl rfl ?h6 ?r6
  case h6=>go_simp;try (first | with_reducible rfl | (refine ⟨?_,?_⟩ <;> with_reducible rfl))
  refine wpAnyIn_done (by kernel_rfl) (zbr ?_) _
  simp only[Act.put,sA,sZ,sS]
  gi_wp2
  have Kq:(Q++(x.1++zbp x.2)).length=Q.length+(x.1.length+4):=by rw[xL,xL,Hl]
  have Ho:w1.ownsRow w.heap.size 5 1 (.slice A3 (Q.length+(x.1.length+4)) HS) (Q++(x.1++zbp x.2)).length ((Q++(x.1++zbp x.2)).map bv):=by
   have h:=zai K0 (base':=w.heap.size) (by have:=HD.out.size;simp;omega)
   rw[Kq] at h ⊢
   exact h
  refine ⟨(Kept.refl.below H5 (xN _)).setCell (fun o ho _=>?_) _,_,Hw.set _,?_,?_⟩
  ·rintro (⟨_,h⟩ | ⟨h,_⟩)
   ·exact h rfl
   ·have:w2.heap.size≤w.heap.size:=h
    omega
  ·rw[Ka.out]
   exact Ho.kept (grownBy_setCell' w1 w.heap.size (.slice A3 (Q.length+(x.1.length+4)) HS)) (.inr (Hw.not_row (by decide) Ho).symm)
  ·exact (Below.trans HD.out (H5.mono HD.out.size)).setCell (p:=⟨w.heap.size,0,none⟩) (xN _) _
 case done =>
  rintro D W hD ⟨v1,hv,H1,hB⟩ hK;rw[Hu] at H1;obtain ⟨q,hq⟩:∃ q,zb2 (0,0) t=q:=⟨_,rfl⟩;rw[hq] at H1;have Hq:=zhd hq;clear Hu hq Hs;obtain ⟨A1,H6,rfl,_,_⟩:=xO (xW H1);have hc:=hv.cell;have hf:=hv.frozen
  gi_wp2
  have Hp:=H1.kept (grownBy_setCell' W w.heap.size (.slice A1 q.length H6)) (.inr (hv.not_row (by decide) H1).symm);have Kv:=hv.set (.slice A1 q.length H6);have HE:=zaC hK rfl ⟨w.heap.size,0,none⟩ (.slice A1 q.length H6);have Kl:=zcd Kv.cell HE rfl (.deferred none)
  refine zbc HE (.slice A1 q.length H6) (by simp[results,Tryz.results204,go_sem,Kl]) ⟨_,rfl,by rw[Hq.out];exact ownsRow_putObj Hp (.deferred none) HE rfl,?_⟩
  exact zaq (hB.setCell (p:=⟨w.heap.size,0,none⟩) (xN _) _) (by omega) _
 case stop =>
  rintro D c H0 W _ _ h _
  exact h.elim
end Go.Proofs.YtgonhdeochgkoaaGreatDoor
