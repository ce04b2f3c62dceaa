/- Merged: SnapP State PiecesIt Pieces Text -/
import Derived.Test.YtgonhdeochgkoaaGreatDoorZt12
set_option linter.all false
set_option maxHeartbeats 8000000
set_option maxRecDepth 100000
namespace Go.Proofs.YtgonhdeochgkoaaGreatDoor
open Go.RowKit Go.Mv
structure Sta where
 idx:Int
 term:Int
 sum:Int
 lvl:Int
 fin:Bool
def Sta.ok (s:Sta):Bool :=
 if s.idx=0 then decide (s.term=0∧s.sum=0∧s.lvl=1∧s.fin=false)
 else (if s.fin=true then decide (s.lvl=2) else decide (s.lvl=1∨s.lvl=2))&&zaJ s.idx&&decide (0<s.term)&&zaJ s.term&&zaJ s.sum
def Sta.finI (s:Sta):Int:=if s.fin=true then 1 else 0
def Sta.ints (s:Sta):List Int:=[s.idx,s.term,s.sum,s.lvl,s.finI]
theorem Sta.okP {s:Sta} (h:s.ok=true):zaJ s.idx=true∧zaJ s.term=true∧zaJ s.sum=true∧(s.lvl=1∨s.lvl=2):=by
 unfold Sta.ok at h
 split at h
 ·rename_i h0
  have:=of_decide_eq_true h
  obtain ⟨h1,h2,h3,h4⟩:=this;rw[h0,h1,h2,h3]
  exact ⟨by decide,by decide,by decide,.inl rfl⟩
 ·simp only[Bool.and_eq_true] at h
  obtain ⟨⟨⟨⟨h1,h2⟩,h3⟩,h4⟩,h5⟩:=h
  refine ⟨h2,h4,h5,?_⟩
  split at h1
  ·exact .inr (of_decide_eq_true h1)
  ·exact of_decide_eq_true h1
theorem Sta.finP (s:Sta):s.finI=0∨s.finI=1:=by unfold Sta.finI;split <;> simp
theorem Sta.nums {s:Sta} (h:s.ok=true):zaA s.ints=true:=by
 obtain ⟨h1,h2,h3,h4⟩:=Sta.okP h
 have h5:zaJ s.lvl=true:=by rcases h4 with e | e <;> rw[e] <;> decide
 have h6:zaJ s.finI=true:=by rcases s.finP with e | e <;> rw[e] <;> decide
 simp[zaA,Sta.ints,h1,h2,h3,h5,h6]
def zb7 (z:Nat×Nat) (t:List UInt8):List UInt8 :=
 if h:t=[] then [] else t.take 4++(zbu (zaD z (t.take 4))++zb7 (zaD z (t.take 4)) (t.drop 4))
termination_by t.length
decreasing_by
 have:0<t.length:=List.length_pos_iff.2 h
 simp;omega
theorem zjs (z:Nat×Nat):zb7 z []=[]:=by rw[zb7];simp
theorem ziD (z:Nat×Nat) (t:List UInt8) (h:0<t.length):zb7 z t=t.take 4++(zbu (zaD z (t.take 4))++zb7 (zaD z (t.take 4)) (t.drop 4)):=by
 rw[zb7,dif_neg (fun e=>by rw[e] at h;simp at h)]
theorem zjr (z:Nat×Nat) (t:List UInt8):(zb7 z t).length=t.length+(t.length+3) / 4*4:=by
 generalize hn:t.length=n
 induction n using Nat.strongRecOn generalizing z t with
 | _ n ih =>
  rcases Nat.eq_zero_or_pos t.length with h | h
  ·have:t=[]:=List.eq_nil_of_length_eq_zero h
   subst this;rw[zjs]
   simp at hn
   subst hn;rfl
  ·have h1:=ih (t.drop 4).length (by simp;omega) (zaD z (t.take 4)) (t.drop 4) rfl
   rw[ziD z t h,List.length_append,List.length_append,h1,zfo,List.length_take,List.length_drop];omega
theorem zrC (p:Nat×Nat):∃ a b c d,zbu p=[a,b,c,d]:=⟨_,_,_,_,rfl⟩
theorem zgb:Tryz.prog.underlying 53=some (.struct (Tryz.prog.fieldsOf 53)):=by kernel_rfl
theorem zvn:Tryz.prog.stoodInHeld 53=false:=by kernel_rfl
theorem zkc:Tryz.prog.eqGuardType Tryz.prog.depth 53=false:=by kernel_rfl
def zeI (a b:Sta):Bool:=a.idx==b.idx&&a.term==b.term&&a.sum==b.sum&&a.lvl==b.lvl&&a.fin==b.fin
theorem zsD (a b:Sta):zeI a b=true↔a=b:=by
 cases a;cases b
 simp[zeI,and_assoc]
theorem ziN (a b:Sta) (W:World):(Op.equalIn 10000 53 (.agg #[.int .i64 a.idx,.int .i64 a.term,.int .i64 a.sum,.int .i64 a.lvl,.bool a.fin]) (.agg #[.int .i64 b.idx,.int .i64 b.term,.int .i64 b.sum,.int .i64 b.lvl,.bool b.fin])).run Tryz.prog W=.ok (zeI a b) W:=by
 rw[run_equalIn_struct W 9999 53 _ _ zgb zvn];unfold zeI
 cases h0:(a.idx==b.idx) <;> cases h1:(a.term==b.term) <;> cases h2:(a.sum==b.sum) <;> cases h3:(a.lvl==b.lvl) <;> cases h4:(a.fin==b.fin) <;> simp[go_sem,h0,h1,h2,h3,h4]
theorem zov (n:Int) (w:World):Calls Tryz.prog 113 #[.int .i64 n] w fun e w'=>e=.returned (.bool (zaJ n))∧w=w':=by
 by_cases h0:n<0
 ·go_enter Tryz.func113,Tryz.ntmps113
  go_wp2
  go_ret
  exact ⟨ret_bool (by simp[zaJ];omega),rfl⟩
 ·have h0':0≤n:=by omega
  go_enter Tryz.func113,Tryz.ntmps113
  go_wp2
  go_ret
  exact ⟨ret_bool (by simp[zaJ];omega),rfl⟩
theorem zlx (w:World):Calls Tryz.prog 107 #[] w fun e w'=>e=.returned (.agg #[.int .i64 0,.int .i64 0,.int .i64 0,.int .i64 1,.bool false])∧Ext w w':=by
 go_enter Tryz.func107,Tryz.ntmps107
 go_wp2
 refine bodyPost_ret (results_cell_row rfl _ _ _ 53 _ _ _ rfl (heap_alloc_new _ _) zgb rfl (by kernel_rfl)) rfl ⟨rfl,Ext.alloc (Ext.refl _) _⟩
theorem zir (s:Sta) (w:World):Calls Tryz.prog 201 #[.agg #[.int .i64 s.idx,.int .i64 s.term,.int .i64 s.sum,.int .i64 s.lvl,.bool s.fin]] w fun e w'=>e=.returned (.int .i64 s.finI)∧Ext w w':=by
 cases hf:s.fin
 ·have h:s.finI=0:=by unfold Sta.finI;rw[hf];rfl
  go_enter Tryz.func201,Tryz.ntmps201
  go_wp2
  go_ret
  exact ⟨by rw[h];rfl,Ext.alloc (Ext.refl _) _⟩
 ·have h:s.finI=1:=by unfold Sta.finI;rw[hf];rfl
  go_enter Tryz.func201,Tryz.ntmps201
  go_wp2
  go_ret
  exact ⟨by rw[h];rfl,Ext.alloc (Ext.refl _) _⟩
theorem zac {W:World} {b:Nat} {t:TypeId} {a v u x y:Value} (h:Blk W b t #[a,v,u,x,y]):W.cell? ⟨b,0,none⟩=some a∧W.cell? ⟨b,1,none⟩=some v∧W.cell? ⟨b,2,none⟩=some u∧W.cell? ⟨b,3,none⟩=some x∧W.cell? ⟨b,4,none⟩=some y :=
 ⟨h.cell 0 rfl,h.cell 1 rfl,h.cell 2 rfl,h.cell 3 rfl,h.cell 4 rfl⟩
theorem zcX (s:Sta) (w:World):Calls Tryz.prog 145 #[.agg #[.int .i64 s.idx,.int .i64 s.term,.int .i64 s.sum,.int .i64 s.lvl,.bool s.fin]] w fun e w'=>e=.returned (.bool s.ok)∧Ext w w':=by
 have hX:Ext w (w.alloc (.cells #[.int .i64 s.idx,.int .i64 s.term,.int .i64 s.sum,.int .i64 s.lvl,.bool s.fin] 53)):=Ext.alloc (Ext.refl _) _
 have hb:=Blk.new w 53 #[.int .i64 s.idx,.int .i64 s.term,.int .i64 s.sum,.int .i64 s.lvl,.bool s.fin]
 by_cases h0:s.idx=0
 ·have e0:(s.idx==0)=true:=by rw[h0];rfl
  have heq:=ziN s ⟨0,0,0,1,false⟩;have hgd:=zkc
  have hok:s.ok=zeI s ⟨0,0,0,1,false⟩:=by
   unfold Sta.ok zeI;rw[if_pos h0,h0];rw[Bool.eq_iff_iff]
   simp[and_assoc]
  have Hok:=zhd hok;clear hok h0;dsimp only at heq
  go_enter Tryz.func145,Tryz.ntmps145
  go_wp2_with fail
  go_region_held3 (fun w'=>w'.cell? ⟨w.heap.size,0,none⟩=some (.int .i64 s.idx)∧w'.cell? ⟨w.heap.size,1,none⟩=some (.int .i64 s.term)∧w'.cell? ⟨w.heap.size,2,none⟩=some (.int .i64 s.sum)∧w'.cell? ⟨w.heap.size,3,none⟩=some (.int .i64 s.lvl)∧w'.cell? ⟨w.heap.size,4,none⟩=some (.bool s.fin)) (first | go_keep | (refine ⟨?_,?_,?_,?_,?_⟩ <;> assumption))
   (first | (go_at_call 107;refine (zlx _).mono ?_;rintro e w1 ⟨rfl,hE1⟩;have hE':Ext (w.alloc (.cells #[.int .i64 s.idx,.int .i64 s.term,.int .i64 s.sum,.int .i64 s.lvl,.bool s.fin] 53)) w1:=Ext.trans (Ext.drew (Ext.refl _)) hE1;obtain ⟨g0,g1,g2,g3,g4⟩:=zac (hb.ext hE')))
  go_wp2_with fail;go_ret
  exact ⟨by rw[Hok.out];rfl,Ext.trans hX hE'⟩
 ·have e0:(s.idx==0)=false:=by rw[beq_eq_false_iff_ne];exact h0
  cases hf:s.fin with
  | true =>
   have hok:s.ok=((s.lvl==2)&&zaJ s.idx&&decide (0<s.term)&&zaJ s.term&&zaJ s.sum):=by
    unfold Sta.ok;rw[if_neg h0,if_pos hf]
    congr 4
   have Hok:=zhd hok;clear hok h0
   go_enter Tryz.func145,Tryz.ntmps145
   go_wp2_with (go_at_call 170;refine (zhH _ _).mono ?_;rintro e w1 ⟨rfl,rfl⟩)
   all_goals
    go_ret
    refine ⟨ret_bool ?_,Ext.alloc (Ext.refl _) _⟩
    rw[Hok.out]
    simp_all
    try (intro h;omega)
  | false =>
   have hok:s.ok=(decide (s.lvl=1∨s.lvl=2)&&zaJ s.idx&&decide (0<s.term)&&zaJ s.term&&zaJ s.sum):=by
    unfold Sta.ok
    rw[if_neg h0,if_neg (by rw[hf];simp)]
   have Hok:=zhd hok;clear hok h0
   go_enter Tryz.func145,Tryz.ntmps145
   go_wp2_with (go_at_call 170;refine (zhH _ _).mono ?_;rintro e w1 ⟨rfl,rfl⟩)
   all_goals
    go_ret
    refine ⟨ret_bool ?_,Ext.alloc (Ext.refl _) _⟩
    rw[Hok.out]
    simp_all
    try (intro h;omega)
open Go.RowKit Go.Mv Go.Shelf
attribute [local go_sem] Oper.semAt_some ze3
def zgA (z:Nat×Nat) (ps:List (List UInt8)):Nat×Nat:=ps.foldl zaD z
def zcc (z:Nat×Nat):List (List UInt8)→List (List UInt8×(Nat×Nat))
 | []=>[]
 | p::ps=>(p,zaD z p)::zcc (zaD z p) ps
def zdK (x:List UInt8×(Nat×Nat)):List UInt8:=x.1++zbu x.2
theorem zr9 (z:Nat×Nat) (ps:List (List UInt8)) (p:List UInt8):zgA z (ps++[p])=zaD (zgA z ps) p:=by unfold zgA;rw[List.foldl_append];rfl
theorem zfO (a b:List (List UInt8)):∀ (z:Nat×Nat),zcc z (a++b)=zcc z a++zcc (zgA z a) b:=by
 induction a with
 | nil=>intro z;rfl
 | cons x a ih=>intro z;rw[List.cons_append,zcc,ih,zcc];rfl
theorem zoC (z:Nat×Nat) (t:List UInt8):(zcc z (zbk 4 t)).flatMap zdK=zb7 z t:=by
 generalize hn:t.length=n
 induction n using Nat.strongRecOn generalizing z t with
 | _ n ih =>
  rcases Nat.eq_zero_or_pos t.length with h | h
  ·have:t=[]:=List.eq_nil_of_length_eq_zero h
   subst this;rw[zfG,zjs];rfl
  ·rw[zfb 4 t (by decide) h,zcc,List.flatMap_cons,ih (t.drop 4).length (by rw[List.length_drop];omega) _ (t.drop 4) rfl,ziD z t h]
   unfold zdK;rw[List.append_assoc]
def PcK (bo:Nat) (k:Nat) (o:Obj):Prop:=o.isCells=true∧k≠bo
def PcM (n0:Nat) (k:Nat) (o:Obj):Prop:=n0≤k∧o.ty=some 201
def PcI (wo:World) (N l:Nat) (z:Nat×Nat) (J:List (List UInt8×(Nat×Nat))→World→Prop) (ps:List (List UInt8)) (W:World):Prop :=
 ∃ zv,J (zcc z ps) W∧Boxed W (N+1) 201 zv∧PtV zv (zgA z ps)∧Boxed W N 282 (.func (.yield l) #[] #[])∧Hold wo W∧N≤W.heap.size
theorem zoD (wo W0:World) (v:Value) (t:List UInt8) (ht:Bs wo v t) (hlen:t.length≤2000000) (hH:Hold wo W0) (bt bo n0:Nat) (hB1:Boxed W0 bt 38 v) (hn0:n0≤W0.heap.size) (hn1:wo.heap.size≤n0) (hbo:wo.heap.size≤bo) (hbo2:bo<W0.heap.size) :
  Seq Tryz.prog 246 #[.pointer (some ⟨bt,0,none⟩)]
   (fun (x:List UInt8×(Nat×Nat)) av W=>∃ u,av = #[u,.agg ((zbu x.2).map bv).toArray]∧Bs W u x.1∧x.1.length≤4) (PcK bo) (PcM n0) (zcc (0,0) (zbk 4 t)) W0:=by
 intro l J Jx hJ hJx hY h0;obtain ⟨A,c,rfl,h1,h2⟩:=SlR.open_ ht;have c1:=hB1.cell
 have hbtlt:bt<W0.heap.size:=World.block_lt_of_cell? W0 _ c1
 refine (callsIn_wd (ro:=none) (n:=9)).1 ?_
 refine callsIn_of_wp_marks Tryz.func246 rfl trivial ?_ rfl
 simp only[Tryz.ntmps246,List.size_toArray,List.length_cons,List.length_nil,Nat.reduceAdd,Nat.reduceSub,Array.replicate_succ,Array.replicate_zero,List.push_toArray,List.append_toArray,List.nil_append,List.cons_append]
 gi_wp2_with (refine ⟨trivial,?_⟩;gi_at_call 168;refine (callsIn_wd.2 (zg5 _ _ _ 4 (by decide) _)).mono ?_;rintro e w' ⟨rfl,rfl⟩)
 have q0:Boxed ((((W0.alloc (.cells #[.func (.yield l) #[] #[]] 282)).alloc (.cells #[.complex .f64 0 0] 201)).alloc (.cells #[.slice A t.length c] 38)).alloc (.cells #[.int .i64 4] 3)) W0.heap.size 282 (.func (.yield l) #[] #[]):=(((Boxed.new W0 _ _).alloc _).alloc _).alloc _
 have qz:Boxed ((((W0.alloc (.cells #[.func (.yield l) #[] #[]] 282)).alloc (.cells #[.complex .f64 0 0] 201)).alloc (.cells #[.slice A t.length c] 38)).alloc (.cells #[.int .i64 4] 3)) (W0.heap.size+1) 201 (.complex .f64 0 0):=by
  have:=Boxed.new (W0.alloc (.cells #[.func (.yield l) #[] #[]] 282)) 201 (.complex .f64 0 0)
  rw[World.size_alloc] at this
  exact (this.alloc _).alloc _
 have q1:Boxed ((((W0.alloc (.cells #[.func (.yield l) #[] #[]] 282)).alloc (.cells #[.complex .f64 0 0] 201)).alloc (.cells #[.slice A t.length c] 38)).alloc (.cells #[.int .i64 4] 3)) (W0.heap.size+1+1) 38 (.slice A t.length c):=by
  have:=Boxed.new ((W0.alloc (.cells #[.func (.yield l) #[] #[]] 282)).alloc (.cells #[.complex .f64 0 0] 201)) 38 (.slice A t.length c)
  rw[World.size_alloc,World.size_alloc] at this
  exact this.alloc _
 have q2:Boxed ((((W0.alloc (.cells #[.func (.yield l) #[] #[]] 282)).alloc (.cells #[.complex .f64 0 0] 201)).alloc (.cells #[.slice A t.length c] 38)).alloc (.cells #[.int .i64 4] 3)) (W0.heap.size+1+1+1) 3 (.int .i64 4):=by
  have:=Boxed.new (((W0.alloc (.cells #[.func (.yield l) #[] #[]] 282)).alloc (.cells #[.complex .f64 0 0] 201)).alloc (.cells #[.slice A t.length c] 38)) 3 (.int .i64 4)
  rwa [World.size_alloc,World.size_alloc,World.size_alloc] at this
 have hE2:Ext W0 ((((W0.alloc (.cells #[.func (.yield l) #[] #[]] 282)).alloc (.cells #[.complex .f64 0 0] 201)).alloc (.cells #[.slice A t.length c] 38)).alloc (.cells #[.int .i64 4] 3)):=Ext.alloc (Ext.alloc (Ext.alloc (Ext.alloc (Ext.refl _) _) _) _) _
 have hm2:Moves (zab (PcM n0) W0.heap.size) W0 ((((W0.alloc (.cells #[.func (.yield l) #[] #[]] 282)).alloc (.cells #[.complex .f64 0 0] 201)).alloc (.cells #[.slice A t.length c] 38)).alloc (.cells #[.int .i64 4] 3)):=(((Moves.refl.alloc _).alloc _).alloc _).alloc _
 have hs2:((((W0.alloc (.cells #[.func (.yield l) #[] #[]] 282)).alloc (.cells #[.complex .f64 0 0] 201)).alloc (.cells #[.slice A t.length c] 38)).alloc (.cells #[.int .i64 4] 3)).heap.size=W0.heap.size+4:=by simp
 have hJ0:=hJ _ _ _ h0 hm2
 generalize ((((W0.alloc (.cells #[.func (.yield l) #[] #[]] 282)).alloc (.cells #[.complex .f64 0 0] 201)).alloc (.cells #[.slice A t.length c] 38)).alloc (.cells #[.int .i64 4] 3))=w2 at *
 have hH2:Hold wo w2:=fun q u hq=>Ext.cell hE2 (hH q u hq)
 refine zbO (a:=⟨_,_⟩) rfl (enters_of Tryz.func198 (by kernel_rfl) rfl)
  (fun W1 hb _=>zhj 4 (by decide) (by decide) wo W1 _ t ht hlen (W0.heap.size+1+1) (W0.heap.size+1+1+1) (q1.kept (row:=none) (Ext.grown hb none) (by simp)) (q2.kept (row:=none) (Ext.grown hb none) (by simp)))
  (fun k o h=>h.elim) (fun k o h=>by rcases h with h | h <;> exact zba h.2) (fun x av W h=>by obtain ⟨_,_,rfl,_⟩:=h;rfl)
  (PcI wo W0.heap.size l (0,0) J) (fun cd ps W=>cd=Code.ret∧Jx (zcc (0,0) ps) W) ?hI ?hIx ⟨_,hJ0,qz,PtV.zero,q0,hH2,by omega⟩
  (fun x a' _=>∃ b' off',Bs wo (.slice (some ⟨b',off',none⟩) x.length x.length) x∧x.length≤4∧a'=⟨#[.func (.yield l) #[] #[],.pointer (some ⟨bt,0,none⟩),.pointer (some ⟨W0.heap.size,0,none⟩),.pointer (some ⟨W0.heap.size+1,0,none⟩),.slice (some ⟨b',off',none⟩) x.length x.length,.slice A t.length c,.func (.func 198) #[] #[.pointer (some ⟨W0.heap.size+1+1,0,none⟩),.pointer (some ⟨W0.heap.size+1+1+1,0,none⟩)],.slice (some ⟨b',off',none⟩) x.length x.length,undef,undef,undef,undef,undef,undef,undef,undef,undef,undef],[]⟩)
  (fun _ _ _ _ h _=>h) ?assign ?body ?done ?stop
 case hI =>
  rintro cs X Y ⟨zv,hj,hb,hp,hy,hh,hs⟩ hm
  have hm':Moves (zab (PcM n0) W0.heap.size) X Y:=hm.weaken (fun k o h=>by rcases h with h | h;exact h.elim;exact .inr ⟨by omega,h.2⟩)
  refine ⟨zv,hJ _ _ _ hj hm',hm.boxed hb ?_,hp,hm.boxed hy ?_,hh.moves hm ?_,Nat.le_trans hs hm.size⟩
  ·rintro (h | h)
   ·exact h
   ·cases h.2
  ·rintro (h | h)
   ·exact h
   ·cases h.2
  ·rintro k o _ hc (h | h)
   ·exact h
   ·rw[hc] at h;cases h.2
 case hIx =>
  rintro cd cs X Y ⟨rfl,hj⟩ hm
  exact ⟨rfl,hJx _ _ _ hj (hm.weaken (fun k o h=>by rcases h with h | h;exact h.elim;exact .inr ⟨by omega,h.2⟩))⟩
 case assign =>
  rintro l' pre x post W av K' hx hi hsz ⟨b',off',rfl,hu,_,hx4⟩ hK
  gi_wp2
  exact hK _ _ Kept.refl hi ⟨b',off',hu,hx4,rfl⟩
 case body =>
  rintro l' pre x post a' W hx hl' hr ⟨zv,hj,hb,hp,hy,hh,hs⟩ hsz ⟨b',off',hu,hx4,rfl⟩;have hpt:=hp.pt;obtain ⟨z1,z2,rfl,hz1,hz2⟩:=hp
  have hux:Bs W (.slice (some ⟨b',off',none⟩) x.length x.length) x:=SlR.keep hu hh
  have HUX:=zhd hux;have cb:=hb.cell
  have hbw:W0.heap.size+1<W.heap.size:=World.block_lt_of_cell? W _ cb
  have HI:=zhd (show PcI wo W0.heap.size l (0,0) J pre W from ⟨_,hj,hb,⟨z1,z2,rfl,hz1,hz2⟩,hy,hh,hs⟩)
  have hparts:=znk hux;have HP:=zhd hparts;clear hux hz1 hz2 hparts
  gi_wp2_with (refine ⟨trivial,?_⟩;gi_at_call 247;refine (callsIn_wd.2 (zh9 z1 z2 _ _ _ HP.out)).mono ?_;rintro e W2 ⟨vz2,rfl,hpz,hE⟩;rw[show [x].flatten=x from by simp,hpt] at hpz;have HPZ:=zhd hpz;have hptz:=hpz.pt;obtain ⟨y1,y2,rfl,_,_⟩:=hpz;have hEW:Ext W W2:=Ext.trans (Ext.alloc (Ext.refl _) _) hE;have hb2:Boxed W2 (W0.heap.size+1) 201 (.complex .f64 z1 z2):=hb.kept (row:=none) (Ext.grown hEW none) (by simp);have hy2:Boxed W2 W0.heap.size 282 (.func (.yield l) #[] #[]):=hy.kept (row:=none) (Ext.grown hEW none) (by simp);have cb2:=hb2.cell;have fb2:=hb2.frozen)
  have hb3:Boxed (W2.setCell ⟨W0.heap.size+1,0,none⟩ (.complex .f64 y1 y2)) (W0.heap.size+1) 201 (.complex .f64 y1 y2):=hb2.set _
  have hy3:Boxed (W2.setCell ⟨W0.heap.size+1,0,none⟩ (.complex .f64 y1 y2)) W0.heap.size 282 (.func (.yield l) #[] #[]):=hy2.other (by omega) _
  have cz3:=hb3.cell;have cy3:=hy3.cell
  have hmv:Moves (zab (PcM n0) W0.heap.size) W (W2.setCell ⟨W0.heap.size+1,0,none⟩ (.complex .f64 y1 y2)) :=
   (Moves.refl.below hEW (Nat.le_refl _)).setCell (fun o ho _=>.inl ⟨by show n0≤W0.heap.size+1;omega,by rw[show W.heap[W0.heap.size+1]?=_ from hb] at ho;cases ho;rfl⟩) _
  have k1:Kept (zab (fun k o=>(k=W0.heap.size+1+1∧o.ty=some 38)∨(k=W0.heap.size+1+1+1∧o.ty=some 3)) w2.heap.size) W (W2.setCell ⟨W0.heap.size+1,0,none⟩ (.complex .f64 y1 y2)) :=
   (Kept.refl.below hEW (Nat.le_refl _)).setCell (fun o ho hc=>by
    rintro ((⟨h,_⟩ | ⟨h,_⟩) | ⟨h,_⟩)
    ·have:W0.heap.size+1=W0.heap.size+1+1:=h
     omega
    ·have:W0.heap.size+1=W0.heap.size+1+1+1:=h
     omega
    ·have:w2.heap.size≤W0.heap.size+1:=h
     omega) _
  have hh3:Hold wo (W2.setCell ⟨W0.heap.size+1,0,none⟩ (.complex .f64 y1 y2)):=fun q u hq=>by
   have hlt:=World.block_lt_of_cell? wo q hq
   exact (World.cell?_setCell_other _ _ _ _ (fun e=>by rw[←e] at hlt;have:W0.heap.size+1<wo.heap.size:=hlt;omega)).trans (Ext.cell hEW (hh q u hq))
  have heq:zcc (0,0) (zbk 4 t)=zcc (0,0) pre++(x,zaD (zgA (0,0) pre) x)::zcc (zaD (zgA (0,0) pre) x) post:=by rw[hx,zfO,zcc]
  have hW3s:(W2.setCell ⟨W0.heap.size+1,0,none⟩ (.complex .f64 y1 y2)).heap.size=W2.heap.size:=by simp[World.setCell]
  have fin:∀ W5:World,Ext (W2.setCell ⟨W0.heap.size+1,0,none⟩ (.complex .f64 y1 y2)) W5→∃ R:Ending→World→Prop,Mv.YieldsAt Tryz.prog l #[.slice (some ⟨b',off',none⟩) x.length x.length,.agg ((zbu (zaD (zgA (0,0) pre) x)).map bv).toArray] W5 R∧(∀ e W6,R e W6→Kept (zab (fun k o=>(k=W0.heap.size+1+1∧o.ty=some 38)∨(k=W0.heap.size+1+1+1∧o.ty=some 3)) w2.heap.size) W W6 ∧
    ((e=.returned (.bool true)∧PcI wo W0.heap.size l (0,0) J (pre++[x]) W6)∨(e=.returned (.bool false)∧Jx (zcc (0,0) (pre++[x])) W6))):=by
   intro W5 hE5;have hJ5:=hJ _ _ _ hj (hmv.below hE5 (Nat.le_refl _))
   have hsz5:W0.heap.size≤W5.heap.size:=by have:=hEW.size;have:=hE5.size;omega
   have hh5:Hold wo W5:=fun q u hq=>Ext.cell hE5 (hh3 q u hq)
   have hb5:Boxed W5 (W0.heap.size+1) 201 (.complex .f64 y1 y2):=hb3.kept (row:=none) (Ext.grown hE5 none) (by simp)
   have hy5:Boxed W5 W0.heap.size 282 (.func (.yield l) #[] #[]):=hy3.kept (row:=none) (Ext.grown hE5 none) (by simp)
   have hyy:=hY _ _ _ heq W5 #[.slice (some ⟨b',off',none⟩) x.length x.length,.agg ((zbu (zaD (zgA (0,0) pre) x)).map bv).toArray] hJ5 hsz5 ⟨_,rfl,SlR.keep hu hh5,hx4⟩;have k5:=k1.below hE5 (Nat.le_refl _)
   refine ⟨_,hyy,?_⟩
   rintro e W6 ⟨hk',hjj⟩
   have k2:=k5.trans (hk'.mono (fun k o h=>by
    rcases h with (⟨h,ht⟩ | ⟨h,ht⟩) | ⟨h,ht⟩
    ·exact .inl ⟨zba ht,by omega⟩
    ·exact .inl ⟨zba ht,by omega⟩
    ·exact .inr ⟨by omega,ht⟩))
   refine ⟨k2,?_⟩
   rcases hjj with ⟨rfl,hj4⟩ | ⟨rfl,hj4⟩
   ·refine .inl ⟨rfl,(.complex .f64 y1 y2),by rw[zfO];exact hj4,hk'.boxed hb5 (.inl ⟨rfl,by omega⟩),by rw[zr9];exact HPZ.out,hk'.boxed hy5 (.inl ⟨rfl,by omega⟩),?_,Nat.le_trans hsz5 hk'.size⟩
    intro q u hq;have hlt:=World.block_lt_of_cell? wo q hq;obtain ⟨o,ho,hc⟩:=cells_of_cell (hh5 q u hq)
    exact hk'.cell (hh5 q u hq) (fun o' ho'=>by rw[ho] at ho';cases ho';exact .inl ⟨hc,by omega⟩)
   ·exact .inr ⟨rfl,by rw[zfO];exact hj4⟩
  have Fin:=zhd fin
  have hf:∀ Wx:World,Calls Tryz.prog 248 #[(.complex .f64 y1 y2)] Wx fun e w'=>e=.returned (.agg ((zbu (zaD (zgA (0,0) pre) x)).map bv).toArray)∧Ext Wx w':=by
   intro Wx
   have:=zmy y1 y2 Wx
   unfold zmq at this;rw[hptz] at this
   exact this
  have HF:=zhd hf
  have hE33:Ext (W2.setCell ⟨W0.heap.size+1,0,none⟩ (.complex .f64 y1 y2)) (W2.setCell ⟨W0.heap.size+1,0,none⟩ (.complex .f64 y1 y2)).drew:=Ext.drew (Ext.refl _)
  clear fin hf k1 hmv heq hx hJ hY
  refine zcv (by kernel_rfl) (by kernel_rfl) ?_
  refine tkF 1 rfl rfl rfl ?_
  refine zdm (Read4 (⟨W0.heap.size+1,0,none⟩,.complex .f64 y1 y2) (⟨W0.heap.size+1,0,none⟩,.complex .f64 y1 y2) (⟨W0.heap.size,0,none⟩,.func (.yield l) #[] #[]) (⟨W0.heap.size,0,none⟩,.func (.yield l) #[] #[])) [3,4,5] (i:=2) (v:=?v2) rfl rfl (by kernel_rfl) (by kernel_rfl) (by kernel_rfl) (by kernel_rfl) (by kernel_rfl) (fun _ _ _ h=>h) (fun w o hw=>hw.alloc o) (⟨cz3,cz3,cy3,cy3⟩) (zg3 rfl (fun w hw=>?h2) (fun w=>rfl)) ?r2
  case h2=>obtain ⟨g0,g1,g2,g3⟩:=hw;dsimp only at g0 g1 g2 g3;go_simp;try with_reducible rfl
  refine zqO (i:=0) (j:=3) (vi:=?va3) (f:=248) (args:=?vb3) (wi:=?wa3) (wj:=?wb3) (by kernel_rfl) rfl rfl rfl rfl rfl ?ha3 ?hb3 ?ra3 ?rb3
  case ha3=>go_simp;try (first | with_reducible rfl | (refine ⟨?_,?_⟩ <;> with_reducible rfl))
  case hb3=>go_simp;try (first | with_reducible rfl | (refine ⟨?_,?_⟩ <;> with_reducible rfl))
  case' ra3=>skip
  case' rb3=>skip
  ·refine (HF.out _).mono ?_
   rintro e W5 ⟨rfl,hE5⟩;have hE35:=Ext.trans hE33 hE5;have cy5:=hE35.cell cy3
   refine ⟨_,rfl,?_⟩
   refine zan (i:=0) (v:=?v4) (w':=?w4) rfl (by kernel_rfl) rfl rfl rfl ?h4 ?r4
   case h4=>go_simp;try (first | with_reducible rfl | (refine ⟨?_,?_⟩ <;> with_reducible rfl))
   refine ziR (i:=4) rfl (by kernel_rfl) rfl rfl ?h5 ?r5
   case h5=>first | (intro f hf;exact trivial) | (intro f hf;cases hf)
   case' r5=>go_simp
   obtain ⟨R,hy,hR⟩:=Fin.out W5 hE35
   refine zbf hy ?_
   rintro e W6 hr
   obtain ⟨k2,⟨rfl,hI⟩ | ⟨rfl,hj⟩⟩:=hR _ _ hr
   ·refine ⟨true,rfl,?_⟩
    have K2:=zhd k2;have HI6:=zhd hI;clear k2 hI hr hR hy
    refine zan (i:=5) (v:=?v6) (w':=?w6) rfl (by kernel_rfl) rfl rfl rfl ?h6 ?r6
    case h6=>go_simp;try (first | with_reducible rfl | (refine ⟨?_,?_⟩ <;> with_reducible rfl))
    refine wpAnyIn_done (by kernel_rfl) (zbv ?_) _
    simp only[Act.put,sA,sZ,sS]
    gi_wp2
    exact ⟨K2.out,HI6.out⟩
   ·refine ⟨false,rfl,?_⟩
    have K2:=zhd k2;have HJ6:=zhd hj;clear k2 hj hr hR hy
    refine zan (i:=5) (v:=?v8) (w':=?w8) rfl (by kernel_rfl) rfl rfl rfl ?h8 ?r8
    case h8=>go_simp;try (first | with_reducible rfl | (refine ⟨?_,?_⟩ <;> with_reducible rfl))
    refine wpAnyIn_done (by kernel_rfl) (zbv ?_) _
    simp only[Act.put,sA,sZ,sS]
    gi_wp2
    exact ⟨K2.out,rfl,HJ6.out⟩
  ·skip
   refine zc8 (i:=3) (f:=248) (args:=?b10) (w':=?w10) (by kernel_rfl) rfl rfl ?h10 ?r10
   case h10=>go_simp;try (first | with_reducible rfl | (refine ⟨?_,?_⟩ <;> with_reducible rfl))
   refine (HF.out _).mono ?_
   rintro e W5 ⟨rfl,hE5⟩;have hE35:=Ext.trans hE33 hE5
   refine ⟨_,rfl,?_⟩
   refine ziR (i:=4) rfl (by kernel_rfl) rfl rfl ?h11 ?r11
   case h11=>first | (intro f hf;exact trivial) | (intro f hf;cases hf)
   case' r11=>go_simp
   obtain ⟨R,hy,hR⟩:=Fin.out W5 hE35
   refine zbf hy ?_
   rintro e W6 hr
   obtain ⟨k2,⟨rfl,hI⟩ | ⟨rfl,hj⟩⟩:=hR _ _ hr
   ·refine ⟨true,rfl,?_⟩
    have K2:=zhd k2;have HI6:=zhd hI;clear k2 hI hr hR hy
    refine zan (i:=5) (v:=?v12) (w':=?w12) rfl (by kernel_rfl) rfl rfl rfl ?h12 ?r12
    case h12=>go_simp;try (first | with_reducible rfl | (refine ⟨?_,?_⟩ <;> with_reducible rfl))
    refine wpAnyIn_done (by kernel_rfl) (zbv ?_) _
    simp only[Act.put,sA,sZ,sS]
    gi_wp2
    exact ⟨K2.out,HI6.out⟩
   ·refine ⟨false,rfl,?_⟩
    have K2:=zhd k2;have HJ6:=zhd hj;clear k2 hj hr hR hy
    refine zan (i:=5) (v:=?v14) (w':=?w14) rfl (by kernel_rfl) rfl rfl rfl ?h14 ?r14
    case h14=>go_simp;try (first | with_reducible rfl | (refine ⟨?_,?_⟩ <;> with_reducible rfl))
    refine wpAnyIn_done (by kernel_rfl) (zbv ?_) _
    simp only[Act.put,sA,sZ,sS]
    gi_wp2
    exact ⟨K2.out,rfl,HJ6.out⟩
 case done =>
  rintro D W hD ⟨zv,hj,hb,hp,hy,hh,hs⟩ hK
  have hmD:Moves (zab (PcM n0) W0.heap.size) W (W.putObj D (.deferred none)):=Moves.refl.putObj (fun o ho=>.inr ⟨by omega,by rw[hK] at ho;cases ho;rfl⟩) _
  have HJ:=zhd (hJ _ _ _ hj hmD);clear hj
  gi_wp2
  refine zjQ hK _ (results_none rfl _ _ _) ?_
  exact ⟨⟨_,rfl⟩,.inl HJ.out⟩
 case stop =>
  rintro D cd pre W hD hpre ⟨rfl,hj⟩ hK
  have hmD:Moves (zab (PcM n0) W0.heap.size) W (W.putObj D (.deferred none)):=Moves.refl.putObj (fun o ho=>.inr ⟨by omega,by rw[hK] at ho;cases ho;rfl⟩) _
  have HJ:=zhd (hJx _ _ _ hj hmD)
  have hp2:zcc (0,0) pre <+: zcc (0,0) (zbk 4 t):=by
   obtain ⟨r,hr⟩:=hpre
   rw[←hr,zfO];exact ⟨_,rfl⟩
  have Hp2:=zhd hp2;clear hj hp2
  gi_wp2
  refine zbg hK _ (results_none rfl _ _ _) ?_
  exact ⟨⟨_,rfl⟩,.inr ⟨_,Hp2.out,HJ.out⟩⟩
attribute [local go_sem] Oper.semAt_some
theorem zkO {W:World} {va vb vc:Value} {a b c:List UInt8} (ha:Bs W va a) (hb:Bs W vb b) (hc:Bs W vc c):Parts (W.alloc (.cells #[va,vb,vc] 38)) (.slice (some ⟨W.heap.size,0,none⟩) 3 3) [a,b,c]:=by
 refine ⟨[va,vb,vc],rfl,SlR.of_own (zbj W [va,vb,vc] 38 3 rfl (by simp[maxLen]) (Nat.le_refl _)),fun i hi hi'=>?_⟩
 match i,hi with
 | 0,_=>exact Bs.ext ha (Ext.alloc (Ext.refl _) _)
 | 1,_=>exact Bs.ext hb (Ext.alloc (Ext.refl _) _)
 | 2,_=>exact Bs.ext hc (Ext.alloc (Ext.refl _) _)
theorem zoP (A:Option Addr) (n c:Nat) (w:World):Calls Tryz.prog 235 #[.slice A n c] w fun e w'=>e=.returned (.func (.func 246) #[] #[.pointer (some ⟨w.heap.size,0,none⟩)])∧w.alloc (.cells #[.slice A n c] 38)=w':=by
 go_enter Tryz.func235,Tryz.ntmps235
 go_wp2
 go_ret
 exact ⟨rfl,rfl⟩
def PsI (w:World) (pre:List (List UInt8×(Nat×Nat))) (X:World):Prop:=∃ v,Boxed X w.heap.size 38 v∧X.ownsRow w.heap.size 5 1 v (pre.flatMap zdK).length ((pre.flatMap zdK).map bv)∧Below w.heap.size w X
theorem zpr (v:Value) (t:List UInt8) (w:World) (ht:Bs w v t) (hlen:t.length≤100000):Calls Tryz.prog 204 #[v] w (zkk w (zb7 (0,0) t)):=by
 obtain ⟨A,c,rfl,h1,h2⟩:=SlR.open_ ht
 refine (callsIn_wd (ro:=none) (n:=9)).1 ?_
 refine callsIn_of_wp_marks Tryz.func204 rfl trivial ?_ rfl
 simp only[Tryz.ntmps204,List.size_toArray,List.length_cons,List.length_nil,Nat.reduceAdd,Nat.reduceSub,Array.replicate_succ,Array.replicate_zero,List.push_toArray,List.append_toArray,List.nil_append,List.cons_append];have hfl:=zoC (0,0) t;have htot:=zjr (0,0) t
 gi_wp2_with (refine ⟨trivial,?_⟩;gi_at_call 235;refine (callsIn_wd.2 (zoP _ _ _ _)).mono ?_;rintro e w' ⟨rfl,rfl⟩)
 have qb:Boxed ((w.alloc (.cells #[.slice none 0 0] 38)).alloc (.cells #[.slice A t.length c] 38)) w.heap.size 38 (.slice none 0 0):=(Boxed.new w _ _).alloc _
 have qt:Boxed ((w.alloc (.cells #[.slice none 0 0] 38)).alloc (.cells #[.slice A t.length c] 38)) (w.heap.size+1) 38 (.slice A t.length c):=by
  have:=Boxed.new (w.alloc (.cells #[.slice none 0 0] 38)) 38 (.slice A t.length c)
  rwa [World.size_alloc] at this
 have hE2:Ext w ((w.alloc (.cells #[.slice none 0 0] 38)).alloc (.cells #[.slice A t.length c] 38)):=Ext.alloc (Ext.alloc (Ext.refl _) _) _
 have hs2:((w.alloc (.cells #[.slice none 0 0] 38)).alloc (.cells #[.slice A t.length c] 38)).heap.size=w.heap.size+2:=by simp
 have h0:PsI w [] ((w.alloc (.cells #[.slice none 0 0] 38)).alloc (.cells #[.slice A t.length c] 38)):=⟨_,qb,World.ownsRow_nil _ _ _ _,hE2⟩
 generalize (w.alloc (.cells #[.slice none 0 0] 38)).alloc (.cells #[.slice A t.length c] 38)=w2 at *
 refine zbO (a:=⟨_,_⟩) rfl (enters_of Tryz.func246 (by kernel_rfl) rfl)
  (fun W1 hb hs=>zoD w W1 _ t ht (by omega) (fun q u hc=>Ext.cell (Ext.trans hE2 hb) hc) (w.heap.size+1) w.heap.size w2.heap.size (qt.kept (row:=none) (Ext.grown hb none) (by simp)) hb.size (by omega) (Nat.le_refl _) (by have:=hb.size;omega))
  (fun k o h=>zba h.2) (fun k o h=>h.1) (fun x av W h=>by obtain ⟨u,rfl,_⟩:=h;rfl)
  (PsI w) (fun _ _ _=>False) ?hI (fun _ _ _ _ h _=>h) h0
  (fun x a' W=>∃ u q,Bs W u x.1∧x.1.length≤4∧Bs W (.slice (some ⟨q,0,none⟩) 4 4) (zbu x.2)∧a'=⟨#[.slice A t.length c,undef,.pointer (some ⟨w.heap.size,0,none⟩),u,.pointer (some ⟨q,0,none⟩),.slice A t.length c,.func (.func 246) #[] #[.pointer (some ⟨w.heap.size+1,0,none⟩)],u,.agg ((zbu x.2).map bv).toArray,undef,undef,undef,undef,undef,undef],[]⟩)
  ?hAx ?assign ?body ?done ?stop
 case hI =>
  rintro s X Y ⟨v1,hv,hr,hB⟩ hm
  refine ⟨v1,hm.boxed hv ?_,hm.ownsRow hr ?_,hm.belowOf hB ?_ (Nat.le_refl _)⟩
  ·rintro (h | h)
   ·cases h.2
   ·cases h.2
  ·rintro k cur _ (h | h)
   ·cases h.2
   ·cases h.2
  ·rintro k o hk (h | h)
   ·have:=h.1;omega
   ·have:=h.1;omega
 case hAx =>
  rintro x a' X Y ⟨u,q,hu,hx4,hq,rfl⟩ hm
  refine ⟨u,q,SlR.keep hu (fun q t hq=>hm.cell hq (fun o ho hc=>?_)),hx4,SlR.keep hq (fun q t hq=>hm.cell hq (fun o ho hc=>?_)),rfl⟩
  all_goals
   rintro (h | h)
   ·exact h
   ·rw[hc] at h;cases h.2
 case assign =>
  rintro l pre x post W av K' hx hi hsz ⟨u,rfl,hu,hx4⟩ hK;obtain ⟨f0,f1,f2,f3,hf⟩:=zrC x.2;rw[hf];have Hx:=zhd hx;have Hf:=zhd hf;clear hx hf;simp only[List.map_cons,List.map_nil,bv];obtain ⟨v1,hv,hr,hB⟩:=hi
  have Hi:Hid (PsI w pre (W.alloc (.cells #[.int .u8 (f0.toNat:Int),.int .u8 (f1.toNat:Int),.int .u8 (f2.toNat:Int),.int .u8 (f3.toNat:Int)] 140))):=⟨v1,hv.alloc _,hr.alloc _,Below.alloc hB hB.size _⟩
  have hbn:Bs (W.alloc (.cells #[.int .u8 (f0.toNat:Int),.int .u8 (f1.toNat:Int),.int .u8 (f2.toNat:Int),.int .u8 (f3.toNat:Int)] 140)) (.slice (some ⟨W.heap.size,0,none⟩) 4 4) (zbu x.2):=by
   rw[Hf.out]
   exact zdC (cs:=[f0,f1,f2,f3].map bv) (Blk.new W _ _) rfl (by simp[maxLen])
  have HBN:=zhd hbn
  have HU:Hid (Bs (W.alloc (.cells #[.int .u8 (f0.toNat:Int),.int .u8 (f1.toNat:Int),.int .u8 (f2.toNat:Int),.int .u8 (f3.toNat:Int)] 140)) u x.1):=Bs.ext hu (Ext.alloc (Ext.refl _) _)
  clear hbn hu hv hr hB
  gi_wp2
  exact hK _ _ (Kept.refl.alloc _) Hi.out ⟨u,W.heap.size,HU.out,hx4,HBN.out,by rw[Hf.out];rfl⟩
 case body =>
  rintro l pre x post a' W hx hl hr ⟨v1,hv,hrow,hB⟩ hsz ⟨u,q,hu,hx4,hq,rfl⟩
  have hpl:(pre.flatMap zdK).length+(x.1.length+4)≤40000000:=by
   have:=congrArg (fun l=>(List.flatMap zdK l).length) hx
   simp only[hfl,List.flatMap_append,List.flatMap_cons,List.length_append,zdK,zfo] at this;omega
  have hfl2:(pre++[x]).flatMap zdK=pre.flatMap zdK++(x.1++zbu x.2):=by simp[zdK]
  have Hfl:=zhd hfl2;clear hfl2 hx hfl htot
  generalize pre.flatMap zdK=Q at *
  obtain ⟨A1,cc1,rfl,_,_⟩:=SlR.open_ (SlR.of_own hrow);have hu0:=hu;obtain ⟨A2,cc2,rfl,_,_⟩:=SlR.open_ hu;have hc:=hv.cell
  have hv':Boxed W.drew w.heap.size 38 (.slice A1 Q.length cc1):=hv
  have hp3:Parts (W.drew.alloc (.cells #[.slice A1 Q.length cc1,.slice A2 x.1.length cc2,.slice (some ⟨q,0,none⟩) 4 4] 38)) (.slice (some ⟨W.heap.size,0,none⟩) 3 3) [Q,x.1,zbu x.2]:=zkO (W:=W.drew) (Bs.ext (SlR.of_own hrow:Bs W (.slice A1 Q.length cc1) Q) (Ext.drew (Ext.refl _))) (Bs.ext hu0 (Ext.drew (Ext.refl _))) (Bs.ext hq (Ext.drew (Ext.refl _)))
  have hfl3:[Q,x.1,zbu x.2].flatten=Q++(x.1++zbu x.2):=by simp
  have Hp3:=zhd hp3;have Hfl3:=zhd hfl3
  have hfl4:(zbu x.2).length=4:=zfo _
  have hB':=zhd hB;clear hp3 hfl3 hu hu0 hq hrow hB
  gi_wp2
  refine zcv (by kernel_rfl) (by kernel_rfl) ?_
  refine tkF 1 rfl rfl rfl ?_;refine tkF 2 rfl rfl rfl ?_
  refine zan (i:=0) (v:=?v3) (w':=?w3) rfl (by kernel_rfl) rfl rfl rfl ?h3 ?r3
  case h3=>go_simp;try (first | with_reducible rfl | (refine ⟨?_,?_⟩ <;> with_reducible rfl))
  refine zan (i:=3) (v:=?v4) (w':=?w4) rfl (by kernel_rfl) rfl rfl rfl ?h4 ?r4
  case h4=>go_simp;try (first | with_reducible rfl | (refine ⟨?_,?_⟩ <;> with_reducible rfl))
  refine zc8 (i:=4) (f:=195) (args:=?b5) (w':=?w5) (by kernel_rfl) rfl rfl ?h5 ?r5
  case h5=>go_simp;try (first | with_reducible rfl | (refine ⟨?_,?_⟩ <;> with_reducible rfl))
  have hcat:=zeu _ _ _ Hp3.out (by rw[Hfl3.out,List.length_append,List.length_append,hfl4];omega);rw[Hfl3.out] at hcat
  refine hcat.mono ?_
  rintro e w1 ⟨v',rfl,ho1,hE1⟩;obtain ⟨A3,cc3,rfl,_,_⟩:=SlR.open_ (SlR.of_own ho1)
  have hEW:Ext W w1:=Ext.trans (Ext.alloc (Ext.drew (Ext.refl _)) _) hE1
  have hv1:Boxed w1 w.heap.size 38 (.slice A1 Q.length cc1):=hv.kept (row:=none) (Ext.grown hEW none) (by simp)
  have cv1:=hv1.cell;have fv1:=hv1.frozen
  refine ⟨_,rfl,?_⟩
  clear hcat
  refine zbR (i:=5) (w':=?w6) rfl (by kernel_rfl) rfl rfl rfl ?h6 ?r6
  case h6=>go_simp;try (first | with_reducible rfl | (refine ⟨?_,?_⟩ <;> with_reducible rfl))
  refine wpAnyIn_done (by kernel_rfl) (zbv ?_) _
  simp only[Act.put,sA,sZ,sS]
  gi_wp2
  have hll:(Q++(x.1++zbu x.2)).length=Q.length+(x.1.length+4):=by rw[List.length_append,List.length_append,hfl4]
  have ho1':w1.ownsRow w.heap.size 5 1 (.slice A3 (Q.length+(x.1.length+4)) cc3) (Q++(x.1++zbu x.2)).length ((Q++(x.1++zbu x.2)).map bv):=by
   have h:=zaj ho1 (base':=w.heap.size) (by have:=hB'.out.size;simp;omega)
   rw[hll] at h ⊢
   exact h
  refine ⟨(Kept.refl.below hEW (Nat.le_refl _)).setCell (fun o ho _=>?_) _,_,hv1.set _,?_,?_⟩
  ·rintro (⟨_,h⟩ | ⟨h,_⟩)
   ·exact h rfl
   ·have:w2.heap.size≤w.heap.size:=h
    omega
  ·rw[Hfl.out]
   exact ho1'.kept (grownBy_setCell' w1 w.heap.size (.slice A3 (Q.length+(x.1.length+4)) cc3)) (.inr (hv1.not_row (by decide) ho1').symm)
  ·exact (Below.trans hB'.out (hEW.mono hB'.out.size)).setCell (p:=⟨w.heap.size,0,none⟩) (Nat.le_refl _) _
 case done =>
  rintro D W hD ⟨v1,hv,hrow,hB⟩ hK;rw[hfl] at hrow;obtain ⟨q,hq⟩:∃ q,zb7 (0,0) t=q:=⟨_,rfl⟩;rw[hq] at hrow;have Hq:=zhd hq;clear hfl hq htot;obtain ⟨A1,cc1,rfl,_,_⟩:=SlR.open_ (SlR.of_own hrow);have hc:=hv.cell;have hf:=hv.frozen
  gi_wp2
  have hrow2:=hrow.kept (grownBy_setCell' W w.heap.size (.slice A1 q.length cc1)) (.inr (hv.not_row (by decide) hrow).symm);have hv2:=hv.set (.slice A1 q.length cc1);have hK2:=zaC hK rfl ⟨w.heap.size,0,none⟩ (.slice A1 q.length cc1);have hcd:=zci hv2.cell hK2 rfl (.deferred none)
  refine zbg hK2 (.slice A1 q.length cc1) (by simp[results,Tryz.results204,go_sem,hcd]) ⟨_,rfl,by rw[Hq.out];exact ownsRow_putObj hrow2 (.deferred none) hK2 rfl,?_⟩
  exact zar (hB.setCell (p:=⟨w.heap.size,0,none⟩) (Nat.le_refl _) _) (by omega) _
 case stop =>
  rintro D c pre W _ _ h _
  exact h.elim
end Go.Proofs.YtgonhdeochgkoaaGreatDoor

namespace Go.Mv
open Go.RowKit
theorem mcTexta0 {P:Prop} (h:P:=by
 simp only[ze5] at hp
 refine (zeu _ [[1],zbc [s.idx,s.term,s.sum],[xl,xf]] _ hp (by rw[Hfl.out];omega)).mono ?_
 rintro e w6 ⟨vc,rfl,hoc,hE6⟩;rw[Hfe.out] at hoc
 try (go_wp2_with fail)
 have hE06:=Ext.trans (Ext.alloc hEW (.cells #[.slice (some ⟨_,0,none⟩) 1 1,.slice Av (zbc [s.idx,s.term,s.sum]).length cv,.slice (some ⟨_,0,none⟩) 2 2] 38)) hE6
 refine shK hK _ _ (zac (hb.ext hE06)) (fun _=>?_)
 refine ar1 11 rfl (fun K hK=>?_)
 go_simp
 refine (zfH _ _ _ (SlR.of_own hoc) (by rw[Hfm.out];omega) (by rw[Hfm.out];omega) (HT.out.ext (Ext.trans hX hE06))).mono ?_
 rintro e w7 ⟨A7,c7,rfl,ho7,hE7⟩
 try (go_wp2_with fail)
 have hE07:=Ext.trans hE06 hE7
 refine shK hK _ _ (zac (hb.ext hE07)) (fun _=>?_)
 refine tkN 12 rfl ?_;refine wpAnyH_done (by kernel_rfl) ?_ _;go_wp2_with fail;go_ret
 have hfin:OwnB w7 w.heap.size (.slice A7 (zaK rT (1::(zbc [s.idx,s.term,s.sum]++[xl,xf]))).length c7) (zaK rT (1::(zbc [s.idx,s.term,s.sum]++[xl,xf]))):=zaj ho7 (Ext.trans hX hE06).size
 rw[Hps.out]
 exact ⟨A7,c7,rfl,hfin,Ext.trans hX hE07⟩):P:=h
section
variable {P:Program} {ops:Array Oper} {Q:Exit→Act→World→Prop} {md:Region.Mode} {S:World→Prop}
theorem AllReadyH.two {fuel:Nat} {listed:Array Bool} {a:Act} {w:World} {i j:Nat} {o o2:Oper} (ho:ops.toList[i]?=some o) (ho2:ops.toList[j]?=some o2) (hr:Region.ready md ops listed=[i,j]) (hw:Region.wanted o (yielded ops a.tmps)=true) (hw2:Region.wanted o2 (yielded ops a.tmps)=true)
  (h:∀ K':Act→World→Prop,Shut (∀ a w,S w→(S w→wpAnyH P md ops Q S fuel (listed.setIfInBounds i true) a w)→K' a w)→Oper.wp P o a w K' Q)
  (h2:∀ K':Act→World→Prop,Shut (∀ a w,S w→(S w→wpAnyH P md ops Q S fuel (listed.setIfInBounds j true) a w)→K' a w)→Oper.wp P o2 a w K' Q):wpAnyH P md ops Q S (fuel+1) listed a w :=
 wpAnyH_ready hr (by simp) (AllReadyH.cons (by simpa using ho) (fun K hK=>by rw[if_pos hw];exact h K hK) (AllReadyH.cons (by simpa using ho2) (fun K hK=>by rw[if_pos hw2];exact h2 K hK) AllReadyH.nil))
end
end Go.Mv
namespace Go.Proofs.YtgonhdeochgkoaaGreatDoor
open Go.RowKit Go.Mv
theorem ze5 (w:World) (o:Obj):(w.alloc o).heap.size=w.heap.size+1:=by
 show (w.heap.push o).size=_
 simp
theorem is5 (W:World) (a b c d e:Int):Is (W.alloc (.cells #[.int .i64 a,.int .i64 b,.int .i64 c,.int .i64 d,.int .i64 e] 3)) (.slice (some ⟨W.heap.size,0,none⟩) 5 5) [a,b,c,d,e] :=
 SlR.of_own (zbj W [.int .i64 a,.int .i64 b,.int .i64 c,.int .i64 d,.int .i64 e] 3 5 rfl (by simp[maxLen]) (Nat.le_refl _))
theorem zuC (s:Sta) (w:World) (h:s.ok=true):Calls Tryz.prog 203 #[.agg #[.int .i64 s.idx,.int .i64 s.term,.int .i64 s.sum,.int .i64 s.lvl,.bool s.fin]] w (ziW w s.ints):=by
 have H:=zhd h;have Hn:=zhd (Sta.nums h)
 have Hi:Hid (s.ints=[s.idx,s.term,s.sum,s.lvl,s.finI]):=rfl
 clear h;have hb:=Blk.new w 53 #[.int .i64 s.idx,.int .i64 s.term,.int .i64 s.sum,.int .i64 s.lvl,.bool s.fin]
 go_enter Tryz.func203,Tryz.ntmps203
 go_wp2_with fail
 refine (zcX s _).mono ?_
 rw[H.out];rintro e w1 ⟨rfl,hE1⟩;go_wp2_with fail
 have hX:Ext w (w.alloc (.cells #[.int .i64 s.idx,.int .i64 s.term,.int .i64 s.sum,.int .i64 s.lvl,.bool s.fin] 53)):=Ext.alloc (Ext.refl _) _
 refine wp_region_held_drew (S:=fun w'=>w'.cell? ⟨w.heap.size,0,none⟩=some (.int .i64 s.idx)∧w'.cell? ⟨w.heap.size,1,none⟩=some (.int .i64 s.term)∧w'.cell? ⟨w.heap.size,2,none⟩=some (.int .i64 s.sum)∧w'.cell? ⟨w.heap.size,3,none⟩=some (.int .i64 s.lvl)∧w'.cell? ⟨w.heap.size,4,none⟩=some (.bool s.fin)) (by kernel_rfl) (zac (hb.ext (Ext.drew hE1))) (fun _=>?_)
 refine tkN 0 rfl ?_;refine tkN 1 rfl ?_;refine tkN 2 rfl ?_;refine tkN 3 rfl ?_;refine tkN 4 rfl ?_;refine tkN 5 rfl ?_;refine tkN 6 rfl ?_;refine tkN 7 rfl ?_;refine tkN 8 rfl ?_
 refine ar1 9 rfl (fun K hK=>?_)
 go_simp
 refine (zir s _).mono ?_
 rintro e w2 ⟨rfl,hE2⟩
 have hE02:Ext (w.alloc (.cells #[.int .i64 s.idx,.int .i64 s.term,.int .i64 s.sum,.int .i64 s.lvl,.bool s.fin] 53)) w2:=Ext.trans (Ext.drew hE1) hE2
 try (go_wp2_with fail)
 refine shK hK _ _ (zac (hb.ext hE02)) (fun _=>?_)
 refine ar1 10 rfl (fun K hK=>?_)
 go_simp
 refine shK hK _ _ (zac (hb.ext (Ext.alloc hE02 _))) (fun _=>?_)
 refine ar1 11 rfl (fun K hK=>?_)
 go_simp
 refine (zmE _ _ _ (is5 w2 s.idx s.term s.sum s.lvl s.finI) (by rw[←Hi.out];exact Hn.out) (by simp)).mono ?_
 rw[←Hi.out];rintro e w4 ⟨v,rfl,ho,hE4⟩
 try (go_wp2_with fail)
 have hE04:=Ext.trans (Ext.alloc hE02 (.cells #[.int .i64 s.idx,.int .i64 s.term,.int .i64 s.sum,.int .i64 s.lvl,.int .i64 s.finI] 3)) hE4
 refine shK hK _ _ (zac (hb.ext hE04)) (fun _=>?_)
 refine tkN 12 rfl ?_;refine tkN 13 rfl ?_;refine tkN 14 rfl ?_;refine tkN 15 rfl ?_;refine wpAnyH_done (by kernel_rfl) ?_ _;go_wp2_with fail
 go_ret2
 exact ⟨v,rfl,zaj ho (Ext.trans hX (Ext.alloc hE02 _)).size,Ext.trans hX hE04⟩
theorem zwl (W:World) (a b c:Int):Is (W.alloc (.cells #[.int .i64 a,.int .i64 b,.int .i64 c] 3)) (.slice (some ⟨W.heap.size,0,none⟩) 3 3) [a,b,c] :=
 SlR.of_own (zbj W [.int .i64 a,.int .i64 b,.int .i64 c] 3 3 rfl (by simp[maxLen]) (Nat.le_refl _))
def zj6 (s:Sta):List UInt8:=zaK rT (1::(zbc [s.idx,s.term,s.sum]++[UInt8.ofNat s.lvl.toNat,UInt8.ofNat s.finI.toNat]))
theorem ztj (W:World) (a:UInt8) (n:Nat) (h:n=a.toNat):Bs (W.alloc (.cells #[.int .u8 n] 5)) (.slice (some ⟨W.heap.size,0,none⟩) 1 1) [a]:=by
 subst h
 exact SlR.of_own (zbj W [bv a] 5 1 rfl (by simp[maxLen]) (Nat.le_refl _))
theorem bs2 (W:World) (a b:UInt8):Bs (W.alloc (.cells #[bv a,bv b] 5)) (.slice (some ⟨W.heap.size,0,none⟩) 2 2) [a,b] :=
 SlR.of_own (zbj W [bv a,bv b] 5 2 rfl (by simp[maxLen]) (Nat.le_refl _))
theorem zsb (s:Sta) (w:World) (h:s.ok=true) (hT:TabW rT w):Calls Tryz.prog 199 #[.agg #[.int .i64 s.idx,.int .i64 s.term,.int .i64 s.sum,.int .i64 s.lvl,.bool s.fin]] w fun e w'=>∃ A c,e=.returned (.slice A (zj6 s).length c)∧OwnB w' w.heap.size (.slice A (zj6 s).length c) (zj6 s)∧Ext w w':=by
 have HT:=zhd hT
 have Hn:Hid (zaA [s.idx,s.term,s.sum]=true):=by
  obtain ⟨h1,h2,h3,_⟩:=Sta.okP h
  exact by simp[Hid,zaA,h1,h2,h3]
 obtain ⟨xl,hxl⟩:∃ x,UInt8.ofNat s.lvl.toNat=x:=⟨_,rfl⟩;obtain ⟨xf,hxf⟩:∃ x,UInt8.ofNat s.finI.toNat=x:=⟨_,rfl⟩
 have hwl:IntKind.u8.wrap s.lvl=(xl.toNat:Int):=by subst hxl;rcases (Sta.okP h).2.2.2 with e | e <;> rw[e] <;> rfl
 have hwf:IntKind.u8.wrap s.finI=(xf.toNat:Int):=by subst hxf;rcases s.finP with e | e <;> rw[e] <;> rfl
 have Hps:Hid (zj6 s=zaK rT (1::(zbc [s.idx,s.term,s.sum]++[xl,xf]))):=by subst hxl;subst hxf;rfl
 have Hfe:Hid (([[1],zbc [s.idx,s.term,s.sum],[xl,xf]]:List (List UInt8)).flatten=1::(zbc [s.idx,s.term,s.sum]++[xl,xf])):=by simp[Hid]
 have Hfm:Hid ((1::(zbc [s.idx,s.term,s.sum]++[xl,xf])).length=18):=by simp[Hid,zlK]
 have Hfl:Hid (([[1],zbc [s.idx,s.term,s.sum],[xl,xf]]:List (List UInt8)).flatten.length=18):=by rw[Hid,Hfe.out];exact Hfm.out
 clear h hT hxl hxf;have hb:=Blk.new w 53 #[.int .i64 s.idx,.int .i64 s.term,.int .i64 s.sum,.int .i64 s.lvl,.bool s.fin]
 have hX:Ext w (w.alloc (.cells #[.int .i64 s.idx,.int .i64 s.term,.int .i64 s.sum,.int .i64 s.lvl,.bool s.fin] 53)):=Ext.alloc (Ext.refl _) _
 obtain ⟨g0,g1,g2,g3,g4⟩:=zac hb
 go_enter Tryz.func199,Tryz.ntmps199
 go_wp2_with fail;have hi3:=zwl (w.alloc (.cells #[.int .i64 s.idx,.int .i64 s.term,.int .i64 s.sum,.int .i64 s.lvl,.bool s.fin] 53)) s.idx s.term s.sum;rw[ze5] at hi3
 refine (zuv _ _ _ hi3 Hn.out (by simp)).mono ?_
 rintro e w1 ⟨v,rfl,ho,hE1⟩;obtain ⟨Av,cv,rfl,-,-⟩:=SlR.open_ (SlR.of_own ho);go_wp2_with fail
 have hE01:Ext (w.alloc (.cells #[.int .i64 s.idx,.int .i64 s.term,.int .i64 s.sum,.int .i64 s.lvl,.bool s.fin] 53)) w1:=Ext.trans (Ext.alloc (Ext.refl _) _) hE1
 clear g0 g1 g2 g3 g4
 refine wp_region_held_drew (S:=fun w'=>w'.cell? ⟨w.heap.size,0,none⟩=some (.int .i64 s.idx)∧w'.cell? ⟨w.heap.size,1,none⟩=some (.int .i64 s.term)∧w'.cell? ⟨w.heap.size,2,none⟩=some (.int .i64 s.sum)∧w'.cell? ⟨w.heap.size,3,none⟩=some (.int .i64 s.lvl)∧w'.cell? ⟨w.heap.size,4,none⟩=some (.bool s.fin)) (by kernel_rfl) (zac (hb.ext (Ext.drew hE01))) (fun _=>?_)
 refine tkN 1 rfl ?_;refine tkN 2 rfl ?_;refine tkN 3 rfl ?_;refine tkN 4 rfl ?_;refine tkN 5 rfl ?_
 refine AllReadyH.two (i:=0) (j:=6) rfl rfl (by kernel_rfl) (by rfl) (by rfl) (fun K hK=>?_) (fun K hK=>?_)
 ·go_simp
  refine shK hK _ _ (zac (hb.ext (Ext.drew (Ext.alloc hE01 _)))) (fun _=>?_)
  refine ar1 6 rfl (fun K hK=>?_)
  go_simp
  refine (zir s _).mono ?_
  rintro e w2 ⟨rfl,hE2⟩
  try (go_wp2_with fail)
  have hE12:Ext (w1.alloc (.cells #[.int .u8 1] 5)) w2:=Ext.trans (Ext.drew (Ext.refl _)) hE2
  refine shK hK _ _ (zac (hb.ext (Ext.trans (Ext.alloc hE01 _) hE12))) (fun _=>?_)
  refine tkN 7 rfl ?_;have hq16:=Bs.ext (ztj w1 1 1 rfl) hE12;have hE13:=Ext.trans (Ext.alloc (Ext.refl w1) (.cells #[.int .u8 1] 5)) hE12
  refine ar1 8 rfl (fun K hK=>?_)
  go_simp
  refine shK hK _ _ (zac (hb.ext (Ext.alloc (Ext.trans hE01 hE13) _))) (fun _=>?_)
  have hq24:=bs2 w2 xl xf;have hq16':=Bs.ext hq16 (Ext.alloc (Ext.refl _) (.cells #[bv xl,bv xf] 5));have hE14:=Ext.alloc hE13 (.cells #[bv xl,bv xf] 5)
  have hvv:Bs (w2.alloc (.cells #[bv xl,bv xf] 5)) (.slice Av (zbc [s.idx,s.term,s.sum]).length cv) (zbc [s.idx,s.term,s.sum]):=Bs.ext (SlR.of_own ho) hE14
  have hEW:=Ext.trans hE01 hE14
  refine ar1 9 rfl (fun K hK=>?_)
  go_simp
  refine shK hK _ _ (zac (hb.ext (Ext.alloc hEW _))) (fun _=>?_)
  refine ar1 10 rfl (fun K hK=>?_)
  go_simp
  have hp:=zkO hq16' hvv hq24
  exact mcTexta0
 ·go_simp
  refine (zir s _).mono ?_
  rintro e w2 ⟨rfl,hE2⟩
  try (go_wp2_with fail)
  have hE12:Ext w1 w2:=Ext.trans (Ext.drew (Ext.refl _)) hE2
  refine shK hK _ _ (zac (hb.ext (Ext.trans hE01 hE12))) (fun _=>?_)
  refine tkN 7 rfl ?_
  refine AllReadyH.two (i:=0) (j:=8) rfl rfl (by kernel_rfl) (by rfl) (by rfl) (fun K hK=>?_) (fun K hK=>?_)
  ·go_simp
   refine shK hK _ _ (zac (hb.ext (Ext.alloc (Ext.trans hE01 hE12) _))) (fun _=>?_)
   have hq16:=ztj w2 1 1 rfl
   refine ar1 8 rfl (fun K hK=>?_)
   go_simp
   have hE13:=Ext.alloc hE12 (.cells #[.int .u8 1] 5)
   refine shK hK _ _ (zac (hb.ext (Ext.alloc (Ext.trans hE01 hE13) _))) (fun _=>?_)
   have hq24:=bs2 (w2.alloc (.cells #[.int .u8 1] 5)) xl xf;rw[ze5] at hq24;have hq16':=Bs.ext hq16 (Ext.alloc (Ext.refl _) (.cells #[bv xl,bv xf] 5));have hE14:=Ext.alloc hE13 (.cells #[bv xl,bv xf] 5)
   have hvv:Bs ((w2.alloc (.cells #[.int .u8 1] 5)).alloc (.cells #[bv xl,bv xf] 5)) (.slice Av (zbc [s.idx,s.term,s.sum]).length cv) (zbc [s.idx,s.term,s.sum]):=Bs.ext (SlR.of_own ho) hE14
   have hEW:=Ext.trans hE01 hE14
   refine ar1 9 rfl (fun K hK=>?_)
   go_simp
   refine shK hK _ _ (zac (hb.ext (Ext.alloc hEW _))) (fun _=>?_)
   refine ar1 10 rfl (fun K hK=>?_)
   go_simp
   have hp:=zkO hq16' hvv hq24
   exact mcTexta0
  ·go_simp
   refine shK hK _ _ (zac (hb.ext (Ext.alloc (Ext.trans hE01 hE12) _))) (fun _=>?_)
   have hq24:=bs2 w2 xl xf
   refine ar1 0 rfl (fun K hK=>?_)
   go_simp
   have hE13:=Ext.alloc hE12 (.cells #[bv xl,bv xf] 5)
   refine shK hK _ _ (zac (hb.ext (Ext.alloc (Ext.trans hE01 hE13) _))) (fun _=>?_)
   have hq16:=ztj (w2.alloc (.cells #[bv xl,bv xf] 5)) 1 1 rfl;rw[ze5] at hq16;have hq24':=Bs.ext hq24 (Ext.alloc (Ext.refl _) (.cells #[.int .u8 1] 5));have hE14:=Ext.alloc hE13 (.cells #[.int .u8 1] 5)
   have hvv:Bs ((w2.alloc (.cells #[bv xl,bv xf] 5)).alloc (.cells #[.int .u8 1] 5)) (.slice Av (zbc [s.idx,s.term,s.sum]).length cv) (zbc [s.idx,s.term,s.sum]):=Bs.ext (SlR.of_own ho) hE14
   have hEW:=Ext.trans hE01 hE14
   refine ar1 9 rfl (fun K hK=>?_)
   go_simp
   refine shK hK _ _ (zac (hb.ext (Ext.alloc hEW _))) (fun _=>?_)
   refine ar1 10 rfl (fun K hK=>?_)
   go_simp
   have hp:=zkO hq16 hvv hq24'
   exact mcTexta0
end Go.Proofs.YtgonhdeochgkoaaGreatDoor
