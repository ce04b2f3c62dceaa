/- Merged -/
import Derived.Test.YteggfecbjgbndaaGreatDoorZw23
set_option linter.all false
set_option maxHeartbeats 8000000
set_option maxRecDepth 100000
open Go.Value renaming int→B,slice→E
open Go.IntKind renaming u8→C
open Go.Obj renaming cells→D
namespace Go.Proofs.YteggfecbjgbndaaGreatDoor
open Go.RowKit Go.Mv
variable {T:Tab}
theorem zl0 (v:Value) (bs:List UInt8) (w:World) (h:Bs w v bs) (hl:4≤bs.length) (Hh:bs.length≤100000) (hT:TabW T w):Calls Tryz.prog 78 #[v] w fun e w' =>
  (match za6 T bs with
  | some p=>∃ A c,e=.returned (.tuple #[E A p.length c,.bool true])∧OwnB w' w.heap.size (E A p.length c) p
  | none=>e=.returned (.tuple #[E none 0 0,.bool false]))∧Ext w w':=by
 obtain ⟨A,c,rfl,h1,h2⟩:=xO h;obtain ⟨_,b,Hj,rfl,hc⟩:=Bs.at_ h (by omega);obtain ⟨n,hn⟩:∃ n,bs.length-4=n:=⟨_,rfl⟩
 have Hd:bs.length=n+4:=by omega
 have H2:=Bs.take h n (by omega);have H0:=Bs.cut h n (by omega) rfl
 rw[show bs.length-n=4 from by omega] at H0
 have Hm:n≤100000:=by omega
 have H7:(bs.take n).length=n:=by rw[List.length_take];omega
 have H6:(bs.drop n).length=4:=by rw[List.length_drop];omega
 unfold za6;rw[hn];obtain ⟨p,hp⟩:∃ p,bs.take n=p:=⟨_,rfl⟩;obtain ⟨g,hg⟩:∃ g,bs.drop n=g:=⟨_,rfl⟩
 rw[hp] at H2 H7 ⊢
 rw[hg] at H0 H6 ⊢
 have H8:=zjb (T:=T) 0 p (by decide);obtain ⟨sm,H9⟩:∃ sm,zcb T 0 p=sm:=⟨_,rfl⟩
 rw[H9] at H8 ⊢
 have HT:=zhd hT;have H1:=zhd H2;have Ha:=zhd H0;have Hc:=zhd H9;obtain ⟨f0,f1,f2,f3,hf⟩:∃ f0 f1 f2 f3:UInt8,zdh sm=[f0,f1,f2,f3]:=⟨_,_,_,_,rfl⟩;have Hf:=zhd hf;rw[hf];have Hl:=zhd H7;have Hk:=zhd H6
 rw[Hd] at h1 ⊢
 clear hc h H2 H0 hp hg H9 hT hn hl Hh H6 Hd hf;subst H7
 have Hn:(p.length:Int)≤(c:Int):=by omega
 have Hg:¬ (c=p.length):=by omega
 have Ho:(p.length:Int)≤(p.length:Int)+4:=by omega
 have hX:Ext w (w.alloc (D #[E (some ⟨b,Hj,none⟩) p.length c] 33)):=xA (xR _) _
 by_cases heq:[f0,f1,f2,f3]=g
 all_goals
  have Hb:=zhd heq
 ·rw[if_pos heq]
  clear heq
  go_enter Tryz.func78,Tryz.ntmps78
  go_wp2_with fail
  refine (zgU (T:=T) w.heap.size _ c p _ (Boxed.new w _ _).cell (H1.out.ext hX) (by omega) (HT.out.ext hX)).mono ?_
  rw[Hc.out];rintro e w1 ⟨rfl,H3⟩;have X1:=xT hX H3;go_wp2_with fail
  refine (zgg sm H8 _).mono ?_
  rw[Hf.out];rintro e w2 ⟨rfl,H4⟩;simp only[List.map_cons,List.map_nil,bv];have X2:=xT X1 H4
  have hb3:Blk (w2.alloc (D #[B C (f0.toNat:Int),B C (f1.toNat:Int),B C (f2.toNat:Int),B C (f3.toNat:Int)] 188)) w2.heap.size 188 ([f0,f1,f2,f3].map bv).toArray:=Blk.new w2 _ _
  have X3:Ext w (w2.alloc (D #[B C (f0.toNat:Int),B C (f1.toNat:Int),B C (f2.toNat:Int),B C (f3.toNat:Int)] 188)):=xA X2 _
  have h4:Bs (w2.alloc (D #[B C (f0.toNat:Int),B C (f1.toNat:Int),B C (f2.toNat:Int),B C (f3.toNat:Int)] 188)) (E (some ⟨w2.heap.size,0,none⟩) 4 4) [f0,f1,f2,f3]:=zdZ hb3 rfl (by simp[maxLen])
  go_wp2_with fail
  refine wp_region_held_drew (S:=fun _=>True) (by kernel_rfl) trivial (fun _=>?_)
  refine tkN 0 ?_;refine tkN 1 ?_;refine tkN 2 ?_;refine tkN 3 ?_
  refine ar1 4 (fun K hK=>?_)
  go_simp
  have H5:=zem _ _ _ _ _ (h4.ext (xD (xR _))) (Ha.out.ext (xD X3))
  refine H5.mono ?_
  rw[decide_eq_true Hb.out];rintro e w4 ⟨rfl,rfl⟩
  try (go_wp2_with fail)
  refine shK hK _ _ trivial (fun _=>?_)
  refine tkN 5 ?_;refine wdD ?_;go_wp2_with fail
  refine (zil _ p _ (H1.out.ext (xD X3)) (by omega)).mono ?_
  rintro e w5 ⟨A5,c5,rfl,Hi,He⟩;go_wp2_with fail
  go_ret2
  exact ⟨⟨A5,c5,rfl,zaf Hi (xD X3).size⟩,xT (xD X3) He⟩
 ·rw[if_neg heq]
  clear heq
  go_enter Tryz.func78,Tryz.ntmps78
  go_wp2_with fail
  refine (zgU (T:=T) w.heap.size _ c p _ (Boxed.new w _ _).cell (H1.out.ext hX) (by omega) (HT.out.ext hX)).mono ?_
  rw[Hc.out];rintro e w1 ⟨rfl,H3⟩;have X1:=xT hX H3;go_wp2_with fail
  refine (zgg sm H8 _).mono ?_
  rw[Hf.out];rintro e w2 ⟨rfl,H4⟩;simp only[List.map_cons,List.map_nil,bv];have X2:=xT X1 H4
  have hb3:Blk (w2.alloc (D #[B C (f0.toNat:Int),B C (f1.toNat:Int),B C (f2.toNat:Int),B C (f3.toNat:Int)] 188)) w2.heap.size 188 ([f0,f1,f2,f3].map bv).toArray:=Blk.new w2 _ _
  have X3:Ext w (w2.alloc (D #[B C (f0.toNat:Int),B C (f1.toNat:Int),B C (f2.toNat:Int),B C (f3.toNat:Int)] 188)):=xA X2 _
  have h4:Bs (w2.alloc (D #[B C (f0.toNat:Int),B C (f1.toNat:Int),B C (f2.toNat:Int),B C (f3.toNat:Int)] 188)) (E (some ⟨w2.heap.size,0,none⟩) 4 4) [f0,f1,f2,f3]:=zdZ hb3 rfl (by simp[maxLen])
  go_wp2_with fail
  refine wp_region_held_drew (S:=fun _=>True) (by kernel_rfl) trivial (fun _=>?_)
  refine tkN 0 ?_;refine tkN 1 ?_;refine tkN 2 ?_;refine tkN 3 ?_
  refine ar1 4 (fun K hK=>?_)
  go_simp
  have H5:=zem _ _ _ _ _ (h4.ext (xD (xR _))) (Ha.out.ext (xD X3))
  refine H5.mono ?_
  rw[decide_eq_false Hb.out];rintro e w4 ⟨rfl,rfl⟩
  try (go_wp2_with fail)
  refine shK hK _ _ trivial (fun _=>?_)
  refine tkN 5 ?_;refine wdD ?_;go_wp2_with fail
  go_ret2
  exact ⟨rfl,xD X3⟩
end Go.Proofs.YteggfecbjgbndaaGreatDoor
