/- Merged: Crc4 -/
import Derived.Test.YtgonhdeochgkoaaGreatDoorZt24
set_option linter.all false
set_option maxHeartbeats 8000000
set_option maxRecDepth 100000
namespace Go.Proofs.YtgonhdeochgkoaaGreatDoor
open Go.RowKit Go.Mv
variable {T:Tab}
theorem zmQ (v:Value) (bs:List UInt8) (w:World) (h:Bs w v bs) (hl:4≤bs.length) (hl2:bs.length≤100000) (hT:TabW T w):Calls Tryz.prog 102 #[v] w fun e w' =>
  (match zbs T bs with
  | some p=>∃ A c,e=.returned (.tuple #[.slice A p.length c,.bool true])∧OwnB w' w.heap.size (.slice A p.length c) p
  | none=>e=.returned (.tuple #[.slice none 0 0,.bool false]))∧Ext w w':=by
 obtain ⟨A,c,rfl,h1,h2⟩:=SlR.open_ h;obtain ⟨_,b,off,rfl,hc⟩:=Bs.at_ h (by omega);obtain ⟨n,hn⟩:∃ n,bs.length-4=n:=⟨_,rfl⟩
 have hbn:bs.length=n+4:=by omega
 have hBp:=Bs.take h n (by omega);have hBf:=Bs.cut h n (by omega) rfl
 rw[show bs.length-n=4 from by omega] at hBf
 have hn2:n≤100000:=by omega
 have hpl:(bs.take n).length=n:=by rw[List.length_take];omega
 have hfl:(bs.drop n).length=4:=by rw[List.length_drop];omega
 unfold zbs;rw[hn];obtain ⟨p,hp⟩:∃ p,bs.take n=p:=⟨_,rfl⟩;obtain ⟨g,hg⟩:∃ g,bs.drop n=g:=⟨_,rfl⟩
 rw[hp] at hBp hpl ⊢
 rw[hg] at hBf hfl ⊢
 have hsl:=zhD (T:=T) 0 p (by decide);obtain ⟨sm,hsm⟩:∃ sm,zcq T 0 p=sm:=⟨_,rfl⟩
 rw[hsm] at hsl ⊢
 have HT:=zhd hT;have HBp:=zhd hBp;have HBf:=zhd hBf;have Hsm:=zhd hsm;obtain ⟨f0,f1,f2,f3,hf⟩:∃ f0 f1 f2 f3:UInt8,zdh sm=[f0,f1,f2,f3]:=⟨_,_,_,_,rfl⟩;have Hf:=zhd hf;rw[hf];have Hpl:=zhd hpl;have Hfl:=zhd hfl
 rw[hbn] at h1 ⊢
 clear hc h hBp hBf hp hg hsm hT hn hl hl2 hfl hbn hf;subst hpl
 have hnc:(p.length:Int)≤(c:Int):=by omega
 have hcne:¬ (c=p.length):=by omega
 have hpp:(p.length:Int)≤(p.length:Int)+4:=by omega
 have hX:Ext w (w.alloc (.cells #[.slice (some ⟨b,off,none⟩) p.length c] 38)):=Ext.alloc (Ext.refl _) _
 by_cases heq:[f0,f1,f2,f3]=g
 all_goals
  have Heq:=zhd heq
 ·rw[if_pos heq]
  clear heq
  go_enter Tryz.func102,Tryz.ntmps102
  go_wp2_with fail
  refine (zew (T:=T) w.heap.size _ c p _ (Boxed.new w _ _).cell (HBp.out.ext hX) (by omega) (HT.out.ext hX)).mono ?_
  rw[Hsm.out];rintro e w1 ⟨rfl,hE1⟩;have X1:=Ext.trans hX hE1;go_wp2_with fail
  refine (zd0 sm hsl _).mono ?_
  rw[Hf.out];rintro e w2 ⟨rfl,hE2⟩;simp only[List.map_cons,List.map_nil,bv];have X2:=Ext.trans X1 hE2
  have hb3:Blk (w2.alloc (.cells #[.int .u8 (f0.toNat:Int),.int .u8 (f1.toNat:Int),.int .u8 (f2.toNat:Int),.int .u8 (f3.toNat:Int)] 140)) w2.heap.size 140 ([f0,f1,f2,f3].map bv).toArray:=Blk.new w2 _ _
  have X3:Ext w (w2.alloc (.cells #[.int .u8 (f0.toNat:Int),.int .u8 (f1.toNat:Int),.int .u8 (f2.toNat:Int),.int .u8 (f3.toNat:Int)] 140)):=Ext.alloc X2 _
  have h4:Bs (w2.alloc (.cells #[.int .u8 (f0.toNat:Int),.int .u8 (f1.toNat:Int),.int .u8 (f2.toNat:Int),.int .u8 (f3.toNat:Int)] 140)) (.slice (some ⟨w2.heap.size,0,none⟩) 4 4) [f0,f1,f2,f3]:=zdC hb3 rfl (by simp[maxLen])
  go_wp2_with fail
  refine wp_region_held_drew (S:=fun _=>True) (by kernel_rfl) trivial (fun _=>?_)
  refine tkN 0 rfl ?_;refine tkN 1 rfl ?_;refine tkN 2 rfl ?_;refine tkN 3 rfl ?_
  refine ar1 4 rfl (fun K hK=>?_)
  go_simp
  have hEq:=zbp _ _ _ _ _ (h4.ext (Ext.drew (Ext.refl _))) (HBf.out.ext (Ext.drew X3))
  refine hEq.mono ?_
  rw[decide_eq_true Heq.out];rintro e w4 ⟨rfl,rfl⟩
  try (go_wp2_with fail)
  refine shK hK _ _ trivial (fun _=>?_)
  refine tkN 5 rfl ?_;refine wpAnyH_done (by kernel_rfl) ?_ _;go_wp2_with fail
  refine (ziX _ p _ (HBp.out.ext (Ext.drew X3)) (by omega)).mono ?_
  rintro e w5 ⟨A5,c5,rfl,ho5,hE5⟩;go_wp2_with fail
  go_ret2
  exact ⟨⟨A5,c5,rfl,zaj ho5 (Ext.drew X3).size⟩,Ext.trans (Ext.drew X3) hE5⟩
 ·rw[if_neg heq]
  clear heq
  go_enter Tryz.func102,Tryz.ntmps102
  go_wp2_with fail
  refine (zew (T:=T) w.heap.size _ c p _ (Boxed.new w _ _).cell (HBp.out.ext hX) (by omega) (HT.out.ext hX)).mono ?_
  rw[Hsm.out];rintro e w1 ⟨rfl,hE1⟩;have X1:=Ext.trans hX hE1;go_wp2_with fail
  refine (zd0 sm hsl _).mono ?_
  rw[Hf.out];rintro e w2 ⟨rfl,hE2⟩;simp only[List.map_cons,List.map_nil,bv];have X2:=Ext.trans X1 hE2
  have hb3:Blk (w2.alloc (.cells #[.int .u8 (f0.toNat:Int),.int .u8 (f1.toNat:Int),.int .u8 (f2.toNat:Int),.int .u8 (f3.toNat:Int)] 140)) w2.heap.size 140 ([f0,f1,f2,f3].map bv).toArray:=Blk.new w2 _ _
  have X3:Ext w (w2.alloc (.cells #[.int .u8 (f0.toNat:Int),.int .u8 (f1.toNat:Int),.int .u8 (f2.toNat:Int),.int .u8 (f3.toNat:Int)] 140)):=Ext.alloc X2 _
  have h4:Bs (w2.alloc (.cells #[.int .u8 (f0.toNat:Int),.int .u8 (f1.toNat:Int),.int .u8 (f2.toNat:Int),.int .u8 (f3.toNat:Int)] 140)) (.slice (some ⟨w2.heap.size,0,none⟩) 4 4) [f0,f1,f2,f3]:=zdC hb3 rfl (by simp[maxLen])
  go_wp2_with fail
  refine wp_region_held_drew (S:=fun _=>True) (by kernel_rfl) trivial (fun _=>?_)
  refine tkN 0 rfl ?_;refine tkN 1 rfl ?_;refine tkN 2 rfl ?_;refine tkN 3 rfl ?_
  refine ar1 4 rfl (fun K hK=>?_)
  go_simp
  have hEq:=zbp _ _ _ _ _ (h4.ext (Ext.drew (Ext.refl _))) (HBf.out.ext (Ext.drew X3))
  refine hEq.mono ?_
  rw[decide_eq_false Heq.out];rintro e w4 ⟨rfl,rfl⟩
  try (go_wp2_with fail)
  refine shK hK _ _ trivial (fun _=>?_)
  refine tkN 5 rfl ?_;refine wpAnyH_done (by kernel_rfl) ?_ _;go_wp2_with fail
  go_ret2
  exact ⟨rfl,Ext.drew X3⟩
theorem zmP (v:Value) (bs:List UInt8) (w:World) (h:Bs w v bs) (hl:bs.length<4):Calls Tryz.prog 102 #[v] w fun e w'=>e=.returned (.tuple #[.slice none 0 0,.bool false])∧Ext w w':=by
 obtain ⟨A,c,rfl,h1,h2⟩:=SlR.open_ h
 have hw:wrap64 ((bs.length:Int)-4)=(bs.length:Int)-4:=by unfold wrap64;omega
 have hn:(bs.length:Int)-4<0:=by omega
 have hn2:(bs.length:Int)<4:=by omega
 go_enter Tryz.func102,Tryz.ntmps102
 go_wp2_with fail
 go_ret2
 exact ⟨rfl,Ext.refl _⟩
end Go.Proofs.YtgonhdeochgkoaaGreatDoor
