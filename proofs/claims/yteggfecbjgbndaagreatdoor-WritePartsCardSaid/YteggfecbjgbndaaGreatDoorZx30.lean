/- Merged -/
import Derived.Test.YteggfecbjgbndaaGreatDoorZx25
set_option linter.all false
set_option maxHeartbeats 8000000
set_option maxRecDepth 100000
open List renaming length->G
open Go.Value renaming int->B,slice->D,bool->F
open Go.IntKind renaming u8->C
open Go.Obj renaming cells->E
namespace Go.Proofs.YteggfecbjgbndaaGreatDoor
open Go.RowKit Go.Mv
variable {T:Tab}
theorem Dv(v:Value)(bs:List UInt8)(w:World)(h:Bs w v bs)(hl:4<=G bs)(X:G bs<=100000)(U:TabW T w):Calls Tryz.prog 78 #[v] w λe w'=>
  (match bN T bs with
  |some p=>∃A c,e=.returned (.tuple #[D A p.length c,F true])/\OwnB w' w.heap.size (D A p.length c) p
  |none=>e=.returned (.tuple #[D none 0 0,F false]))/\Ext w w':=by
 obtain⟨A,c,rfl,h1,h2⟩:=xO h;obtain⟨_,b,Y,rfl,hc⟩:=Bs.at_ h (by omega);obtain⟨n,hn⟩:∃n,G bs-4=n:=⟨_,rfl⟩;have Q:G bs=n+4:=by omega
 have r:=Bs.take h n (by omega);have H0:=Bs.cut h n (by omega) rfl;rw[show G bs-n=4 from by omega]at H0;have x:n<=100000:=by omega
 have y:G (bs.take n)=n:=by rw[List.length_take];omega
 have x:G (bs.drop n)=4:=by rw[List.length_drop];omega
 unfold bN;rw[hn];obtain⟨p,V⟩:∃p,bs.take n=p:=⟨_,rfl⟩;obtain⟨g,hg⟩:∃g,bs.drop n=g:=⟨_,rfl⟩;rw[V]at r y⊢;rw[hg]at H0 x⊢;have z:=oK (T:=T) 0 p (by decide);obtain⟨o,H⟩:∃o,cR T 0 p=o:=⟨_,rfl⟩;rw[H]at z⊢;have M:=aN U;have q:=aN r;have N:=aN H0;have P:=aN H;obtain⟨a,d,f,i,hf⟩:∃a d f i:UInt8,ed o=[a,d,f,i]:=⟨_,_,_,_,rfl⟩;have R:=aN hf;rw[hf];have Hn:=aN y;have Hm:=aN x;rw[Q]at h1⊢;clear hc h r H0 V hg H U hn hl X x Q hf;subst y;have r:(G p:Int)<=(c:Int):=by omega
 have r:¬(c=G p):=by omega
 have r:(G p:Int)<=(G p:Int)+4:=by omega
 have m:Ext w (w.alloc (E #[D (some ⟨b,Y,none⟩) p.length c] 33)):=xA (xR _) _;by_cases k:[a,d,f,i]=g
 all_goals
  have O:=aN k
 ·rw[if_pos k];clear k;go_enter Tryz.func78,Tryz.ntmps78
  go_wp2_with fail
  refine(mx (T:=T) w.heap.size _ c p _ (Boxed.new w _ _).cell (q.ext m) (by omega) (M.ext m)).mono ?_;rw[P.out];rintro e w1⟨rfl,H3⟩;have I:=xT m H3;go_wp2_with fail
  refine(mE o z _).mono ?_;rw[R.out];rintro e j⟨rfl,H4⟩;simp only[List.map_cons,List.map_nil,bv];have J:=xT I H4;have t:Blk (j.alloc (E #[B C (a.toNat:Int),B C (d.toNat:Int),B C (f.toNat:Int),B C (i.toNat:Int)] 188)) j.heap.size 188 ([a,d,f,i].map bv).toArray:=Blk.new j _ _;have l:Ext w (j.alloc (E #[B C (a.toNat:Int),B C (d.toNat:Int),B C (f.toNat:Int),B C (i.toNat:Int)] 188)):=xA J _;have h4:Bs (j.alloc (E #[B C (a.toNat:Int),B C (d.toNat:Int),B C (f.toNat:Int),B C (i.toNat:Int)] 188)) (D (some ⟨j.heap.size,0,none⟩) 4 4) [a,d,f,i]:=fZ t rfl (by simp[maxLen]);go_wp2_with fail
  refine wp_region_held_drew (S:=λ_=>True) (by kernel_rfl) trivial (λ_=>?_);refine ab 0 ?_;refine ab 1 ?_;refine ab 2 ?_;refine ab 3 ?_;refine ah 4 (λK L=>?_);go_simp;have s:=fI _ _ _ _ _ (h4.ext (xD (xR _))) (N.ext (xD l));refine s.mono ?_;rw[decide_eq_true O.out];rintro e w4⟨rfl,rfl⟩;try(go_wp2_with fail)
  refine af L _ _ trivial (λ_=>?_);refine ab 5 ?_;refine aq ?_;go_wp2_with fail
  refine(oY _ p _ (q.ext (xD l)) (by omega)).mono ?_;rintro e r⟨W,Z,rfl,Hk,r⟩;go_wp2_with fail
  go_ret2;exact⟨⟨W,Z,rfl,ay Hk (xD l).size⟩,xT (xD l) r⟩
 ·rw[if_neg k];clear k;go_enter Tryz.func78,Tryz.ntmps78
  go_wp2_with fail
  refine(mx (T:=T) w.heap.size _ c p _ (Boxed.new w _ _).cell (q.ext m) (by omega) (M.ext m)).mono ?_;rw[P.out];rintro e w1⟨rfl,H3⟩;have I:=xT m H3;go_wp2_with fail
  refine(mE o z _).mono ?_;rw[R.out];rintro e j⟨rfl,H4⟩;simp only[List.map_cons,List.map_nil,bv];have J:=xT I H4;have t:Blk (j.alloc (E #[B C (a.toNat:Int),B C (d.toNat:Int),B C (f.toNat:Int),B C (i.toNat:Int)] 188)) j.heap.size 188 ([a,d,f,i].map bv).toArray:=Blk.new j _ _;have l:Ext w (j.alloc (E #[B C (a.toNat:Int),B C (d.toNat:Int),B C (f.toNat:Int),B C (i.toNat:Int)] 188)):=xA J _;have h4:Bs (j.alloc (E #[B C (a.toNat:Int),B C (d.toNat:Int),B C (f.toNat:Int),B C (i.toNat:Int)] 188)) (D (some ⟨j.heap.size,0,none⟩) 4 4) [a,d,f,i]:=fZ t rfl (by simp[maxLen]);go_wp2_with fail
  refine wp_region_held_drew (S:=λ_=>True) (by kernel_rfl) trivial (λ_=>?_);refine ab 0 ?_;refine ab 1 ?_;refine ab 2 ?_;refine ab 3 ?_;refine ah 4 (λK L=>?_);go_simp;have s:=fI _ _ _ _ _ (h4.ext (xD (xR _))) (N.ext (xD l));refine s.mono ?_;rw[decide_eq_false O.out];rintro e w4⟨rfl,rfl⟩;try(go_wp2_with fail)
  refine af L _ _ trivial (λ_=>?_);refine ab 5 ?_;refine aq ?_;go_wp2_with fail
  go_ret2;exact⟨rfl,xD l⟩
theorem Du(v:Value)(bs:List UInt8)(w:World)(h:Bs w v bs)(hl:G bs<4):Calls Tryz.prog 78 #[v] w λe w'=>e=.returned (.tuple #[D none 0 0,F false])/\Ext w w':=by
 obtain⟨A,c,rfl,h1,h2⟩:=xO h;have a:wrap64 ((G bs:Int)-4)=(G bs:Int)-4:=by unfold wrap64;omega
 have hn:(G bs:Int)-4<0:=by omega
 have a:(G bs:Int)<4:=by omega
 go_enter Tryz.func78,Tryz.ntmps78
 go_wp2_with fail
 go_ret2;exact⟨rfl,xR _⟩
