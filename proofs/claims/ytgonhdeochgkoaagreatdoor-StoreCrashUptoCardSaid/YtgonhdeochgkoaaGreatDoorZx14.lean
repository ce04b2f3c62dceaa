/- Merged -/
import Derived.Test.YtgonhdeochgkoaaGreatDoorZx11
import Derived.Test.YtgonhdeochgkoaaGreatDoorZx13
set_option linter.all false
set_option maxHeartbeats 8000000
set_option maxRecDepth 100000
open UInt8 renaming ofNat→P0
open Go.Mv.Ext renaming cell→P1,grownOwn→P2
open List renaming getD_eq_getElem?_getD→P3,append_toArray→P4,size_toArray→P5,push_toArray→P6,cons_append→P7,length_nil→P8
open Array renaming replicate_zero→P9,replicate_succ→Pa
open Go.IntKind renaming wrap_i64→Pb,i64→Pc,u8→Pd
namespace Go.Mv
open Go.RowKit
theorem mcTexta0 {P:Prop} (h:P:=by
 simp only[zeN] at hp
 refine (zej _ [[1],za9 [s.idx,s.term,s.sum],[xl,xf]] _ hp (by rw[K4.out];omega)).mono ?_
 rintro e w6 ⟨vc,rfl,HZ,Ka⟩;rw[HU.out] at HZ
 try (go_wp2_with fail)
 have Hg:=xT (xA Hp (.cells #[.slice (some ⟨_,0,none⟩) 1 1,.slice Av (za9 [s.idx,s.term,s.sum]).length cv,.slice (some ⟨_,0,none⟩) 2 2] 38)) Ka
 refine shK hK _ _ (zac (hb.ext Hg)) (fun _=>?_)
 refine ar1 11 rfl (fun K hK=>?_)
 go_simp
 refine (zfo _ _ _ (xW HZ) (by rw[HE.out];omega) (by rw[HE.out];omega) (HT.out.ext (xT hX Hg))).mono ?_
 rintro e w7 ⟨A7,c7,rfl,Kj,Kb⟩
 try (go_wp2_with fail)
 have Hu:=xT Hg Kb
 refine shK hK _ _ (zac (hb.ext Hu)) (fun _=>?_)
 refine tkN 12 rfl ?_;refine wpAnyH_done (by kernel_rfl) ?_ _;go_wp2_with fail;go_ret
 have HL:OwnB w7 w.heap.size (.slice A7 (zaH rT (1::(za9 [s.idx,s.term,s.sum]++[xl,xf]))).length c7) (zaH rT (1::(za9 [s.idx,s.term,s.sum]++[xl,xf]))):=zai Kj (xT hX Hg).size
 rw[K8.out]
 exact ⟨A7,c7,rfl,HL,xT hX Hu⟩):P:=h
section
variable {P:Program} {ops:Array Oper} {Q:Exit→Act→World→Prop} {md:Region.Mode} {S:World→Prop}
theorem AllReadyH.two {fuel:Nat} {listed:Array Bool} {a:Act} {w:World} {i j:Nat} {o o2:Oper} (ho:ops.toList[i]?=some o) (Kh:ops.toList[j]?=some o2) (hr:Region.ready md ops listed=[i,j]) (hw:Region.wanted o (yielded ops a.tmps)=true) (Km:Region.wanted o2 (yielded ops a.tmps)=true)
  (h:∀ K':Act→World→Prop,Shut (∀ a w,S w→(S w→wpAnyH P md ops Q S fuel (listed.setIfInBounds i true) a w)→K' a w)→Oper.wp P o a w K' Q)
  (h2:∀ K':Act→World→Prop,Shut (∀ a w,S w→(S w→wpAnyH P md ops Q S fuel (listed.setIfInBounds j true) a w)→K' a w)→Oper.wp P o2 a w K' Q):wpAnyH P md ops Q S (fuel+1) listed a w :=
 wpAnyH_ready hr (by simp) (AllReadyH.cons (by simpa using ho) (fun K hK=>by rw[if_pos hw];exact h K hK) (AllReadyH.cons (by simpa using Kh) (fun K hK=>by rw[if_pos Km];exact h2 K hK) AllReadyH.nil))
end
end Go.Mv
namespace Go.Proofs.YtgonhdeochgkoaaGreatDoor
open Go.RowKit Go.Mv
theorem zeN (w:World) (o:Obj):(w.alloc o).heap.size=w.heap.size+1:=by
 show (w.heap.push o).size=_
 simp
theorem is5 (W:World) (a b c d e:Int):Is (W.alloc (.cells #[.int .i64 a,.int .i64 b,.int .i64 c,.int .i64 d,.int .i64 e] 3)) (.slice (some ⟨W.heap.size,0,none⟩) 5 5) [a,b,c,d,e] :=
 xW (zaV W [.int .i64 a,.int .i64 b,.int .i64 c,.int .i64 d,.int .i64 e] 3 5 rfl (by simp[maxLen]) (xN _))
theorem ztO (s:Sta) (w:World) (h:s.ok=true):Calls Tryz.prog 203 #[.agg #[.int .i64 s.idx,.int .i64 s.term,.int .i64 s.sum,.int .i64 s.lvl,.bool s.fin]] w (ziA w s.ints):=by
 have H:=zhd h;have Hn:=zhd (Sta.nums h)
 have Hi:Hid (s.ints=[s.idx,s.term,s.sum,s.lvl,s.finI]):=rfl
 clear h;have hb:=Blk.new w 53 #[.int .i64 s.idx,.int .i64 s.term,.int .i64 s.sum,.int .i64 s.lvl,.bool s.fin]
 go_enter Tryz.func203,Tryz.ntmps203
 go_wp2_with fail
 refine (zcU s _).mono ?_
 rw[H.out];rintro e w1 ⟨rfl,H4⟩;go_wp2_with fail
 have hX:Ext w (w.alloc (.cells #[.int .i64 s.idx,.int .i64 s.term,.int .i64 s.sum,.int .i64 s.lvl,.bool s.fin] 53)):=xA (xR _) _
 refine wp_region_held_drew (S:=fun w'=>w'.cell? ⟨w.heap.size,0,none⟩=some (.int .i64 s.idx)∧w'.cell? ⟨w.heap.size,1,none⟩=some (.int .i64 s.term)∧w'.cell? ⟨w.heap.size,2,none⟩=some (.int .i64 s.sum)∧w'.cell? ⟨w.heap.size,3,none⟩=some (.int .i64 s.lvl)∧w'.cell? ⟨w.heap.size,4,none⟩=some (.bool s.fin)) (by kernel_rfl) (zac (hb.ext (xD H4))) (fun _=>?_)
 refine tkN 0 rfl ?_;refine tkN 1 rfl ?_;refine tkN 2 rfl ?_;refine tkN 3 rfl ?_;refine tkN 4 rfl ?_;refine tkN 5 rfl ?_;refine tkN 6 rfl ?_;refine tkN 7 rfl ?_;refine tkN 8 rfl ?_
 refine ar1 9 rfl (fun K hK=>?_)
 go_simp
 refine (zh3 s _).mono ?_
 rintro e w2 ⟨rfl,H7⟩
 have H1:Ext (w.alloc (.cells #[.int .i64 s.idx,.int .i64 s.term,.int .i64 s.sum,.int .i64 s.lvl,.bool s.fin] 53)) w2:=xT (xD H4) H7
 try (go_wp2_with fail)
 refine shK hK _ _ (zac (hb.ext H1)) (fun _=>?_)
 refine ar1 10 rfl (fun K hK=>?_)
 go_simp
 refine shK hK _ _ (zac (hb.ext (xA H1 _))) (fun _=>?_)
 refine ar1 11 rfl (fun K hK=>?_)
 go_simp
 refine (zma _ _ _ (is5 w2 s.idx s.term s.sum s.lvl s.finI) (by rw[←Hi.out];exact Hn.out) (by simp)).mono ?_
 rw[←Hi.out];rintro e w4 ⟨v,rfl,ho,HG⟩
 try (go_wp2_with fail)
 have Hs:=xT (xA H1 (.cells #[.int .i64 s.idx,.int .i64 s.term,.int .i64 s.sum,.int .i64 s.lvl,.int .i64 s.finI] 3)) HG
 refine shK hK _ _ (zac (hb.ext Hs)) (fun _=>?_)
 refine tkN 12 rfl ?_;refine tkN 13 rfl ?_;refine tkN 14 rfl ?_;refine tkN 15 rfl ?_;refine wpAnyH_done (by kernel_rfl) ?_ _;go_wp2_with fail
 go_ret2
 exact ⟨v,rfl,zai ho (xT hX (xA H1 _)).size,xT hX Hs⟩
theorem zvr (W:World) (a b c:Int):Is (W.alloc (.cells #[.int .i64 a,.int .i64 b,.int .i64 c] 3)) (.slice (some ⟨W.heap.size,0,none⟩) 3 3) [a,b,c] :=
 xW (zaV W [.int .i64 a,.int .i64 b,.int .i64 c] 3 3 rfl (by simp[maxLen]) (xN _))
def zjJ (s:Sta):List UInt8:=zaH rT (1::(za9 [s.idx,s.term,s.sum]++[P0 s.lvl.toNat,P0 s.finI.toNat]))
theorem zsx (W:World) (a:UInt8) (n:Nat) (h:n=a.toNat):Bs (W.alloc (.cells #[.int .u8 n] 5)) (.slice (some ⟨W.heap.size,0,none⟩) 1 1) [a]:=by
 subst h
 exact xW (zaV W [bv a] 5 1 rfl (by simp[maxLen]) (xN _))
theorem bs2 (W:World) (a b:UInt8):Bs (W.alloc (.cells #[bv a,bv b] 5)) (.slice (some ⟨W.heap.size,0,none⟩) 2 2) [a,b] :=
 xW (zaV W [bv a,bv b] 5 2 rfl (by simp[maxLen]) (xN _))
theorem zrA (s:Sta) (w:World) (h:s.ok=true) (hT:TabW rT w):Calls Tryz.prog 199 #[.agg #[.int .i64 s.idx,.int .i64 s.term,.int .i64 s.sum,.int .i64 s.lvl,.bool s.fin]] w fun e w'=>∃ A c,e=.returned (.slice A (zjJ s).length c)∧OwnB w' w.heap.size (.slice A (zjJ s).length c) (zjJ s)∧Ext w w':=by
 have HT:=zhd hT
 have Hn:Hid (zav [s.idx,s.term,s.sum]=true):=by
  obtain ⟨h1,h2,h3,_⟩:=Sta.okP h
  exact by simp[Hid,zav,h1,h2,h3]
 obtain ⟨xl,HR⟩:∃ x,P0 s.lvl.toNat=x:=⟨_,rfl⟩;obtain ⟨xf,HQ⟩:∃ x,P0 s.finI.toNat=x:=⟨_,rfl⟩
 have Kr:Pd.wrap s.lvl=(xl.toNat:Int):=by subst HR;rcases (Sta.okP h).2.2.2 with e | e <;> rw[e] <;> rfl
 have Kq:Pd.wrap s.finI=(xf.toNat:Int):=by subst HQ;rcases s.finP with e | e <;> rw[e] <;> rfl
 have K8:Hid (zjJ s=zaH rT (1::(za9 [s.idx,s.term,s.sum]++[xl,xf]))):=by subst HR;subst HQ;rfl
 have HU:Hid (([[1],za9 [s.idx,s.term,s.sum],[xl,xf]]:List (List UInt8)).flatten=1::(za9 [s.idx,s.term,s.sum]++[xl,xf])):=by simp[Hid]
 have HE:Hid ((1::(za9 [s.idx,s.term,s.sum]++[xl,xf])).length=18):=by simp[Hid,zlb]
 have K4:Hid (([[1],za9 [s.idx,s.term,s.sum],[xl,xf]]:List (List UInt8)).flatten.length=18):=by rw[Hid,HU.out];exact HE.out
 clear h hT HR HQ;have hb:=Blk.new w 53 #[.int .i64 s.idx,.int .i64 s.term,.int .i64 s.sum,.int .i64 s.lvl,.bool s.fin]
 have hX:Ext w (w.alloc (.cells #[.int .i64 s.idx,.int .i64 s.term,.int .i64 s.sum,.int .i64 s.lvl,.bool s.fin] 53)):=xA (xR _) _
 obtain ⟨g0,g1,g2,g3,g4⟩:=zac hb
 go_enter Tryz.func199,Tryz.ntmps199
 go_wp2_with fail;have HX:=zvr (w.alloc (.cells #[.int .i64 s.idx,.int .i64 s.term,.int .i64 s.sum,.int .i64 s.lvl,.bool s.fin] 53)) s.idx s.term s.sum;rw[zeN] at HX
 refine (ztH _ _ _ HX Hn.out (by simp)).mono ?_
 rintro e w1 ⟨v,rfl,ho,H4⟩;obtain ⟨Av,cv,rfl,-,-⟩:=xO (xW ho);go_wp2_with fail
 have H0:Ext (w.alloc (.cells #[.int .i64 s.idx,.int .i64 s.term,.int .i64 s.sum,.int .i64 s.lvl,.bool s.fin] 53)) w1:=xT (xA (xR _) _) H4
 clear g0 g1 g2 g3 g4
 refine wp_region_held_drew (S:=fun w'=>w'.cell? ⟨w.heap.size,0,none⟩=some (.int .i64 s.idx)∧w'.cell? ⟨w.heap.size,1,none⟩=some (.int .i64 s.term)∧w'.cell? ⟨w.heap.size,2,none⟩=some (.int .i64 s.sum)∧w'.cell? ⟨w.heap.size,3,none⟩=some (.int .i64 s.lvl)∧w'.cell? ⟨w.heap.size,4,none⟩=some (.bool s.fin)) (by kernel_rfl) (zac (hb.ext (xD H0))) (fun _=>?_)
 refine tkN 1 rfl ?_;refine tkN 2 rfl ?_;refine tkN 3 rfl ?_;refine tkN 4 rfl ?_;refine tkN 5 rfl ?_
 refine AllReadyH.two (i:=0) (j:=6) rfl rfl (by kernel_rfl) (by rfl) (by rfl) (fun K hK=>?_) (fun K hK=>?_)
 ·go_simp
  refine shK hK _ _ (zac (hb.ext (xD (xA H0 _)))) (fun _=>?_)
  refine ar1 6 rfl (fun K hK=>?_)
  go_simp
  refine (zh3 s _).mono ?_
  rintro e w2 ⟨rfl,H7⟩
  try (go_wp2_with fail)
  have H3:Ext (w1.alloc (.cells #[.int .u8 1] 5)) w2:=xT (xD (xR _)) H7
  refine shK hK _ _ (zac (hb.ext (xT (xA H0 _) H3))) (fun _=>?_)
  refine tkN 7 rfl ?_;have H9:=Bs.ext (zsx w1 1 1 rfl) H3;have H5:=xT (xA (xR w1) (.cells #[.int .u8 1] 5)) H3
  refine ar1 8 rfl (fun K hK=>?_)
  go_simp
  refine shK hK _ _ (zac (hb.ext (xA (xT H0 H5) _))) (fun _=>?_)
  have Ha:=bs2 w2 xl xf;have Hd:=Bs.ext H9 (xA (xR _) (.cells #[bv xl,bv xf] 5));have H6:=xA H5 (.cells #[bv xl,bv xf] 5)
  have HB:Bs (w2.alloc (.cells #[bv xl,bv xf] 5)) (.slice Av (za9 [s.idx,s.term,s.sum]).length cv) (za9 [s.idx,s.term,s.sum]):=Bs.ext (xW ho) H6
  have Hp:=xT H0 H6
  refine ar1 9 rfl (fun K hK=>?_)
  go_simp
  refine shK hK _ _ (zac (hb.ext (xA Hp _))) (fun _=>?_)
  refine ar1 10 rfl (fun K hK=>?_)
  go_simp
  have hp:=zkp Hd HB Ha
  exact mcTexta0
 ·go_simp
  refine (zh3 s _).mono ?_
  rintro e w2 ⟨rfl,H7⟩
  try (go_wp2_with fail)
  have H3:Ext w1 w2:=xT (xD (xR _)) H7
  refine shK hK _ _ (zac (hb.ext (xT H0 H3))) (fun _=>?_)
  refine tkN 7 rfl ?_
  refine AllReadyH.two (i:=0) (j:=8) rfl rfl (by kernel_rfl) (by rfl) (by rfl) (fun K hK=>?_) (fun K hK=>?_)
  ·go_simp
   refine shK hK _ _ (zac (hb.ext (xA (xT H0 H3) _))) (fun _=>?_)
   have H9:=zsx w2 1 1 rfl
   refine ar1 8 rfl (fun K hK=>?_)
   go_simp
   have H5:=xA H3 (.cells #[.int .u8 1] 5)
   refine shK hK _ _ (zac (hb.ext (xA (xT H0 H5) _))) (fun _=>?_)
   have Ha:=bs2 (w2.alloc (.cells #[.int .u8 1] 5)) xl xf;rw[zeN] at Ha;have Hd:=Bs.ext H9 (xA (xR _) (.cells #[bv xl,bv xf] 5));have H6:=xA H5 (.cells #[bv xl,bv xf] 5)
   have HB:Bs ((w2.alloc (.cells #[.int .u8 1] 5)).alloc (.cells #[bv xl,bv xf] 5)) (.slice Av (za9 [s.idx,s.term,s.sum]).length cv) (za9 [s.idx,s.term,s.sum]):=Bs.ext (xW ho) H6
   have Hp:=xT H0 H6
   refine ar1 9 rfl (fun K hK=>?_)
   go_simp
   refine shK hK _ _ (zac (hb.ext (xA Hp _))) (fun _=>?_)
   refine ar1 10 rfl (fun K hK=>?_)
   go_simp
   have hp:=zkp Hd HB Ha
   exact mcTexta0
  ·go_simp
   refine shK hK _ _ (zac (hb.ext (xA (xT H0 H3) _))) (fun _=>?_)
   have Ha:=bs2 w2 xl xf
   refine ar1 0 rfl (fun K hK=>?_)
   go_simp
   have H5:=xA H3 (.cells #[bv xl,bv xf] 5)
   refine shK hK _ _ (zac (hb.ext (xA (xT H0 H5) _))) (fun _=>?_)
   have H9:=zsx (w2.alloc (.cells #[bv xl,bv xf] 5)) 1 1 rfl;rw[zeN] at H9;have HA:=Bs.ext Ha (xA (xR _) (.cells #[.int .u8 1] 5));have H6:=xA H5 (.cells #[.int .u8 1] 5)
   have HB:Bs ((w2.alloc (.cells #[bv xl,bv xf] 5)).alloc (.cells #[.int .u8 1] 5)) (.slice Av (za9 [s.idx,s.term,s.sum]).length cv) (za9 [s.idx,s.term,s.sum]):=Bs.ext (xW ho) H6
   have Hp:=xT H0 H6
   refine ar1 9 rfl (fun K hK=>?_)
   go_simp
   refine shK hK _ _ (zac (hb.ext (xA Hp _))) (fun _=>?_)
   refine ar1 10 rfl (fun K hK=>?_)
   go_simp
   have hp:=zkp H9 HB HA
   exact mcTexta0
def zgm (s:Sta):List UInt8:=2::P0 (((zaj s.ints).length+3) / 4)::zb2 (0,0) (zaj s.ints)
theorem zrB (s:Sta) (w:World) (h:s.ok=true):Calls Tryz.prog 202 #[.agg #[.int .i64 s.idx,.int .i64 s.term,.int .i64 s.sum,.int .i64 s.lvl,.bool s.fin]] w fun e w'=>∃ A c,e=.returned (.slice A (zgm s).length c)∧OwnB w' w.heap.size (.slice A (zgm s).length c) (zgm s)∧Ext w w':=by
 obtain ⟨t,ht⟩:∃ t,zaj s.ints=t:=⟨_,rfl⟩
 have Hx:t.length≤25:=by subst ht;exact zcu s.ints
 have K5:=zhd h;have Ht:=zhd ht
 have Hl:Hid (t.length≤25):=Hx
 obtain ⟨yn,HS⟩:∃ x,P0 ((t.length+3) / 4)=x:=⟨_,rfl⟩
 have Hy:Hid (wrap64 ((wrap64 ((t.length:Int)+3)).tdiv 4) % 256=(yn.toNat:Int)):=by
  have e1:wrap64 ((t.length:Int)+3)=((t.length+3:Nat):Int):=by unfold wrap64;omega
  have e2:((t.length+3:Nat):Int).tdiv 4=(((t.length+3) / 4:Nat):Int):=rfl
  have e3:wrap64 (((t.length+3) / 4:Nat):Int)=(((t.length+3) / 4:Nat):Int):=by unfold wrap64;omega
  rw[Hid,e1,e2,e3,←HS]
  simp
 have K6:Hid (zgm s=[2,yn]++zb2 (0,0) t):=by rw[Hid,zgm,ht,HS];rfl
 clear h ht Hx HS
 have hX:Ext w (w.alloc (.cells #[.int .i64 s.idx,.int .i64 s.term,.int .i64 s.sum,.int .i64 s.lvl,.bool s.fin] 53)):=xA (xR _) _
 go_enter Tryz.func202,Tryz.ntmps202
 go_wp2_with fail
 refine (ztO s _ K5.out).mono ?_
 rintro e w1 ⟨v,rfl,ho,H4⟩;rw[Ht.out] at ho;obtain ⟨Av,cv,rfl,-,-⟩:=xO (xW ho);go_wp2_with fail;rw[Hy.out]
 have H0:Ext w w1:=xT hX H4
 have HN:=zaV w1 [bv 2,bv yn] 5 2 rfl (by simp[maxLen]) H0.size
 have HP:OwnB (w1.alloc (.cells #[bv 2,bv yn] 5)) w.heap.size (.slice (some ⟨w1.heap.size,0,none⟩) 2 2) [2,yn]:=HN
 refine (zoY _ t _ (Bs.ext (xW ho) (xA (xR _) _)) (by have:=Hl.out;omega)).mono ?_
 rintro e w3 ⟨v3,rfl,HO,Hk⟩
 have Hv:Ext w w3:=xT (xA H0 _) Hk
 have Kk:=zi7 (0,0) t
 have K7:Hid ((zb2 (0,0) t).length≤100):=by have:=Hl.out;rw[Hid];omega
 clear Kk
 go_wp2_with (
  refine zc9 rfl (.tmp 15) (.tmp 17) rfl w.heap.size _ [2,yn] rfl (OwnB.ext HP Hk) _ (zb2 (0,0) t) rfl (xW HO) (by have:=K7.out;simp;omega) Hv.size ?_
  intro A4 c4 w4 Ki Ke)
 go_ret;have HG:=Ke w Hv (xN _)
 have e1:zgm s=[2,yn]++zb2 (0,0) t:=K6.out
 have e2:(zgm s).length=([2,yn]:List UInt8).length+(zb2 (0,0) t).length:=by rw[e1,xL]
 rw[e2,e1]
 exact ⟨A4,c4,rfl,Ki,HG⟩
theorem mcPuta0 {P:Prop} (h:P:=by
 rintro e w3 ⟨A3,c3,rfl,HO,Hk⟩
 try (go_wp2_with fail)
 have Hq:=xT H1 Hk
 refine shK hK _ _ (zac (hb.ext Hq)) (fun _=>?_)
 refine tkN 5 rfl ?_;refine tkN 6 rfl ?_;refine wpAnyH_done (by kernel_rfl) ?_ _;go_wp2_with fail
 go_ret2
 exact ⟨A3,c3,rfl,zai HO (xT hX H1).size,xT hX Hq⟩):P:=h
theorem ziS (P:Program) (w:World) (a:Addr) (m:Mode):(store a .nilFunc m).run P w=stored P w a .nilFunc m:=run_store P w a _ m rfl
theorem zkU (P:Program) (w:World) (a:Addr) (m:Mode) (f:Fn) (x y:Array Value):(store a (.func f x y) m).run P w=stored P w a (.func f x y) m:=run_store P w a _ m rfl
attribute [local go_sem] ziS zkU
def zpF:Value:=.agg #[.nilFunc,.func (.func 199) #[] #[],.func (.func 202) #[] #[]]
theorem zmQ (w:World):Calls Tryz.prog 169 #[] w fun e w'=>e=.returned zpF∧Ext w w':=by
 go_enter Tryz.func169,Tryz.ntmps169
 go_wp2
 refine bodyPost_ret (results_cell_row rfl _ _ _ 214 _ _ _ rfl (heap_alloc_new _ _) Tryz.underlying214 rfl (by kernel_rfl)) rfl ⟨rfl,xA (xR _) _⟩
theorem zte (w:World):(Instr.index 214 (.agg #[.nilFunc,.func (.func 199) #[] #[],.func (.func 202) #[] #[]]) (.int .i64 1)).run Tryz.prog w=.ok (.func (.func 199) #[] #[]) w:=by kernel_rfl
theorem ztf (w:World):(Instr.index 214 (.agg #[.nilFunc,.func (.func 199) #[] #[],.func (.func 202) #[] #[]]) (.int .i64 2)).run Tryz.prog w=.ok (.func (.func 202) #[] #[]) w:=by kernel_rfl
def zoZ (w:World) (l:List UInt8) (e:Ending) (w':World):Prop:=∃ A c,e=.returned (.tuple #[.slice A l.length c,.int .i64 0])∧OwnB w' w.heap.size (.slice A l.length c) l∧Ext w w'
theorem zou (s:Sta) (f:Int) (w:World) (h:s.ok=false∨f<1∨2<f):Calls Tryz.prog 142 #[.agg #[.int .i64 s.idx,.int .i64 s.term,.int .i64 s.sum,.int .i64 s.lvl,.bool s.fin],.int .i64 f] w (zjo w):=by
 have H:=zhd h;clear h;obtain ⟨ok,Hz⟩:∃ x,s.ok=x:=⟨_,rfl⟩
 cases ok
 ·clear H
  have H:=zhd Hz;clear Hz
  go_enter Tryz.func142,Tryz.ntmps142
  go_wp2_with fail
  refine (zcU s _).mono ?_
  rw[H.out];rintro e w1 ⟨rfl,H4⟩;go_wp2_with fail
  go_ret2
  exact ⟨rfl,xT (xA (xR _) _) H4⟩
 ·rw[Hz] at H
  have Ho:=zhd Hz;clear Hz
  by_cases h1:f<1
  ·clear H
   go_enter Tryz.func142,Tryz.ntmps142
   go_wp2_with fail
   refine (zcU s _).mono ?_
   rw[Ho.out];rintro e w1 ⟨rfl,H4⟩;go_wp2_with fail
   go_ret2
   exact ⟨rfl,xT (xA (xR _) _) H4⟩
  ·have h2:2<f:=by rcases H.out with q | q | q;cases q;exact absurd q h1;exact q
   clear H
   go_enter Tryz.func142,Tryz.ntmps142
   go_wp2_with fail
   refine (zcU s _).mono ?_
   rw[Ho.out];rintro e w1 ⟨rfl,H4⟩;go_wp2_with fail
   go_ret2
   exact ⟨rfl,xT (xA (xR _) _) H4⟩
theorem ztL (s:Sta) (w:World) (h:s.ok=true) (hT:TabW rT w):Calls Tryz.prog 142 #[.agg #[.int .i64 s.idx,.int .i64 s.term,.int .i64 s.sum,.int .i64 s.lvl,.bool s.fin],.int .i64 1] w (zoZ w (zjJ s)):=by
 have Kc:=zte;have H:=zhd h;have HT:=zhd hT;clear h hT;have hb:=Blk.new w 53 #[.int .i64 s.idx,.int .i64 s.term,.int .i64 s.sum,.int .i64 s.lvl,.bool s.fin]
 have hX:Ext w (w.alloc (.cells #[.int .i64 s.idx,.int .i64 s.term,.int .i64 s.sum,.int .i64 s.lvl,.bool s.fin] 53)):=xA (xR _) _
 go_enter Tryz.func142,Tryz.ntmps142
 go_wp2_with fail
 refine (zcU s _).mono ?_
 rw[H.out];rintro e w1 ⟨rfl,H4⟩;go_wp2_with fail
 refine wp_region_held_drew (S:=fun w'=>w'.cell? ⟨w.heap.size,0,none⟩=some (.int .i64 s.idx)∧w'.cell? ⟨w.heap.size,1,none⟩=some (.int .i64 s.term)∧w'.cell? ⟨w.heap.size,2,none⟩=some (.int .i64 s.sum)∧w'.cell? ⟨w.heap.size,3,none⟩=some (.int .i64 s.lvl)∧w'.cell? ⟨w.heap.size,4,none⟩=some (.bool s.fin)) (by kernel_rfl) (zac (hb.ext (xD H4))) (fun _=>?_)
 refine tkN 1 rfl ?_;refine tkN 3 rfl ?_
 refine ar1 0 rfl (fun K hK=>?_)
 go_simp
 refine (zmQ _).mono ?_
 rintro e w2 ⟨rfl,H7⟩;unfold zpF
 try (go_wp2_with fail)
 have H1:Ext (w.alloc (.cells #[.int .i64 s.idx,.int .i64 s.term,.int .i64 s.sum,.int .i64 s.lvl,.bool s.fin] 53)) w2:=xT (xD H4) H7
 refine shK hK _ _ (zac (hb.ext H1)) (fun _=>?_)
 refine tkN 2 rfl ?_
 refine ar1 4 rfl (fun K hK=>?_)
 go_simp
 refine (zrA s _ H.out (HT.out.ext (xT hX H1))).mono ?_
 exact mcPuta0
theorem ztM (s:Sta) (w:World) (h:s.ok=true) (hT:TabW rT w):Calls Tryz.prog 142 #[.agg #[.int .i64 s.idx,.int .i64 s.term,.int .i64 s.sum,.int .i64 s.lvl,.bool s.fin],.int .i64 2] w (zoZ w (zgm s)):=by
 have Kc:=ztf;have H:=zhd h;have HT:=zhd hT;clear h hT;have hb:=Blk.new w 53 #[.int .i64 s.idx,.int .i64 s.term,.int .i64 s.sum,.int .i64 s.lvl,.bool s.fin]
 have hX:Ext w (w.alloc (.cells #[.int .i64 s.idx,.int .i64 s.term,.int .i64 s.sum,.int .i64 s.lvl,.bool s.fin] 53)):=xA (xR _) _
 go_enter Tryz.func142,Tryz.ntmps142
 go_wp2_with fail
 refine (zcU s _).mono ?_
 rw[H.out];rintro e w1 ⟨rfl,H4⟩;go_wp2_with fail
 refine wp_region_held_drew (S:=fun w'=>w'.cell? ⟨w.heap.size,0,none⟩=some (.int .i64 s.idx)∧w'.cell? ⟨w.heap.size,1,none⟩=some (.int .i64 s.term)∧w'.cell? ⟨w.heap.size,2,none⟩=some (.int .i64 s.sum)∧w'.cell? ⟨w.heap.size,3,none⟩=some (.int .i64 s.lvl)∧w'.cell? ⟨w.heap.size,4,none⟩=some (.bool s.fin)) (by kernel_rfl) (zac (hb.ext (xD H4))) (fun _=>?_)
 refine tkN 1 rfl ?_;refine tkN 3 rfl ?_
 refine ar1 0 rfl (fun K hK=>?_)
 go_simp
 refine (zmQ _).mono ?_
 rintro e w2 ⟨rfl,H7⟩;unfold zpF
 try (go_wp2_with fail)
 have H1:Ext (w.alloc (.cells #[.int .i64 s.idx,.int .i64 s.term,.int .i64 s.sum,.int .i64 s.lvl,.bool s.fin] 53)) w2:=xT (xD H4) H7
 refine shK hK _ _ (zac (hb.ext H1)) (fun _=>?_)
 refine tkN 2 rfl ?_
 refine ar1 4 rfl (fun K hK=>?_)
 go_simp
 refine (zrB s _ H.out).mono ?_
 exact mcPuta0
open Go.RowKit Go.Mv Go.Shelf
attribute [local go_sem] Oper.semAt_some
def zdQ:Nat→List Int→List UInt8→Option (List Int)
 | 0,H2,_=>some H2
 | k+1,H2,b=>if (zau (b.take 5)).1=0 then zdQ k (H2++[((zau (b.take 5)).2.1:Int)]) (b.drop 5) else none
def zes (b:List UInt8):Option (List Int):=if b.length=22 then (zdQ 3 [] (b.drop 1)).map (·++[((b.getD 16 0).toNat:Int),((b.getD 17 0).toNat:Int)]) else none
def ziz (w:World) (r:Option (List Int)) (e:Ending) (w':World):Prop:=∃ v,e=.returned (.tuple #[v,.bool r.isSome])∧(∀ l,r=some l→w'.ownsRow w.heap.size 3 1 v l.length (l.map iv))∧Ext w w'
def zvc (X:Act→World→Prop):Exit→Act→World→Prop
 | .normal,a,w=>X a w
 | _,_,_=>False
theorem zjL (tmps:Array Value) (W:World) (v u:Value) (h4:tmps.getD 4 undef=v) (h5:tmps.getD 5 undef=u):(results Tryz.f141 tmps).run Tryz.prog W=.ok (.tuple #[v,u]) W:=by
 simp only[Array.getD_eq_getD_getElem?] at h4 h5
 simp[results,Tryz.results141,go_sem,h4,h5]
theorem zrF (v:Value) (bs:List UInt8) (f:Int) (hf:f≠2) (w:World) (Hf:Bs w v bs) (hl:bs.length≠22):Calls Tryz.prog 141 #[v,.int .i64 f] w (ziz w (zes bs)):=by
 obtain ⟨A,c,rfl,h1,h2⟩:=xO Hf
 have Hr:Hid (zes bs=none):=if_neg hl
 have e1:(f==2)=false:=by simpa using hf
 have e2:((bs.length:Int) != 22)=true:=by simp;omega
 refine (callsIn_wd (ro:=none) (n:=9)).1 ?_
 refine callsIn_of_wp_marks Tryz.func141 rfl trivial ?_ rfl
 simp only[Tryz.ntmps141,P5,xC,P8,Nat.reduceAdd,Nat.reduceSub,Pa,P9,P6,P4,xI,P7]
 gi_wp2
 refine zbl 0 (fun _ _=>False) (fun a _=>0) rfl (fun l' h=>by cases l' <;> first | exact absurd rfl h | rfl) ?_ ?_
 ·intro He
  clear He
  gi_wp2
  refine zat ?_
  refine zcF (.tuple #[.slice none 0 0,.bool false]) (by simp[results,Tryz.results141,go_sem]) ?_
  exact ⟨_,by rw[Hr.out];rfl,(fun l h=>by rw[Hr.out] at h;cases h),xA (xR _) _⟩
 ·rintro a W h
  exact h.elim
theorem zpH (v:Value) (bs:List UInt8) (f:Int) (hf:f≠2) (w:World) (Hf:Bs w v bs) (hl:bs.length=22):Calls Tryz.prog 141 #[v,.int .i64 f] w (ziz w (zes bs)):=by
 obtain ⟨A,c,rfl,h1,h2⟩:=xO Hf;obtain ⟨i0,hi,K0,K1,K2⟩:=info_parts zfL
 have Hr:Hid (zes bs=(zdQ 3 [] (bs.drop 1)).map (·++[((bs.getD 16 0).toNat:Int),((bs.getD 17 0).toNat:Int)])):=if_pos hl
 have e1:(f==2)=false:=by simpa using hf
 obtain ⟨_,b,HD,rfl,hc⟩:=Bs.at_ Hf (by omega);have Hc:=zhd hc;have K3:=zhd Hf;have Hl:=zhd hl
 have Kg:(bs.length:Int)=22:=by omega
 rw[hl] at h1 Hf;clear hc Hf
 refine (callsIn_wd (ro:=none) (n:=9)).1 ?_
 refine callsIn_of_wp_marks Tryz.func141 rfl trivial ?_ rfl
 simp only[Tryz.ntmps141,P5,xC,P8,Nat.reduceAdd,Nat.reduceSub,Pa,P9,P6,P4,xI,P7]
 gi_wp2
 try rw[hl]
 refine zbl 0 (fun _ _=>False) (fun a _=>0) rfl (fun l' h=>by cases l' <;> first | exact absurd rfl h | rfl) ?_ ?_
 ·intro He
  clear He hl Kg
  gi_wp2
  obtain ⟨R0,HH⟩:∃ r,zdQ 3 [] (bs.drop 1)=r:=⟨_,rfl⟩;rw[HH] at Hr
  gi_loopw [4,8] (fun vl i wr=>∃ (k:Nat) (H2:List Int),k≤3∧i=.int .i64 (1+5*k:Nat)∧H2.length=k∧Hid (R0=zdQ (3-k) H2 (bs.drop (1+5*k))) ∧
   wr.ownsRow w.heap.size 3 1 vl H2.length (H2.map iv)∧Ext w wr) (fun _ i _=>30-(intOf i).toNat)
  case atStart=>exact ⟨0,[],by omega,rfl,rfl,HH.symm,World.ownsRow_nil _ _ _ _,xA (xR _) _⟩
  case round =>
   obtain ⟨k,H2,hk,rfl,HI,HT,Hh,hE⟩:=hrel;obtain ⟨m,hm⟩:∃ m,1+5*k=m:=⟨_,rfl⟩;rw[hm] at HT;simp only[hm]
   by_cases hlt:k<3
   ·have Kp:wrap64 ((m:Int)+5)=((m+5:Nat):Int):=by unfold wrap64;omega
    have HM:((m:Int)<16):=by omega
    have hT:=HT.out
    rw[show 3-k=(3-k-1)+1 from by omega,zdQ] at hT
    obtain ⟨t,ht⟩:∃ t,(bs.drop m).take 5=t:=⟨_,rfl⟩
    have Kl:t.length=5:=by rw[←ht,List.length_take,List.length_drop,Hl.out];omega
    have K9:Bs w (.slice (some ⟨b,HD+m,none⟩) 5 (c-m)) t:=by
     have h:=zem K3.out m 5 (by rw[Hl.out];omega);rw[ht] at h
     have:=SlR.capd h (c':=c-m) (by rw[Kl];omega) (by omega)
     exact this
    have key:=zdw _ t wr (K9.ext hE) (by omega);rw[ht] at hT
    rcases hts:zau t with ⟨er,n,r2⟩
    rw[hts] at hT key
    simp only at hT
    by_cases her:er=0
    ·subst her
     simp only[if_true] at hT;have Hj:=zhd hT;have HF:=zhd key;have Hm:=zhd hm;clear hT HT key hts hm
     gi_wp2_with (first
      | (refine ⟨trivial,?_⟩;gi_at_call 167;refine (callsIn_wd.2 HF.out).mono ?_;rintro e w2 ⟨vr,rfl,-,H7⟩)
      | (gi_at_builtin;refine zbV _ rfl (.tmp 34) (.tmp 36) 96 rfl w.heap.size 3 i0 (.int .i64 0) 1 8 Tryz.underlying96 hi K0 K1 K2 rfl (by decide) _ H2.length (H2.map iv) rfl (zaf Hh (xA H7 _)) (.slice (some ⟨w2.heap.size,0,none⟩) 1 1) 1 [.int .i64 n] rfl (xW (zaV w2 [.int .i64 n] 3 1 rfl (by simp[maxLen]) (xN _))) (by simp[Value.oneCell']) (by unfold maxLen;omega) (by omega) (by have:=hE.size;have:=H7.size;simp;omega) ?_;intro v' w3 H8 Hb))
     have Hk:Ext w w3:=P2 (xA (xT hE H7) _) (zaf Hh (xA H7 _)) Hb
     refine ⟨⟨k+1,H2++[(n:Int)],by omega,?_,by simp;omega,?_,by simpa [iv] using H8,Hk⟩,by simp[intOf];omega⟩
     ·have:=Hm.out
      congr 1
      omega
     ·show _=_
      rw[Hj.out,List.drop_drop,show 3-(k+1)=3-k-1 from by omega,←Hm.out]
      congr 2
    ·have Ko:((er:Int) != 0)=true:=by simp[her]
     rw[if_neg her] at hT;have Hj:=zhd hT;have HF:=zhd key
     have Hn:Hid (zes bs=none):=by rw[Hid,Hr.out,Hj.out];rfl
     clear hT HT key hts hm
     gi_wp2_with (refine ⟨trivial,?_⟩;gi_at_call 167;refine (callsIn_wd.2 HF.out).mono ?_;rintro e w2 ⟨vr,rfl,-,H7⟩)
     refine zat ?_
     refine zcF (.tuple #[.slice none 0 0,.bool false]) (by simp[results,Tryz.results141,go_sem]) ?_
     exact ⟨_,by rw[Hn.out];rfl,(fun l h=>by rw[Hn.out] at h;cases h),xT hE H7⟩
   ·have Kf:k=3:=by omega
    subst Kf
    have HM:¬ ((m:Int)<16):=by omega
    have Hj:Hid (R0=some H2):=HT.out
    clear HT
    gi_wp2
    obtain ⟨x,hx⟩:∃ x,bs.getD 16 0=x:=⟨_,rfl⟩;obtain ⟨y,hy⟩:∃ y,bs.getD 17 0=y:=⟨_,rfl⟩
    have HJ:w.cell? ⟨b,HD+16,none⟩=some (.int .u8 (x.toNat:Int)):=by
     rw[Hc.out 16 (by rw[Hl.out];omega),←hx]
     simp[P3,Hl.out]
    have HK:w.cell? ⟨b,HD+17,none⟩=some (.int .u8 (y.toNat:Int)):=by
     rw[Hc.out 17 (by rw[Hl.out];omega),←hy]
     simp[P3,Hl.out]
    have Ks:Pc.wrap (x.toNat:Int)=(x.toNat:Int):=by
     have:=x.toNat_lt
     rw[Pb];omega
    have Kt:Pc.wrap (y.toNat:Int)=(y.toNat:Int):=by
     have:=y.toNat_lt
     rw[Pb];omega
    have HV:Hid (zes bs=some (H2++[(x.toNat:Int),(y.toNat:Int)])):=by rw[Hid,Hr.out,Hj.out,hx,hy];rfl
    clear hx hy Hr Hj HH
    refine (wpIn_wide (n:=9)).2 (wp_mono (Q:=zvc fun a' W=>a'.defers=[]∧∃ v',a'.tmps.getD 4 undef=v'∧a'.tmps.getD 5 undef=.bool true∧W.ownsRow w.heap.size 3 1 v' (H2.length+2) (H2.map iv++[.int .i64 x.toNat,.int .i64 y.toNat])∧Ext w W) ?_ ?_)
    ·refine wp_region_held_drew (S:=fun w'=>w'.cell? ⟨b,HD+16,none⟩=some (.int .u8 (x.toNat:Int))∧w'.cell? ⟨b,HD+17,none⟩=some (.int .u8 (y.toNat:Int))) (by kernel_rfl) ⟨P1 (xD hE) HJ,P1 (xD hE) HK⟩ (fun _=>?_)
     refine tkN 0 rfl ?_;refine tkN 1 rfl ?_;refine tkN 2 rfl ?_;refine tkN 3 rfl ?_;refine tkN 4 rfl ?_;refine tkN 5 rfl ?_;refine tkN 6 rfl ?_;refine tkN 7 rfl ?_;refine tkN 8 rfl ?_
     refine ar1 9 rfl (fun K hK=>?_)
     go_simp
     refine shK hK _ _ ⟨P1 (xA (xD hE) _) HJ,P1 (xA (xD hE) _) HK⟩ (fun _=>?_)
     have HW:Ext w (wr.alloc (.cells #[.int .i64 x.toNat,.int .i64 y.toNat] 3)).drew:=xD (xA hE _)
     have Kd:(wr.alloc (.cells #[.int .i64 x.toNat,.int .i64 y.toNat] 3)).drew.heap[wr.heap.size]?=some (.cells #[.int .i64 x.toNat,.int .i64 y.toNat] 3):=heap_alloc_new wr _
     have HY:(wr.alloc (.cells #[.int .i64 x.toNat,.int .i64 y.toNat] 3)).drew.ownsRow w.heap.size 3 1 u4 H2.length (H2.map iv):=zaf Hh (xD (xA (xR _) _))
     refine ar1 10 rfl (fun K hK=>?_)
     refine wp_append_lies _ (.tmp 38) (.tmp 47) 96 (by rfl) w.heap.size 3 i0 (.int .i64 0) 1 8 Tryz.underlying96 hi K0 K1 K2 rfl (by decide) _ H2.length (H2.map iv) (by rfl) HY ⟨wr.heap.size,0,none⟩ 2 2 [.int .i64 x.toNat,.int .i64 y.toNat] (by rfl) rfl (World.news_of_block Kd) (by simp[Value.oneCell']) (by omega) (by unfold maxLen;omega) (by omega) HW.size _ rfl ?_
     intro g' Kn w5 H8 Hb _ _
     have Hw:Ext w w5:=P2 HW HY Hb
     refine shK hK _ _ ⟨P1 Hw HJ,P1 Hw HK⟩ (fun _=>?_)
     refine tkN 11 rfl ?_;refine tkN 12 rfl ?_;refine wpAnyH_done (by kernel_rfl) ?_ _
     refine ⟨rfl,_,rfl,rfl,?_,Hw⟩
     rw[HI] at H8 ⊢
     exact H8
    ·rintro e a' W h
     cases e <;> first | exact h.elim | skip
     obtain ⟨tm,df⟩:=a';obtain ⟨hd,v',h4,h5,ho,Hw⟩:=h
     cases hd
     simp only[Exit.then]
     gi_wp2
     refine zat ?_
     refine zcF (.tuple #[v',.bool true]) (zjL _ _ _ _ h4 h5) ?_
     refine ⟨_,by rw[HV.out];rfl,(fun l h=>?_),Hw⟩
     rw[HV.out] at h
     cases h
     simpa [iv] using ho
 ·rintro a W h
  exact h.elim
theorem zrE (v:Value) (bs:List UInt8) (f:Int) (hf:f≠2) (w:World) (Hf:Bs w v bs):Calls Tryz.prog 141 #[v,.int .i64 f] w (ziz w (zes bs)):=by
 by_cases h:bs.length=22
 ·exact zpH v bs f hf w Hf h
 ·exact zrF v bs f hf w Hf h
end Go.Proofs.YtgonhdeochgkoaaGreatDoor
