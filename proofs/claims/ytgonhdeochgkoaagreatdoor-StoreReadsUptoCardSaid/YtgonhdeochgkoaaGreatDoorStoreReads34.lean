/- Merged: R4b R4c R4d -/
import Derived.Test.YtgonhdeochgkoaaGreatDoorStoreReads33
set_option linter.all false
set_option maxHeartbeats 8000000
set_option maxRecDepth 100000
namespace Go.Proofs.YtgonhdeochgkoaaGreatDoor
open Go.RowKit Go.Mv Go.Shelf
theorem mcR4b0 {P:Prop} (h:P:=by
 refine ar1 7 rfl (fun K hK=>?_)
 refine zba (.tmp 32) (.tmp 34) rfl wr hEc _ l.length _ rfl hoc _ 1 _ [(n,b)] rfl hs (FRow.one' (HB.out.ext (Ext.trans HE2.out HEr.out))) (by omega) ?_
 intro A5 c5 w5 ho5 hE5 _
 refine shK hK _ _ (HOLD.out _ hE5) (fun _=>?_)
 refine ar1 11 rfl (fun K hK=>?_)
 refine zba (.tmp 35) (.tmp 38) rfl wr hE5 _ (l.length+1) _ rfl ho5 _ 0 [] [] rfl (zsd _ _ _ (by unfold maxLen;omega)) (zbR wr) (by omega) ?_
 intro A6 c6 w6 ho6 hE6 _
 refine shK hK _ _ (HOLD.out _ hE6) (fun _=>?_)
 refine tkN 12 rfl ?_
 refine wpAnyH_done (by kernel_rfl) ?_ _
 have hfr:=FRow.append (FRow.append (FRow.append (zbR wr) R1.out) (FRow.one' (n1:=n) (HB.out.ext (Ext.trans HE2.out HEr.out)))) (zbR wr)
 simp only[List.nil_append,List.append_assoc,List.singleton_append,List.append_nil] at hfr
 simp only[Nat.zero_add,Nat.add_zero,List.nil_append,List.append_assoc,List.append_nil] at ho6
 have hln:l.length+1=(l.take l.length++[(n,b)]).length:=by rw[List.length_append,List.take_length];rfl
 have hfi:=zct ho6 hfr hln hE6
 rw[←show zcE (n,b) l=l.take l.length++[(n,b)] by rw[Hi2.out,List.drop_length]] at hfi
 have HFI:=zhd hfi
 have HE6:=zhd hE6
 clear hfr ho6 hln hE6 hfi
 go_wp2_with fail
 all_goals go_ret
 all_goals exact ⟨⟨_,rfl,HFI.out⟩,Ext.trans HE2.out (Ext.trans HEr.out HE6.out)⟩):P:=h
theorem mcR4b1 {P:Prop} (h:P:=by
 refine ar1 7 rfl (fun K hK=>?_)
 refine zba (.tmp 32) (.tmp 34) rfl wr hEc _ j _ rfl hoc _ 1 _ [(n,b)] rfl hs (FRow.one' (HB.out.ext (Ext.trans HE2.out HEr.out))) (by omega) ?_
 intro A5 c5 w5 ho5 hE5 _
 refine shK hK _ _ (HOLD.out _ hE5) (fun _=>?_)
 refine ar1 11 rfl (fun K hK=>?_)
 refine zba (.tmp 35) (.tmp 38) rfl wr hE5 _ (j+1) _ rfl ho5 _ (l.length-j) _ _ rfl ((zfP HX1.out j hj).ext hE5) R2.out (by omega) ?_
 intro A6 c6 w6 ho6 hE6 _
 refine shK hK _ _ (HOLD.out _ hE6) (fun _=>?_)
 refine tkN 12 rfl ?_
 refine wpAnyH_done (by kernel_rfl) ?_ _
 have hfr:=FRow.append (FRow.append (FRow.append (zbR wr) R1.out) (FRow.one' (n1:=n) (HB.out.ext (Ext.trans HE2.out HEr.out)))) R2.out
 simp only[List.nil_append,List.append_assoc,List.singleton_append,List.append_nil] at hfr
 simp only[Nat.zero_add,Nat.add_zero,List.nil_append,List.append_assoc,List.append_nil] at ho6
 have hln:j+1+(l.length-j)=(l.take j++(n,b)::l.drop j).length:=by
  rw[List.length_append,List.length_cons,List.length_take,List.length_drop,Nat.min_eq_left (by omega)];omega
 have hfi:=zct ho6 hfr hln hE6
 rw[←Hi2.out] at hfi
 have HFI:=zhd hfi
 have HE6:=zhd hE6
 clear hfr ho6 hln hE6 hfi
 go_wp2_with fail
 all_goals go_ret
 all_goals exact ⟨⟨_,rfl,HFI.out⟩,Ext.trans HE2.out (Ext.trans HEr.out HE6.out)⟩):P:=h
theorem zhN (n:List UInt8):∀ l:List Fil,zg9 l (zbo l n)=za7 n l
 | []=>rfl
 | p::l=>by
  have ih:=zhN n l
  unfold zbo at ih ⊢
  rw[List.findIdx?_cons,za7]
  by_cases h:p.1=n
  ·rw[if_pos (by simpa using h),if_pos h]
   rfl
  ·rw[if_neg (by simpa using h),if_neg h,←ih]
   cases hf:l.findIdx? (fun f=>f.1==n) with
   | none=>rfl
   | some i =>
    unfold zg9
    simp only[Option.map_some]
    rw[if_neg (by omega),if_neg (by omega)]
    rfl
theorem zix (n:List UInt8) (l:List Fil):-1≤zbo l n∧zbo l n<l.length:=by
 unfold zbo
 cases hf:l.findIdx? (fun f=>f.1==n) with
 | none=>exact ⟨Int.le_refl _,by show (-1:Int)<_;omega⟩
 | some i =>
  have:=(List.findIdx?_eq_some_iff_getElem.1 hf).1
  exact ⟨by dsimp only;omega,by dsimp only;omega⟩
theorem zlJ (p:Fil):∀ (l:List Fil) (j:Nat),j≤l.length→(∀ q (_:q<j) (h:q<l.length),ltB l[q].1 p.1=true)→(∀ h:j<l.length,ltB l[j].1 p.1=false)→zcE p l=l.take j++p::l.drop j
 | [],j,hj,_,_=>by
  obtain rfl:j=0:=by simpa using hj
  rfl
 | q::l,0,_,_,h2=>by
  have:=h2 (by simp)
  rw[zcE,if_neg (by simpa using this)]
  rfl
 | q::l,j+1,hj,h1,h2=>by
  have h0:ltB q.1 p.1=true:=h1 0 (by omega) (by simp)
  rw[zcE,if_pos h0,zlJ p l j (by simpa using hj) (fun i hi h=>h1 (i+1) (by omega) (by simpa using h)) (fun h=>h2 (by simpa using h))]
  rfl
theorem zsd (w:World) (X:Option Addr) (c:Nat) (h:c≤maxLen):SlR w 2 (.slice X 0 c) 0 []:=⟨rfl,X,c,rfl,by omega,h,fun hn=>by omega⟩
theorem zc6 {W:World} {b:Nat} {t:TypeId} {a v:Value} (h:Blk W b t #[a,v]):SlR W 2 (.slice (some ⟨b,0,none⟩) 1 1) 1 [a,v]:=by
 refine ⟨rfl,_,1,rfl,Nat.le_refl _,by simp[maxLen],fun _=>⟨b,0,rfl,fun j u hu=>?_⟩⟩
 rw[Nat.zero_add]
 match j,hu with
 | 0,hu=>cases hu;exact h.cell 0 rfl
 | 1,hu=>cases hu;exact h.cell 1 rfl
 | j+2,hu=>cases hu
theorem zgc {W:World} {b:Nat} {t:TypeId} {a v:Value} (h:Blk W b t #[a,v]):W.cell? ⟨b,0,none⟩=some a∧W.cell? ⟨b,1,none⟩=some v:=⟨h.cell 0 rfl,h.cell 1 rfl⟩
theorem zfQ (v:Value) (fs:List Fil) (n b:List UInt8) (vb:Value) (w:World) (hF:Fs w v fs) (hB:Bs w vb b) (hl:fs.length≤1000000):Calls Tryz.prog 95 #[v,.agg #[sv n,vb]] w fun e w'=>(∃ v',e=.returned v'∧Fs w' v' (withS fs (n,b)))∧Ext w w':=by
 obtain ⟨A,c,rfl,h1,h2⟩:=Fs.open_ hF
 obtain ⟨Ab,cb,rfl,_,_⟩:=SlR.open_ hB
 unfold sv
 have hX:Ext w (w.alloc (.cells #[.string ⟨n.toArray⟩,.slice Ab b.length cb] 51)):=Ext.alloc (Ext.refl _) _
 have hf:=Blk.new w 51 #[.string ⟨n.toArray⟩,.slice Ab b.length cb]
 obtain ⟨f0,f1⟩:=zgc hf
 obtain ⟨pr0,pr1⟩:=zix n fs
 have key:=zhB (.slice A fs.length c) fs n _ (hF.ext hX) (by omega)
 have key2:=fun W (h:Ext w W)=>zfE (.slice A fs.length c) fs (zbo fs n) W (hF.ext h) hl ⟨pr0,pr1⟩
 rw[zhN] at key2
 have hll:(za7 n fs).length≤fs.length:=(zce n fs).length_le
 have hws:withS fs (n,b)=zcE (n,b) (za7 n fs):=rfl
 rw[hws]
 generalize za7 n fs=l at *
 generalize zbo fs n=pl at *
 have Key:=zhd key
 have Key2:=zhd key2
 have HX:=zhd hX
 have Hf:=zhd hf
 have HB:=zhd hB
 clear key key2 hX hf hB hF hws
 unfold sv at Key
 go_enter Tryz.func95,Tryz.ntmps95
 go_wp2_with fail
 refine Key.out.mono ?_
 rintro e w1 ⟨rfl,rfl⟩
 go_wp2_with fail
 refine (Key2.out _ HX.out).mono ?_
 rintro e w2 ⟨⟨v2,rfl,hF2⟩,hE2⟩
 obtain ⟨A2,c2,rfl,hc2,hc3⟩:=Fs.open_ hF2
 have HF2:=zhd hF2
 have HE2:=zhd (Ext.trans HX.out hE2)
 have Hf2:=zhd (Hf.out.ext hE2)
 clear f0 f1 hF2 hE2
 obtain ⟨f0,f1⟩:=zgc Hf2.out
 go_wp2_with fail
 go_loopw [5] (fun i wr=>∃ j:Nat,j≤l.length∧i=.int .i64 j∧Hid (∀ q (_:q<j) (h2:q<l.length),ltB l[q].1 n=true)∧Hid (Ext w2 wr)) (fun i _=>l.length-(intOf i).toNat)
 case atStart=>exact ⟨0,by omega,rfl,fun q hq=>by omega,Ext.refl _⟩
 case round =>
  clear f0 f1
  obtain ⟨j,hj,rfl,Hn,HEr⟩:=hrel
  obtain ⟨f0,f1⟩:=zgc (Hf2.out.ext HEr.out)
  by_cases hlt:j<l.length
  ·obtain ⟨_,b1,off,rfl,hc⟩:=(HF2.out.ext HEr.out).at_ (by omega)
   obtain ⟨hc0,_⟩:=hc j hlt
   have hq:ltB l[j].1 n=true→∀ q (_:q<j+1) (h2:q<l.length),ltB l[q].1 n=true:=fun h q h3 h2=>by
    by_cases e:q=j
    ·subst e;exact h
    ·exact Hn.out q (by omega) h2
   have hi:ltB l[j].1 n=false→zcE (n,b) l=l.take j++(n,b)::l.drop j:=fun h=>zlJ _ _ _ hj Hn.out (fun _=>h)
   have Hq:=zhd hq
   have Hi:=zhd hi
   clear hc hq hi
   generalize l[j].1=x at *
   simp only[sv] at hc0
   have hjz:(j:Int)<(l.length:Int):=by omega
   cases hx:ltB x n with
   | true =>
    have Hq2:=zhd (Hq.out hx)
    go_wp2_with fail
    refine wp_region_held_drew (S:=fun W=>W.cell? ⟨b1,off+j*2,none⟩=some (.string ⟨x.toArray⟩)∧W.cell? ⟨w.heap.size,0,none⟩=some (.string ⟨n.toArray⟩)) (by kernel_rfl) ⟨hc0,f0⟩ (fun _=>?_)
    clear hc0 f0 f1
    refine tkN 0 rfl ?_
    refine tkN 1 rfl ?_
    refine tkN 2 rfl ?_
    refine tkN 3 rfl ?_
    refine tkN 4 rfl ?_
    refine tkN 5 rfl ?_
    refine tkN 6 rfl ?_
    refine tkN 7 rfl ?_
    refine tkN 8 rfl ?_
    refine tkN 9 rfl ?_
    refine tkN 10 rfl ?_
    refine tkN 11 rfl ?_
    refine tkN 12 rfl ?_
    refine tkN 13 rfl ?_
    refine wpAnyH_done (by kernel_rfl) ?_ _
    go_wp2_with fail
    go_roundw
    case rel=>exact ⟨j+1,by omega,by go_num,Hq2,Ext.drew HEr.out⟩
    case measure=>simp[intOf];omega
   | false =>
    have Hi2:=zhd (Hi.out hx)
    go_wp2_with fail
    refine wp_region_held_drew (S:=fun W=>W.cell? ⟨b1,off+j*2,none⟩=some (.string ⟨x.toArray⟩)∧W.cell? ⟨w.heap.size,0,none⟩=some (.string ⟨n.toArray⟩)) (by kernel_rfl) ⟨hc0,f0⟩ (fun _=>?_)
    clear hc0
    refine tkN 0 rfl ?_
    refine tkN 1 rfl ?_
    refine tkN 2 rfl ?_
    refine tkN 3 rfl ?_
    refine tkN 4 rfl ?_
    refine tkN 5 rfl ?_
    refine tkN 6 rfl ?_
    refine tkN 7 rfl ?_
    refine tkN 8 rfl ?_
    refine tkN 9 rfl ?_
    refine tkN 10 rfl ?_
    refine tkN 11 rfl ?_
    refine tkN 12 rfl ?_
    refine tkN 13 rfl ?_
    refine wpAnyH_done (by kernel_rfl) ?_ _
    clear hx hjz
    go_wp2_with fail
    obtain ⟨xs,hx1,hx2⟩:=HF2.out.ext HEr.out
    have hrw:FRow wr xs l:=⟨hx1.1,hx2⟩
    have R1:=zhd (zhI hrw j hj)
    have R2:=zhd (zhH hrw j hj)
    have S1:=zhd (zhU hx1 j hj)
    have HX1:=zhd hx1
    have hjc:j≤c2:=by omega
    have hold:∀ X,Ext wr X→X.cell? ⟨w.heap.size,0,none⟩=some (.string ⟨n.toArray⟩)∧X.cell? ⟨w.heap.size,1,none⟩=some (.slice Ab b.length cb):=fun X h=>zgc ((Hf2.out.ext HEr.out).ext h)
    have HOLD:=zhd hold
    clear hrw hx1 hx2 hold
    refine wp_region_held_drew (S:=fun W=>W.cell? ⟨w.heap.size,0,none⟩=some (.string ⟨n.toArray⟩)∧W.cell? ⟨w.heap.size,1,none⟩=some (.slice Ab b.length cb)) (by kernel_rfl) (HOLD.out _ (Ext.drew (Ext.drew (Ext.refl _)))) (fun _=>?_)
    refine tkN 1 rfl ?_
    refine tkN 2 rfl ?_
    refine tkN 3 rfl ?_
    refine tkN 5 rfl ?_
    refine tkN 8 rfl ?_
    refine tkN 9 rfl ?_
    refine tkN 10 rfl ?_
    refine AllReadyH.two (i:=0) (j:=6) rfl rfl (by kernel_rfl) (by rfl) (by rfl) (fun K hK=>?_) (fun K hK=>?_)
    ·go_simp
     have hEa:Ext wr (wr.alloc (.cells #[] 51)).drew.drew:=Ext.drew (Ext.drew (Ext.alloc (Ext.refl _) _))
     have hoa:=zae (zfw wr [] 0 rfl (by simp[maxLen]) (Nat.le_refl _)) (Ext.drew (Ext.drew (Ext.refl (wr.alloc (.cells #[] 51)))))
     refine shK hK _ _ (HOLD.out _ hEa) (fun _=>?_)
     refine AllReadyH.two (i:=4) (j:=6) rfl rfl (by kernel_rfl) (by rfl) (by rfl) (fun K hK=>?_) (fun K hK=>?_)
     ·refine zba (.tmp 28) (.tmp 31) rfl wr hEa (.slice (some ⟨wr.heap.size,0,none⟩) 0 0) 0 [] rfl hoa _ j _ _ rfl (S1.out.ext hEa) R1.out (by omega) ?_
      intro A3 c3 w3 ho3 hE3 hg3
      rw[Nat.zero_add] at ho3 ⊢
      refine shK hK _ _ (HOLD.out _ hE3) (fun _=>?_)
      refine ar1 6 rfl (fun K hK=>?_)
      go_simp
      have hEb:Ext w3 (w3.alloc (.cells #[.string ⟨n.toArray⟩,.slice Ab b.length cb] 51)):=Ext.alloc (Ext.refl _) _
      have hEc:=Ext.trans hE3 hEb
      have hoc:=zae ho3 hEb
      have hs:=zc6 (Blk.new w3 51 #[.string ⟨n.toArray⟩,.slice Ab b.length cb])
      refine shK hK _ _ (HOLD.out _ hEc) (fun _=>?_)
      exact mcR4b1
     ·go_simp
      have hEb:Ext (wr.alloc (.cells #[] 51)).drew.drew ((wr.alloc (.cells #[] 51)).alloc (.cells #[.string ⟨n.toArray⟩,.slice Ab b.length cb] 51)).drew.drew:=Ext.alloc (Ext.refl _) _
      have hs0:=(Blk.new (wr.alloc (.cells #[] 51)) 51 #[.string ⟨n.toArray⟩,.slice Ab b.length cb]).ext (Ext.drew (Ext.drew (Ext.refl _)))
      rw[World.size_alloc] at hs0
      have hoa:=zae hoa hEb
      have hEa:=Ext.trans hEa hEb
      refine shK hK _ _ (HOLD.out _ hEa) (fun _=>?_)
      refine ar1 4 rfl (fun K hK=>?_)
      refine zba (.tmp 28) (.tmp 31) rfl wr hEa (.slice (some ⟨wr.heap.size,0,none⟩) 0 0) 0 [] rfl hoa _ j _ _ rfl (S1.out.ext hEa) R1.out (by omega) ?_
      intro A3 c3 w3 ho3 hE3 hg3
      rw[Nat.zero_add] at ho3 ⊢
      refine shK hK _ _ (HOLD.out _ hE3) (fun _=>?_)
      have hs:=zc6 (hs0.kept hg3 (by simp[Value.ownBlock]))
      have hEc:=hE3
      have hoc:=ho3
      exact mcR4b1
    ·go_simp
     have hEb:Ext wr (wr.alloc (.cells #[.string ⟨n.toArray⟩,.slice Ab b.length cb] 51)).drew.drew:=Ext.drew (Ext.drew (Ext.alloc (Ext.refl _) _))
     refine shK hK _ _ (HOLD.out _ hEb) (fun _=>?_)
     refine ar1 0 rfl (fun K hK=>?_)
     go_simp
     have hEa:Ext wr ((wr.alloc (.cells #[.string ⟨n.toArray⟩,.slice Ab b.length cb] 51)).alloc (.cells #[] 51)).drew.drew:=Ext.drew (Ext.drew (Ext.alloc (Ext.alloc (Ext.refl _) _) _))
     have hs0:=((Blk.new wr 51 #[.string ⟨n.toArray⟩,.slice Ab b.length cb]).alloc (.cells #[] 51)).ext (Ext.drew (Ext.drew (Ext.refl _)))
     have hoa:=zae (zfw (wr.alloc (.cells #[.string ⟨n.toArray⟩,.slice Ab b.length cb] 51)) [] 0 rfl (by simp[maxLen]) (show wr.heap.size≤_ by rw[World.size_alloc];omega)) (Ext.drew (Ext.drew (Ext.refl ((wr.alloc (.cells #[.string ⟨n.toArray⟩,.slice Ab b.length cb] 51)).alloc (.cells #[] 51)))))
     rw[World.size_alloc] at hoa
     refine shK hK _ _ (HOLD.out _ hEa) (fun _=>?_)
     refine ar1 4 rfl (fun K hK=>?_)
     refine zba (.tmp 28) (.tmp 31) rfl wr hEa (.slice (some ⟨wr.heap.size+1,0,none⟩) 0 0) 0 [] rfl hoa _ j _ _ rfl (S1.out.ext hEa) R1.out (by omega) ?_
     intro A3 c3 w3 ho3 hE3 hg3
     rw[Nat.zero_add] at ho3 ⊢
     refine shK hK _ _ (HOLD.out _ hE3) (fun _=>?_)
     have hs:=zc6 (hs0.kept hg3 (by simp[Value.ownBlock]))
     have hEc:=hE3
     have hoc:=ho3
     exact mcR4b1
  ·obtain rfl:j=l.length:=by omega
   have Hi2:=zhd (zlJ (n,b) l l.length (Nat.le_refl _) Hn.out (fun h=>by omega))
   go_wp2_with fail
   refine wp_region_held_drew (S:=fun _=>True) (by kernel_rfl) trivial (fun _=>?_)
   refine tkN 0 rfl ?_
   refine tkN 1 rfl ?_
   refine tkN 2 rfl ?_
   refine tkN 3 rfl ?_
   refine tkN 4 rfl ?_
   refine tkS 5 rfl ?_
   refine tkS 6 rfl ?_
   refine tkS 7 rfl ?_
   refine tkS 8 rfl ?_
   refine tkS 9 rfl ?_
   refine tkS 10 rfl ?_
   refine tkS 11 rfl ?_
   refine tkS 12 rfl ?_
   refine tkN 13 rfl ?_
   refine wpAnyH_done (by kernel_rfl) ?_ _
   go_wp2_with fail
   obtain ⟨xs,hx1,hx2⟩:=HF2.out.ext HEr.out
   have hrw:FRow wr xs l:=⟨hx1.1,hx2⟩
   have R1:=zhd (zhI hrw l.length hj)
   have R2:=zhd (zhH hrw l.length hj)
   have S1:=zhd (zhU hx1 l.length hj)
   have HX1:=zhd hx1
   have hjc:l.length≤c2:=by omega
   have hold:∀ X,Ext wr X→X.cell? ⟨w.heap.size,0,none⟩=some (.string ⟨n.toArray⟩)∧X.cell? ⟨w.heap.size,1,none⟩=some (.slice Ab b.length cb):=fun X h=>zgc ((Hf2.out.ext HEr.out).ext h)
   have HOLD:=zhd hold
   clear hrw hx1 hx2 hold
   refine wp_region_held_drew (S:=fun W=>W.cell? ⟨w.heap.size,0,none⟩=some (.string ⟨n.toArray⟩)∧W.cell? ⟨w.heap.size,1,none⟩=some (.slice Ab b.length cb)) (by kernel_rfl) (HOLD.out _ (Ext.drew (Ext.drew (Ext.refl _)))) (fun _=>?_)
   refine tkN 1 rfl ?_
   refine tkN 2 rfl ?_
   refine tkN 3 rfl ?_
   refine tkN 5 rfl ?_
   refine tkN 8 rfl ?_
   refine tkN 9 rfl ?_
   refine tkN 10 rfl ?_
   refine AllReadyH.two (i:=0) (j:=6) rfl rfl (by kernel_rfl) (by rfl) (by rfl) (fun K hK=>?_) (fun K hK=>?_)
   ·go_simp
    have hEa:Ext wr (wr.alloc (.cells #[] 51)).drew.drew:=Ext.drew (Ext.drew (Ext.alloc (Ext.refl _) _))
    have hoa:=zae (zfw wr [] 0 rfl (by simp[maxLen]) (Nat.le_refl _)) (Ext.drew (Ext.drew (Ext.refl (wr.alloc (.cells #[] 51)))))
    refine shK hK _ _ (HOLD.out _ hEa) (fun _=>?_)
    refine AllReadyH.two (i:=4) (j:=6) rfl rfl (by kernel_rfl) (by rfl) (by rfl) (fun K hK=>?_) (fun K hK=>?_)
    ·refine zba (.tmp 28) (.tmp 31) rfl wr hEa (.slice (some ⟨wr.heap.size,0,none⟩) 0 0) 0 [] rfl hoa _ l.length _ _ rfl (S1.out.ext hEa) R1.out (by omega) ?_
     intro A3 c3 w3 ho3 hE3 hg3
     rw[Nat.zero_add] at ho3 ⊢
     refine shK hK _ _ (HOLD.out _ hE3) (fun _=>?_)
     refine ar1 6 rfl (fun K hK=>?_)
     go_simp
     have hEb:Ext w3 (w3.alloc (.cells #[.string ⟨n.toArray⟩,.slice Ab b.length cb] 51)):=Ext.alloc (Ext.refl _) _
     have hEc:=Ext.trans hE3 hEb
     have hoc:=zae ho3 hEb
     have hs:=zc6 (Blk.new w3 51 #[.string ⟨n.toArray⟩,.slice Ab b.length cb])
     refine shK hK _ _ (HOLD.out _ hEc) (fun _=>?_)
     exact mcR4b0
    ·go_simp
     have hEb:Ext (wr.alloc (.cells #[] 51)).drew.drew ((wr.alloc (.cells #[] 51)).alloc (.cells #[.string ⟨n.toArray⟩,.slice Ab b.length cb] 51)).drew.drew:=Ext.alloc (Ext.refl _) _
     have hs0:=(Blk.new (wr.alloc (.cells #[] 51)) 51 #[.string ⟨n.toArray⟩,.slice Ab b.length cb]).ext (Ext.drew (Ext.drew (Ext.refl _)))
     rw[World.size_alloc] at hs0
     have hoa:=zae hoa hEb
     have hEa:=Ext.trans hEa hEb
     refine shK hK _ _ (HOLD.out _ hEa) (fun _=>?_)
     refine ar1 4 rfl (fun K hK=>?_)
     refine zba (.tmp 28) (.tmp 31) rfl wr hEa (.slice (some ⟨wr.heap.size,0,none⟩) 0 0) 0 [] rfl hoa _ l.length _ _ rfl (S1.out.ext hEa) R1.out (by omega) ?_
     intro A3 c3 w3 ho3 hE3 hg3
     rw[Nat.zero_add] at ho3 ⊢
     refine shK hK _ _ (HOLD.out _ hE3) (fun _=>?_)
     have hs:=zc6 (hs0.kept hg3 (by simp[Value.ownBlock]))
     have hEc:=hE3
     have hoc:=ho3
     exact mcR4b0
   ·go_simp
    have hEb:Ext wr (wr.alloc (.cells #[.string ⟨n.toArray⟩,.slice Ab b.length cb] 51)).drew.drew:=Ext.drew (Ext.drew (Ext.alloc (Ext.refl _) _))
    refine shK hK _ _ (HOLD.out _ hEb) (fun _=>?_)
    refine ar1 0 rfl (fun K hK=>?_)
    go_simp
    have hEa:Ext wr ((wr.alloc (.cells #[.string ⟨n.toArray⟩,.slice Ab b.length cb] 51)).alloc (.cells #[] 51)).drew.drew:=Ext.drew (Ext.drew (Ext.alloc (Ext.alloc (Ext.refl _) _) _))
    have hs0:=((Blk.new wr 51 #[.string ⟨n.toArray⟩,.slice Ab b.length cb]).alloc (.cells #[] 51)).ext (Ext.drew (Ext.drew (Ext.refl _)))
    have hoa:=zae (zfw (wr.alloc (.cells #[.string ⟨n.toArray⟩,.slice Ab b.length cb] 51)) [] 0 rfl (by simp[maxLen]) (show wr.heap.size≤_ by rw[World.size_alloc];omega)) (Ext.drew (Ext.drew (Ext.refl ((wr.alloc (.cells #[.string ⟨n.toArray⟩,.slice Ab b.length cb] 51)).alloc (.cells #[] 51)))))
    rw[World.size_alloc] at hoa
    refine shK hK _ _ (HOLD.out _ hEa) (fun _=>?_)
    refine ar1 4 rfl (fun K hK=>?_)
    refine zba (.tmp 28) (.tmp 31) rfl wr hEa (.slice (some ⟨wr.heap.size+1,0,none⟩) 0 0) 0 [] rfl hoa _ l.length _ _ rfl (S1.out.ext hEa) R1.out (by omega) ?_
    intro A3 c3 w3 ho3 hE3 hg3
    rw[Nat.zero_add] at ho3 ⊢
    refine shK hK _ _ (HOLD.out _ hE3) (fun _=>?_)
    have hs:=zc6 (hs0.kept hg3 (by simp[Value.ownBlock]))
    have hEc:=hE3
    have hoc:=ho3
    exact mcR4b0
theorem zh0 {o:Oper} {a:Act} {w:World} {K:Act→World→Prop} {Q:Exit→Act→World→Prop} (s x:Operand)
  (ho:o.op=.call { callee:=.builtin .append,args:=#[s,x],argTypes:=#[38,38] })
  (base:Nat) (v:Value) (bs:List UInt8) (hs:a.eval s=v) (hown:OwnB w base v bs) (vx:Value) (cs:List UInt8) (hx:a.eval x=vx) (hr:Bs w vx cs) (hlen:bs.length+cs.length≤4000000) (hbase:base≤w.heap.size)
  (h:∀ A c w',OwnB w' base (.slice A (bs.length+cs.length) c) (bs++cs)→zey base w w'→K (a.put o.dst (.slice A (bs.length+cs.length) c)) w'):Oper.wp Tryz.prog o a w K Q:=by
 obtain ⟨i0,hi,hz0,hz1,hz2⟩:=info_parts zcc
 obtain ⟨v',w',hrun,h1,h2⟩:=zaT (P:=Tryz.prog) w base 38 o.type 5 i0 _ 1 1 Tryz.underlying38 hi hz0 hz1 hz2 rfl (by decide) v bs.length (bs.map bv) hown vx cs.length (cs.map bv) hr (zdn _) (by unfold maxLen;omega) (by omega) hbase
 unfold Oper.wp execOp
 simp only[ho,resolve,invoke,builtin,Sem.run_bind,Sem.run_pure,Result.andThen_ok,List.map_toArray,List.map_cons,List.map_nil,hs,hx,hrun]
 obtain ⟨A,c,rfl,_,_⟩:=SlR.open_ (SlR.of_own h1)
 refine h A c w' ?_ (fun W0 hE hb=>Ext.grownOwn hE (zah hown hb) h2)
 unfold OwnB
 rw[List.length_append,List.map_append]
 exact h1
theorem place_get {n:List UInt8}:∀ {l:List Fil},(zbo l n<0∧zai n l=none)∨∃ (i:Nat) (h:i<l.length),zbo l n=i∧zai n l=some l[i].2
 | []=>.inl ⟨by show (-1:Int)<0;omega,rfl⟩
 | p::l=>by
  have ih:=@place_get n l
  unfold zbo at ih ⊢
  rw[List.findIdx?_cons,zai]
  by_cases h:p.1=n
  ·rw[if_pos (by simpa using h),if_pos h]
   exact .inr ⟨0,by simp,rfl,rfl⟩
  ·rw[if_neg (by simpa using h),if_neg h]
   cases hf:l.findIdx? (fun f=>f.1==n) with
   | none =>
    rw[hf] at ih
    rcases ih with ⟨_,h2⟩ | ⟨i,_,h2,_⟩
    ·exact .inl ⟨by show (-1:Int)<0;omega,h2⟩
    ·exact absurd h2 (by show ¬ (-1:Int)=_;omega)
   | some j =>
    rw[hf] at ih
    rcases ih with ⟨h2,_⟩ | ⟨i,hi,h2,h3⟩
    ·exact absurd h2 (by show ¬ ((j:Nat):Int)<0;omega)
    ·have:j=i:=by have:((j:Nat):Int)=(i:Int):=h2;omega
     subst this
     exact .inr ⟨j+1,by simpa using hi,rfl,by simpa using h3⟩
theorem zpK (v:Value) (fs:List Fil) (o:Oq) (vo:Value) (w:World) (hF:Fs w v fs) (hB:Bs w vo o.b) (hl:fs.length≤1000000) (hbl:∀ f∈fs,f.2.length+o.b.length≤2000000) :
  Calls Tryz.prog 53 #[v,.agg #[.int .u8 o.k,sv o.n,sv o.t,vo]] w fun e w'=>(∃ v',e=.returned v'∧Fs w' v' (zcs fs o))∧Ext w w':=by
 obtain ⟨A,c,rfl,h1,h2⟩:=Fs.open_ hF
 obtain ⟨Ab,cb,rfl,_,_⟩:=SlR.open_ hB
 obtain ⟨k,n,t,b⟩:=o
 dsimp only at hB hbl ⊢
 obtain ⟨R,hR⟩:∃ R,zcs fs ⟨k,n,t,b⟩=R:=⟨_,rfl⟩
 rw[hR]
 unfold sv
 have hX:Ext w (w.alloc (.cells #[.int .u8 k,.string ⟨n.toArray⟩,.string ⟨t.toArray⟩,.slice Ab b.length cb] 86)):=Ext.alloc (Ext.refl _) _
 have hf:=Blk.new w 86 #[.int .u8 k,.string ⟨n.toArray⟩,.string ⟨t.toArray⟩,.slice Ab b.length cb]
 obtain ⟨o0,o1,o2,o3⟩:=zat hf
 have key:=zhB (.slice A fs.length c) fs n _ (hF.ext hX) (by omega)
 have hpg:=@place_get n fs
 obtain ⟨pr0,pr1⟩:=zix n fs
 have hpd:=zhN n fs
 unfold zcs at hR
 dsimp only at hR
 have HX:=zhd hX
 have Hf:=zhd hf
 have HF:=zhd (hF.ext hX)
 have HB:=zhd (Bs.ext hB hX)
 have HR:=zhd hR
 have HBL:=zhd hbl
 have HL:=zhd hl
 have HPD:=zhd hpd
 have HPR:=zhd (And.intro pr0 pr1)
 unfold sv at key
 have Key:=zhd key
 clear hX hf hF hB hR hbl hpd key pr0 pr1 hl
 generalize zbo fs n=pl at *
 go_enter Tryz.func53,Tryz.ntmps53
 go_wp2_with fail
 refine Key.out.mono ?_
 rintro e w1 ⟨rfl,rfl⟩
 by_cases hk1:k=1
 ·subst hk1
  have hR:=HR.out
  rw[if_pos rfl] at hR
  have HR:=zhd hR
  clear hR hpg
  have hw:=zfQ _ fs n [] (.slice none 0 0) _ HF.out (SlR.nil _ 1) HL.out
  unfold sv at hw
  rw[HR.out] at hw
  have Hw:=zhd hw
  clear hw
  go_wp2_with fail
  refine Hw.out.mono ?_
  rintro e w9 ⟨⟨v9,rfl,hF9⟩,hE9⟩
  clear o0 o1 o2 o3
  go_wp2_with fail
  go_ret
  exact ⟨⟨_,rfl,hF9⟩,Ext.trans HX.out hE9⟩
 have hR:=HR.out
 rw[if_neg hk1] at hR
 have hk1b:(k==1)=false:=by simpa using hk1
 rcases hpg with ⟨hneg,hg⟩ | ⟨i,hi,hpi,hg⟩
 ·rw[hg] at hR
  obtain rfl:fs=R:=hR
  clear hk1 hg
  go_wp2_with fail
  go_ret
  exact ⟨⟨_,rfl,HF.out⟩,HX.out⟩
 rw[hg] at hR
 subst hpi
 dsimp only at hR
 obtain ⟨_,b1,off,rfl,hc⟩:=HF.out.at_ (by omega)
 obtain ⟨hc0,B1,d1,hc1,hB1⟩:=hc i hi
 have hb1:=HBL.out _ (List.getElem_mem hi)
 generalize fs[i].2=c0 at *
 have hin:¬ ((i:Int)<0):=by omega
 have hil:(i:Int)<(fs.length:Int):=by omega
 have HB1:=zhd hB1
 have Hb1:=zhd hb1
 have HR2:=zhd hR
 clear hk1 hg hc hc0 hB1 hb1 hR HR hi Key
 by_cases hk2:k=2
 ·subst hk2
  have hR:=HR2.out
  rw[if_pos rfl] at hR
  have hw:=fun W (h:Ext (w.alloc (.cells #[.int .u8 2,.string ⟨n.toArray⟩,.string ⟨t.toArray⟩,.slice Ab b.length cb] 86)) W) A0 c0' (hb:Bs W (.slice A0 (c0.length+b.length) c0') (c0++b))=>zfQ _ fs n (c0++b) (.slice A0 (c0.length+b.length) c0') W (HF.out.ext h) hb HL.out
  unfold sv at hw
  rw[hR] at hw
  have Hw:=zhd hw
  have hold:∀ X,Ext (w.alloc (.cells #[.int .u8 2,.string ⟨n.toArray⟩,.string ⟨t.toArray⟩,.slice Ab b.length cb] 86)) X→X.cell? ⟨w.heap.size,1,none⟩=some (.string ⟨n.toArray⟩)∧X.cell? ⟨w.heap.size,3,none⟩=some (.slice Ab b.length cb)∧X.cell? ⟨b1,off+i*2+1,none⟩=some (.slice B1 c0.length d1):=fun X h=>⟨h.cell o1,h.cell o3,h.cell hc1⟩
  have HOLD:=zhd hold
  clear hw hR HR2 hold
  go_wp2_with fail
  refine wp_region_held_drew (S:=fun W=>W.cell? ⟨w.heap.size,1,none⟩=some (.string ⟨n.toArray⟩)∧W.cell? ⟨w.heap.size,3,none⟩=some (.slice Ab b.length cb)∧W.cell? ⟨b1,off+i*2+1,none⟩=some (.slice B1 c0.length d1)) (by kernel_rfl) ⟨o1,o3,hc1⟩ (fun _=>?_)
  clear o0 o1 o2 o3 hc1
  refine tkN 0 rfl ?_
  refine tkN 1 rfl ?_
  refine tkN 2 rfl ?_
  refine tkN 4 rfl ?_
  refine tkN 5 rfl ?_
  refine tkN 6 rfl ?_
  refine tkN 7 rfl ?_
  refine tkN 8 rfl ?_
  refine tkN 10 rfl ?_
  refine tkN 11 rfl ?_
  refine ar1 3 rfl (fun K hK=>?_)
  go_simp
  have hEe:Ext (w.alloc (.cells #[.int .u8 2,.string ⟨n.toArray⟩,.string ⟨t.toArray⟩,.slice Ab b.length cb] 86)) ((w.alloc (.cells #[.int .u8 2,.string ⟨n.toArray⟩,.string ⟨t.toArray⟩,.slice Ab b.length cb] 86)).alloc (.cells #[] 5)).drew:=Ext.drew (Ext.alloc (Ext.refl _) _)
  have hoe:OwnB ((w.alloc (.cells #[.int .u8 2,.string ⟨n.toArray⟩,.string ⟨t.toArray⟩,.slice Ab b.length cb] 86)).alloc (.cells #[] 5)).drew (w.alloc (.cells #[.int .u8 2,.string ⟨n.toArray⟩,.string ⟨t.toArray⟩,.slice Ab b.length cb] 86)).heap.size (.slice (some ⟨(w.alloc (.cells #[.int .u8 2,.string ⟨n.toArray⟩,.string ⟨t.toArray⟩,.slice Ab b.length cb] 86)).heap.size,0,none⟩) 0 0) []:=zae (zd7 (w.alloc (.cells #[.int .u8 2,.string ⟨n.toArray⟩,.string ⟨t.toArray⟩,.slice Ab b.length cb] 86))) (Ext.drew (Ext.refl _))
  rw[show (w.alloc (.cells #[.int .u8 2,.string ⟨n.toArray⟩,.string ⟨t.toArray⟩,.slice Ab b.length cb] 86)).heap.size=w.heap.size+1 by rw[World.size_alloc]] at hoe
  refine shK hK _ _ (HOLD.out _ hEe) (fun _=>?_)
  refine ar1 9 rfl (fun K hK=>?_)
  refine zh0 (.tmp 29) (.tmp 34) rfl (w.heap.size+1) _ [] rfl hoe _ c0 rfl (HB1.out.ext hEe) (by have:=Hb1.out;simp;omega) (by have:=hEe.size;rw[World.size_alloc] at this;exact this) ?_
  intro A5 c5 w5 ho5 hG5
  have hE5:=hG5 _ hEe (by rw[World.size_alloc];omega)
  simp only[List.length_nil,Nat.zero_add,List.nil_append] at ho5 ⊢
  refine shK hK _ _ (HOLD.out _ hE5) (fun _=>?_)
  refine ar1 12 rfl (fun K hK=>?_)
  refine zh0 (.tmp 35) (.tmp 37) rfl (w.heap.size+1) _ c0 rfl ho5 _ b rfl (Bs.ext HB.out hE5) (by have:=Hb1.out;omega) (by have:=hE5.size;rw[World.size_alloc] at this;exact this) ?_
  intro A6 c6 w6 ho6 hG6
  have hE6:=hG6 _ hE5 (by rw[World.size_alloc];omega)
  have hb6:Bs w6 (.slice A6 (c0.length+b.length) c6) (c0++b):=SlR.of_own ho6
  refine shK hK _ _ (HOLD.out _ hE6) (fun _=>?_)
  refine tkN 13 rfl ?_
  refine ar1 14 rfl (fun K hK=>?_)
  go_simp
  refine (Hw.out _ hE6 _ _ hb6).mono ?_
  rintro e w9 ⟨⟨v9,rfl,hF9⟩,hE9'⟩
  have hE9:=Ext.trans hE6 hE9'
  refine shK hK _ _ (HOLD.out _ hE9) (fun _=>?_)
  refine tkN 15 rfl ?_
  refine wpAnyH_done (by kernel_rfl) ?_ _
  go_wp2_with fail
  go_ret
  exact ⟨⟨_,rfl,hF9⟩,Ext.trans HX.out hE9⟩
 rw[if_neg hk2] at HR2
 have hk2b:(k==2)=false:=by simpa using hk2
 by_cases hk3:k=3∧t≠n
 ·obtain ⟨rfl,htn⟩:=hk3
  have hR:=HR2.out
  rw[if_pos ⟨rfl,htn⟩] at hR
  have htb:(t==n)=false:=by simpa using htn
  have hwo:=fun W (h:Ext (w.alloc (.cells #[.int .u8 3,.string ⟨n.toArray⟩,.string ⟨t.toArray⟩,.slice Ab b.length cb] 86)) W)=>zfE _ fs (i:Int) W (HF.out.ext h) HL.out HPR.out
  rw[HPD.out] at hwo
  have hw:=fun W v (h:Ext (w.alloc (.cells #[.int .u8 3,.string ⟨n.toArray⟩,.string ⟨t.toArray⟩,.slice Ab b.length cb] 86)) W) (hv:Fs W v (za7 n fs))=>zfQ v (za7 n fs) t c0 (.slice B1 c0.length d1) W hv (HB1.out.ext h) (by have:=(zce n fs).length_le;have:=HL.out;omega)
  unfold sv at hw
  rw[hR] at hw
  have Hwo:=zhd hwo
  have Hw:=zhd hw
  have hold:∀ X,Ext (w.alloc (.cells #[.int .u8 3,.string ⟨n.toArray⟩,.string ⟨t.toArray⟩,.slice Ab b.length cb] 86)) X→X.cell? ⟨w.heap.size,2,none⟩=some (.string ⟨t.toArray⟩)∧X.cell? ⟨b1,off+i*2+1,none⟩=some (.slice B1 c0.length d1):=fun X h=>⟨h.cell o2,h.cell hc1⟩
  have HOLD:=zhd hold
  clear hw hwo hR HR2 hold htn
  go_wp2_with fail
  refine wp_region_held_drew (S:=fun W=>W.cell? ⟨w.heap.size,2,none⟩=some (.string ⟨t.toArray⟩)∧W.cell? ⟨b1,off+i*2+1,none⟩=some (.slice B1 c0.length d1)) (by kernel_rfl) ⟨o2,hc1⟩ (fun _=>?_)
  clear o0 o1 o2 o3 hc1
  refine tkN 0 rfl ?_
  refine tkN 1 rfl ?_
  refine tkN 3 rfl ?_
  refine tkN 4 rfl ?_
  refine tkN 5 rfl ?_
  refine tkN 6 rfl ?_
  refine tkN 7 rfl ?_
  refine tkN 8 rfl ?_
  refine tkN 9 rfl ?_
  refine tkN 10 rfl ?_
  refine ar1 2 rfl (fun K hK=>?_)
  go_simp
  refine (Hwo.out _ (Ext.drew (Ext.refl _))).mono ?_
  rintro e w8 ⟨⟨v8,rfl,hF8⟩,hE8'⟩
  have hE8:=Ext.trans (Ext.drew (Ext.refl (w.alloc (.cells #[.int .u8 3,.string ⟨n.toArray⟩,.string ⟨t.toArray⟩,.slice Ab b.length cb] 86)))) hE8'
  refine shK hK _ _ (HOLD.out _ hE8) (fun _=>?_)
  refine ar1 11 rfl (fun K hK=>?_)
  go_simp
  refine (Hw.out _ _ hE8 hF8).mono ?_
  rintro e w9 ⟨⟨v9,rfl,hF9⟩,hE9'⟩
  have hE9:=Ext.trans hE8 hE9'
  refine shK hK _ _ (HOLD.out _ hE9) (fun _=>?_)
  refine tkN 12 rfl ?_
  refine wpAnyH_done (by kernel_rfl) ?_ _
  go_wp2_with fail
  go_ret
  exact ⟨⟨_,rfl,hF9⟩,Ext.trans HX.out hE9⟩
 have hR:=HR2.out
 rw[if_neg hk3] at hR
 have h3:((k==3)=true∧(t==n)=true)∨(k==3)=false:=by
  by_cases h:k=3
  ·exact .inl ⟨by simpa using h,by
    by_cases h2:t=n
    ·simpa using h2
    ·exact absurd ⟨h,h2⟩ hk3⟩
  ·exact .inr (by simpa using h)
 by_cases hk4:k=4
 ·subst hk4
  rw[if_pos rfl] at hR
  have hwo:=fun W (h:Ext (w.alloc (.cells #[.int .u8 4,.string ⟨n.toArray⟩,.string ⟨t.toArray⟩,.slice Ab b.length cb] 86)) W)=>zfE _ fs (i:Int) W (HF.out.ext h) HL.out HPR.out
  rw[HPD.out,hR] at hwo
  have Hwo:=zhd hwo
  clear hwo hR HR2 h3 hk3 hk2 hc1
  go_wp2_with fail
  refine (Hwo.out _ (Ext.refl _)).mono ?_
  rintro e w9 ⟨⟨v9,rfl,hF9⟩,hE9⟩
  clear o0 o1 o2 o3
  go_wp2_with fail
  go_ret
  exact ⟨⟨_,rfl,hF9⟩,Ext.trans HX.out hE9⟩
 ·rw[if_neg hk4] at hR
  obtain rfl:fs=R:=hR
  have hk4b:(k==4)=false:=by simpa using hk4
  clear HR2 hk3 hk2 hk4 hc1
  rcases h3 with ⟨h31,h32⟩ | h31
  ·go_wp2_with fail
   go_ret
   exact ⟨⟨_,rfl,HF.out⟩,HX.out⟩
  ·go_wp2_with fail
   go_ret
   exact ⟨⟨_,rfl,HF.out⟩,HX.out⟩
theorem znx (p:Fil):∀ l:List Fil,(zcE p l).length=l.length+1
 | []=>rfl
 | q::l=>by
  rw[zcE]
  split
  ·rw[List.length_cons,znx p l,List.length_cons]
  ·rfl
theorem zgK (l:List Fil) (p:Fil):(withS l p).length≤l.length+1:=by
 unfold Go.Proofs.YtgonhdeochgkoaaGreatDoor.withS
 rw[znx]
 have:=(zce p.1 l).length_le
 omega
theorem zgN {l:List Fil} {p q:Fil} (h:q∈withS l p):q=p∨q∈l:=by
 unfold Go.Proofs.YtgonhdeochgkoaaGreatDoor.withS at h
 rcases (zj0 p _ q).1 h with h | h
 ·exact .inl h
 ·exact .inr ((zce p.1 l).subset h)
theorem zp8 (l:List Fil) (o:Oq):(zcs l o).length≤l.length+1:=by
 unfold zcs
 split
 ·exact zgK _ _
 ·split
  ·omega
  ·split
   ·exact zgK _ _
   ·split
    ·have:=zgK (za7 o.n l) (o.t,‹List UInt8›)
     have:=(zce o.n l).length_le
     omega
    ·split
     ·have:=(zce o.n l).length_le;omega
     ·omega
theorem zqd {l:List Fil} {o:Oq} {M:Nat} (hM:∀ f∈l,f.2.length≤M) {q:Fil} (h:q∈zcs l o):q.2.length≤M+o.b.length:=by
 unfold zcs at h
 split at h
 ·rcases zgN h with rfl | h
  ·simp
  ·have:=hM q h;omega
 ·split at h
  ·have:=hM q h;omega
  ·rename_i b hb
   have hbm:b.length≤M:=hM _ (zdj hb)
   split at h
   ·rcases zgN h with rfl | h
    ·dsimp only;rw[List.length_append];omega
    ·have:=hM q h;omega
   ·split at h
    ·rcases zgN h with rfl | h
     ·dsimp only;omega
     ·have:=hM q ((zce o.n l).subset h);omega
    ·split at h
     ·have:=hM q ((zce o.n l).subset h);omega
     ·have:=hM q h;omega
theorem zfh {α β:Type} (f:β→α→β) (b:β) (l:List α) {i:Nat} (h:i<l.length):(l.take (i+1)).foldl f b=f ((l.take i).foldl f b) l[i]:=by
 rw[List.take_succ_eq_append_getElem h,List.foldl_append]
 rfl
theorem zhC {fs:List Fil}:∀ {i:Nat},i≤fs.length→((fs.take i).foldl zbd []).length≤i∧∀ f∈(fs.take i).foldl zbd [],f∈fs
 | 0,_=>⟨by simp,fun f hf=>by simp at hf⟩
 | i+1,h=>by
  obtain ⟨h1,h2⟩:=zhC (fs:=fs) (i:=i) (by omega)
  rw[zfh _ _ _ (by omega)]
  unfold zbd
  split
  ·refine ⟨?_,fun f hf=>?_⟩
   ·have:=zgK ((fs.take i).foldl zbd []) (fs[i]'(by omega))
    unfold zbd at this h1
    omega
   ·rcases zgN hf with rfl | hf
    ·exact List.getElem_mem _
    ·exact h2 f hf
  ·exact ⟨by unfold zbd at h1;omega,h2⟩
theorem zlw {fs:List Fil} {q:List Oq}:∀ {i:Nat},i≤q.length→((q.take i).foldl zcs (fs.foldl zbd [])).length≤fs.length+i∧∀ f∈(q.take i).foldl zcs (fs.foldl zbd []),f.2.length≤tot fs+za8 (q.take i)
 | 0,_=>by
  have h:=zhC (fs:=fs) (i:=fs.length) (Nat.le_refl _)
  rw[List.take_length] at h
  refine ⟨by simpa using h.1,fun f hf=>?_⟩
  have:=zfj (h.2 f (by simpa using hf))
  omega
 | i+1,h=>by
  obtain ⟨h1,h2⟩:=zlw (fs:=fs) (q:=q) (i:=i) (by omega)
  rw[zfh _ _ _ (by omega)]
  refine ⟨?_,fun f hf=>?_⟩
  ·have:=zp8 ((q.take i).foldl zcs (fs.foldl zbd [])) (q[i]'(by omega))
   omega
  ·have:=zqd h2 hf
   rw[List.take_succ_eq_append_getElem (by omega),zeD,zcb]
   omega
theorem zrg (v vq:Value) (fs:List Fil) (q:List Oq) (w:World) (hF:Fs w v fs) (hQ:Qs w vq q) (hl:fs.length+q.length≤900000) (hb:tot fs+za8 q≤900000) :
  Calls Tryz.prog 52 #[v,vq] w fun e w'=>(∃ v',e=.returned v'∧Fs w' v' (zj6 fs q))∧Ext w w':=by
 obtain ⟨A,c,rfl,h1,h2⟩:=Fs.open_ hF
 obtain ⟨B,e2,rfl,_,_⟩:=Qs.open_ hQ
 unfold zj6
 obtain ⟨R,hR⟩:∃ R,q.foldl zcs (fs.foldl zbd [])=R:=⟨_,rfl⟩
 rw[hR]
 have HF:=zhd hF
 have HQ:=zhd hQ
 have HR:=zhd hR
 have HB:=zhd hb
 have HL:=zhd hl
 clear hF hQ hR hb
 go_enter Tryz.func52,Tryz.ntmps52
 go_wp2_with fail
 go_loopw [5,6] (fun vl i wr=>∃ j:Nat,j≤fs.length∧i=.int .i64 j∧Hid (Fs wr vl ((fs.take j).foldl zbd []))∧Hid (Ext w wr)) (fun _ i _=>fs.length-(intOf i).toNat)
 case atStart=>exact ⟨0,Nat.zero_le _,rfl,⟨[],SlR.nil _ _,fun i hi=>by simp at hi⟩,Ext.refl _⟩
 case round =>
  obtain ⟨j,hj,rfl,HV,HE⟩:=hrel
  by_cases hlt:j<fs.length
  ·obtain ⟨_,b,off,rfl,hc⟩:=(HF.out.ext HE.out).at_ (by omega)
   obtain ⟨hc0,B1,d1,hc1,hB1⟩:=hc j hlt
   have hfm:=(zhC (fs:=fs) hj).1
   have htk:=zfh zbd [] fs hlt
   have HTK:=zhd htk
   have HFM:=zhd hfm
   have HB1:=zhd hB1
   clear hc htk hfm hB1
   generalize (fs.take j).foldl zbd []=l at *
   obtain ⟨p,hp⟩:∃ p,fs[j]=p:=⟨_,rfl⟩
   rw[hp] at hc0 hc1 HB1 HTK
   obtain ⟨n,pb⟩:=p
   dsimp only at hc0 hc1 HB1
   have key:=zhB _ l n _ HV.out (by have:=HFM.out;omega)
   have hpg:=@place_get n l
   have hjz:(j:Int)<(fs.length:Int):=by omega
   unfold sv at key hc0
   have Key:=zhd key
   clear key hp
   go_wp2_with fail
   refine Key.out.mono ?_
   rintro e w1 ⟨rfl,rfl⟩
   rcases hpg with ⟨hneg,hg⟩ | ⟨i,hi,hpi,hg⟩
   ·have hfr:zbd l (n,pb)=withS l (n,pb):=by unfold zbd;rw[if_pos (by rw[hg];rfl)]
    have HFR:=zhd hfr
    have hw:=zfQ _ l n pb _ _ HV.out HB1.out (by have:=HFM.out;omega)
    unfold sv at hw
    have Hw:=zhd hw
    clear hg hfr hw
    go_wp2_with fail
    refine Hw.out.mono ?_
    rintro e w9 ⟨⟨v9,rfl,hF9⟩,hE9⟩
    go_wp2_with fail
    go_roundw
    case rel=>exact ⟨j+1,by omega,by go_num,by unfold Hid;rw[HTK.out,HFR.out];exact hF9,Ext.trans HE.out hE9⟩
    case measure=>simp[intOf];omega
   ·have hfr:zbd l (n,pb)=l:=by unfold zbd;rw[if_neg (by rw[hg];simp)]
    have HFR:=zhd hfr
    have hin:¬ (zbo l n<0):=by omega
    clear hg hfr hpi
    go_wp2_with fail
    go_roundw
    case rel=>exact ⟨j+1,by omega,by go_num,by unfold Hid;rw[HTK.out,HFR.out];exact HV.out,HE.out⟩
    case measure=>simp[intOf];omega
  ·obtain rfl:j=fs.length:=by omega
   rw[List.take_length] at HV
   go_wp2_with fail
   go_loopw [5,7] (fun vl i wr2=>∃ j:Nat,j≤q.length∧i=.int .i64 j∧Hid (Fs wr2 vl ((q.take j).foldl zcs (fs.foldl zbd [])))∧Hid (Ext w wr2)) (fun _ i _=>q.length-(intOf i).toNat)
   case atStart=>exact ⟨0,Nat.zero_le _,rfl,HV,HE⟩
   case round =>
    clear HV HE
    obtain ⟨j,hj,rfl,HV,HE⟩:=hrel
    by_cases hlt:j<q.length
    ·obtain ⟨_,b,off,rfl,hc⟩:=(HQ.out.ext HE.out).at_ (by omega)
     obtain ⟨hc0,hc1,hc2,B3,d3,hc3,hB3⟩:=hc j hlt
     have hdm:=zlw (fs:=fs) (q:=q) hj
     have htk:=zfh zcs (fs.foldl zbd []) q hlt
     have htq:za8 (q.take j)+q[j].b.length≤za8 q:=by
      have h1:=congrArg za8 (List.take_append_drop (j+1) q)
      rw[zeD,List.take_succ_eq_append_getElem hlt,zeD,zcb] at h1
      omega
     have HTK:=zhd htk
     have HDM:=zhd hdm
     have HTQ:=zhd htq
     have HB3:=zhd hB3
     clear hc htk hdm hB3 htq
     have key:=zpK _ _ q[j] _ _ HV.out HB3.out (by have h1:=HDM.out.1;have h2:=HL;omega) (fun f hf=>by have h1:=HDM.out.2 f hf;have h2:=HTQ.out;have h3:=HB.out;omega)
     rw[←HTK.out] at key
     obtain ⟨o,ho⟩:∃ o,q[j]=o:=⟨_,rfl⟩
     rw[ho] at hc0 hc1 hc2 hc3 key
     obtain ⟨ok,on,ot,ob⟩:=o
     dsimp only at hc0 hc1 hc2 hc3 key
     have hjz:(j:Int)<(q.length:Int):=by omega
     unfold sv at key hc1 hc2
     have Key:=zhd key
     clear key ho HB3
     go_wp2_with fail
     refine Key.out.mono ?_
     rintro e w9 ⟨⟨v9,rfl,hF9⟩,hE9⟩
     clear hc0 hc1 hc2 hc3
     go_wp2_with fail
     go_roundw
     case rel=>exact ⟨j+1,by omega,by go_num,hF9,Ext.trans HE.out hE9⟩
     case measure=>simp[intOf];omega
    ·obtain rfl:j=q.length:=by omega
     rw[List.take_length,HR.out] at HV
     go_wp2_with fail
     go_ret
     exact ⟨⟨_,rfl,HV.out⟩,HE.out⟩
end Go.Proofs.YtgonhdeochgkoaaGreatDoor
