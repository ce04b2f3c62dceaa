/- Merged: Puts2 Put Read Read2 SnapQ -/
import Derived.Test.YtgonhdeochgkoaaGreatDoorZt13
set_option linter.all false
set_option maxHeartbeats 8000000
set_option maxRecDepth 100000
namespace Go.Proofs.YtgonhdeochgkoaaGreatDoor
open Go.RowKit Go.Mv
def zgB (s:Sta):List UInt8:=2::UInt8.ofNat (((zal s.ints).length+3) / 4)::zb7 (0,0) (zal s.ints)
theorem zsc (s:Sta) (w:World) (h:s.ok=true):Calls Tryz.prog 202 #[.agg #[.int .i64 s.idx,.int .i64 s.term,.int .i64 s.sum,.int .i64 s.lvl,.bool s.fin]] w fun e w'=>∃ A c,e=.returned (.slice A (zgB s).length c)∧OwnB w' w.heap.size (.slice A (zgB s).length c) (zgB s)∧Ext w w':=by
 obtain ⟨t,ht⟩:∃ t,zal s.ints=t:=⟨_,rfl⟩
 have hl25:t.length≤25:=by subst ht;exact zcx s.ints
 have Hok:=zhd h;have Ht:=zhd ht
 have Hl:Hid (t.length≤25):=hl25
 obtain ⟨yn,hyn⟩:∃ x,UInt8.ofNat ((t.length+3) / 4)=x:=⟨_,rfl⟩
 have Hy:Hid (wrap64 ((wrap64 ((t.length:Int)+3)).tdiv 4) % 256=(yn.toNat:Int)):=by
  have e1:wrap64 ((t.length:Int)+3)=((t.length+3:Nat):Int):=by unfold wrap64;omega
  have e2:((t.length+3:Nat):Int).tdiv 4=(((t.length+3) / 4:Nat):Int):=rfl
  have e3:wrap64 (((t.length+3) / 4:Nat):Int)=(((t.length+3) / 4:Nat):Int):=by unfold wrap64;omega
  rw[Hid,e1,e2,e3,←hyn]
  simp
 have Hp2:Hid (zgB s=[2,yn]++zb7 (0,0) t):=by rw[Hid,zgB,ht,hyn];rfl
 clear h ht hl25 hyn
 have hX:Ext w (w.alloc (.cells #[.int .i64 s.idx,.int .i64 s.term,.int .i64 s.sum,.int .i64 s.lvl,.bool s.fin] 53)):=Ext.alloc (Ext.refl _) _
 go_enter Tryz.func202,Tryz.ntmps202
 go_wp2_with fail
 refine (zuC s _ Hok.out).mono ?_
 rintro e w1 ⟨v,rfl,ho,hE1⟩;rw[Ht.out] at ho;obtain ⟨Av,cv,rfl,-,-⟩:=SlR.open_ (SlR.of_own ho);go_wp2_with fail;rw[Hy.out]
 have hE01:Ext w w1:=Ext.trans hX hE1
 have ho16:=zbj w1 [bv 2,bv yn] 5 2 rfl (by simp[maxLen]) hE01.size
 have hp16:OwnB (w1.alloc (.cells #[bv 2,bv yn] 5)) w.heap.size (.slice (some ⟨w1.heap.size,0,none⟩) 2 2) [2,yn]:=ho16
 refine (zpr _ t _ (Bs.ext (SlR.of_own ho) (Ext.alloc (Ext.refl _) _)) (by have:=Hl.out;omega)).mono ?_
 rintro e w3 ⟨v3,rfl,ho3,hE3⟩
 have hE23:Ext w w3:=Ext.trans (Ext.alloc hE01 _) hE3
 have hpl:=zjr (0,0) t
 have Hpl:Hid ((zb7 (0,0) t).length≤100):=by have:=Hl.out;rw[Hid];omega
 clear hpl
 go_wp2_with (
  refine zdN rfl (.tmp 15) (.tmp 17) rfl w.heap.size _ [2,yn] rfl (OwnB.ext hp16 hE3) _ (zb7 (0,0) t) rfl (SlR.of_own ho3) (by have:=Hpl.out;simp;omega) hE23.size ?_
  intro A4 c4 w4 ho4 hg4)
 go_ret;have hE4:=hg4 w hE23 (Nat.le_refl _)
 have e1:zgB s=[2,yn]++zb7 (0,0) t:=Hp2.out
 have e2:(zgB s).length=([2,yn]:List UInt8).length+(zb7 (0,0) t).length:=by rw[e1,List.length_append]
 rw[e2,e1]
 exact ⟨A4,c4,rfl,ho4,hE4⟩
theorem zja (P:Program) (w:World) (a:Addr) (m:Mode):(store a .nilFunc m).run P w=stored P w a .nilFunc m:=run_store P w a _ m rfl
theorem zlp (P:Program) (w:World) (a:Addr) (m:Mode) (f:Fn) (x y:Array Value):(store a (.func f x y) m).run P w=stored P w a (.func f x y) m:=run_store P w a _ m rfl
attribute [local go_sem] zja zlp
def zqg:Value:=.agg #[.nilFunc,.func (.func 199) #[] #[],.func (.func 202) #[] #[]]
theorem znn (w:World):Calls Tryz.prog 169 #[] w fun e w'=>e=.returned zqg∧Ext w w':=by
 go_enter Tryz.func169,Tryz.ntmps169
 go_wp2
 refine bodyPost_ret (results_cell_row rfl _ _ _ 214 _ _ _ rfl (heap_alloc_new _ _) Tryz.underlying214 rfl (by kernel_rfl)) rfl ⟨rfl,Ext.alloc (Ext.refl _) _⟩
theorem ztX (w:World):(Instr.index 214 (.agg #[.nilFunc,.func (.func 199) #[] #[],.func (.func 202) #[] #[]]) (.int .i64 1)).run Tryz.prog w=.ok (.func (.func 199) #[] #[]) w:=by kernel_rfl
theorem ztY (w:World):(Instr.index 214 (.agg #[.nilFunc,.func (.func 199) #[] #[],.func (.func 202) #[] #[]]) (.int .i64 2)).run Tryz.prog w=.ok (.func (.func 202) #[] #[]) w:=by kernel_rfl
def zps (w:World) (l:List UInt8) (e:Ending) (w':World):Prop:=∃ A c,e=.returned (.tuple #[.slice A l.length c,.int .i64 0])∧OwnB w' w.heap.size (.slice A l.length c) l∧Ext w w'
theorem zo2 (s:Sta) (f:Int) (w:World) (h:s.ok=false∨f<1∨2<f):Calls Tryz.prog 142 #[.agg #[.int .i64 s.idx,.int .i64 s.term,.int .i64 s.sum,.int .i64 s.lvl,.bool s.fin],.int .i64 f] w (zjH w):=by
 have H:=zhd h;clear h;obtain ⟨ok,hok⟩:∃ x,s.ok=x:=⟨_,rfl⟩
 cases ok
 ·clear H
  have H:=zhd hok;clear hok
  go_enter Tryz.func142,Tryz.ntmps142
  go_wp2_with fail
  refine (zcX s _).mono ?_
  rw[H.out];rintro e w1 ⟨rfl,hE1⟩;go_wp2_with fail
  go_ret2
  exact ⟨rfl,Ext.trans (Ext.alloc (Ext.refl _) _) hE1⟩
 ·rw[hok] at H
  have Ho:=zhd hok;clear hok
  by_cases h1:f<1
  ·clear H
   go_enter Tryz.func142,Tryz.ntmps142
   go_wp2_with fail
   refine (zcX s _).mono ?_
   rw[Ho.out];rintro e w1 ⟨rfl,hE1⟩;go_wp2_with fail
   go_ret2
   exact ⟨rfl,Ext.trans (Ext.alloc (Ext.refl _) _) hE1⟩
  ·have h2:2<f:=by rcases H.out with q | q | q;cases q;exact absurd q h1;exact q
   clear H
   go_enter Tryz.func142,Tryz.ntmps142
   go_wp2_with fail
   refine (zcX s _).mono ?_
   rw[Ho.out];rintro e w1 ⟨rfl,hE1⟩;go_wp2_with fail
   go_ret2
   exact ⟨rfl,Ext.trans (Ext.alloc (Ext.refl _) _) hE1⟩
theorem zuz (s:Sta) (w:World) (h:s.ok=true) (hT:TabW rT w):Calls Tryz.prog 142 #[.agg #[.int .i64 s.idx,.int .i64 s.term,.int .i64 s.sum,.int .i64 s.lvl,.bool s.fin],.int .i64 1] w (zps w (zj6 s)):=by
 have hat:=ztX;have H:=zhd h;have HT:=zhd hT;clear h hT;have hb:=Blk.new w 53 #[.int .i64 s.idx,.int .i64 s.term,.int .i64 s.sum,.int .i64 s.lvl,.bool s.fin]
 have hX:Ext w (w.alloc (.cells #[.int .i64 s.idx,.int .i64 s.term,.int .i64 s.sum,.int .i64 s.lvl,.bool s.fin] 53)):=Ext.alloc (Ext.refl _) _
 go_enter Tryz.func142,Tryz.ntmps142
 go_wp2_with fail
 refine (zcX s _).mono ?_
 rw[H.out];rintro e w1 ⟨rfl,hE1⟩;go_wp2_with fail
 refine wp_region_held_drew (S:=fun w'=>w'.cell? ⟨w.heap.size,0,none⟩=some (.int .i64 s.idx)∧w'.cell? ⟨w.heap.size,1,none⟩=some (.int .i64 s.term)∧w'.cell? ⟨w.heap.size,2,none⟩=some (.int .i64 s.sum)∧w'.cell? ⟨w.heap.size,3,none⟩=some (.int .i64 s.lvl)∧w'.cell? ⟨w.heap.size,4,none⟩=some (.bool s.fin)) (by kernel_rfl) (zac (hb.ext (Ext.drew hE1))) (fun _=>?_)
 refine tkN 1 rfl ?_;refine tkN 3 rfl ?_
 refine ar1 0 rfl (fun K hK=>?_)
 go_simp
 refine (znn _).mono ?_
 rintro e w2 ⟨rfl,hE2⟩;unfold zqg
 try (go_wp2_with fail)
 have hE02:Ext (w.alloc (.cells #[.int .i64 s.idx,.int .i64 s.term,.int .i64 s.sum,.int .i64 s.lvl,.bool s.fin] 53)) w2:=Ext.trans (Ext.drew hE1) hE2
 refine shK hK _ _ (zac (hb.ext hE02)) (fun _=>?_)
 refine tkN 2 rfl ?_
 refine ar1 4 rfl (fun K hK=>?_)
 go_simp
 refine (zsb s _ H.out (HT.out.ext (Ext.trans hX hE02))).mono ?_
 rintro e w3 ⟨A3,c3,rfl,ho3,hE3⟩
 try (go_wp2_with fail)
 have hE03:=Ext.trans hE02 hE3
 refine shK hK _ _ (zac (hb.ext hE03)) (fun _=>?_)
 refine tkN 5 rfl ?_;refine tkN 6 rfl ?_;refine wpAnyH_done (by kernel_rfl) ?_ _;go_wp2_with fail
 go_ret2
 exact ⟨A3,c3,rfl,zaj ho3 (Ext.trans hX hE02).size,Ext.trans hX hE03⟩
theorem zuA (s:Sta) (w:World) (h:s.ok=true) (hT:TabW rT w):Calls Tryz.prog 142 #[.agg #[.int .i64 s.idx,.int .i64 s.term,.int .i64 s.sum,.int .i64 s.lvl,.bool s.fin],.int .i64 2] w (zps w (zgB s)):=by
 have hat:=ztY;have H:=zhd h;have HT:=zhd hT;clear h hT;have hb:=Blk.new w 53 #[.int .i64 s.idx,.int .i64 s.term,.int .i64 s.sum,.int .i64 s.lvl,.bool s.fin]
 have hX:Ext w (w.alloc (.cells #[.int .i64 s.idx,.int .i64 s.term,.int .i64 s.sum,.int .i64 s.lvl,.bool s.fin] 53)):=Ext.alloc (Ext.refl _) _
 go_enter Tryz.func142,Tryz.ntmps142
 go_wp2_with fail
 refine (zcX s _).mono ?_
 rw[H.out];rintro e w1 ⟨rfl,hE1⟩;go_wp2_with fail
 refine wp_region_held_drew (S:=fun w'=>w'.cell? ⟨w.heap.size,0,none⟩=some (.int .i64 s.idx)∧w'.cell? ⟨w.heap.size,1,none⟩=some (.int .i64 s.term)∧w'.cell? ⟨w.heap.size,2,none⟩=some (.int .i64 s.sum)∧w'.cell? ⟨w.heap.size,3,none⟩=some (.int .i64 s.lvl)∧w'.cell? ⟨w.heap.size,4,none⟩=some (.bool s.fin)) (by kernel_rfl) (zac (hb.ext (Ext.drew hE1))) (fun _=>?_)
 refine tkN 1 rfl ?_;refine tkN 3 rfl ?_
 refine ar1 0 rfl (fun K hK=>?_)
 go_simp
 refine (znn _).mono ?_
 rintro e w2 ⟨rfl,hE2⟩;unfold zqg
 try (go_wp2_with fail)
 have hE02:Ext (w.alloc (.cells #[.int .i64 s.idx,.int .i64 s.term,.int .i64 s.sum,.int .i64 s.lvl,.bool s.fin] 53)) w2:=Ext.trans (Ext.drew hE1) hE2
 refine shK hK _ _ (zac (hb.ext hE02)) (fun _=>?_)
 refine tkN 2 rfl ?_
 refine ar1 4 rfl (fun K hK=>?_)
 go_simp
 refine (zsc s _ H.out).mono ?_
 rintro e w3 ⟨A3,c3,rfl,ho3,hE3⟩
 try (go_wp2_with fail)
 have hE03:=Ext.trans hE02 hE3
 refine shK hK _ _ (zac (hb.ext hE03)) (fun _=>?_)
 refine tkN 5 rfl ?_;refine tkN 6 rfl ?_;refine wpAnyH_done (by kernel_rfl) ?_ _;go_wp2_with fail
 go_ret2
 exact ⟨A3,c3,rfl,zaj ho3 (Ext.trans hX hE02).size,Ext.trans hX hE03⟩
open Go.RowKit Go.Mv Go.Shelf
attribute [local go_sem] Oper.semAt_some
def zdV:Nat→List Int→List UInt8→Option (List Int)
 | 0,acc,_=>some acc
 | k+1,acc,b=>if (zat (b.take 5)).1=0 then zdV k (acc++[((zat (b.take 5)).2.1:Int)]) (b.drop 5) else none
def zd3 (b:List UInt8):Option (List Int):=if b.length=22 then (zdV 3 [] (b.drop 1)).map (·++[((b.getD 16 0).toNat:Int),((b.getD 17 0).toNat:Int)]) else none
def ziV (w:World) (r:Option (List Int)) (e:Ending) (w':World):Prop:=∃ v,e=.returned (.tuple #[v,.bool r.isSome])∧(∀ l,r=some l→w'.ownsRow w.heap.size 3 1 v l.length (l.map iv))∧Ext w w'
def zv7 (X:Act→World→Prop):Exit→Act→World→Prop
 | .normal,a,w=>X a w
 | _,_,_=>False
theorem zj8 (tmps:Array Value) (W:World) (v u:Value) (h4:tmps.getD 4 undef=v) (h5:tmps.getD 5 undef=u):(results Tryz.f141 tmps).run Tryz.prog W=.ok (.tuple #[v,u]) W:=by
 simp only[Array.getD_eq_getD_getElem?] at h4 h5
 simp[results,Tryz.results141,go_sem,h4,h5]
theorem zsg (v:Value) (bs:List UInt8) (f:Int) (hf:f≠2) (w:World) (hBs:Bs w v bs) (hl:bs.length≠22):Calls Tryz.prog 141 #[v,.int .i64 f] w (ziV w (zd3 bs)):=by
 obtain ⟨A,c,rfl,h1,h2⟩:=SlR.open_ hBs
 have Hr:Hid (zd3 bs=none):=if_neg hl
 have e1:(f==2)=false:=by simpa using hf
 have e2:((bs.length:Int) != 22)=true:=by simp;omega
 refine (callsIn_wd (ro:=none) (n:=9)).1 ?_
 refine callsIn_of_wp_marks Tryz.func141 rfl trivial ?_ rfl
 simp only[Tryz.ntmps141,List.size_toArray,List.length_cons,List.length_nil,Nat.reduceAdd,Nat.reduceSub,Array.replicate_succ,Array.replicate_zero,List.push_toArray,List.append_toArray,List.nil_append,List.cons_append]
 gi_wp2
 refine zbq 0 (fun _ _=>False) (fun a _=>0) rfl (fun l' h=>by cases l' <;> first | exact absurd rfl h | rfl) ?_ ?_
 ·intro hrest
  clear hrest
  gi_wp2
  refine zas ?_
  refine zcH (.tuple #[.slice none 0 0,.bool false]) (by simp[results,Tryz.results141,go_sem]) ?_
  exact ⟨_,by rw[Hr.out];rfl,(fun l h=>by rw[Hr.out] at h;cases h),Ext.alloc (Ext.refl _) _⟩
 ·rintro a W h
  exact h.elim
theorem zqj (v:Value) (bs:List UInt8) (f:Int) (hf:f≠2) (w:World) (hBs:Bs w v bs) (hl:bs.length=22):Calls Tryz.prog 141 #[v,.int .i64 f] w (ziV w (zd3 bs)):=by
 obtain ⟨A,c,rfl,h1,h2⟩:=SlR.open_ hBs;obtain ⟨i0,hi,hz0,hz1,hz2⟩:=info_parts zhu
 have Hr:Hid (zd3 bs=(zdV 3 [] (bs.drop 1)).map (·++[((bs.getD 16 0).toNat:Int),((bs.getD 17 0).toNat:Int)])):=if_pos hl
 have e1:(f==2)=false:=by simpa using hf
 obtain ⟨_,b,off,rfl,hc⟩:=Bs.at_ hBs (by omega);have Hc:=zhd hc;have HBs:=zhd hBs;have Hl:=zhd hl
 have hl2:(bs.length:Int)=22:=by omega
 rw[hl] at h1 hBs;clear hc hBs
 refine (callsIn_wd (ro:=none) (n:=9)).1 ?_
 refine callsIn_of_wp_marks Tryz.func141 rfl trivial ?_ rfl
 simp only[Tryz.ntmps141,List.size_toArray,List.length_cons,List.length_nil,Nat.reduceAdd,Nat.reduceSub,Array.replicate_succ,Array.replicate_zero,List.push_toArray,List.append_toArray,List.nil_append,List.cons_append]
 gi_wp2
 try rw[hl]
 refine zbq 0 (fun _ _=>False) (fun a _=>0) rfl (fun l' h=>by cases l' <;> first | exact absurd rfl h | rfl) ?_ ?_
 ·intro hrest
  clear hrest hl hl2
  gi_wp2
  obtain ⟨R0,hR0⟩:∃ r,zdV 3 [] (bs.drop 1)=r:=⟨_,rfl⟩;rw[hR0] at Hr
  gi_loopw [4,8] (fun vl i wr=>∃ (k:Nat) (acc:List Int),k≤3∧i=.int .i64 (1+5*k:Nat)∧acc.length=k∧Hid (R0=zdV (3-k) acc (bs.drop (1+5*k))) ∧
   wr.ownsRow w.heap.size 3 1 vl acc.length (acc.map iv)∧Ext w wr) (fun _ i _=>30-(intOf i).toNat)
  case atStart=>exact ⟨0,[],by omega,rfl,rfl,hR0.symm,World.ownsRow_nil _ _ _ _,Ext.alloc (Ext.refl _) _⟩
  case round =>
   obtain ⟨k,acc,hk,rfl,hacc,HT,hown,hE⟩:=hrel;obtain ⟨m,hm⟩:∃ m,1+5*k=m:=⟨_,rfl⟩;rw[hm] at HT;simp only[hm]
   by_cases hlt:k<3
   ·have hw5:wrap64 ((m:Int)+5)=((m+5:Nat):Int):=by unfold wrap64;omega
    have hm16:((m:Int)<16):=by omega
    have hT:=HT.out
    rw[show 3-k=(3-k-1)+1 from by omega,zdV] at hT
    obtain ⟨t,ht⟩:∃ t,(bs.drop m).take 5=t:=⟨_,rfl⟩
    have htl:t.length=5:=by rw[←ht,List.length_take,List.length_drop,Hl.out];omega
    have hBt:Bs w (.slice (some ⟨b,off+m,none⟩) 5 (c-m)) t:=by
     have h:=zev HBs.out m 5 (by rw[Hl.out];omega);rw[ht] at h
     have:=SlR.capd h (c':=c-m) (by rw[htl];omega) (by omega)
     exact this
    have key:=zdz _ t wr (hBt.ext hE) (by omega);rw[ht] at hT
    rcases hts:zat t with ⟨er,n,r2⟩
    rw[hts] at hT key
    simp only at hT
    by_cases her:er=0
    ·subst her
     simp only[if_true] at hT;have HT2:=zhd hT;have Key:=zhd key;have Hm:=zhd hm;clear hT HT key hts hm
     gi_wp2_with (first
      | (refine ⟨trivial,?_⟩;gi_at_call 167;refine (callsIn_wd.2 Key.out).mono ?_;rintro e w2 ⟨vr,rfl,-,hE2⟩)
      | (gi_at_builtin;refine zbX _ rfl (.tmp 34) (.tmp 36) 96 rfl w.heap.size 3 i0 (.int .i64 0) 1 8 Tryz.underlying96 hi hz0 hz1 hz2 rfl (by decide) _ acc.length (acc.map iv) rfl (zag hown (Ext.alloc hE2 _)) (.slice (some ⟨w2.heap.size,0,none⟩) 1 1) 1 [.int .i64 n] rfl (SlR.of_own (zbj w2 [.int .i64 n] 3 1 rfl (by simp[maxLen]) (Nat.le_refl _))) (by simp[Value.oneCell']) (by unfold maxLen;omega) (by omega) (by have:=hE.size;have:=hE2.size;simp;omega) ?_;intro v' w3 hown' hgrow))
     have hE3:Ext w w3:=Ext.grownOwn (Ext.alloc (Ext.trans hE hE2) _) (zag hown (Ext.alloc hE2 _)) hgrow
     refine ⟨⟨k+1,acc++[(n:Int)],by omega,?_,by simp;omega,?_,by simpa [iv] using hown',hE3⟩,by simp[intOf];omega⟩
     ·have:=Hm.out
      congr 1
      omega
     ·show _=_
      rw[HT2.out,List.drop_drop,show 3-(k+1)=3-k-1 from by omega,←Hm.out]
      congr 2
    ·have hne:((er:Int) != 0)=true:=by simp[her]
     rw[if_neg her] at hT;have HT2:=zhd hT;have Key:=zhd key
     have Hn:Hid (zd3 bs=none):=by rw[Hid,Hr.out,HT2.out];rfl
     clear hT HT key hts hm
     gi_wp2_with (refine ⟨trivial,?_⟩;gi_at_call 167;refine (callsIn_wd.2 Key.out).mono ?_;rintro e w2 ⟨vr,rfl,-,hE2⟩)
     refine zas ?_
     refine zcH (.tuple #[.slice none 0 0,.bool false]) (by simp[results,Tryz.results141,go_sem]) ?_
     exact ⟨_,by rw[Hn.out];rfl,(fun l h=>by rw[Hn.out] at h;cases h),Ext.trans hE hE2⟩
   ·have hk3:k=3:=by omega
    subst hk3
    have hm16:¬ ((m:Int)<16):=by omega
    have HT2:Hid (R0=some acc):=HT.out
    clear HT
    gi_wp2
    obtain ⟨x,hx⟩:∃ x,bs.getD 16 0=x:=⟨_,rfl⟩;obtain ⟨y,hy⟩:∃ y,bs.getD 17 0=y:=⟨_,rfl⟩
    have hcx:w.cell? ⟨b,off+16,none⟩=some (.int .u8 (x.toNat:Int)):=by
     rw[Hc.out 16 (by rw[Hl.out];omega),←hx]
     simp[List.getD_eq_getElem?_getD,Hl.out]
    have hcy:w.cell? ⟨b,off+17,none⟩=some (.int .u8 (y.toNat:Int)):=by
     rw[Hc.out 17 (by rw[Hl.out];omega),←hy]
     simp[List.getD_eq_getElem?_getD,Hl.out]
    have hwx:IntKind.i64.wrap (x.toNat:Int)=(x.toNat:Int):=by
     have:=x.toNat_lt
     rw[IntKind.wrap_i64];omega
    have hwy:IntKind.i64.wrap (y.toNat:Int)=(y.toNat:Int):=by
     have:=y.toNat_lt
     rw[IntKind.wrap_i64];omega
    have Hr2:Hid (zd3 bs=some (acc++[(x.toNat:Int),(y.toNat:Int)])):=by rw[Hid,Hr.out,HT2.out,hx,hy];rfl
    clear hx hy Hr HT2 hR0
    refine (wpIn_wide (n:=9)).2 (wp_mono (Q:=zv7 fun a' W=>a'.defers=[]∧∃ v',a'.tmps.getD 4 undef=v'∧a'.tmps.getD 5 undef=.bool true∧W.ownsRow w.heap.size 3 1 v' (acc.length+2) (acc.map iv++[.int .i64 x.toNat,.int .i64 y.toNat])∧Ext w W) ?_ ?_)
    ·refine wp_region_held_drew (S:=fun w'=>w'.cell? ⟨b,off+16,none⟩=some (.int .u8 (x.toNat:Int))∧w'.cell? ⟨b,off+17,none⟩=some (.int .u8 (y.toNat:Int))) (by kernel_rfl) ⟨Ext.cell (Ext.drew hE) hcx,Ext.cell (Ext.drew hE) hcy⟩ (fun _=>?_)
     refine tkN 0 rfl ?_;refine tkN 1 rfl ?_;refine tkN 2 rfl ?_;refine tkN 3 rfl ?_;refine tkN 4 rfl ?_;refine tkN 5 rfl ?_;refine tkN 6 rfl ?_;refine tkN 7 rfl ?_;refine tkN 8 rfl ?_
     refine ar1 9 rfl (fun K hK=>?_)
     go_simp
     refine shK hK _ _ ⟨Ext.cell (Ext.alloc (Ext.drew hE) _) hcx,Ext.cell (Ext.alloc (Ext.drew hE) _) hcy⟩ (fun _=>?_)
     have hE':Ext w (wr.alloc (.cells #[.int .i64 x.toNat,.int .i64 y.toNat] 3)).drew:=Ext.drew (Ext.alloc hE _)
     have hb':(wr.alloc (.cells #[.int .i64 x.toNat,.int .i64 y.toNat] 3)).drew.heap[wr.heap.size]?=some (.cells #[.int .i64 x.toNat,.int .i64 y.toNat] 3):=heap_alloc_new wr _
     have ho':(wr.alloc (.cells #[.int .i64 x.toNat,.int .i64 y.toNat] 3)).drew.ownsRow w.heap.size 3 1 u4 acc.length (acc.map iv):=zag hown (Ext.drew (Ext.alloc (Ext.refl _) _))
     refine ar1 10 rfl (fun K hK=>?_)
     refine wp_append_lies _ (.tmp 38) (.tmp 47) 96 (by rfl) w.heap.size 3 i0 (.int .i64 0) 1 8 Tryz.underlying96 hi hz0 hz1 hz2 rfl (by decide) _ acc.length (acc.map iv) (by rfl) ho' ⟨wr.heap.size,0,none⟩ 2 2 [.int .i64 x.toNat,.int .i64 y.toNat] (by rfl) rfl (World.news_of_block hb') (by simp[Value.oneCell']) (by omega) (by unfold maxLen;omega) (by omega) hE'.size _ rfl ?_
     intro g' cap w5 hown' hgrow _ _
     have hE5:Ext w w5:=Ext.grownOwn hE' ho' hgrow
     refine shK hK _ _ ⟨Ext.cell hE5 hcx,Ext.cell hE5 hcy⟩ (fun _=>?_)
     refine tkN 11 rfl ?_;refine tkN 12 rfl ?_;refine wpAnyH_done (by kernel_rfl) ?_ _
     refine ⟨rfl,_,rfl,rfl,?_,hE5⟩
     rw[hacc] at hown' ⊢
     exact hown'
    ·rintro e a' W h
     cases e <;> first | exact h.elim | skip
     obtain ⟨tm,df⟩:=a';obtain ⟨hd,v',h4,h5,ho,hE5⟩:=h
     cases hd
     simp only[Exit.then]
     gi_wp2
     refine zas ?_
     refine zcH (.tuple #[v',.bool true]) (zj8 _ _ _ _ h4 h5) ?_
     refine ⟨_,by rw[Hr2.out];rfl,(fun l h=>?_),hE5⟩
     rw[Hr2.out] at h
     cases h
     simpa [iv] using ho
 ·rintro a W h
  exact h.elim
theorem zsf (v:Value) (bs:List UInt8) (f:Int) (hf:f≠2) (w:World) (hBs:Bs w v bs):Calls Tryz.prog 141 #[v,.int .i64 f] w (ziV w (zd3 bs)):=by
 by_cases h:bs.length=22
 ·exact zqj v bs f hf w hBs h
 ·exact zsg v bs f hf w hBs h
theorem mcRead2a0 {P:Prop} (h:P:=by
 rintro D W hD ⟨v1,hv,hrow,hB⟩ hK;have hcl:=zfF (bs.drop 2);obtain ⟨q,hq⟩:∃ q,(zbk 8 (bs.drop 2)).flatMap zcY=q:=⟨_,rfl⟩;rw[hq] at hrow hcl
 have Hq:Hid (zgZ bs=q):=hq
 have hql:q.length≤2000000:=by omega
 clear hq hcl
 have hBq:Bs W v1 q:=SlR.of_own hrow
 obtain ⟨A1,cc1,rfl,_,_⟩:=SlR.open_ hBq;have hc:=hv.cell;have hf:=hv.frozen;have key:=zdc _ q 5 (by omega) W hBq (by omega);have HB:=zhd hB;have Hrow:=zhd hrow;clear hBd hBq hB hrow;subst hT
 gi_wp2_with (refine ⟨trivial,?_⟩;gi_at_call 103;refine (callsIn_wd.2 key).mono ?_;rintro e w3 ⟨vl,vr,rfl,ho,-,hE⟩)
 have hK3:w3.heap[D]?=some (.deferred (some [])):=(hE.block D (Array.getElem?_eq_some_iff.1 hK).1).trans hK
 refine zas ?_
 refine zbg hK3 (.tuple #[vl,.bool ((zad 5 [] q).1==0)]) (zj8 _ _ _ _ rfl rfl) ⟨vl,?_,?_,?_⟩
 ·rw[Hr.out,Hq.out]
  by_cases h:(zad 5 [] q).1=0 <;> simp[h]
 ·intro l h
  rw[Hr.out,Hq.out] at h
  split at h
  ·cases h
   exact ownsRow_putObj (zaj ho HB.out.size) (.deferred none) hK3 rfl
  ·cases h
 ·exact zar (Below.trans HB.out (hE.mono HB.out.size)) (by omega) _):P:=h
theorem mcRead2a1 {P:Prop} (h:P:=by
 refine wpAnyIn_done (by kernel_rfl) (zbv ?_) _
 simp only[Act.put,sA,sZ,sS]
 gi_wp2
 refine ⟨(((Kept.refl (K:=_) (A:=W)).drew).grown hg7 (fun k o ek ho=>?_)).setCell (fun o ho _=>?_) _,_,hv7.set _,?_,?_⟩
 ·obtain ⟨cur,hc'⟩:=zcs hrow ek
  rw[ho] at hc';cases hc'
  rintro ((⟨_,h⟩ | ⟨_,h⟩) | ⟨_,h⟩) <;> cases h
 ·rw[show W.heap[w.heap.size]?=_ from hv] at ho;cases ho
  rintro ((⟨h,_⟩ | ⟨h,_⟩) | ⟨_,h⟩)
  ·have h:w.heap.size=w.heap.size+1:=h
   omega
  ·have h:w.heap.size=w.heap.size+2:=h
   omega
  ·cases h
 ·have h:=ho7.kept (grownBy_setCell' w7 w.heap.size (.slice A7 L c7)) (.inr (hv7.not_row (by decide) ho7).symm)
  rw[Hfl.out,Hy.out,List.length_append,Hlen7.out,List.map_append]
  exact h
 ·refine ((HB.out.drew).grown hg7 (Ext.drew HB.out).size (fun k ek=>?_)).setCell (p:=⟨w.heap.size,0,none⟩) (Nat.le_refl _) _
  have:=(hrow.lt k ek).1
  omega):P:=h
attribute [local go_sem] Oper.semAt_some
def zgZ (b:List UInt8):List UInt8:=(zbk 8 (b.drop 2)).flatMap fun p=>p.take (p.length-4)
def zf7 (b:List UInt8):Option (List Int):=if b.length<2 then none else if (zad 5 [] (zgZ b)).1=0 then some (zad 5 [] (zgZ b)).2.1 else none
theorem zoI (v:Value) (bs:List UInt8) (w:World) (hBs:Bs w v bs) (hl:bs.length<2):Calls Tryz.prog 141 #[v,.int .i64 2] w (ziV w (zf7 bs)):=by
 obtain ⟨A,c,rfl,h1,h2⟩:=SlR.open_ hBs
 have Hr:Hid (zf7 bs=none):=if_pos hl
 have e2:((bs.length:Int)<2):=by omega
 refine (callsIn_wd (ro:=none) (n:=9)).1 ?_
 refine callsIn_of_wp_marks Tryz.func141 rfl trivial ?_ rfl
 simp only[Tryz.ntmps141,List.size_toArray,List.length_cons,List.length_nil,Nat.reduceAdd,Nat.reduceSub,Array.replicate_succ,Array.replicate_zero,List.push_toArray,List.append_toArray,List.nil_append,List.cons_append]
 gi_wp2
 refine zbq 0 (fun a W=>a.defers=[]∧a.tmps.size=73∧a.tmps.getD 0 undef=.slice A bs.length c∧Ext w W) (fun a _=>0) rfl (fun l' h=>by cases l' <;> first | exact absurd rfl h | rfl) ?_ ?_
 ·intro hrest
  clear hrest
  gi_wp2
  refine wpIn_goto ?_
  simp only[Exit.then]
  refine zah (by simp) ?_
  exact ⟨rfl,rfl,rfl,Ext.alloc (Ext.refl _) _⟩
 ·rintro ⟨T,df⟩ W ⟨hd,hsz,h0,hE⟩
  cases hd
  dsimp only at hsz h0;have hT:=zdi 73 T hsz
  generalize hU:(fun i=>T.getD i undef)=U at hT
  have g0:U 0=.slice A bs.length c:=by rw[←hU];exact h0
  have hT2:T = #[.slice A bs.length c,U 1,U 2,U 3,U 4,U 5,U 6,U 7,U 8,U 9,U 10,U 11,U 12,U 13,U 14,U 15,U 16,U 17,U 18,U 19,U 20,U 21,U 22,U 23,U 24,U 25,U 26,U 27,U 28,U 29,U 30,U 31,U 32,U 33,U 34,U 35,U 36,U 37,U 38,U 39,U 40,U 41,U 42,U 43,U 44,U 45,U 46,U 47,U 48,U 49,U 50,U 51,U 52,U 53,U 54,U 55,U 56,U 57,U 58,U 59,U 60,U 61,U 62,U 63,U 64,U 65,U 66,U 67,U 68,U 69,U 70,U 71,U 72]:=by rw[hT];show (#[U 0,U 1,U 2,U 3,U 4,U 5,U 6,U 7,U 8,U 9,U 10,U 11,U 12,U 13,U 14,U 15,U 16,U 17,U 18,U 19,U 20,U 21,U 22,U 23,U 24,U 25,U 26,U 27,U 28,U 29,U 30,U 31,U 32,U 33,U 34,U 35,U 36,U 37,U 38,U 39,U 40,U 41,U 42,U 43,U 44,U 45,U 46,U 47,U 48,U 49,U 50,U 51,U 52,U 53,U 54,U 55,U 56,U 57,U 58,U 59,U 60,U 61,U 62,U 63,U 64,U 65,U 66,U 67,U 68,U 69,U 70,U 71,U 72]:Array Value)=_;rw[g0]
  clear hT hU hsz g0 h0;subst hT2
  gi_wp2
  refine zas ?_
  refine zcH (.tuple #[.slice none 0 0,.bool false]) (by simp[results,Tryz.results141,go_sem]) ?_
  exact ⟨_,by rw[Hr.out];rfl,(fun l h=>by rw[Hr.out] at h;cases h),hE⟩
def zcY (p:List UInt8):List UInt8:=p.take (p.length-4)
theorem zfF:∀ (b:List UInt8),((zbk 8 b).flatMap zcY).length≤b.length:=by
 intro b
 generalize hn:b.length=n
 induction n using Nat.strongRecOn generalizing b with
 | _ n ih =>
  subst hn
  rcases Nat.eq_zero_or_pos b.length with h | h
  ·rw[List.eq_nil_of_length_eq_zero h,zfG];simp
  ·rw[zfb 8 b (by omega) h,List.flatMap_cons,List.length_append]
   have h1:=ih (b.drop 8).length (by simp;omega) (b.drop 8) rfl
   have h2:(zcY (b.take 8)).length≤(b.take 8).length:=by unfold zcY;simp
   have h3:(b.take 8).length+(b.drop 8).length=b.length:=by rw[←List.length_append,List.take_append_drop]
   omega
def TxI (w:World) (pre:List (List UInt8)) (X:World):Prop:=∃ v,Boxed X w.heap.size 38 v∧X.ownsRow w.heap.size 5 1 v (pre.flatMap zcY).length ((pre.flatMap zcY).map bv)∧Below w.heap.size w X
theorem zqk (v:Value) (bs:List UInt8) (w:World) (hBs:Bs w v bs) (hl:2≤bs.length) (hl2:bs.length≤2000000):Calls Tryz.prog 141 #[v,.int .i64 2] w (ziV w (zf7 bs)):=by
 obtain ⟨A,c,rfl,h1,h2⟩:=SlR.open_ hBs
 have Hr:Hid (zf7 bs=if (zad 5 [] (zgZ bs)).1=0 then some (zad 5 [] (zgZ bs)).2.1 else none):=if_neg (by omega)
 have e2:¬ ((bs.length:Int)<2):=by omega
 obtain ⟨_,b,off,rfl,hc⟩:=Bs.at_ hBs (by omega)
 have hcut:Bs w (.slice (some ⟨b,off+2,none⟩) (bs.length-2) (c-2)) (bs.drop 2):=Bs.cut hBs 2 hl rfl
 have hd2:(bs.drop 2).length=bs.length-2:=List.length_drop ..
 have hcut0:c=2→Bs w (.slice (some ⟨b,off,none⟩) (bs.length-2) 0) (bs.drop 2):=fun h=>Bs.cut0 (by omega) rfl (by omega)
 have Hcut:=zhd hcut;have Hcut0:=zhd hcut0;clear hc hBs hcut hcut0
 refine (callsIn_wd (ro:=none) (n:=9)).1 ?_
 refine callsIn_of_wp_marks Tryz.func141 rfl trivial ?_ rfl
 simp only[Tryz.ntmps141,List.size_toArray,List.length_cons,List.length_nil,Nat.reduceAdd,Nat.reduceSub,Array.replicate_succ,Array.replicate_zero,List.push_toArray,List.append_toArray,List.nil_append,List.cons_append]
 gi_wp2
 refine zbq 0 (fun a W=>a.defers=[]∧a.tmps.size=73∧a.tmps.getD 0 undef=.slice (some ⟨b,off,none⟩) bs.length c∧a.tmps.getD 6 undef=.pointer (some ⟨w.heap.size,0,none⟩)∧W=w.alloc (.cells #[.slice none 0 0] 38)) (fun a _=>0) rfl (fun l' h=>by cases l' <;> first | exact absurd rfl h | rfl) ?_ ?_
 ·intro hrest
  clear hrest
  gi_wp2
  refine wpIn_goto ?_
  simp only[Exit.then]
  refine zah (by simp) ?_
  exact ⟨rfl,rfl,rfl,rfl,rfl⟩
 ·rintro ⟨T,df⟩ W ⟨hd,hsz,h0,h6,rfl⟩
  cases hd
  dsimp only at hsz h0 h6;have hT:=zdi 73 T hsz
  generalize hU:(fun i=>T.getD i undef)=U at hT
  have g0:U 0=.slice (some ⟨b,off,none⟩) bs.length c:=by rw[←hU];exact h0
  have g6:U 6=.pointer (some ⟨w.heap.size,0,none⟩):=by rw[←hU];exact h6
  have hT2:T = #[.slice (some ⟨b,off,none⟩) bs.length c,U 1,U 2,U 3,U 4,U 5,.pointer (some ⟨w.heap.size,0,none⟩),U 7,U 8,U 9,U 10,U 11,U 12,U 13,U 14,U 15,U 16,U 17,U 18,U 19,U 20,U 21,U 22,U 23,U 24,U 25,U 26,U 27,U 28,U 29,U 30,U 31,U 32,U 33,U 34,U 35,U 36,U 37,U 38,U 39,U 40,U 41,U 42,U 43,U 44,U 45,U 46,U 47,U 48,U 49,U 50,U 51,U 52,U 53,U 54,U 55,U 56,U 57,U 58,U 59,U 60,U 61,U 62,U 63,U 64,U 65,U 66,U 67,U 68,U 69,U 70,U 71,U 72]:=by rw[hT];show (#[U 0,U 1,U 2,U 3,U 4,U 5,U 6,U 7,U 8,U 9,U 10,U 11,U 12,U 13,U 14,U 15,U 16,U 17,U 18,U 19,U 20,U 21,U 22,U 23,U 24,U 25,U 26,U 27,U 28,U 29,U 30,U 31,U 32,U 33,U 34,U 35,U 36,U 37,U 38,U 39,U 40,U 41,U 42,U 43,U 44,U 45,U 46,U 47,U 48,U 49,U 50,U 51,U 52,U 53,U 54,U 55,U 56,U 57,U 58,U 59,U 60,U 61,U 62,U 63,U 64,U 65,U 66,U 67,U 68,U 69,U 70,U 71,U 72]:Array Value)=_;rw[g0,g6]
  clear hT hU hsz g0 h0 g6 h6;subst hT2
  by_cases hc2:c=2
  ·skip
   gi_wp2_with (refine ⟨trivial,?_⟩;gi_at_call 168;refine (callsIn_wd.2 (zg5 _ _ _ 8 (by omega) _)).mono ?_;rintro e w' ⟨rfl,rfl⟩)
   have hBd:Bs w (.slice (some ⟨b,off,none⟩) (bs.length-2) (0)) (bs.drop 2):=Hcut0.out hc2
   have qb:Boxed (((w.alloc (.cells #[.slice none 0 0] 38)).alloc (.cells #[.slice (some ⟨b,off,none⟩) (bs.length-2) (0)] 38)).alloc (.cells #[.int .i64 8] 3)) w.heap.size 38 (.slice none 0 0):=((Boxed.new w _ _).alloc _).alloc _
   have q1:Boxed (((w.alloc (.cells #[.slice none 0 0] 38)).alloc (.cells #[.slice (some ⟨b,off,none⟩) (bs.length-2) (0)] 38)).alloc (.cells #[.int .i64 8] 3)) (w.heap.size+1) 38 (.slice (some ⟨b,off,none⟩) (bs.length-2) (0)):=by
    have:=(Boxed.new (w.alloc (.cells #[.slice none 0 0] 38)) 38 (.slice (some ⟨b,off,none⟩) (bs.length-2) (0))).alloc (.cells #[.int .i64 8] 3)
    rwa [World.size_alloc] at this
   have q2:Boxed (((w.alloc (.cells #[.slice none 0 0] 38)).alloc (.cells #[.slice (some ⟨b,off,none⟩) (bs.length-2) (0)] 38)).alloc (.cells #[.int .i64 8] 3)) (w.heap.size+2) 3 (.int .i64 8):=by
    have:=Boxed.new ((w.alloc (.cells #[.slice none 0 0] 38)).alloc (.cells #[.slice (some ⟨b,off,none⟩) (bs.length-2) (0)] 38)) 3 (.int .i64 8)
    rwa [World.size_alloc,World.size_alloc] at this
   have hE2:Ext w (((w.alloc (.cells #[.slice none 0 0] 38)).alloc (.cells #[.slice (some ⟨b,off,none⟩) (bs.length-2) (0)] 38)).alloc (.cells #[.int .i64 8] 3)):=Ext.alloc (Ext.alloc (Ext.alloc (Ext.refl _) _) _) _
   have hs2:(((w.alloc (.cells #[.slice none 0 0] 38)).alloc (.cells #[.slice (some ⟨b,off,none⟩) (bs.length-2) (0)] 38)).alloc (.cells #[.int .i64 8] 3)).heap.size=w.heap.size+3:=by simp
   have h0:TxI w [] (((w.alloc (.cells #[.slice none 0 0] 38)).alloc (.cells #[.slice (some ⟨b,off,none⟩) (bs.length-2) (0)] 38)).alloc (.cells #[.int .i64 8] 3)):=⟨_,qb,World.ownsRow_nil _ _ _ _,hE2⟩
   generalize (((w.alloc (.cells #[.slice none 0 0] 38)).alloc (.cells #[.slice (some ⟨b,off,none⟩) (bs.length-2) (0)] 38)).alloc (.cells #[.int .i64 8] 3))=w2 at *
   refine zdU (fun T hT=>?_)
   refine zbO (a:=⟨T,[]⟩) (by subst hT;rfl) (enters_of Tryz.func198 (by kernel_rfl) rfl)
    (fun W1 hb hs=>zhj 8 (by omega) (by omega) w W1 _ (bs.drop 2) hBd (by omega) (w.heap.size+1) (w.heap.size+2) (q1.kept (row:=none) (Ext.grown hb none) (by simp)) (q2.kept (row:=none) (Ext.grown hb none) (by simp)))
    (fun k o h=>h.elim) (fun k o h=>by rcases h with h | h <;> exact zba h.2) (fun x av W h=>by obtain ⟨_,_,rfl,_⟩:=h;rfl)
    (TxI w) (fun _ _ _=>False) ?hI (fun _ _ _ _ h _=>h) h0
    (fun p a' W=>∃ b' off',Bs W (.slice (some ⟨b',off',none⟩) p.length p.length) p∧0<p.length∧p.length≤8∧a'=⟨(T.setIfInBounds 55 (.slice (some ⟨b',off',none⟩) p.length p.length)).setIfInBounds 12 (.slice (some ⟨b',off',none⟩) p.length p.length),[]⟩)
    ?hAx ?assign ?body ?done (fun _ _ _ _ _ _ h _=>h.elim)
   case hI =>
    rintro s X Y ⟨v1,hv,hr,hB⟩ hm
    refine ⟨v1,hm.boxed hv ?_,hm.ownsRow hr ?_,hm.belowOf hB ?_ (Nat.le_refl _)⟩
    ·rintro (h | h)
     ·exact h
     ·cases h.2
    ·rintro k cur _ (h | h)
     ·exact h
     ·cases h.2
    ·rintro k o hk (h | h)
     ·exact h
     ·have:=h.1;omega
   case hAx =>
    rintro x a' X Y ⟨b',off',hu,hx0,hx8,rfl⟩ hm
    refine ⟨b',off',SlR.keep hu (fun q t hq=>hm.cell hq (fun o ho hc=>?_)),hx0,hx8,rfl⟩
    rintro (h | h)
    ·exact h
    ·rw[hc] at h;cases h.2
   case assign =>
    rintro l' pre x post W av K' hx hi hsz ⟨b',off',rfl,hu,hx0,hx8⟩ hK;obtain ⟨v1,hv,hr,hB⟩:=hi
    have huW:Bs W (.slice (some ⟨b',off',none⟩) x.length x.length) x:=Bs.ext hu hB
    have Hi:Hid (TxI w pre W):=⟨v1,hv,hr,hB⟩
    have Hx:=zhd hx;have HU:=zhd huW;clear hx hu huW hv hr hB;subst hT
    gi_wp2
    exact hK _ _ Kept.refl Hi.out ⟨b',off',HU.out,hx0,hx8,rfl⟩
   case body =>
    rintro l' pre x post a' W hx hl' hr ⟨v1,hv,hrow,hB⟩ hsz ⟨b',off',hu,hx0,hx8,rfl⟩
    have hfl:(pre++[x]).flatMap zcY=pre.flatMap zcY++zcY x:=by simp
    have Hfl:=zhd hfl;have Hx:=zhd hx;clear hfl hx
    have hfl9:(pre.flatMap zcY).length+x.length≤4000000:=by
     have h1:=zfF (bs.drop 2);rw[Hx.out,List.flatMap_append,List.length_append] at h1;omega
    subst hT
    generalize pre.flatMap zcY=Q at *
    obtain ⟨A1,cc1,rfl,_,_⟩:=SlR.open_ (SlR.of_own hrow);have hne:=hv.not_row (e:=5) (by decide) hrow;obtain ⟨y,hy⟩:∃ y,zcY x=y:=⟨_,rfl⟩
    gi_wp2
    have hmx:(if IntKind.i64.wrap ((x.length:Int)-4)<0 then 0 else IntKind.i64.wrap ((x.length:Int)-4))=((x.length-4:Nat):Int):=by
     have e:IntKind.i64.wrap ((x.length:Int)-4)=(x.length:Int)-4:=by rw[IntKind.wrap_i64];omega
     rw[e]
     split <;> omega
    have hml:((x.length-4:Nat):Int)≤(x.length:Int):=by omega
    have hcb:=hv.cell
    refine zcv (by kernel_rfl) (by kernel_rfl) ?_
    refine tkF 1 rfl rfl rfl ?_;refine tkF 2 rfl rfl rfl ?_;refine tkF 3 rfl rfl rfl ?_;refine tkF 4 rfl rfl rfl ?_;refine tkF 5 rfl rfl rfl ?_;refine tkF 6 rfl rfl rfl ?_
    refine zan (i:=0) (v:=?v9) (w':=?w9) rfl (by kernel_rfl) rfl rfl rfl ?h9 ?r9
    case h9=>go_simp;try (first | with_reducible rfl | (refine ⟨?_,?_⟩ <;> with_reducible rfl))
    have hrowD:W.drew.ownsRow w.heap.size 5 1 (.slice A1 Q.length cc1) Q.length (Q.map bv):=zag hrow (Ext.drew (Ext.refl _))
    have hcl:y.length=x.length-4:=by rw[←hy];unfold zcY;rw[List.length_take];omega
    have hcx:Bs W.drew (.slice (some ⟨b',off',none⟩) (x.length-4) x.length) y:=by
     have h:=Bs.take (hu.ext (Ext.drew (Ext.refl W))) (x.length-4) (by omega);rw[←hy]
     exact h
    have Hy:=zhd hy;clear hy;obtain ⟨i0,hi,hz0,hz1,hz2⟩:=info_parts zcA;obtain ⟨v7,w7,hrun7,ho7,hg7⟩:=za4 (P:=Tryz.prog) W.drew w.heap.size 38 38 5 i0 (.int .u8 0) 1 1 Tryz.underlying38 hi hz0 hz1 hz2 rfl (by decide) _ _ _ hrowD _ _ _ hcx (zdI _) (by unfold maxLen;omega) (by omega) (Ext.drew hB).size
    have hlen7:Q.length+y.length=(Q++y).length:=by simp
    rw[hlen7] at ho7;obtain ⟨A7,c7,rfl,_,_⟩:=SlR.open_ (SlR.of_own ho7)
    have hv7:Boxed w7 w.heap.size 38 (.slice A1 Q.length cc1):=Boxed.kept (show Boxed W.drew w.heap.size 38 (.slice A1 Q.length cc1) from hv) hg7 hne
    have Hcl:=zhd hcl;have Hlen7:=zhd hlen7;clear hcl hlen7
    generalize (Q++y).length=L at *
    refine zan (i:=7) (v:=.slice A7 L c7) (w':=w7) rfl (by kernel_rfl) rfl rfl (zc4 _ _ _ rfl) (zdo (v:=.slice A1 Q.length cc1) (vx:=.slice (some ⟨b',off',none⟩) (x.length-4) x.length) (.tmp 56) (.tmp 62) 38 rfl (by simp[Act.eval,Act.put]) (by simp[Act.eval,Act.put]) hrun7) ?_
    have hc7:=hv7.cell;have hf7:=hv7.frozen;have HB:=zhd hB;clear hrun7 hcb hcx hmx
    refine zbR (i:=8) (w':=?w10) rfl (by kernel_rfl) rfl rfl rfl ?h10 ?r10
    case h10=>go_simp;try (first | with_reducible rfl | (refine ⟨?_,?_⟩ <;> with_reducible rfl))
    exact mcRead2a1
   case done =>
    exact mcRead2a0
  ·skip
   gi_wp2_with (refine ⟨trivial,?_⟩;gi_at_call 168;refine (callsIn_wd.2 (zg5 _ _ _ 8 (by omega) _)).mono ?_;rintro e w' ⟨rfl,rfl⟩)
   have hBd:Bs w (.slice (some ⟨b,off+2,none⟩) (bs.length-2) (c-2)) (bs.drop 2):=Hcut.out
   have qb:Boxed (((w.alloc (.cells #[.slice none 0 0] 38)).alloc (.cells #[.slice (some ⟨b,off+2,none⟩) (bs.length-2) (c-2)] 38)).alloc (.cells #[.int .i64 8] 3)) w.heap.size 38 (.slice none 0 0):=((Boxed.new w _ _).alloc _).alloc _
   have q1:Boxed (((w.alloc (.cells #[.slice none 0 0] 38)).alloc (.cells #[.slice (some ⟨b,off+2,none⟩) (bs.length-2) (c-2)] 38)).alloc (.cells #[.int .i64 8] 3)) (w.heap.size+1) 38 (.slice (some ⟨b,off+2,none⟩) (bs.length-2) (c-2)):=by
    have:=(Boxed.new (w.alloc (.cells #[.slice none 0 0] 38)) 38 (.slice (some ⟨b,off+2,none⟩) (bs.length-2) (c-2))).alloc (.cells #[.int .i64 8] 3)
    rwa [World.size_alloc] at this
   have q2:Boxed (((w.alloc (.cells #[.slice none 0 0] 38)).alloc (.cells #[.slice (some ⟨b,off+2,none⟩) (bs.length-2) (c-2)] 38)).alloc (.cells #[.int .i64 8] 3)) (w.heap.size+2) 3 (.int .i64 8):=by
    have:=Boxed.new ((w.alloc (.cells #[.slice none 0 0] 38)).alloc (.cells #[.slice (some ⟨b,off+2,none⟩) (bs.length-2) (c-2)] 38)) 3 (.int .i64 8)
    rwa [World.size_alloc,World.size_alloc] at this
   have hE2:Ext w (((w.alloc (.cells #[.slice none 0 0] 38)).alloc (.cells #[.slice (some ⟨b,off+2,none⟩) (bs.length-2) (c-2)] 38)).alloc (.cells #[.int .i64 8] 3)):=Ext.alloc (Ext.alloc (Ext.alloc (Ext.refl _) _) _) _
   have hs2:(((w.alloc (.cells #[.slice none 0 0] 38)).alloc (.cells #[.slice (some ⟨b,off+2,none⟩) (bs.length-2) (c-2)] 38)).alloc (.cells #[.int .i64 8] 3)).heap.size=w.heap.size+3:=by simp
   have h0:TxI w [] (((w.alloc (.cells #[.slice none 0 0] 38)).alloc (.cells #[.slice (some ⟨b,off+2,none⟩) (bs.length-2) (c-2)] 38)).alloc (.cells #[.int .i64 8] 3)):=⟨_,qb,World.ownsRow_nil _ _ _ _,hE2⟩
   generalize (((w.alloc (.cells #[.slice none 0 0] 38)).alloc (.cells #[.slice (some ⟨b,off+2,none⟩) (bs.length-2) (c-2)] 38)).alloc (.cells #[.int .i64 8] 3))=w2 at *
   refine zdU (fun T hT=>?_)
   refine zbO (a:=⟨T,[]⟩) (by subst hT;rfl) (enters_of Tryz.func198 (by kernel_rfl) rfl)
    (fun W1 hb hs=>zhj 8 (by omega) (by omega) w W1 _ (bs.drop 2) hBd (by omega) (w.heap.size+1) (w.heap.size+2) (q1.kept (row:=none) (Ext.grown hb none) (by simp)) (q2.kept (row:=none) (Ext.grown hb none) (by simp)))
    (fun k o h=>h.elim) (fun k o h=>by rcases h with h | h <;> exact zba h.2) (fun x av W h=>by obtain ⟨_,_,rfl,_⟩:=h;rfl)
    (TxI w) (fun _ _ _=>False) ?hI (fun _ _ _ _ h _=>h) h0
    (fun p a' W=>∃ b' off',Bs W (.slice (some ⟨b',off',none⟩) p.length p.length) p∧0<p.length∧p.length≤8∧a'=⟨(T.setIfInBounds 55 (.slice (some ⟨b',off',none⟩) p.length p.length)).setIfInBounds 12 (.slice (some ⟨b',off',none⟩) p.length p.length),[]⟩)
    ?hAx ?assign ?body ?done (fun _ _ _ _ _ _ h _=>h.elim)
   case hI =>
    rintro s X Y ⟨v1,hv,hr,hB⟩ hm
    refine ⟨v1,hm.boxed hv ?_,hm.ownsRow hr ?_,hm.belowOf hB ?_ (Nat.le_refl _)⟩
    ·rintro (h | h)
     ·exact h
     ·cases h.2
    ·rintro k cur _ (h | h)
     ·exact h
     ·cases h.2
    ·rintro k o hk (h | h)
     ·exact h
     ·have:=h.1;omega
   case hAx =>
    rintro x a' X Y ⟨b',off',hu,hx0,hx8,rfl⟩ hm
    refine ⟨b',off',SlR.keep hu (fun q t hq=>hm.cell hq (fun o ho hc=>?_)),hx0,hx8,rfl⟩
    rintro (h | h)
    ·exact h
    ·rw[hc] at h;cases h.2
   case assign =>
    rintro l' pre x post W av K' hx hi hsz ⟨b',off',rfl,hu,hx0,hx8⟩ hK;obtain ⟨v1,hv,hr,hB⟩:=hi
    have huW:Bs W (.slice (some ⟨b',off',none⟩) x.length x.length) x:=Bs.ext hu hB
    have Hi:Hid (TxI w pre W):=⟨v1,hv,hr,hB⟩
    have Hx:=zhd hx;have HU:=zhd huW;clear hx hu huW hv hr hB;subst hT
    gi_wp2
    exact hK _ _ Kept.refl Hi.out ⟨b',off',HU.out,hx0,hx8,rfl⟩
   case body =>
    rintro l' pre x post a' W hx hl' hr ⟨v1,hv,hrow,hB⟩ hsz ⟨b',off',hu,hx0,hx8,rfl⟩
    have hfl:(pre++[x]).flatMap zcY=pre.flatMap zcY++zcY x:=by simp
    have Hfl:=zhd hfl;have Hx:=zhd hx;clear hfl hx
    have hfl9:(pre.flatMap zcY).length+x.length≤4000000:=by
     have h1:=zfF (bs.drop 2);rw[Hx.out,List.flatMap_append,List.length_append] at h1;omega
    subst hT
    generalize pre.flatMap zcY=Q at *
    obtain ⟨A1,cc1,rfl,_,_⟩:=SlR.open_ (SlR.of_own hrow);have hne:=hv.not_row (e:=5) (by decide) hrow;obtain ⟨y,hy⟩:∃ y,zcY x=y:=⟨_,rfl⟩
    gi_wp2
    have hmx:(if IntKind.i64.wrap ((x.length:Int)-4)<0 then 0 else IntKind.i64.wrap ((x.length:Int)-4))=((x.length-4:Nat):Int):=by
     have e:IntKind.i64.wrap ((x.length:Int)-4)=(x.length:Int)-4:=by rw[IntKind.wrap_i64];omega
     rw[e]
     split <;> omega
    have hml:((x.length-4:Nat):Int)≤(x.length:Int):=by omega
    have hcb:=hv.cell
    refine zcv (by kernel_rfl) (by kernel_rfl) ?_
    refine tkF 1 rfl rfl rfl ?_;refine tkF 2 rfl rfl rfl ?_;refine tkF 3 rfl rfl rfl ?_;refine tkF 4 rfl rfl rfl ?_;refine tkF 5 rfl rfl rfl ?_;refine tkF 6 rfl rfl rfl ?_
    refine zan (i:=0) (v:=?v18) (w':=?w18) rfl (by kernel_rfl) rfl rfl rfl ?h18 ?r18
    case h18=>go_simp;try (first | with_reducible rfl | (refine ⟨?_,?_⟩ <;> with_reducible rfl))
    have hrowD:W.drew.ownsRow w.heap.size 5 1 (.slice A1 Q.length cc1) Q.length (Q.map bv):=zag hrow (Ext.drew (Ext.refl _))
    have hcl:y.length=x.length-4:=by rw[←hy];unfold zcY;rw[List.length_take];omega
    have hcx:Bs W.drew (.slice (some ⟨b',off',none⟩) (x.length-4) x.length) y:=by
     have h:=Bs.take (hu.ext (Ext.drew (Ext.refl W))) (x.length-4) (by omega);rw[←hy]
     exact h
    have Hy:=zhd hy;clear hy;obtain ⟨i0,hi,hz0,hz1,hz2⟩:=info_parts zcA;obtain ⟨v7,w7,hrun7,ho7,hg7⟩:=za4 (P:=Tryz.prog) W.drew w.heap.size 38 38 5 i0 (.int .u8 0) 1 1 Tryz.underlying38 hi hz0 hz1 hz2 rfl (by decide) _ _ _ hrowD _ _ _ hcx (zdI _) (by unfold maxLen;omega) (by omega) (Ext.drew hB).size
    have hlen7:Q.length+y.length=(Q++y).length:=by simp
    rw[hlen7] at ho7;obtain ⟨A7,c7,rfl,_,_⟩:=SlR.open_ (SlR.of_own ho7)
    have hv7:Boxed w7 w.heap.size 38 (.slice A1 Q.length cc1):=Boxed.kept (show Boxed W.drew w.heap.size 38 (.slice A1 Q.length cc1) from hv) hg7 hne
    have Hcl:=zhd hcl;have Hlen7:=zhd hlen7;clear hcl hlen7
    generalize (Q++y).length=L at *
    refine zan (i:=7) (v:=.slice A7 L c7) (w':=w7) rfl (by kernel_rfl) rfl rfl (zc4 _ _ _ rfl) (zdo (v:=.slice A1 Q.length cc1) (vx:=.slice (some ⟨b',off',none⟩) (x.length-4) x.length) (.tmp 56) (.tmp 62) 38 rfl (by simp[Act.eval,Act.put]) (by simp[Act.eval,Act.put]) hrun7) ?_
    have hc7:=hv7.cell;have hf7:=hv7.frozen;have HB:=zhd hB;clear hrun7 hcb hcx hmx
    refine zbR (i:=8) (w':=?w19) rfl (by kernel_rfl) rfl rfl rfl ?h19 ?r19
    case h19=>go_simp;try (first | with_reducible rfl | (refine ⟨?_,?_⟩ <;> with_reducible rfl))
    exact mcRead2a1
   case done =>
    exact mcRead2a0
def zd9 (b:List UInt8) (f:Int):Option (List Int):=if f=2 then zf7 b else zd3 b
theorem znq (v:Value) (bs:List UInt8) (f:Int) (w:World) (hBs:Bs w v bs) (hl:bs.length≤2000000):Calls Tryz.prog 141 #[v,.int .i64 f] w (ziV w (zd9 bs f)):=by
 by_cases hf:f=2
 ·subst hf
  rw[zd9,if_pos rfl]
  by_cases h2:bs.length<2
  ·exact zoI v bs w hBs h2
  ·exact zqk v bs w hBs (by omega) hl
 ·rw[zd9,if_neg hf]
  exact zsf v bs f hf w hBs
def zqA (l:List Int):Sta:=⟨l.getD 0 0,l.getD 1 0,l.getD 2 0,l.getD 3 0,l.getD 4 0==1⟩
end Go.Proofs.YtgonhdeochgkoaaGreatDoor
