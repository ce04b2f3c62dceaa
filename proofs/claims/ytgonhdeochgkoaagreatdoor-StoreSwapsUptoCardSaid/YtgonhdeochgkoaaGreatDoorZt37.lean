/- Merged: R4a R4b R4c -/
import Derived.Test.YtgonhdeochgkoaaGreatDoorZt20
import Derived.Test.YtgonhdeochgkoaaGreatDoorZt24
set_option linter.all false
set_option maxHeartbeats 8000000
set_option maxRecDepth 100000
namespace Go.Proofs.YtgonhdeochgkoaaGreatDoor
open Go.RowKit Go.Mv Go.Shelf
theorem ztQ (tmps:Array Value) (W:World) (b:Nat) (cs:Array Value) (h4:tmps.getD 2 undef=.pointer (some ⟨b,0,none⟩)) (hb:Blk W b 25 cs) (hs:cs.size=5):(results Tryz.f45 tmps).run Tryz.prog W=.ok (.agg cs) W:=by
 have hl:=hb.load (P:=Tryz.prog) (show Tryz.prog.underlying 25=some (.struct (Tryz.prog.fieldsOf 25)) by kernel_rfl) rfl (by rw[hs];kernel_rfl)
 have h4':tmps[2]?.getD undef=.pointer (some ⟨b,0,none⟩):=by simpa using h4
 simp[results,Tryz.results45,h4',asAddr,hl]
theorem zs0 (q:Int) (hq:0≤q) (w:World):Calls Tryz.prog 45 #[.int .i64 q] w fun e w'=>e=.returned (.agg #[.slice none 0 0,.slice none 0 0,.int .i64 q,.int .i64 0,.bool false])∧Ext w w':=by
 go_enter Tryz.func45,Tryz.ntmps45
 go_wp2
 rw[show max q 0=q by omega]
 refine bodyPost_ret (ztQ _ _ _ _ rfl (Blk.new w _ _) rfl) rfl ?_
 exact ⟨rfl,Ext.alloc (Ext.refl _) _⟩
theorem zis (v:Value) (fs:List Fil) (n:List UInt8) (w:World) (hF:Fs w v fs) (hl:fs.length≤4000000):Calls Tryz.prog 94 #[v,sv n] w fun e w'=>e=.returned (.int .i64 (za5 fs n))∧w=w':=by
 obtain ⟨A,c,rfl,h1,h2⟩:=Fs.open_ hF;have HF:=zhd hF;unfold sv;clear hF
 go_enter Tryz.func94,Tryz.ntmps94
 go_wp2_with fail
 go_loopw [5] (fun i wr=>∃ j:Nat,j≤fs.length∧i=.int .i64 j∧Hid (∀ q (_:q<j) (h2:q<fs.length),fs[q].1≠n)∧w=wr) (fun i _=>fs.length-(intOf i).toNat)
 case atStart=>exact ⟨0,by omega,rfl,fun q hq=>by omega,rfl⟩
 case round =>
  obtain ⟨j,hj,rfl,Hn,rfl⟩:=hrel
  by_cases hlt:j<fs.length
  ·obtain ⟨_,b,off,rfl,hc⟩:=HF.out.at_ (by omega)
   obtain ⟨hc0,_⟩:=hc j hlt
   have hp:fs[j].1=n→za5 fs n=j:=fun h=>zj5 hlt h Hn.out
   have hq:fs[j].1≠n→∀ q (_:q<j+1) (h2:q<fs.length),fs[q].1≠n:=fun h q h3 h2=>by
    by_cases e:q=j
    ·subst e;exact h
    ·exact Hn.out q (by omega) h2
   have Hp:=zhd hp;have Hq:=zhd hq;clear hc hp hq
   generalize fs[j].1=x at *
   simp only[sv] at hc0
   by_cases hx:x=n
   ·have hxe:(x==n)=true:=by simpa using hx
    have hfin:=zhd (Hp.out hx);go_wp2_with fail;go_ret
    exact ⟨by rw[hfin.out];rfl,rfl⟩
   ·have hxe:(x==n)=false:=by simpa using hx
    have Hq2:=zhd (Hq.out hx);go_wp2_with fail
    go_roundw
    case rel=>exact ⟨j+1,by omega,by go_num,Hq2,trivial⟩
    case measure=>simp[intOf];omega
  ·obtain rfl:j=fs.length:=by omega
   have hfin:=zhd (show za5 fs n = -1 from zhJ fun q h2=>Hn.out q h2 h2)
   go_wp2_with fail;go_ret
   exact ⟨by rw[hfin.out];rfl,rfl⟩
/-! Parts of rows of files -/
theorem zce (W:World):FRow W [] []:=⟨rfl,fun i hi=>by simp at hi⟩
theorem ziy {W:World} {xs:List Value} {l:List Fil} (h:FRow W xs l) (k:Nat) (hk:k≤l.length):FRow W (xs.take (k*2)) (l.take k):=by
 obtain ⟨h1,h2⟩:=h
 refine ⟨by rw[List.length_take,List.length_take,h1];omega,fun i hi=>?_⟩
 have hi2:i<k:=by rw[List.length_take] at hi;omega
 obtain ⟨a,u,b,c⟩:=h2 i (by omega);rw[List.getElem?_take_of_lt (by omega),List.getElem?_take_of_lt (by omega)];simp only[List.getElem_take]
 exact ⟨a,u,b,c⟩
theorem zix {W:World} {xs:List Value} {l:List Fil} (h:FRow W xs l) (k:Nat) (hk:k≤l.length):FRow W (xs.drop (k*2)) (l.drop k):=by
 obtain ⟨h1,h2⟩:=h
 refine ⟨by rw[List.length_drop,List.length_drop,h1];omega,fun i hi=>?_⟩
 rw[List.length_drop] at hi;obtain ⟨a,u,b,c⟩:=h2 (k+i) (by omega);rw[List.getElem?_drop,List.getElem?_drop];simp only[List.getElem_drop]
 rw[show k*2+i*2=(k+i)*2 by omega,show k*2+(i*2+1)=(k+i)*2+1 by omega]
 exact ⟨a,u,b,c⟩
theorem ziL {w:World} {A:Option Addr} {n c:Nat} {xs:List Value} (h:SlR w 2 (.slice A n c) n xs) (k:Nat) (hk:k≤n):SlR w 2 (.slice A k c) k (xs.take (k*2)):=by
 obtain ⟨hl,A',c',e,h1,h2,h3⟩:=h
 cases e
 refine ⟨by rw[List.length_take,hl];omega,A,c,rfl,by omega,h2,fun hn=>?_⟩
 obtain ⟨b,off,rfl,hc⟩:=h3 (by omega)
 exact ⟨b,off,rfl,fun j u hu=>hc j u (by
  rw[List.getElem?_take] at hu
  split at hu
  ·exact hu
  ·cases hu)⟩
theorem zsy {w:World} {b off n c:Nat} {xs:List Value} (h:SlR w 2 (.slice (some ⟨b,off,none⟩) n c) n xs) (k:Nat) (hk:k≤n):SlR w 2 (.slice (some ⟨b,off+k*2,none⟩) (n-k) (c-k)) (n-k) (xs.drop (k*2)):=by
 obtain ⟨hl,A',c',e,h1,h2,h3⟩:=h
 cases e
 refine ⟨by rw[List.length_drop,hl];omega,_,_,rfl,by omega,by omega,fun hn=>?_⟩
 obtain ⟨b',off',e,hc⟩:=h3 (by omega)
 cases e
 refine ⟨b,off+k*2,rfl,fun j u hu=>?_⟩
 rw[List.getElem?_drop] at hu
 have:=hc _ u hu
 rwa [←Nat.add_assoc] at this
theorem zgr {w:World} {b off n c:Nat} {xs:List Value} (h:SlR w 2 (.slice (some ⟨b,off,none⟩) n c) n xs) (k:Nat) (hk:k≤n):SlR w 2 (.slice (if c=k then some ⟨b,off,none⟩ else some ⟨b,off+k*2,none⟩) (n-k) (c-k)) (n-k) (xs.drop (k*2)):=by
 have h0:=zsy h k hk
 split
 ·rename_i hc
  obtain ⟨hl,A',c',e,h1,h2,h3⟩:=h
  cases e
  obtain ⟨gl,A2,c2,e2,g1,g2,g3⟩:=h0
  cases e2
  exact ⟨gl,_,_,rfl,g1,g2,fun hn=>by omega⟩
 ·exact h0
theorem zbr {o:Oper} {a:Act} {w:World} {K:Act→World→Prop} {Q:Exit→Act→World→Prop} (s x:Operand)
  (ho:o.op=.call { callee:=.builtin .append,args:=#[s,x],argTypes:=#[22,22] })
  (W0:World) (hE0:Ext W0 w) (v:Value) (n:Nat) (xs:List Value) (hs:a.eval s=v) (hown:w.ownsRow W0.heap.size 51 2 v n xs)
  (vx:Value) (m:Nat) (ys:List Value) (gs:List Fil) (hx:a.eval x=vx) (hy:SlR w 2 vx m ys) (hyr:FRow W0 ys gs) (hlen:n+m≤4000000)
  (h:∀ A c w',w'.ownsRow W0.heap.size 51 2 (.slice A (n+m) c) (n+m) (xs++ys)→Ext W0 w'→w.grownBy w' v.ownBlock→K (a.put o.dst (.slice A (n+m) c)) w'):Oper.wp Tryz.prog o a w K Q:=by
 obtain ⟨i0,hi,hz0,hz1,hz2⟩:=info_parts zjW;obtain ⟨v',w',hrun,h1,h2⟩:=za4 (P:=Tryz.prog) w W0.heap.size 22 o.type 51 i0 _ 2 40 Tryz.underlying22 hi hz0 hz1 hz2 rfl (by decide) v n xs hown vx m ys hy hyr.one (by unfold maxLen;omega) (by omega) hE0.size
 have hE:Ext W0 w':=Ext.grownOwn hE0 (zaj hown (Nat.le_refl _)) h2
 unfold Oper.wp execOp;simp only[ho,resolve,invoke,builtin,Sem.run_bind,Sem.run_pure,Result.andThen_ok,List.map_toArray,List.map_cons,List.map_nil,hs,hx,hrun];obtain ⟨A,c,rfl,_,_⟩:=SlR.open_ (SlR.of_own h1)
 exact h A c w' h1 hE h2
theorem zcO {W0 W:World} {base:Nat} {v:Value} {n:Nat} {xs:List Value} {l:List Fil} (h:W.ownsRow base 51 2 v n xs) (hr:FRow W0 xs l) (hn:n=l.length) (hE:Ext W0 W):Fs W v l:=by
 subst hn
 exact ⟨xs,SlR.of_own h,(hr.ext hE).2⟩
def zhZ (l:List Fil) (at_:Int):List Fil:=if at_<0 then l else l.take at_.toNat++l.drop (at_.toNat+1)
theorem zge (v:Value) (fs:List Fil) (k:Int) (w:World) (hF:Fs w v fs) (hl:fs.length≤1000000) (hk:-1≤k∧k<fs.length):Calls Tryz.prog 96 #[v,.int .i64 k] w fun e w'=>(∃ v',e=.returned v'∧Fs w' v' (zhZ fs k))∧Ext w w':=by
 obtain ⟨A,c,rfl,h1,h2⟩:=Fs.open_ hF;obtain ⟨k0,k1⟩:=hk
 by_cases hneg:k<0
 ·have hu:zhZ fs k=fs:=by unfold zhZ;rw[if_pos hneg]
  rw[hu];have HF:=zhd hF;clear hF hu
  go_enter Tryz.func96,Tryz.ntmps96
  go_wp2
  go_ret
  exact ⟨⟨_,rfl,HF.out⟩,Ext.refl _⟩
 ·obtain ⟨i,rfl⟩:∃ i:Nat,k=(i:Int):=⟨k.toNat,by omega⟩
  have hu:zhZ fs (i:Int)=fs.take i++fs.drop (i+1):=by unfold zhZ;rw[if_neg hneg];rfl
  rw[hu];obtain ⟨xs,hx1,hx2⟩:=hF
  have hlt:i<fs.length:=by omega
  have hrw:FRow w xs fs:=⟨hx1.1,hx2⟩
  obtain ⟨_,b,off,rfl,_⟩:=Fs.at_ (show Fs w (.slice A fs.length c) fs from ⟨xs,hx1,hx2⟩) (by omega)
  have hX:Ext w (w.alloc (.cells #[] 51)):=Ext.alloc (Ext.refl _) _
  have r1:=ziy hrw i (by omega);have r2:=zix hrw (i+1) (by omega);have s1:=ziL hx1 i (by omega);have s2:=zgr hx1 (i+1) (by omega)
  have hw1:IntKind.i64.wrap ((i:Int)+1)=((i+1:Nat):Int):=by rw[IntKind.wrap_i64];omega
  have hic:i≤c:=by omega
  have hin:i+1≤fs.length:=by omega
  have hin2:0≤(i:Int)+1∧(i:Int)+1≤(fs.length:Int):=by omega
  have HX:=zhd hX;have R1:=zhd r1;have R2:=zhd r2;have S1:=zhd s1;have S2:=zhd s2;clear hx1 hx2 hrw hX r1 r2 s1 s2 hu
  go_enter Tryz.func96,Tryz.ntmps96
  go_wp2_with fail
  refine wp_region_held_drew (S:=fun _=>True) (by kernel_rfl) trivial (fun _=>?_)
  refine tkN 1 rfl ?_;refine tkN 2 rfl ?_;refine tkN 3 rfl ?_;refine tkN 5 rfl ?_;refine tkN 6 rfl ?_;refine tkN 7 rfl ?_;refine tkN 8 rfl ?_
  refine ar1 0 rfl (fun K hK=>?_)
  go_simp
  refine shK hK _ _ trivial (fun _=>?_)
  refine ar1 4 rfl (fun K hK=>?_)
  refine zbr (.tmp 8) (.tmp 11) rfl w (Ext.drew (Ext.alloc (Ext.refl _) _)) _ 0 [] rfl (zag (ze1 w [] 0 rfl (by simp[maxLen]) (Nat.le_refl _)) (Ext.drew (Ext.refl _))) _ i _ _ rfl (S1.out.ext (Ext.drew (Ext.alloc (Ext.refl _) _))) R1.out (by omega) ?_
  intro A1 c1 w1 ho1 hE1 _
  refine shK hK _ _ trivial (fun _=>?_)
  refine ar1 9 rfl (fun K hK=>?_)
  refine zbr (.tmp 12) (.tmp 16) rfl w hE1 _ (0+i) _ rfl ho1 _ (fs.length-(i+1)) _ _ rfl (S2.out.ext hE1) R2.out (by omega) ?_
  intro A2 c2 w2 ho2 hE2 _
  refine shK hK _ _ trivial (fun _=>?_)
  refine tkN 10 rfl ?_;refine wpAnyH_done (by kernel_rfl) ?_ _
  have hfr:FRow w _ (fs.take i++fs.drop (i+1)):=FRow.append (FRow.append (zce w) R1.out) R2.out
  simp only[Nat.zero_add] at ho2
  have hln:i+(fs.length-(i+1))=(fs.take i++fs.drop (i+1)).length:=by
   rw[List.length_append,List.length_take,List.length_drop,Nat.min_eq_left (by omega)]
  have HFI:=zhd (zcO ho2 hfr hln hE2);have HE2:=zhd hE2;clear hfr ho2 hln hE2;go_wp2_with fail
  all_goals go_ret
  all_goals exact ⟨⟨_,rfl,HFI.out⟩,HE2.out⟩
theorem mcR4ba0 {P:Prop} (h:P:=by
 refine ar1 7 rfl (fun K hK=>?_)
 refine zbr (.tmp 32) (.tmp 34) rfl wr hEc _ l.length _ rfl hoc _ 1 _ [(n,b)] rfl hs (FRow.one' (HB.out.ext (Ext.trans HE2.out HEr.out))) (by omega) ?_
 intro A5 c5 w5 ho5 hE5 _
 refine shK hK _ _ (HOLD.out _ hE5) (fun _=>?_)
 refine ar1 11 rfl (fun K hK=>?_)
 refine zbr (.tmp 35) (.tmp 38) rfl wr hE5 _ (l.length+1) _ rfl ho5 _ 0 [] [] rfl (zuc _ _ _ (by unfold maxLen;omega)) (zce wr) (by omega) ?_
 intro A6 c6 w6 ho6 hE6 _
 refine shK hK _ _ (HOLD.out _ hE6) (fun _=>?_)
 refine tkN 12 rfl ?_;refine wpAnyH_done (by kernel_rfl) ?_ _;have hfr:=FRow.append (FRow.append (FRow.append (zce wr) R1.out) (FRow.one' (n1:=n) (HB.out.ext (Ext.trans HE2.out HEr.out)))) (zce wr);simp only[List.nil_append,List.append_assoc,List.singleton_append,List.append_nil] at hfr;simp only[Nat.zero_add,Nat.add_zero,List.nil_append,List.append_assoc,List.append_nil] at ho6
 have hln:l.length+1=(l.take l.length++[(n,b)]).length:=by rw[List.length_append,List.take_length];rfl
 have hfi:=zcO ho6 hfr hln hE6
 rw[←show zcF (n,b) l=l.take l.length++[(n,b)] by rw[Hi2.out,List.drop_length]] at hfi
 have HFI:=zhd hfi;have HE6:=zhd hE6;clear hfr ho6 hln hE6 hfi;go_wp2_with fail
 all_goals go_ret
 all_goals exact ⟨⟨_,rfl,HFI.out⟩,Ext.trans HE2.out (Ext.trans HEr.out HE6.out)⟩):P:=h
theorem mcR4ba1 {P:Prop} (h:P:=by
 refine ar1 7 rfl (fun K hK=>?_)
 refine zbr (.tmp 32) (.tmp 34) rfl wr hEc _ j _ rfl hoc _ 1 _ [(n,b)] rfl hs (FRow.one' (HB.out.ext (Ext.trans HE2.out HEr.out))) (by omega) ?_
 intro A5 c5 w5 ho5 hE5 _
 refine shK hK _ _ (HOLD.out _ hE5) (fun _=>?_)
 refine ar1 11 rfl (fun K hK=>?_)
 refine zbr (.tmp 35) (.tmp 38) rfl wr hE5 _ (j+1) _ rfl ho5 _ (l.length-j) _ _ rfl ((zgr HX1.out j hj).ext hE5) R2.out (by omega) ?_
 intro A6 c6 w6 ho6 hE6 _
 refine shK hK _ _ (HOLD.out _ hE6) (fun _=>?_)
 refine tkN 12 rfl ?_;refine wpAnyH_done (by kernel_rfl) ?_ _;have hfr:=FRow.append (FRow.append (FRow.append (zce wr) R1.out) (FRow.one' (n1:=n) (HB.out.ext (Ext.trans HE2.out HEr.out)))) R2.out;simp only[List.nil_append,List.append_assoc,List.singleton_append,List.append_nil] at hfr;simp only[Nat.zero_add,Nat.add_zero,List.nil_append,List.append_assoc,List.append_nil] at ho6
 have hln:j+1+(l.length-j)=(l.take j++(n,b)::l.drop j).length:=by
  rw[List.length_append,List.length_cons,List.length_take,List.length_drop,Nat.min_eq_left (by omega)];omega
 have hfi:=zcO ho6 hfr hln hE6;rw[←Hi2.out] at hfi;have HFI:=zhd hfi;have HE6:=zhd hE6;clear hfr ho6 hln hE6 hfi;go_wp2_with fail
 all_goals go_ret
 all_goals exact ⟨⟨_,rfl,HFI.out⟩,Ext.trans HE2.out (Ext.trans HEr.out HE6.out)⟩):P:=h
theorem ziE (n:List UInt8):∀ l:List Fil,zhZ l (za5 l n)=za8 n l
 | []=>rfl
 | p::l=>by
  have ih:=ziE n l
  unfold za5 at ih ⊢
  rw[List.findIdx?_cons,za8]
  by_cases h:p.1=n
  ·rw[if_pos (by simpa using h),if_pos h]
   rfl
  ·rw[if_neg (by simpa using h),if_neg h,←ih]
   cases hf:l.findIdx? (fun f=>f.1==n) with
   | none=>rfl
   | some i =>
    unfold zhZ;simp only[Option.map_some];rw[if_neg (by omega),if_neg (by omega)];rfl
theorem zju (n:List UInt8) (l:List Fil):-1≤za5 l n∧za5 l n<l.length:=by
 unfold za5
 cases hf:l.findIdx? (fun f=>f.1==n) with
 | none=>exact ⟨Int.le_refl _,by show (-1:Int)<_;omega⟩
 | some i =>
  have:=(List.findIdx?_eq_some_iff_getElem.1 hf).1
  exact ⟨by dsimp only;omega,by dsimp only;omega⟩
theorem zm4 (p:Fil):∀ (l:List Fil) (j:Nat),j≤l.length→(∀ q (_:q<j) (h:q<l.length),ltB l[q].1 p.1=true)→(∀ h:j<l.length,ltB l[j].1 p.1=false)→zcF p l=l.take j++p::l.drop j
 | [],j,hj,_,_=>by
  obtain rfl:j=0:=by simpa using hj
  rfl
 | q::l,0,_,_,h2=>by
  have:=h2 (by simp)
  rw[zcF,if_neg (by simpa using this)];rfl
 | q::l,j+1,hj,h1,h2=>by
  have h0:ltB q.1 p.1=true:=h1 0 (by omega) (by simp)
  rw[zcF,if_pos h0,zm4 p l j (by simpa using hj) (fun i hi h=>h1 (i+1) (by omega) (by simpa using h)) (fun h=>h2 (by simpa using h))]
  rfl
theorem zuc (w:World) (X:Option Addr) (c:Nat) (h:c≤maxLen):SlR w 2 (.slice X 0 c) 0 []:=⟨rfl,X,c,rfl,by omega,h,fun hn=>by omega⟩
theorem zdq {W:World} {b:Nat} {t:TypeId} {a v:Value} (h:Blk W b t #[a,v]):SlR W 2 (.slice (some ⟨b,0,none⟩) 1 1) 1 [a,v]:=by
 refine ⟨rfl,_,1,rfl,Nat.le_refl _,by simp[maxLen],fun _=>⟨b,0,rfl,fun j u hu=>?_⟩⟩
 rw[Nat.zero_add]
 match j,hu with
 | 0,hu=>cases hu;exact h.cell 0 rfl
 | 1,hu=>cases hu;exact h.cell 1 rfl
 | j+2,hu=>cases hu
theorem zgQ {W:World} {b:Nat} {t:TypeId} {a v:Value} (h:Blk W b t #[a,v]):W.cell? ⟨b,0,none⟩=some a∧W.cell? ⟨b,1,none⟩=some v:=⟨h.cell 0 rfl,h.cell 1 rfl⟩
theorem zgs (v:Value) (fs:List Fil) (n b:List UInt8) (vb:Value) (w:World) (hF:Fs w v fs) (hB:Bs w vb b) (hl:fs.length≤1000000):Calls Tryz.prog 95 #[v,.agg #[sv n,vb]] w fun e w'=>(∃ v',e=.returned v'∧Fs w' v' (withS fs (n,b)))∧Ext w w':=by
 obtain ⟨A,c,rfl,h1,h2⟩:=Fs.open_ hF;obtain ⟨Ab,cb,rfl,_,_⟩:=SlR.open_ hB;unfold sv
 have hX:Ext w (w.alloc (.cells #[.string ⟨n.toArray⟩,.slice Ab b.length cb] 51)):=Ext.alloc (Ext.refl _) _
 have hf:=Blk.new w 51 #[.string ⟨n.toArray⟩,.slice Ab b.length cb];obtain ⟨f0,f1⟩:=zgQ hf;obtain ⟨pr0,pr1⟩:=zju n fs;have key:=zis (.slice A fs.length c) fs n _ (hF.ext hX) (by omega)
 have key2:=fun W (h:Ext w W)=>zge (.slice A fs.length c) fs (za5 fs n) W (hF.ext h) hl ⟨pr0,pr1⟩
 rw[ziE] at key2
 have hll:(za8 n fs).length≤fs.length:=(zb0 n fs).length_le
 have hws:withS fs (n,b)=zcF (n,b) (za8 n fs):=rfl
 rw[hws]
 generalize za8 n fs=l at *
 generalize za5 fs n=pl at *
 have Key:=zhd key;have Key2:=zhd key2;have HX:=zhd hX;have Hf:=zhd hf;have HB:=zhd hB;clear key key2 hX hf hB hF hws;unfold sv at Key
 go_enter Tryz.func95,Tryz.ntmps95
 go_wp2_with fail
 refine Key.out.mono ?_
 rintro e w1 ⟨rfl,rfl⟩;go_wp2_with fail
 refine (Key2.out _ HX.out).mono ?_
 rintro e w2 ⟨⟨v2,rfl,hF2⟩,hE2⟩;obtain ⟨A2,c2,rfl,hc2,hc3⟩:=Fs.open_ hF2;have HF2:=zhd hF2;have HE2:=zhd (Ext.trans HX.out hE2);have Hf2:=zhd (Hf.out.ext hE2);clear f0 f1 hF2 hE2;obtain ⟨f0,f1⟩:=zgQ Hf2.out;go_wp2_with fail
 go_loopw [5] (fun i wr=>∃ j:Nat,j≤l.length∧i=.int .i64 j∧Hid (∀ q (_:q<j) (h2:q<l.length),ltB l[q].1 n=true)∧Hid (Ext w2 wr)) (fun i _=>l.length-(intOf i).toNat)
 case atStart=>exact ⟨0,by omega,rfl,fun q hq=>by omega,Ext.refl _⟩
 case round =>
  clear f0 f1;obtain ⟨j,hj,rfl,Hn,HEr⟩:=hrel;obtain ⟨f0,f1⟩:=zgQ (Hf2.out.ext HEr.out)
  by_cases hlt:j<l.length
  ·obtain ⟨_,b1,off,rfl,hc⟩:=(HF2.out.ext HEr.out).at_ (by omega)
   obtain ⟨hc0,_⟩:=hc j hlt
   have hq:ltB l[j].1 n=true→∀ q (_:q<j+1) (h2:q<l.length),ltB l[q].1 n=true:=fun h q h3 h2=>by
    by_cases e:q=j
    ·subst e;exact h
    ·exact Hn.out q (by omega) h2
   have hi:ltB l[j].1 n=false→zcF (n,b) l=l.take j++(n,b)::l.drop j:=fun h=>zm4 _ _ _ hj Hn.out (fun _=>h)
   have Hq:=zhd hq;have Hi:=zhd hi;clear hc hq hi
   generalize l[j].1=x at *
   simp only[sv] at hc0
   have hjz:(j:Int)<(l.length:Int):=by omega
   cases hx:ltB x n with
   | true =>
    have Hq2:=zhd (Hq.out hx);go_wp2_with fail
    refine wp_region_held_drew (S:=fun W=>W.cell? ⟨b1,off+j*2,none⟩=some (.string ⟨x.toArray⟩)∧W.cell? ⟨w.heap.size,0,none⟩=some (.string ⟨n.toArray⟩)) (by kernel_rfl) ⟨hc0,f0⟩ (fun _=>?_)
    clear hc0 f0 f1;refine tkN 0 rfl ?_;refine tkN 1 rfl ?_;refine tkN 2 rfl ?_;refine tkN 3 rfl ?_;refine tkN 4 rfl ?_;refine tkN 5 rfl ?_;refine tkN 6 rfl ?_;refine tkN 7 rfl ?_;refine tkN 8 rfl ?_;refine tkN 9 rfl ?_;refine tkN 10 rfl ?_;refine tkN 11 rfl ?_;refine tkN 12 rfl ?_;refine tkN 13 rfl ?_;refine wpAnyH_done (by kernel_rfl) ?_ _;go_wp2_with fail
    go_roundw
    case rel=>exact ⟨j+1,by omega,by go_num,Hq2,Ext.drew HEr.out⟩
    case measure=>simp[intOf];omega
   | false =>
    have Hi2:=zhd (Hi.out hx);go_wp2_with fail
    refine wp_region_held_drew (S:=fun W=>W.cell? ⟨b1,off+j*2,none⟩=some (.string ⟨x.toArray⟩)∧W.cell? ⟨w.heap.size,0,none⟩=some (.string ⟨n.toArray⟩)) (by kernel_rfl) ⟨hc0,f0⟩ (fun _=>?_)
    clear hc0;refine tkN 0 rfl ?_;refine tkN 1 rfl ?_;refine tkN 2 rfl ?_;refine tkN 3 rfl ?_;refine tkN 4 rfl ?_;refine tkN 5 rfl ?_;refine tkN 6 rfl ?_;refine tkN 7 rfl ?_;refine tkN 8 rfl ?_;refine tkN 9 rfl ?_;refine tkN 10 rfl ?_;refine tkN 11 rfl ?_;refine tkN 12 rfl ?_;refine tkN 13 rfl ?_;refine wpAnyH_done (by kernel_rfl) ?_ _;clear hx hjz;go_wp2_with fail;obtain ⟨xs,hx1,hx2⟩:=HF2.out.ext HEr.out
    have hrw:FRow wr xs l:=⟨hx1.1,hx2⟩
    have R1:=zhd (ziy hrw j hj);have R2:=zhd (zix hrw j hj);have S1:=zhd (ziL hx1 j hj);have HX1:=zhd hx1
    have hjc:j≤c2:=by omega
    have hold:∀ X,Ext wr X→X.cell? ⟨w.heap.size,0,none⟩=some (.string ⟨n.toArray⟩)∧X.cell? ⟨w.heap.size,1,none⟩=some (.slice Ab b.length cb):=fun X h=>zgQ ((Hf2.out.ext HEr.out).ext h)
    have HOLD:=zhd hold;clear hrw hx1 hx2 hold
    refine wp_region_held_drew (S:=fun W=>W.cell? ⟨w.heap.size,0,none⟩=some (.string ⟨n.toArray⟩)∧W.cell? ⟨w.heap.size,1,none⟩=some (.slice Ab b.length cb)) (by kernel_rfl) (HOLD.out _ (Ext.drew (Ext.drew (Ext.refl _)))) (fun _=>?_)
    refine tkN 1 rfl ?_;refine tkN 2 rfl ?_;refine tkN 3 rfl ?_;refine tkN 5 rfl ?_;refine tkN 8 rfl ?_;refine tkN 9 rfl ?_;refine tkN 10 rfl ?_
    refine AllReadyH.two (i:=0) (j:=6) rfl rfl (by kernel_rfl) (by rfl) (by rfl) (fun K hK=>?_) (fun K hK=>?_)
    ·go_simp
     have hEa:Ext wr (wr.alloc (.cells #[] 51)).drew.drew:=Ext.drew (Ext.drew (Ext.alloc (Ext.refl _) _))
     have hoa:=zag (ze1 wr [] 0 rfl (by simp[maxLen]) (Nat.le_refl _)) (Ext.drew (Ext.drew (Ext.refl (wr.alloc (.cells #[] 51)))))
     refine shK hK _ _ (HOLD.out _ hEa) (fun _=>?_)
     refine AllReadyH.two (i:=4) (j:=6) rfl rfl (by kernel_rfl) (by rfl) (by rfl) (fun K hK=>?_) (fun K hK=>?_)
     ·refine zbr (.tmp 28) (.tmp 31) rfl wr hEa (.slice (some ⟨wr.heap.size,0,none⟩) 0 0) 0 [] rfl hoa _ j _ _ rfl (S1.out.ext hEa) R1.out (by omega) ?_
      intro A3 c3 w3 ho3 hE3 hg3
      rw[Nat.zero_add] at ho3 ⊢
      refine shK hK _ _ (HOLD.out _ hE3) (fun _=>?_)
      refine ar1 6 rfl (fun K hK=>?_)
      go_simp
      have hEb:Ext w3 (w3.alloc (.cells #[.string ⟨n.toArray⟩,.slice Ab b.length cb] 51)):=Ext.alloc (Ext.refl _) _
      have hEc:=Ext.trans hE3 hEb;have hoc:=zag ho3 hEb;have hs:=zdq (Blk.new w3 51 #[.string ⟨n.toArray⟩,.slice Ab b.length cb])
      refine shK hK _ _ (HOLD.out _ hEc) (fun _=>?_)
      exact mcR4ba1
     ·go_simp
      have hEb:Ext (wr.alloc (.cells #[] 51)).drew.drew ((wr.alloc (.cells #[] 51)).alloc (.cells #[.string ⟨n.toArray⟩,.slice Ab b.length cb] 51)).drew.drew:=Ext.alloc (Ext.refl _) _
      have hs0:=(Blk.new (wr.alloc (.cells #[] 51)) 51 #[.string ⟨n.toArray⟩,.slice Ab b.length cb]).ext (Ext.drew (Ext.drew (Ext.refl _)));rw[World.size_alloc] at hs0;have hoa:=zag hoa hEb;have hEa:=Ext.trans hEa hEb
      refine shK hK _ _ (HOLD.out _ hEa) (fun _=>?_)
      refine ar1 4 rfl (fun K hK=>?_)
      refine zbr (.tmp 28) (.tmp 31) rfl wr hEa (.slice (some ⟨wr.heap.size,0,none⟩) 0 0) 0 [] rfl hoa _ j _ _ rfl (S1.out.ext hEa) R1.out (by omega) ?_
      intro A3 c3 w3 ho3 hE3 hg3
      rw[Nat.zero_add] at ho3 ⊢
      refine shK hK _ _ (HOLD.out _ hE3) (fun _=>?_)
      have hs:=zdq (hs0.kept hg3 (by simp[Value.ownBlock]));have hEc:=hE3;have hoc:=ho3
      exact mcR4ba1
    ·go_simp
     have hEb:Ext wr (wr.alloc (.cells #[.string ⟨n.toArray⟩,.slice Ab b.length cb] 51)).drew.drew:=Ext.drew (Ext.drew (Ext.alloc (Ext.refl _) _))
     refine shK hK _ _ (HOLD.out _ hEb) (fun _=>?_)
     refine ar1 0 rfl (fun K hK=>?_)
     go_simp
     have hEa:Ext wr ((wr.alloc (.cells #[.string ⟨n.toArray⟩,.slice Ab b.length cb] 51)).alloc (.cells #[] 51)).drew.drew:=Ext.drew (Ext.drew (Ext.alloc (Ext.alloc (Ext.refl _) _) _))
     have hs0:=((Blk.new wr 51 #[.string ⟨n.toArray⟩,.slice Ab b.length cb]).alloc (.cells #[] 51)).ext (Ext.drew (Ext.drew (Ext.refl _)))
     have hoa:=zag (ze1 (wr.alloc (.cells #[.string ⟨n.toArray⟩,.slice Ab b.length cb] 51)) [] 0 rfl (by simp[maxLen]) (show wr.heap.size≤_ by rw[World.size_alloc];omega)) (Ext.drew (Ext.drew (Ext.refl ((wr.alloc (.cells #[.string ⟨n.toArray⟩,.slice Ab b.length cb] 51)).alloc (.cells #[] 51)))))
     rw[World.size_alloc] at hoa
     refine shK hK _ _ (HOLD.out _ hEa) (fun _=>?_)
     refine ar1 4 rfl (fun K hK=>?_)
     refine zbr (.tmp 28) (.tmp 31) rfl wr hEa (.slice (some ⟨wr.heap.size+1,0,none⟩) 0 0) 0 [] rfl hoa _ j _ _ rfl (S1.out.ext hEa) R1.out (by omega) ?_
     intro A3 c3 w3 ho3 hE3 hg3
     rw[Nat.zero_add] at ho3 ⊢
     refine shK hK _ _ (HOLD.out _ hE3) (fun _=>?_)
     have hs:=zdq (hs0.kept hg3 (by simp[Value.ownBlock]));have hEc:=hE3;have hoc:=ho3
     exact mcR4ba1
  ·obtain rfl:j=l.length:=by omega
   have Hi2:=zhd (zm4 (n,b) l l.length (Nat.le_refl _) Hn.out (fun h=>by omega))
   go_wp2_with fail
   refine wp_region_held_drew (S:=fun _=>True) (by kernel_rfl) trivial (fun _=>?_)
   refine tkN 0 rfl ?_;refine tkN 1 rfl ?_;refine tkN 2 rfl ?_;refine tkN 3 rfl ?_;refine tkN 4 rfl ?_;refine tkS 5 rfl ?_;refine tkS 6 rfl ?_;refine tkS 7 rfl ?_;refine tkS 8 rfl ?_;refine tkS 9 rfl ?_;refine tkS 10 rfl ?_;refine tkS 11 rfl ?_;refine tkS 12 rfl ?_;refine tkN 13 rfl ?_;refine wpAnyH_done (by kernel_rfl) ?_ _;go_wp2_with fail;obtain ⟨xs,hx1,hx2⟩:=HF2.out.ext HEr.out
   have hrw:FRow wr xs l:=⟨hx1.1,hx2⟩
   have R1:=zhd (ziy hrw l.length hj);have R2:=zhd (zix hrw l.length hj);have S1:=zhd (ziL hx1 l.length hj);have HX1:=zhd hx1
   have hjc:l.length≤c2:=by omega
   have hold:∀ X,Ext wr X→X.cell? ⟨w.heap.size,0,none⟩=some (.string ⟨n.toArray⟩)∧X.cell? ⟨w.heap.size,1,none⟩=some (.slice Ab b.length cb):=fun X h=>zgQ ((Hf2.out.ext HEr.out).ext h)
   have HOLD:=zhd hold;clear hrw hx1 hx2 hold
   refine wp_region_held_drew (S:=fun W=>W.cell? ⟨w.heap.size,0,none⟩=some (.string ⟨n.toArray⟩)∧W.cell? ⟨w.heap.size,1,none⟩=some (.slice Ab b.length cb)) (by kernel_rfl) (HOLD.out _ (Ext.drew (Ext.drew (Ext.refl _)))) (fun _=>?_)
   refine tkN 1 rfl ?_;refine tkN 2 rfl ?_;refine tkN 3 rfl ?_;refine tkN 5 rfl ?_;refine tkN 8 rfl ?_;refine tkN 9 rfl ?_;refine tkN 10 rfl ?_
   refine AllReadyH.two (i:=0) (j:=6) rfl rfl (by kernel_rfl) (by rfl) (by rfl) (fun K hK=>?_) (fun K hK=>?_)
   ·go_simp
    have hEa:Ext wr (wr.alloc (.cells #[] 51)).drew.drew:=Ext.drew (Ext.drew (Ext.alloc (Ext.refl _) _))
    have hoa:=zag (ze1 wr [] 0 rfl (by simp[maxLen]) (Nat.le_refl _)) (Ext.drew (Ext.drew (Ext.refl (wr.alloc (.cells #[] 51)))))
    refine shK hK _ _ (HOLD.out _ hEa) (fun _=>?_)
    refine AllReadyH.two (i:=4) (j:=6) rfl rfl (by kernel_rfl) (by rfl) (by rfl) (fun K hK=>?_) (fun K hK=>?_)
    ·refine zbr (.tmp 28) (.tmp 31) rfl wr hEa (.slice (some ⟨wr.heap.size,0,none⟩) 0 0) 0 [] rfl hoa _ l.length _ _ rfl (S1.out.ext hEa) R1.out (by omega) ?_
     intro A3 c3 w3 ho3 hE3 hg3
     rw[Nat.zero_add] at ho3 ⊢
     refine shK hK _ _ (HOLD.out _ hE3) (fun _=>?_)
     refine ar1 6 rfl (fun K hK=>?_)
     go_simp
     have hEb:Ext w3 (w3.alloc (.cells #[.string ⟨n.toArray⟩,.slice Ab b.length cb] 51)):=Ext.alloc (Ext.refl _) _
     have hEc:=Ext.trans hE3 hEb;have hoc:=zag ho3 hEb;have hs:=zdq (Blk.new w3 51 #[.string ⟨n.toArray⟩,.slice Ab b.length cb])
     refine shK hK _ _ (HOLD.out _ hEc) (fun _=>?_)
     exact mcR4ba0
    ·go_simp
     have hEb:Ext (wr.alloc (.cells #[] 51)).drew.drew ((wr.alloc (.cells #[] 51)).alloc (.cells #[.string ⟨n.toArray⟩,.slice Ab b.length cb] 51)).drew.drew:=Ext.alloc (Ext.refl _) _
     have hs0:=(Blk.new (wr.alloc (.cells #[] 51)) 51 #[.string ⟨n.toArray⟩,.slice Ab b.length cb]).ext (Ext.drew (Ext.drew (Ext.refl _)));rw[World.size_alloc] at hs0;have hoa:=zag hoa hEb;have hEa:=Ext.trans hEa hEb
     refine shK hK _ _ (HOLD.out _ hEa) (fun _=>?_)
     refine ar1 4 rfl (fun K hK=>?_)
     refine zbr (.tmp 28) (.tmp 31) rfl wr hEa (.slice (some ⟨wr.heap.size,0,none⟩) 0 0) 0 [] rfl hoa _ l.length _ _ rfl (S1.out.ext hEa) R1.out (by omega) ?_
     intro A3 c3 w3 ho3 hE3 hg3
     rw[Nat.zero_add] at ho3 ⊢
     refine shK hK _ _ (HOLD.out _ hE3) (fun _=>?_)
     have hs:=zdq (hs0.kept hg3 (by simp[Value.ownBlock]));have hEc:=hE3;have hoc:=ho3
     exact mcR4ba0
   ·go_simp
    have hEb:Ext wr (wr.alloc (.cells #[.string ⟨n.toArray⟩,.slice Ab b.length cb] 51)).drew.drew:=Ext.drew (Ext.drew (Ext.alloc (Ext.refl _) _))
    refine shK hK _ _ (HOLD.out _ hEb) (fun _=>?_)
    refine ar1 0 rfl (fun K hK=>?_)
    go_simp
    have hEa:Ext wr ((wr.alloc (.cells #[.string ⟨n.toArray⟩,.slice Ab b.length cb] 51)).alloc (.cells #[] 51)).drew.drew:=Ext.drew (Ext.drew (Ext.alloc (Ext.alloc (Ext.refl _) _) _))
    have hs0:=((Blk.new wr 51 #[.string ⟨n.toArray⟩,.slice Ab b.length cb]).alloc (.cells #[] 51)).ext (Ext.drew (Ext.drew (Ext.refl _)))
    have hoa:=zag (ze1 (wr.alloc (.cells #[.string ⟨n.toArray⟩,.slice Ab b.length cb] 51)) [] 0 rfl (by simp[maxLen]) (show wr.heap.size≤_ by rw[World.size_alloc];omega)) (Ext.drew (Ext.drew (Ext.refl ((wr.alloc (.cells #[.string ⟨n.toArray⟩,.slice Ab b.length cb] 51)).alloc (.cells #[] 51)))))
    rw[World.size_alloc] at hoa
    refine shK hK _ _ (HOLD.out _ hEa) (fun _=>?_)
    refine ar1 4 rfl (fun K hK=>?_)
    refine zbr (.tmp 28) (.tmp 31) rfl wr hEa (.slice (some ⟨wr.heap.size+1,0,none⟩) 0 0) 0 [] rfl hoa _ l.length _ _ rfl (S1.out.ext hEa) R1.out (by omega) ?_
    intro A3 c3 w3 ho3 hE3 hg3
    rw[Nat.zero_add] at ho3 ⊢
    refine shK hK _ _ (HOLD.out _ hE3) (fun _=>?_)
    have hs:=zdq (hs0.kept hg3 (by simp[Value.ownBlock]));have hEc:=hE3;have hoc:=ho3
    exact mcR4ba0
theorem ziS {o:Oper} {a:Act} {w:World} {K:Act→World→Prop} {Q:Exit→Act→World→Prop} (s x:Operand)
  (ho:o.op=.call { callee:=.builtin .append,args:=#[s,x],argTypes:=#[38,38] })
  (base:Nat) (v:Value) (bs:List UInt8) (hs:a.eval s=v) (hown:OwnB w base v bs) (vx:Value) (cs:List UInt8) (hx:a.eval x=vx) (hr:Bs w vx cs) (hlen:bs.length+cs.length≤4000000) (hbase:base≤w.heap.size)
  (h:∀ A c w',OwnB w' base (.slice A (bs.length+cs.length) c) (bs++cs)→ze7 base w w'→K (a.put o.dst (.slice A (bs.length+cs.length) c)) w'):Oper.wp Tryz.prog o a w K Q:=by
 obtain ⟨i0,hi,hz0,hz1,hz2⟩:=info_parts zcA;obtain ⟨v',w',hrun,h1,h2⟩:=za4 (P:=Tryz.prog) w base 38 o.type 5 i0 _ 1 1 Tryz.underlying38 hi hz0 hz1 hz2 rfl (by decide) v bs.length (bs.map bv) hown vx cs.length (cs.map bv) hr (zdI _) (by unfold maxLen;omega) (by omega) hbase;unfold Oper.wp execOp;simp only[ho,resolve,invoke,builtin,Sem.run_bind,Sem.run_pure,Result.andThen_ok,List.map_toArray,List.map_cons,List.map_nil,hs,hx,hrun];obtain ⟨A,c,rfl,_,_⟩:=SlR.open_ (SlR.of_own h1)
 refine h A c w' ?_ (fun W0 hE hb=>Ext.grownOwn hE (zaj hown hb) h2)
 unfold OwnB;rw[List.length_append,List.map_append]
 exact h1
theorem place_get {n:List UInt8}:∀ {l:List Fil},(za5 l n<0∧zae n l=none)∨∃ (i:Nat) (h:i<l.length),za5 l n=i∧zae n l=some l[i].2
 | []=>.inl ⟨by show (-1:Int)<0;omega,rfl⟩
 | p::l=>by
  have ih:=@place_get n l
  unfold za5 at ih ⊢
  rw[List.findIdx?_cons,zae]
  by_cases h:p.1=n
  ·rw[if_pos (by simpa using h),if_pos h]
   exact .inr ⟨0,by simp,rfl,rfl⟩
  ·rw[if_neg (by simpa using h),if_neg h]
   cases hf:l.findIdx? (fun f=>f.1==n) with
   | none =>
    rw[hf] at ih
    rcases ih with ⟨_,h2⟩ | ⟨i,_,h2,_⟩
    ·exact .inl ⟨by show (-1:Int)<0;omega,h2⟩
    ·exact absurd h2 (by show ¬ (-1:Int)=_;omega)
   | some j =>
    rw[hf] at ih
    rcases ih with ⟨h2,_⟩ | ⟨i,hi,h2,h3⟩
    ·exact absurd h2 (by show ¬ ((j:Nat):Int)<0;omega)
    ·have:j=i:=by have:((j:Nat):Int)=(i:Int):=h2;omega
     subst this
     exact .inr ⟨j+1,by simpa using hi,rfl,by simpa using h3⟩
theorem zru (v:Value) (fs:List Fil) (o:Oq) (vo:Value) (w:World) (hF:Fs w v fs) (hB:Bs w vo o.b) (hl:fs.length≤1000000) (hbl:∀ f∈fs,f.2.length+o.b.length≤2000000) :
  Calls Tryz.prog 53 #[v,.agg #[.int .u8 o.k,sv o.n,sv o.t,vo]] w fun e w'=>(∃ v',e=.returned v'∧Fs w' v' (zbt fs o))∧Ext w w':=by
 obtain ⟨A,c,rfl,h1,h2⟩:=Fs.open_ hF;obtain ⟨Ab,cb,rfl,_,_⟩:=SlR.open_ hB;obtain ⟨k,n,t,b⟩:=o
 dsimp only at hB hbl ⊢
 obtain ⟨R,hR⟩:∃ R,zbt fs ⟨k,n,t,b⟩=R:=⟨_,rfl⟩;rw[hR];unfold sv
 have hX:Ext w (w.alloc (.cells #[.int .u8 k,.string ⟨n.toArray⟩,.string ⟨t.toArray⟩,.slice Ab b.length cb] 86)):=Ext.alloc (Ext.refl _) _
 have hf:=Blk.new w 86 #[.int .u8 k,.string ⟨n.toArray⟩,.string ⟨t.toArray⟩,.slice Ab b.length cb];obtain ⟨o0,o1,o2,o3⟩:=zay hf;have key:=zis (.slice A fs.length c) fs n _ (hF.ext hX) (by omega);have hpg:=@place_get n fs;obtain ⟨pr0,pr1⟩:=zju n fs;have hpd:=ziE n fs;unfold zbt at hR;dsimp only at hR;have HX:=zhd hX;have Hf:=zhd hf;have HF:=zhd (hF.ext hX);have HB:=zhd (Bs.ext hB hX);have HR:=zhd hR;have HBL:=zhd hbl;have HL:=zhd hl;have HPD:=zhd hpd;have HPR:=zhd (And.intro pr0 pr1);unfold sv at key;have Key:=zhd key;clear hX hf hF hB hR hbl hpd key pr0 pr1 hl
 generalize za5 fs n=pl at *
 go_enter Tryz.func53,Tryz.ntmps53
 go_wp2_with fail
 refine Key.out.mono ?_
 rintro e w1 ⟨rfl,rfl⟩
 by_cases hk1:k=1
 ·subst hk1
  have hR:=HR.out;rw[if_pos rfl] at hR;have HR:=zhd hR;clear hR hpg;have hw:=zgs _ fs n [] (.slice none 0 0) _ HF.out (SlR.nil _ 1) HL.out;unfold sv at hw;rw[HR.out] at hw;have Hw:=zhd hw;clear hw;go_wp2_with fail
  refine Hw.out.mono ?_
  rintro e w9 ⟨⟨v9,rfl,hF9⟩,hE9⟩;clear o0 o1 o2 o3;go_wp2_with fail;go_ret
  exact ⟨⟨_,rfl,hF9⟩,Ext.trans HX.out hE9⟩
 have hR:=HR.out;rw[if_neg hk1] at hR
 have hk1b:(k==1)=false:=by simpa using hk1
 rcases hpg with ⟨hneg,hg⟩ | ⟨i,hi,hpi,hg⟩
 ·rw[hg] at hR
  obtain rfl:fs=R:=hR
  clear hk1 hg;go_wp2_with fail;go_ret
  exact ⟨⟨_,rfl,HF.out⟩,HX.out⟩
 rw[hg] at hR;subst hpi;dsimp only at hR;obtain ⟨_,b1,off,rfl,hc⟩:=HF.out.at_ (by omega);obtain ⟨hc0,B1,d1,hc1,hB1⟩:=hc i hi;have hb1:=HBL.out _ (List.getElem_mem hi)
 generalize fs[i].2=c0 at *
 have hin:¬ ((i:Int)<0):=by omega
 have hil:(i:Int)<(fs.length:Int):=by omega
 have HB1:=zhd hB1;have Hb1:=zhd hb1;have HR2:=zhd hR;clear hk1 hg hc hc0 hB1 hb1 hR HR hi Key
 by_cases hk2:k=2
 ·subst hk2
  have hR:=HR2.out;rw[if_pos rfl] at hR
  have hw:=fun W (h:Ext (w.alloc (.cells #[.int .u8 2,.string ⟨n.toArray⟩,.string ⟨t.toArray⟩,.slice Ab b.length cb] 86)) W) A0 c0' (hb:Bs W (.slice A0 (c0.length+b.length) c0') (c0++b))=>zgs _ fs n (c0++b) (.slice A0 (c0.length+b.length) c0') W (HF.out.ext h) hb HL.out
  unfold sv at hw;rw[hR] at hw;have Hw:=zhd hw
  have hold:∀ X,Ext (w.alloc (.cells #[.int .u8 2,.string ⟨n.toArray⟩,.string ⟨t.toArray⟩,.slice Ab b.length cb] 86)) X→X.cell? ⟨w.heap.size,1,none⟩=some (.string ⟨n.toArray⟩)∧X.cell? ⟨w.heap.size,3,none⟩=some (.slice Ab b.length cb)∧X.cell? ⟨b1,off+i*2+1,none⟩=some (.slice B1 c0.length d1):=fun X h=>⟨h.cell o1,h.cell o3,h.cell hc1⟩
  have HOLD:=zhd hold;clear hw hR HR2 hold;go_wp2_with fail
  refine wp_region_held_drew (S:=fun W=>W.cell? ⟨w.heap.size,1,none⟩=some (.string ⟨n.toArray⟩)∧W.cell? ⟨w.heap.size,3,none⟩=some (.slice Ab b.length cb)∧W.cell? ⟨b1,off+i*2+1,none⟩=some (.slice B1 c0.length d1)) (by kernel_rfl) ⟨o1,o3,hc1⟩ (fun _=>?_)
  clear o0 o1 o2 o3 hc1;refine tkN 0 rfl ?_;refine tkN 1 rfl ?_;refine tkN 2 rfl ?_;refine tkN 4 rfl ?_;refine tkN 5 rfl ?_;refine tkN 6 rfl ?_;refine tkN 7 rfl ?_;refine tkN 8 rfl ?_;refine tkN 10 rfl ?_;refine tkN 11 rfl ?_
  refine ar1 3 rfl (fun K hK=>?_)
  go_simp
  have hEe:Ext (w.alloc (.cells #[.int .u8 2,.string ⟨n.toArray⟩,.string ⟨t.toArray⟩,.slice Ab b.length cb] 86)) ((w.alloc (.cells #[.int .u8 2,.string ⟨n.toArray⟩,.string ⟨t.toArray⟩,.slice Ab b.length cb] 86)).alloc (.cells #[] 5)).drew:=Ext.drew (Ext.alloc (Ext.refl _) _)
  have hoe:OwnB ((w.alloc (.cells #[.int .u8 2,.string ⟨n.toArray⟩,.string ⟨t.toArray⟩,.slice Ab b.length cb] 86)).alloc (.cells #[] 5)).drew (w.alloc (.cells #[.int .u8 2,.string ⟨n.toArray⟩,.string ⟨t.toArray⟩,.slice Ab b.length cb] 86)).heap.size (.slice (some ⟨(w.alloc (.cells #[.int .u8 2,.string ⟨n.toArray⟩,.string ⟨t.toArray⟩,.slice Ab b.length cb] 86)).heap.size,0,none⟩) 0 0) []:=zag (zez (w.alloc (.cells #[.int .u8 2,.string ⟨n.toArray⟩,.string ⟨t.toArray⟩,.slice Ab b.length cb] 86))) (Ext.drew (Ext.refl _))
  rw[show (w.alloc (.cells #[.int .u8 2,.string ⟨n.toArray⟩,.string ⟨t.toArray⟩,.slice Ab b.length cb] 86)).heap.size=w.heap.size+1 by rw[World.size_alloc]] at hoe
  refine shK hK _ _ (HOLD.out _ hEe) (fun _=>?_)
  refine ar1 9 rfl (fun K hK=>?_)
  refine ziS (.tmp 29) (.tmp 34) rfl (w.heap.size+1) _ [] rfl hoe _ c0 rfl (HB1.out.ext hEe) (by have:=Hb1.out;simp;omega) (by have:=hEe.size;rw[World.size_alloc] at this;exact this) ?_
  intro A5 c5 w5 ho5 hG5;have hE5:=hG5 _ hEe (by rw[World.size_alloc];omega)
  simp only[List.length_nil,Nat.zero_add,List.nil_append] at ho5 ⊢
  refine shK hK _ _ (HOLD.out _ hE5) (fun _=>?_)
  refine ar1 12 rfl (fun K hK=>?_)
  refine ziS (.tmp 35) (.tmp 37) rfl (w.heap.size+1) _ c0 rfl ho5 _ b rfl (Bs.ext HB.out hE5) (by have:=Hb1.out;omega) (by have:=hE5.size;rw[World.size_alloc] at this;exact this) ?_
  intro A6 c6 w6 ho6 hG6;have hE6:=hG6 _ hE5 (by rw[World.size_alloc];omega)
  have hb6:Bs w6 (.slice A6 (c0.length+b.length) c6) (c0++b):=SlR.of_own ho6
  refine shK hK _ _ (HOLD.out _ hE6) (fun _=>?_)
  refine tkN 13 rfl ?_
  refine ar1 14 rfl (fun K hK=>?_)
  go_simp
  refine (Hw.out _ hE6 _ _ hb6).mono ?_
  rintro e w9 ⟨⟨v9,rfl,hF9⟩,hE9'⟩;have hE9:=Ext.trans hE6 hE9'
  refine shK hK _ _ (HOLD.out _ hE9) (fun _=>?_)
  refine tkN 15 rfl ?_;refine wpAnyH_done (by kernel_rfl) ?_ _;go_wp2_with fail;go_ret
  exact ⟨⟨_,rfl,hF9⟩,Ext.trans HX.out hE9⟩
 rw[if_neg hk2] at HR2
 have hk2b:(k==2)=false:=by simpa using hk2
 by_cases hk3:k=3∧t≠n
 ·obtain ⟨rfl,htn⟩:=hk3
  have hR:=HR2.out;rw[if_pos ⟨rfl,htn⟩] at hR
  have htb:(t==n)=false:=by simpa using htn
  have hwo:=fun W (h:Ext (w.alloc (.cells #[.int .u8 3,.string ⟨n.toArray⟩,.string ⟨t.toArray⟩,.slice Ab b.length cb] 86)) W)=>zge _ fs (i:Int) W (HF.out.ext h) HL.out HPR.out
  rw[HPD.out] at hwo
  have hw:=fun W v (h:Ext (w.alloc (.cells #[.int .u8 3,.string ⟨n.toArray⟩,.string ⟨t.toArray⟩,.slice Ab b.length cb] 86)) W) (hv:Fs W v (za8 n fs))=>zgs v (za8 n fs) t c0 (.slice B1 c0.length d1) W hv (HB1.out.ext h) (by have:=(zb0 n fs).length_le;have:=HL.out;omega)
  unfold sv at hw;rw[hR] at hw;have Hwo:=zhd hwo;have Hw:=zhd hw
  have hold:∀ X,Ext (w.alloc (.cells #[.int .u8 3,.string ⟨n.toArray⟩,.string ⟨t.toArray⟩,.slice Ab b.length cb] 86)) X→X.cell? ⟨w.heap.size,2,none⟩=some (.string ⟨t.toArray⟩)∧X.cell? ⟨b1,off+i*2+1,none⟩=some (.slice B1 c0.length d1):=fun X h=>⟨h.cell o2,h.cell hc1⟩
  have HOLD:=zhd hold;clear hw hwo hR HR2 hold htn;go_wp2_with fail
  refine wp_region_held_drew (S:=fun W=>W.cell? ⟨w.heap.size,2,none⟩=some (.string ⟨t.toArray⟩)∧W.cell? ⟨b1,off+i*2+1,none⟩=some (.slice B1 c0.length d1)) (by kernel_rfl) ⟨o2,hc1⟩ (fun _=>?_)
  clear o0 o1 o2 o3 hc1;refine tkN 0 rfl ?_;refine tkN 1 rfl ?_;refine tkN 3 rfl ?_;refine tkN 4 rfl ?_;refine tkN 5 rfl ?_;refine tkN 6 rfl ?_;refine tkN 7 rfl ?_;refine tkN 8 rfl ?_;refine tkN 9 rfl ?_;refine tkN 10 rfl ?_
  refine ar1 2 rfl (fun K hK=>?_)
  go_simp
  refine (Hwo.out _ (Ext.drew (Ext.refl _))).mono ?_
  rintro e w8 ⟨⟨v8,rfl,hF8⟩,hE8'⟩;have hE8:=Ext.trans (Ext.drew (Ext.refl (w.alloc (.cells #[.int .u8 3,.string ⟨n.toArray⟩,.string ⟨t.toArray⟩,.slice Ab b.length cb] 86)))) hE8'
  refine shK hK _ _ (HOLD.out _ hE8) (fun _=>?_)
  refine ar1 11 rfl (fun K hK=>?_)
  go_simp
  refine (Hw.out _ _ hE8 hF8).mono ?_
  rintro e w9 ⟨⟨v9,rfl,hF9⟩,hE9'⟩;have hE9:=Ext.trans hE8 hE9'
  refine shK hK _ _ (HOLD.out _ hE9) (fun _=>?_)
  refine tkN 12 rfl ?_;refine wpAnyH_done (by kernel_rfl) ?_ _;go_wp2_with fail;go_ret
  exact ⟨⟨_,rfl,hF9⟩,Ext.trans HX.out hE9⟩
 have hR:=HR2.out;rw[if_neg hk3] at hR
 have h3:((k==3)=true∧(t==n)=true)∨(k==3)=false:=by
  by_cases h:k=3
  ·exact .inl ⟨by simpa using h,by
    by_cases h2:t=n
    ·simpa using h2
    ·exact absurd ⟨h,h2⟩ hk3⟩
  ·exact .inr (by simpa using h)
 by_cases hk4:k=4
 ·subst hk4
  rw[if_pos rfl] at hR
  have hwo:=fun W (h:Ext (w.alloc (.cells #[.int .u8 4,.string ⟨n.toArray⟩,.string ⟨t.toArray⟩,.slice Ab b.length cb] 86)) W)=>zge _ fs (i:Int) W (HF.out.ext h) HL.out HPR.out
  rw[HPD.out,hR] at hwo;have Hwo:=zhd hwo;clear hwo hR HR2 h3 hk3 hk2 hc1;go_wp2_with fail
  refine (Hwo.out _ (Ext.refl _)).mono ?_
  rintro e w9 ⟨⟨v9,rfl,hF9⟩,hE9⟩;clear o0 o1 o2 o3;go_wp2_with fail;go_ret
  exact ⟨⟨_,rfl,hF9⟩,Ext.trans HX.out hE9⟩
 ·rw[if_neg hk4] at hR
  obtain rfl:fs=R:=hR
  have hk4b:(k==4)=false:=by simpa using hk4
  clear HR2 hk3 hk2 hk4 hc1
  rcases h3 with ⟨h31,h32⟩ | h31
  ·go_wp2_with fail
   go_ret
   exact ⟨⟨_,rfl,HF.out⟩,HX.out⟩
  ·go_wp2_with fail
   go_ret
   exact ⟨⟨_,rfl,HF.out⟩,HX.out⟩
end Go.Proofs.YtgonhdeochgkoaaGreatDoor
