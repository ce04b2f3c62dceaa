/- Merged -/
import Derived.Test.YtgonhdeochgkoaaGreatDoorZx19
import Derived.Test.YtgonhdeochgkoaaGreatDoorZx20
set_option linter.all false
set_option maxHeartbeats 8000000
set_option maxRecDepth 100000
open Nat renaming zero_add→P0,min_eq_left→P1,add_zero→P2
open List renaming length_take→P3,length_drop→P4,append_assoc→P5,append_nil→P6,getElem?_drop→P7,getElem?_take_of_lt→P8,singleton_append→P9,findIdx?_cons→Pa,map_toArray→Pb,map_cons→Pc,map_nil→Pd
open Go.Proofs.YtgonhdeochgkoaaGreatDoor.FRow renaming append→Pe,one'→Pf
open Go.Mv.Blk renaming new→Pg
open Go.Mv.AllReadyH renaming two→Ph
open Go.Value renaming ownBlock→Pi
namespace Go.Proofs.YtgonhdeochgkoaaGreatDoor
open Go.RowKit Go.Mv Go.Shelf
theorem zs6 (tmps:Array Value) (W:World) (b:Nat) (cs:Array Value) (h4:tmps.getD 2 undef=.pointer (some ⟨b,0,none⟩)) (hb:Blk W b 25 cs) (hs:cs.size=5):(results Tryz.f45 tmps).run Tryz.prog W=.ok (.agg cs) W:=by
 have hl:=hb.load (P:=Tryz.prog) (show Tryz.prog.underlying 25=some (.struct (Tryz.prog.fieldsOf 25)) by kernel_rfl) rfl (by rw[hs];kernel_rfl)
 have Kn:tmps[2]?.getD undef=.pointer (some ⟨b,0,none⟩):=by simpa using h4
 simp[results,Tryz.results45,Kn,asAddr,hl]
theorem zsf (q:Int) (hq:0≤q) (w:World):Calls Tryz.prog 45 #[.int .i64 q] w fun e w'=>e=.returned (.agg #[.slice none 0 0,.slice none 0 0,.int .i64 q,.int .i64 0,.bool false])∧Ext w w':=by
 go_enter Tryz.func45,Tryz.ntmps45
 go_wp2
 rw[show max q 0=q by omega]
 refine bodyPost_ret (zs6 _ _ _ _ rfl (Pg w _ _) rfl) rfl ?_
 exact ⟨rfl,xA (xR _) _⟩
theorem zh4 (v:Value) (fs:List Fil) (n:List UInt8) (w:World) (hF:Fs w v fs) (hl:fs.length≤4000000):Calls Tryz.prog 94 #[v,sv n] w fun e w'=>e=.returned (.int .i64 (zbz fs n))∧w=w':=by
 obtain ⟨A,c,rfl,h1,h2⟩:=Fs.open_ hF;have HF:=zhd hF;unfold sv;clear hF
 go_enter Tryz.func94,Tryz.ntmps94
 go_wp2_with fail
 go_loopw [5] (fun i wr=>∃ j:Nat,j≤fs.length∧i=.int .i64 j∧Hid (∀ q (_:q<j) (h2:q<fs.length),fs[q].1≠n)∧w=wr) (fun i _=>fs.length-(intOf i).toNat)
 case atStart=>exact ⟨0,by omega,rfl,fun q hq=>by omega,rfl⟩
 case round =>
  obtain ⟨j,hj,rfl,Hn,rfl⟩:=hrel
  by_cases HM:j<fs.length
  ·obtain ⟨_,b,H2,rfl,hc⟩:=HF.out.at_ (by omega)
   obtain ⟨Hh,_⟩:=hc j HM
   have hp:fs[j].1=n→zbz fs n=j:=fun h=>zjI HM h Hn.out
   have hq:fs[j].1≠n→∀ q (_:q<j+1) (h2:q<fs.length),fs[q].1≠n:=fun h q h3 h2=>by
    by_cases e:q=j
    ·subst e;exact h
    ·exact Hn.out q (by omega) h2
   have Hp:=zhd hp;have Hq:=zhd hq;clear hc hp hq
   generalize fs[j].1=x at *
   simp only[sv] at Hh
   by_cases hx:x=n
   ·have KA:(x==n)=true:=by simpa using hx
    have Hz:=zhd (Hp.out hx);go_wp2_with fail;go_ret
    exact ⟨by rw[Hz.out];rfl,rfl⟩
   ·have KA:(x==n)=false:=by simpa using hx
    have HV:=zhd (Hq.out hx);go_wp2_with fail
    go_roundw
    case rel=>exact ⟨j+1,by omega,by go_num,HV,trivial⟩
    case measure=>simp[intOf];omega
  ·obtain rfl:j=fs.length:=by omega
   have Hz:=zhd (show zbz fs n = -1 from zhn fun q h2=>Hn.out q h2 h2)
   go_wp2_with fail;go_ret
   exact ⟨by rw[Hz.out];rfl,rfl⟩
/-! Parts of rows of files -/
theorem zb7 (W:World):FRow W [] []:=⟨rfl,fun i hi=>by simp at hi⟩
theorem zia {W:World} {xs:List Value} {l:List Fil} (h:FRow W xs l) (k:Nat) (hk:k≤l.length):FRow W (xs.take (k*2)) (l.take k):=by
 obtain ⟨h1,h2⟩:=h
 refine ⟨by rw[P3,P3,h1];omega,fun i hi=>?_⟩
 have KF:i<k:=by rw[P3] at hi;omega
 obtain ⟨a,u,b,c⟩:=h2 i (by omega);rw[P8 (by omega),P8 (by omega)];simp only[List.getElem_take]
 exact ⟨a,u,b,c⟩
theorem zh9 {W:World} {xs:List Value} {l:List Fil} (h:FRow W xs l) (k:Nat) (hk:k≤l.length):FRow W (xs.drop (k*2)) (l.drop k):=by
 obtain ⟨h1,h2⟩:=h
 refine ⟨by rw[P4,P4,h1];omega,fun i hi=>?_⟩
 rw[P4] at hi;obtain ⟨a,u,b,c⟩:=h2 (k+i) (by omega);rw[P7,P7];simp only[List.getElem_drop]
 rw[show k*2+i*2=(k+i)*2 by omega,show k*2+(i*2+1)=(k+i)*2+1 by omega]
 exact ⟨a,u,b,c⟩
theorem ziq {w:World} {A:Option Addr} {n c:Nat} {xs:List Value} (h:SlR w 2 (.slice A n c) n xs) (k:Nat) (hk:k≤n):SlR w 2 (.slice A k c) k (xs.take (k*2)):=by
 obtain ⟨hl,A',c',e,h1,h2,h3⟩:=h
 cases e
 refine ⟨by rw[P3,hl];omega,A,c,rfl,by omega,h2,fun hn=>?_⟩
 obtain ⟨b,H2,rfl,hc⟩:=h3 (by omega)
 exact ⟨b,H2,rfl,fun j u hu=>hc j u (by
  rw[List.getElem?_take] at hu
  split at hu
  ·exact hu
  ·cases hu)⟩
theorem zrP {w:World} {b H2 n c:Nat} {xs:List Value} (h:SlR w 2 (.slice (some ⟨b,H2,none⟩) n c) n xs) (k:Nat) (hk:k≤n):SlR w 2 (.slice (some ⟨b,H2+k*2,none⟩) (n-k) (c-k)) (n-k) (xs.drop (k*2)):=by
 obtain ⟨hl,A',c',e,h1,h2,h3⟩:=h
 cases e
 refine ⟨by rw[P4,hl];omega,_,_,rfl,by omega,by omega,fun hn=>?_⟩
 obtain ⟨b',KC,e,hc⟩:=h3 (by omega)
 cases e
 refine ⟨b,H2+k*2,rfl,fun j u hu=>?_⟩
 rw[P7] at hu
 have:=hc _ u hu
 rwa [←Nat.add_assoc] at this
theorem zgb {w:World} {b H2 n c:Nat} {xs:List Value} (h:SlR w 2 (.slice (some ⟨b,H2,none⟩) n c) n xs) (k:Nat) (hk:k≤n):SlR w 2 (.slice (if c=k then some ⟨b,H2,none⟩ else some ⟨b,H2+k*2,none⟩) (n-k) (c-k)) (n-k) (xs.drop (k*2)):=by
 have h0:=zrP h k hk
 split
 ·rename_i hc
  obtain ⟨hl,A',c',e,h1,h2,h3⟩:=h
  cases e
  obtain ⟨gl,A2,c2,e2,g1,g2,g3⟩:=h0
  cases e2
  exact ⟨gl,_,_,rfl,g1,g2,fun hn=>by omega⟩
 ·exact h0
theorem zbm {o:Oper} {a:Act} {w:World} {K:Act→World→Prop} {Q:Exit→Act→World→Prop} (s x:Operand)
  (ho:o.op=.call { callee:=.builtin .append,args:=#[s,x],argTypes:=#[22,22] })
  (W0:World) (Kf:Ext W0 w) (v:Value) (n:Nat) (xs:List Value) (hs:a.eval s=v) (Hb:w.ownsRow W0.heap.size 51 2 v n xs)
  (vx:Value) (m:Nat) (ys:List Value) (gs:List Fil) (hx:a.eval x=vx) (hy:SlR w 2 vx m ys) (KB:FRow W0 ys gs) (K3:n+m≤4000000)
  (h:∀ A c w',w'.ownsRow W0.heap.size 51 2 (.slice A (n+m) c) (n+m) (xs++ys)→Ext W0 w'→w.grownBy w' v.ownBlock→K (a.put o.dst (.slice A (n+m) c)) w'):Oper.wp Tryz.prog o a w K Q:=by
 obtain ⟨i0,hi,K6,K7,K8⟩:=info_parts zsW;obtain ⟨v',w',HD,h1,h2⟩:=za6 (P:=Tryz.prog) w W0.heap.size 22 o.type 51 i0 _ 2 40 Tryz.underlying22 hi K6 K7 K8 rfl (by decide) v n xs Hb vx m ys hy KB.one (by unfold maxLen;omega) (by omega) Kf.size
 have hE:Ext W0 w':=Ext.grownOwn Kf (zai Hb (xN _)) h2
 unfold Oper.wp execOp;simp only[ho,resolve,invoke,builtin,Sem.run_bind,Sem.run_pure,Result.andThen_ok,Pb,Pc,Pd,hs,hx,HD];obtain ⟨A,c,rfl,_,_⟩:=xO (xW h1)
 exact h A c w' h1 hE h2
theorem zdA {W0 W:World} {base:Nat} {v:Value} {n:Nat} {xs:List Value} {l:List Fil} (h:W.ownsRow base 51 2 v n xs) (hr:FRow W0 xs l) (hn:n=l.length) (hE:Ext W0 W):Fs W v l:=by
 subst hn
 exact ⟨xs,xW h,(hr.ext hE).2⟩
def zhA (l:List Fil) (at_:Int):List Fil:=if at_<0 then l else l.take at_.toNat++l.drop (at_.toNat+1)
theorem zfY (v:Value) (fs:List Fil) (k:Int) (w:World) (hF:Fs w v fs) (hl:fs.length≤1000000) (hk:-1≤k∧k<fs.length):Calls Tryz.prog 96 #[v,.int .i64 k] w fun e w'=>(∃ v',e=.returned v'∧Fs w' v' (zhA fs k))∧Ext w w':=by
 obtain ⟨A,c,rfl,h1,h2⟩:=Fs.open_ hF;obtain ⟨k0,k1⟩:=hk
 by_cases hneg:k<0
 ·have hu:zhA fs k=fs:=by unfold zhA;rw[if_pos hneg]
  rw[hu];have HF:=zhd hF;clear hF hu
  go_enter Tryz.func96,Tryz.ntmps96
  go_wp2
  go_ret
  exact ⟨⟨_,rfl,HF.out⟩,xR _⟩
 ·obtain ⟨i,rfl⟩:∃ i:Nat,k=(i:Int):=⟨k.toNat,by omega⟩
  have hu:zhA fs (i:Int)=fs.take i++fs.drop (i+1):=by unfold zhA;rw[if_neg hneg];rfl
  rw[hu];obtain ⟨xs,H7,Hm⟩:=hF
  have HM:i<fs.length:=by omega
  have Hc:FRow w xs fs:=⟨H7.1,Hm⟩
  obtain ⟨_,b,H2,rfl,_⟩:=Fs.at_ (show Fs w (.slice A fs.length c) fs from ⟨xs,H7,Hm⟩) (by omega)
  have hX:Ext w (w.alloc (.cells #[] 51)):=xA (xR _) _
  have r1:=zia Hc i (by omega);have r2:=zh9 Hc (i+1) (by omega);have s1:=ziq H7 i (by omega);have s2:=zgb H7 (i+1) (by omega)
  have KL:IntKind.i64.wrap ((i:Int)+1)=((i+1:Nat):Int):=by rw[IntKind.wrap_i64];omega
  have KH:i≤c:=by omega
  have Ks:i+1≤fs.length:=by omega
  have Kt:0≤(i:Int)+1∧(i:Int)+1≤(fs.length:Int):=by omega
  have HX:=zhd hX;have R1:=zhd r1;have R2:=zhd r2;have S1:=zhd s1;have S2:=zhd s2;clear H7 Hm Hc hX r1 r2 s1 s2 hu
  go_enter Tryz.func96,Tryz.ntmps96
  go_wp2_with fail
  refine wp_region_held_drew (S:=fun _=>True) (by kernel_rfl) trivial (fun _=>?_)
  refine tkN 1 rfl ?_;refine tkN 2 rfl ?_;refine tkN 3 rfl ?_;refine tkN 5 rfl ?_;refine tkN 6 rfl ?_;refine tkN 7 rfl ?_;refine tkN 8 rfl ?_
  refine ar1 0 rfl (fun K hK=>?_)
  go_simp
  refine shK hK _ _ trivial (fun _=>?_)
  refine ar1 4 rfl (fun K hK=>?_)
  refine zbm (.tmp 8) (.tmp 11) rfl w (xD (xA (xR _) _)) _ 0 [] rfl (zaf (zfP w [] 0 rfl (by simp[maxLen]) (xN _)) (xD (xR _))) _ i _ _ rfl (S1.out.ext (xD (xA (xR _) _))) R1.out (by omega) ?_
  intro A1 c1 w1 Kz Kg _
  refine shK hK _ _ trivial (fun _=>?_)
  refine ar1 9 rfl (fun K hK=>?_)
  refine zbm (.tmp 12) (.tmp 16) rfl w Kg _ (0+i) _ rfl Kz _ (fs.length-(i+1)) _ _ rfl (S2.out.ext Kg) R2.out (by omega) ?_
  intro A2 c2 w2 K4 Hu _
  refine shK hK _ _ trivial (fun _=>?_)
  refine tkN 10 rfl ?_;refine wpAnyH_done (by kernel_rfl) ?_ _
  have Hd:FRow w _ (fs.take i++fs.drop (i+1)):=Pe (Pe (zb7 w) R1.out) R2.out
  simp only[P0] at K4
  have Ht:i+(fs.length-(i+1))=(fs.take i++fs.drop (i+1)).length:=by
   rw[xL,P3,P4,P1 (by omega)]
  have HI:=zhd (zdA K4 Hd Ht Hu);have Ho:=zhd Hu;clear Hd K4 Ht Hu;go_wp2_with fail
  all_goals go_ret
  all_goals exact ⟨⟨_,rfl,HI.out⟩,Ho.out⟩
theorem mcR4ba0 {P:Prop} (h:P:=by
 refine ar1 7 rfl (fun K hK=>?_)
 refine zbm (.tmp 32) (.tmp 34) rfl wr Hg _ l.length _ rfl HA _ 1 _ [(n,b)] rfl hs (Pf (HB.out.ext (xT Ho.out H8.out))) (by omega) ?_
 intro A5 c5 w5 HH Ha _
 refine shK hK _ _ (H0.out _ Ha) (fun _=>?_)
 refine ar1 11 rfl (fun K hK=>?_)
 refine zbm (.tmp 35) (.tmp 38) rfl wr Ha _ (l.length+1) _ rfl HH _ 0 [] [] rfl (ztn _ _ _ (by unfold maxLen;omega)) (zb7 wr) (by omega) ?_
 intro A6 c6 w6 Hk H9 _
 refine shK hK _ _ (H0.out _ H9) (fun _=>?_)
 refine tkN 12 rfl ?_;refine wpAnyH_done (by kernel_rfl) ?_ _;have Hd:=Pe (Pe (Pe (zb7 wr) R1.out) (Pf (n1:=n) (HB.out.ext (xT Ho.out H8.out)))) (zb7 wr);simp only[xI,P5,P9,P6] at Hd;simp only[P0,P2,xI,P5,P6] at Hk
 have Ht:l.length+1=(l.take l.length++[(n,b)]).length:=by rw[xL,List.take_length];rfl
 have Hy:=zdA Hk Hd Ht H9
 rw[←show zcC (n,b) l=l.take l.length++[(n,b)] by rw[HU.out,List.drop_length]] at Hy
 have HI:=zhd Hy;have HS:=zhd H9;clear Hd Hk Ht H9 Hy;go_wp2_with fail
 all_goals go_ret
 all_goals exact ⟨⟨_,rfl,HI.out⟩,xT Ho.out (xT H8.out HS.out)⟩):P:=h
theorem mcR4ba1 {P:Prop} (h:P:=by
 refine ar1 7 rfl (fun K hK=>?_)
 refine zbm (.tmp 32) (.tmp 34) rfl wr Hg _ j _ rfl HA _ 1 _ [(n,b)] rfl hs (Pf (HB.out.ext (xT Ho.out H8.out))) (by omega) ?_
 intro A5 c5 w5 HH Ha _
 refine shK hK _ _ (H0.out _ Ha) (fun _=>?_)
 refine ar1 11 rfl (fun K hK=>?_)
 refine zbm (.tmp 35) (.tmp 38) rfl wr Ha _ (j+1) _ rfl HH _ (l.length-j) _ _ rfl ((zgb Kc.out j hj).ext Ha) R2.out (by omega) ?_
 intro A6 c6 w6 Hk H9 _
 refine shK hK _ _ (H0.out _ H9) (fun _=>?_)
 refine tkN 12 rfl ?_;refine wpAnyH_done (by kernel_rfl) ?_ _;have Hd:=Pe (Pe (Pe (zb7 wr) R1.out) (Pf (n1:=n) (HB.out.ext (xT Ho.out H8.out)))) R2.out;simp only[xI,P5,P9,P6] at Hd;simp only[P0,P2,xI,P5,P6] at Hk
 have Ht:j+1+(l.length-j)=(l.take j++(n,b)::l.drop j).length:=by
  rw[xL,xC,P3,P4,P1 (by omega)];omega
 have Hy:=zdA Hk Hd Ht H9;rw[←HU.out] at Hy;have HI:=zhd Hy;have HS:=zhd H9;clear Hd Hk Ht H9 Hy;go_wp2_with fail
 all_goals go_ret
 all_goals exact ⟨⟨_,rfl,HI.out⟩,xT Ho.out (xT H8.out HS.out)⟩):P:=h
theorem zif (n:List UInt8):∀ l:List Fil,zhA l (zbz l n)=zbg n l
 | []=>rfl
 | p::l=>by
  have ih:=zif n l
  unfold zbz at ih ⊢
  rw[Pa,zbg]
  by_cases h:p.1=n
  ·rw[if_pos (by simpa using h),if_pos h]
   rfl
  ·rw[if_neg (by simpa using h),if_neg h,←ih]
   cases hf:l.findIdx? (fun f=>f.1==n) with
   | none=>rfl
   | some i =>
    unfold zhA;simp only[Option.map_some];rw[if_neg (by omega),if_neg (by omega)];rfl
theorem zi9 (n:List UInt8) (l:List Fil):-1≤zbz l n∧zbz l n<l.length:=by
 unfold zbz
 cases hf:l.findIdx? (fun f=>f.1==n) with
 | none=>exact ⟨Int.le_refl _,by show (-1:Int)<_;omega⟩
 | some i =>
  have:=(List.findIdx?_eq_some_iff_getElem.1 hf).1
  exact ⟨by dsimp only;omega,by dsimp only;omega⟩
theorem zmy (p:Fil):∀ (l:List Fil) (j:Nat),j≤l.length→(∀ q (_:q<j) (h:q<l.length),ltB l[q].1 p.1=true)→(∀ h:j<l.length,ltB l[j].1 p.1=false)→zcC p l=l.take j++p::l.drop j
 | [],j,hj,_,_=>by
  obtain rfl:j=0:=by simpa using hj
  rfl
 | q::l,0,_,_,h2=>by
  have:=h2 (by simp)
  rw[zcC,if_neg (by simpa using this)];rfl
 | q::l,j+1,hj,h1,h2=>by
  have h0:ltB q.1 p.1=true:=h1 0 (by omega) (by simp)
  rw[zcC,if_pos h0,zmy p l j (by simpa using hj) (fun i hi h=>h1 (i+1) (by omega) (by simpa using h)) (fun h=>h2 (by simpa using h))]
  rfl
theorem ztn (w:World) (X:Option Addr) (c:Nat) (h:c≤maxLen):SlR w 2 (.slice X 0 c) 0 []:=⟨rfl,X,c,rfl,by omega,h,fun hn=>by omega⟩
theorem zeL {W:World} {b:Nat} {t:TypeId} {a v:Value} (h:Blk W b t #[a,v]):SlR W 2 (.slice (some ⟨b,0,none⟩) 1 1) 1 [a,v]:=by
 refine ⟨rfl,_,1,rfl,xN _,by simp[maxLen],fun _=>⟨b,0,rfl,fun j u hu=>?_⟩⟩
 rw[P0]
 match j,hu with
 | 0,hu=>cases hu;exact h.cell 0 rfl
 | 1,hu=>cases hu;exact h.cell 1 rfl
 | j+2,hu=>cases hu
theorem zgz {W:World} {b:Nat} {t:TypeId} {a v:Value} (h:Blk W b t #[a,v]):W.cell? ⟨b,0,none⟩=some a∧W.cell? ⟨b,1,none⟩=some v:=⟨h.cell 0 rfl,h.cell 1 rfl⟩
theorem zgd (v:Value) (fs:List Fil) (n b:List UInt8) (vb:Value) (w:World) (hF:Fs w v fs) (hB:Bs w vb b) (hl:fs.length≤1000000):Calls Tryz.prog 95 #[v,.agg #[sv n,vb]] w fun e w'=>(∃ v',e=.returned v'∧Fs w' v' (withS fs (n,b)))∧Ext w w':=by
 obtain ⟨A,c,rfl,h1,h2⟩:=Fs.open_ hF;obtain ⟨Ab,cb,rfl,_,_⟩:=xO hB;unfold sv
 have hX:Ext w (w.alloc (.cells #[.string ⟨n.toArray⟩,.slice Ab b.length cb] 51)):=xA (xR _) _
 have hf:=Pg w 51 #[.string ⟨n.toArray⟩,.slice Ab b.length cb];obtain ⟨f0,f1⟩:=zgz hf;obtain ⟨HP,HQ⟩:=zi9 n fs;have key:=zh4 (.slice A fs.length c) fs n _ (hF.ext hX) (by omega)
 have HG:=fun W (h:Ext w W)=>zfY (.slice A fs.length c) fs (zbz fs n) W (hF.ext h) hl ⟨HP,HQ⟩
 rw[zif] at HG
 have KJ:(zbg n fs).length≤fs.length:=(zbX n fs).length_le
 have Kl:withS fs (n,b)=zcC (n,b) (zbg n fs):=rfl
 rw[Kl]
 generalize zbg n fs=l at *
 generalize zbz fs n=pl at *
 have HJ:=zhd key;have HY:=zhd HG;have HX:=zhd hX;have Hf:=zhd hf;have HB:=zhd hB;clear key HG hX hf hB hF Kl;unfold sv at HJ
 go_enter Tryz.func95,Tryz.ntmps95
 go_wp2_with fail
 refine HJ.out.mono ?_
 rintro e w1 ⟨rfl,rfl⟩;go_wp2_with fail
 refine (HY.out _ HX.out).mono ?_
 rintro e w2 ⟨⟨v2,rfl,K1⟩,Hu⟩;obtain ⟨A2,c2,rfl,KD,KE⟩:=Fs.open_ K1;have HT:=zhd K1;have Ho:=zhd (xT HX.out Hu);have HN:=zhd (Hf.out.ext Hu);clear f0 f1 K1 Hu;obtain ⟨f0,f1⟩:=zgz HN.out;go_wp2_with fail
 go_loopw [5] (fun i wr=>∃ j:Nat,j≤l.length∧i=.int .i64 j∧Hid (∀ q (_:q<j) (h2:q<l.length),ltB l[q].1 n=true)∧Hid (Ext w2 wr)) (fun i _=>l.length-(intOf i).toNat)
 case atStart=>exact ⟨0,by omega,rfl,fun q hq=>by omega,xR _⟩
 case round =>
  clear f0 f1;obtain ⟨j,hj,rfl,Hn,H8⟩:=hrel;obtain ⟨f0,f1⟩:=zgz (HN.out.ext H8.out)
  by_cases HM:j<l.length
  ·obtain ⟨_,b1,H2,rfl,hc⟩:=(HT.out.ext H8.out).at_ (by omega)
   obtain ⟨Hh,_⟩:=hc j HM
   have hq:ltB l[j].1 n=true→∀ q (_:q<j+1) (h2:q<l.length),ltB l[q].1 n=true:=fun h q h3 h2=>by
    by_cases e:q=j
    ·subst e;exact h
    ·exact Hn.out q (by omega) h2
   have hi:ltB l[j].1 n=false→zcC (n,b) l=l.take j++(n,b)::l.drop j:=fun h=>zmy _ _ _ hj Hn.out (fun _=>h)
   have Hq:=zhd hq;have Hi:=zhd hi;clear hc hq hi
   generalize l[j].1=x at *
   simp only[sv] at Hh
   have Kv:(j:Int)<(l.length:Int):=by omega
   cases hx:ltB x n with
   | true =>
    have HV:=zhd (Hq.out hx);go_wp2_with fail
    refine wp_region_held_drew (S:=fun W=>W.cell? ⟨b1,H2+j*2,none⟩=some (.string ⟨x.toArray⟩)∧W.cell? ⟨w.heap.size,0,none⟩=some (.string ⟨n.toArray⟩)) (by kernel_rfl) ⟨Hh,f0⟩ (fun _=>?_)
    clear Hh f0 f1;refine tkN 0 rfl ?_;refine tkN 1 rfl ?_;refine tkN 2 rfl ?_;refine tkN 3 rfl ?_;refine tkN 4 rfl ?_;refine tkN 5 rfl ?_;refine tkN 6 rfl ?_;refine tkN 7 rfl ?_;refine tkN 8 rfl ?_;refine tkN 9 rfl ?_;refine tkN 10 rfl ?_;refine tkN 11 rfl ?_;refine tkN 12 rfl ?_;refine tkN 13 rfl ?_;refine wpAnyH_done (by kernel_rfl) ?_ _;go_wp2_with fail
    go_roundw
    case rel=>exact ⟨j+1,by omega,by go_num,HV,xD H8.out⟩
    case measure=>simp[intOf];omega
   | false =>
    have HU:=zhd (Hi.out hx);go_wp2_with fail
    refine wp_region_held_drew (S:=fun W=>W.cell? ⟨b1,H2+j*2,none⟩=some (.string ⟨x.toArray⟩)∧W.cell? ⟨w.heap.size,0,none⟩=some (.string ⟨n.toArray⟩)) (by kernel_rfl) ⟨Hh,f0⟩ (fun _=>?_)
    clear Hh;refine tkN 0 rfl ?_;refine tkN 1 rfl ?_;refine tkN 2 rfl ?_;refine tkN 3 rfl ?_;refine tkN 4 rfl ?_;refine tkN 5 rfl ?_;refine tkN 6 rfl ?_;refine tkN 7 rfl ?_;refine tkN 8 rfl ?_;refine tkN 9 rfl ?_;refine tkN 10 rfl ?_;refine tkN 11 rfl ?_;refine tkN 12 rfl ?_;refine tkN 13 rfl ?_;refine wpAnyH_done (by kernel_rfl) ?_ _;clear hx Kv;go_wp2_with fail;obtain ⟨xs,H7,Hm⟩:=HT.out.ext H8.out
    have Hc:FRow wr xs l:=⟨H7.1,Hm⟩
    have R1:=zhd (zia Hc j hj);have R2:=zhd (zh9 Hc j hj);have S1:=zhd (ziq H7 j hj);have Kc:=zhd H7
    have Ku:j≤c2:=by omega
    have hold:∀ X,Ext wr X→X.cell? ⟨w.heap.size,0,none⟩=some (.string ⟨n.toArray⟩)∧X.cell? ⟨w.heap.size,1,none⟩=some (.slice Ab b.length cb):=fun X h=>zgz ((HN.out.ext H8.out).ext h)
    have H0:=zhd hold;clear Hc H7 Hm hold
    refine wp_region_held_drew (S:=fun W=>W.cell? ⟨w.heap.size,0,none⟩=some (.string ⟨n.toArray⟩)∧W.cell? ⟨w.heap.size,1,none⟩=some (.slice Ab b.length cb)) (by kernel_rfl) (H0.out _ (xD (xD (xR _)))) (fun _=>?_)
    refine tkN 1 rfl ?_;refine tkN 2 rfl ?_;refine tkN 3 rfl ?_;refine tkN 5 rfl ?_;refine tkN 8 rfl ?_;refine tkN 9 rfl ?_;refine tkN 10 rfl ?_
    refine Ph (i:=0) (j:=6) rfl rfl (by kernel_rfl) (by rfl) (by rfl) (fun K hK=>?_) (fun K hK=>?_)
    ·go_simp
     have H1:Ext wr (wr.alloc (.cells #[] 51)).drew.drew:=xD (xD (xA (xR _) _))
     have H6:=zaf (zfP wr [] 0 rfl (by simp[maxLen]) (xN _)) (xD (xD (xR (wr.alloc (.cells #[] 51)))))
     refine shK hK _ _ (H0.out _ H1) (fun _=>?_)
     refine Ph (i:=4) (j:=6) rfl rfl (by kernel_rfl) (by rfl) (by rfl) (fun K hK=>?_) (fun K hK=>?_)
     ·refine zbm (.tmp 28) (.tmp 31) rfl wr H1 (.slice (some ⟨wr.heap.size,0,none⟩) 0 0) 0 [] rfl H6 _ j _ _ rfl (S1.out.ext H1) R1.out (by omega) ?_
      intro A3 c3 w3 H4 H3 Hj
      rw[P0] at H4 ⊢
      refine shK hK _ _ (H0.out _ H3) (fun _=>?_)
      refine ar1 6 rfl (fun K hK=>?_)
      go_simp
      have H5:Ext w3 (w3.alloc (.cells #[.string ⟨n.toArray⟩,.slice Ab b.length cb] 51)):=xA (xR _) _
      have Hg:=xT H3 H5;have HA:=zaf H4 H5;have hs:=zeL (Pg w3 51 #[.string ⟨n.toArray⟩,.slice Ab b.length cb])
      refine shK hK _ _ (H0.out _ Hg) (fun _=>?_)
      exact mcR4ba1
     ·go_simp
      have H5:Ext (wr.alloc (.cells #[] 51)).drew.drew ((wr.alloc (.cells #[] 51)).alloc (.cells #[.string ⟨n.toArray⟩,.slice Ab b.length cb] 51)).drew.drew:=xA (xR _) _
      have Hl:=(Pg (wr.alloc (.cells #[] 51)) 51 #[.string ⟨n.toArray⟩,.slice Ab b.length cb]).ext (xD (xD (xR _)));rw[xS] at Hl;have H6:=zaf H6 H5;have H1:=xT H1 H5
      refine shK hK _ _ (H0.out _ H1) (fun _=>?_)
      refine ar1 4 rfl (fun K hK=>?_)
      refine zbm (.tmp 28) (.tmp 31) rfl wr H1 (.slice (some ⟨wr.heap.size,0,none⟩) 0 0) 0 [] rfl H6 _ j _ _ rfl (S1.out.ext H1) R1.out (by omega) ?_
      intro A3 c3 w3 H4 H3 Hj
      rw[P0] at H4 ⊢
      refine shK hK _ _ (H0.out _ H3) (fun _=>?_)
      have hs:=zeL (Hl.kept Hj (by simp[Pi]));have Hg:=H3;have HA:=H4
      exact mcR4ba1
    ·go_simp
     have H5:Ext wr (wr.alloc (.cells #[.string ⟨n.toArray⟩,.slice Ab b.length cb] 51)).drew.drew:=xD (xD (xA (xR _) _))
     refine shK hK _ _ (H0.out _ H5) (fun _=>?_)
     refine ar1 0 rfl (fun K hK=>?_)
     go_simp
     have H1:Ext wr ((wr.alloc (.cells #[.string ⟨n.toArray⟩,.slice Ab b.length cb] 51)).alloc (.cells #[] 51)).drew.drew:=xD (xD (xA (xA (xR _) _) _))
     have Hl:=((Pg wr 51 #[.string ⟨n.toArray⟩,.slice Ab b.length cb]).alloc (.cells #[] 51)).ext (xD (xD (xR _)))
     have H6:=zaf (zfP (wr.alloc (.cells #[.string ⟨n.toArray⟩,.slice Ab b.length cb] 51)) [] 0 rfl (by simp[maxLen]) (show wr.heap.size≤_ by rw[xS];omega)) (xD (xD (xR ((wr.alloc (.cells #[.string ⟨n.toArray⟩,.slice Ab b.length cb] 51)).alloc (.cells #[] 51)))))
     rw[xS] at H6
     refine shK hK _ _ (H0.out _ H1) (fun _=>?_)
     refine ar1 4 rfl (fun K hK=>?_)
     refine zbm (.tmp 28) (.tmp 31) rfl wr H1 (.slice (some ⟨wr.heap.size+1,0,none⟩) 0 0) 0 [] rfl H6 _ j _ _ rfl (S1.out.ext H1) R1.out (by omega) ?_
     intro A3 c3 w3 H4 H3 Hj
     rw[P0] at H4 ⊢
     refine shK hK _ _ (H0.out _ H3) (fun _=>?_)
     have hs:=zeL (Hl.kept Hj (by simp[Pi]));have Hg:=H3;have HA:=H4
     exact mcR4ba1
  ·obtain rfl:j=l.length:=by omega
   have HU:=zhd (zmy (n,b) l l.length (xN _) Hn.out (fun h=>by omega))
   go_wp2_with fail
   refine wp_region_held_drew (S:=fun _=>True) (by kernel_rfl) trivial (fun _=>?_)
   refine tkN 0 rfl ?_;refine tkN 1 rfl ?_;refine tkN 2 rfl ?_;refine tkN 3 rfl ?_;refine tkN 4 rfl ?_;refine tkS 5 rfl ?_;refine tkS 6 rfl ?_;refine tkS 7 rfl ?_;refine tkS 8 rfl ?_;refine tkS 9 rfl ?_;refine tkS 10 rfl ?_;refine tkS 11 rfl ?_;refine tkS 12 rfl ?_;refine tkN 13 rfl ?_;refine wpAnyH_done (by kernel_rfl) ?_ _;go_wp2_with fail;obtain ⟨xs,H7,Hm⟩:=HT.out.ext H8.out
   have Hc:FRow wr xs l:=⟨H7.1,Hm⟩
   have R1:=zhd (zia Hc l.length hj);have R2:=zhd (zh9 Hc l.length hj);have S1:=zhd (ziq H7 l.length hj);have Kc:=zhd H7
   have Ku:l.length≤c2:=by omega
   have hold:∀ X,Ext wr X→X.cell? ⟨w.heap.size,0,none⟩=some (.string ⟨n.toArray⟩)∧X.cell? ⟨w.heap.size,1,none⟩=some (.slice Ab b.length cb):=fun X h=>zgz ((HN.out.ext H8.out).ext h)
   have H0:=zhd hold;clear Hc H7 Hm hold
   refine wp_region_held_drew (S:=fun W=>W.cell? ⟨w.heap.size,0,none⟩=some (.string ⟨n.toArray⟩)∧W.cell? ⟨w.heap.size,1,none⟩=some (.slice Ab b.length cb)) (by kernel_rfl) (H0.out _ (xD (xD (xR _)))) (fun _=>?_)
   refine tkN 1 rfl ?_;refine tkN 2 rfl ?_;refine tkN 3 rfl ?_;refine tkN 5 rfl ?_;refine tkN 8 rfl ?_;refine tkN 9 rfl ?_;refine tkN 10 rfl ?_
   refine Ph (i:=0) (j:=6) rfl rfl (by kernel_rfl) (by rfl) (by rfl) (fun K hK=>?_) (fun K hK=>?_)
   ·go_simp
    have H1:Ext wr (wr.alloc (.cells #[] 51)).drew.drew:=xD (xD (xA (xR _) _))
    have H6:=zaf (zfP wr [] 0 rfl (by simp[maxLen]) (xN _)) (xD (xD (xR (wr.alloc (.cells #[] 51)))))
    refine shK hK _ _ (H0.out _ H1) (fun _=>?_)
    refine Ph (i:=4) (j:=6) rfl rfl (by kernel_rfl) (by rfl) (by rfl) (fun K hK=>?_) (fun K hK=>?_)
    ·refine zbm (.tmp 28) (.tmp 31) rfl wr H1 (.slice (some ⟨wr.heap.size,0,none⟩) 0 0) 0 [] rfl H6 _ l.length _ _ rfl (S1.out.ext H1) R1.out (by omega) ?_
     intro A3 c3 w3 H4 H3 Hj
     rw[P0] at H4 ⊢
     refine shK hK _ _ (H0.out _ H3) (fun _=>?_)
     refine ar1 6 rfl (fun K hK=>?_)
     go_simp
     have H5:Ext w3 (w3.alloc (.cells #[.string ⟨n.toArray⟩,.slice Ab b.length cb] 51)):=xA (xR _) _
     have Hg:=xT H3 H5;have HA:=zaf H4 H5;have hs:=zeL (Pg w3 51 #[.string ⟨n.toArray⟩,.slice Ab b.length cb])
     refine shK hK _ _ (H0.out _ Hg) (fun _=>?_)
     exact mcR4ba0
    ·go_simp
     have H5:Ext (wr.alloc (.cells #[] 51)).drew.drew ((wr.alloc (.cells #[] 51)).alloc (.cells #[.string ⟨n.toArray⟩,.slice Ab b.length cb] 51)).drew.drew:=xA (xR _) _
     have Hl:=(Pg (wr.alloc (.cells #[] 51)) 51 #[.string ⟨n.toArray⟩,.slice Ab b.length cb]).ext (xD (xD (xR _)));rw[xS] at Hl;have H6:=zaf H6 H5;have H1:=xT H1 H5
     refine shK hK _ _ (H0.out _ H1) (fun _=>?_)
     refine ar1 4 rfl (fun K hK=>?_)
     refine zbm (.tmp 28) (.tmp 31) rfl wr H1 (.slice (some ⟨wr.heap.size,0,none⟩) 0 0) 0 [] rfl H6 _ l.length _ _ rfl (S1.out.ext H1) R1.out (by omega) ?_
     intro A3 c3 w3 H4 H3 Hj
     rw[P0] at H4 ⊢
     refine shK hK _ _ (H0.out _ H3) (fun _=>?_)
     have hs:=zeL (Hl.kept Hj (by simp[Pi]));have Hg:=H3;have HA:=H4
     exact mcR4ba0
   ·go_simp
    have H5:Ext wr (wr.alloc (.cells #[.string ⟨n.toArray⟩,.slice Ab b.length cb] 51)).drew.drew:=xD (xD (xA (xR _) _))
    refine shK hK _ _ (H0.out _ H5) (fun _=>?_)
    refine ar1 0 rfl (fun K hK=>?_)
    go_simp
    have H1:Ext wr ((wr.alloc (.cells #[.string ⟨n.toArray⟩,.slice Ab b.length cb] 51)).alloc (.cells #[] 51)).drew.drew:=xD (xD (xA (xA (xR _) _) _))
    have Hl:=((Pg wr 51 #[.string ⟨n.toArray⟩,.slice Ab b.length cb]).alloc (.cells #[] 51)).ext (xD (xD (xR _)))
    have H6:=zaf (zfP (wr.alloc (.cells #[.string ⟨n.toArray⟩,.slice Ab b.length cb] 51)) [] 0 rfl (by simp[maxLen]) (show wr.heap.size≤_ by rw[xS];omega)) (xD (xD (xR ((wr.alloc (.cells #[.string ⟨n.toArray⟩,.slice Ab b.length cb] 51)).alloc (.cells #[] 51)))))
    rw[xS] at H6
    refine shK hK _ _ (H0.out _ H1) (fun _=>?_)
    refine ar1 4 rfl (fun K hK=>?_)
    refine zbm (.tmp 28) (.tmp 31) rfl wr H1 (.slice (some ⟨wr.heap.size+1,0,none⟩) 0 0) 0 [] rfl H6 _ l.length _ _ rfl (S1.out.ext H1) R1.out (by omega) ?_
    intro A3 c3 w3 H4 H3 Hj
    rw[P0] at H4 ⊢
    refine shK hK _ _ (H0.out _ H3) (fun _=>?_)
    have hs:=zeL (Hl.kept Hj (by simp[Pi]));have Hg:=H3;have HA:=H4
    exact mcR4ba0
theorem zix {o:Oper} {a:Act} {w:World} {K:Act→World→Prop} {Q:Exit→Act→World→Prop} (s x:Operand)
  (ho:o.op=.call { callee:=.builtin .append,args:=#[s,x],argTypes:=#[38,38] })
  (base:Nat) (v:Value) (bs:List UInt8) (hs:a.eval s=v) (Hb:OwnB w base v bs) (vx:Value) (cs:List UInt8) (hx:a.eval x=vx) (hr:Bs w vx cs) (K3:bs.length+cs.length≤4000000) (HK:base≤w.heap.size)
  (h:∀ A c w',OwnB w' base (.slice A (bs.length+cs.length) c) (bs++cs)→zgP base w w'→K (a.put o.dst (.slice A (bs.length+cs.length) c)) w'):Oper.wp Tryz.prog o a w K Q:=by
 obtain ⟨i0,hi,K6,K7,K8⟩:=info_parts zb8;obtain ⟨v',w',HD,h1,h2⟩:=za6 (P:=Tryz.prog) w base 38 o.type 5 i0 _ 1 1 Tryz.underlying38 hi K6 K7 K8 rfl (by decide) v bs.length (bs.map bv) Hb vx cs.length (cs.map bv) hr (zcP _) (by unfold maxLen;omega) (by omega) HK;unfold Oper.wp execOp;simp only[ho,resolve,invoke,builtin,Sem.run_bind,Sem.run_pure,Result.andThen_ok,Pb,Pc,Pd,hs,hx,HD];obtain ⟨A,c,rfl,_,_⟩:=xO (xW h1)
 refine h A c w' ?_ (fun W0 hE hb=>Ext.grownOwn hE (zai Hb hb) h2)
 unfold OwnB;rw[xL,List.map_append]
 exact h1
theorem place_get {n:List UInt8}:∀ {l:List Fil},(zbz l n<0∧zah n l=none)∨∃ (i:Nat) (h:i<l.length),zbz l n=i∧zah n l=some l[i].2
 | []=>.inl ⟨by show (-1:Int)<0;omega,rfl⟩
 | p::l=>by
  have ih:=@place_get n l
  unfold zbz at ih ⊢
  rw[Pa,zah]
  by_cases h:p.1=n
  ·rw[if_pos (by simpa using h),if_pos h]
   exact .inr ⟨0,by simp,rfl,rfl⟩
  ·rw[if_neg (by simpa using h),if_neg h]
   cases hf:l.findIdx? (fun f=>f.1==n) with
   | none =>
    rw[hf] at ih
    rcases ih with ⟨_,h2⟩ | ⟨i,_,h2,_⟩
    ·exact .inl ⟨by show (-1:Int)<0;omega,h2⟩
    ·exact absurd h2 (by show ¬ (-1:Int)=_;omega)
   | some j =>
    rw[hf] at ih
    rcases ih with ⟨h2,_⟩ | ⟨i,hi,h2,h3⟩
    ·exact absurd h2 (by show ¬ ((j:Nat):Int)<0;omega)
    ·have:j=i:=by have:((j:Nat):Int)=(i:Int):=h2;omega
     subst this
     exact .inr ⟨j+1,by simpa using hi,rfl,by simpa using h3⟩
theorem zk6 (v:Value) (fs:List Fil) (o:Oq) (vo:Value) (w:World) (hF:Fs w v fs) (hB:Bs w vo o.b) (hl:fs.length≤1000000) (K2:∀ f∈fs,f.2.length+o.b.length≤2000000) :
  Calls Tryz.prog 53 #[v,.agg #[.int .u8 o.k,sv o.n,sv o.t,vo]] w fun e w'=>(∃ v',e=.returned v'∧Fs w' v' (za1 fs o))∧Ext w w':=by
 obtain ⟨A,c,rfl,h1,h2⟩:=Fs.open_ hF;obtain ⟨Ab,cb,rfl,_,_⟩:=xO hB;obtain ⟨k,n,t,b⟩:=o
 dsimp only at hB K2 ⊢
 obtain ⟨R,hR⟩:∃ R,za1 fs ⟨k,n,t,b⟩=R:=⟨_,rfl⟩;rw[hR];unfold sv
 have hX:Ext w (w.alloc (.cells #[.int .u8 k,.string ⟨n.toArray⟩,.string ⟨t.toArray⟩,.slice Ab b.length cb] 86)):=xA (xR _) _
 have hf:=Pg w 86 #[.int .u8 k,.string ⟨n.toArray⟩,.string ⟨t.toArray⟩,.slice Ab b.length cb];obtain ⟨o0,o1,o2,o3⟩:=zay hf;have key:=zh4 (.slice A fs.length c) fs n _ (hF.ext hX) (by omega);have Kk:=@place_get n fs;obtain ⟨HP,HQ⟩:=zi9 n fs;have Kj:=zif n fs;unfold za1 at hR;dsimp only at hR;have HX:=zhd hX;have Hf:=zhd hf;have HF:=zhd (hF.ext hX);have HB:=zhd (Bs.ext hB hX);have HR:=zhd hR;have Km:=zhd K2;have HL:=zhd hl;have Ka:=zhd Kj;have Kb:=zhd (And.intro HP HQ);unfold sv at key;have HJ:=zhd key;clear hX hf hF hB hR K2 Kj key HP HQ hl
 generalize zbz fs n=pl at *
 go_enter Tryz.func53,Tryz.ntmps53
 go_wp2_with fail
 refine HJ.out.mono ?_
 rintro e w1 ⟨rfl,rfl⟩
 by_cases hk1:k=1
 ·subst hk1
  have hR:=HR.out;rw[if_pos rfl] at hR;have HR:=zhd hR;clear hR Kk;have hw:=zgd _ fs n [] (.slice none 0 0) _ HF.out (SlR.nil _ 1) HL.out;unfold sv at hw;rw[HR.out] at hw;have Hw:=zhd hw;clear hw;go_wp2_with fail
  refine Hw.out.mono ?_
  rintro e w9 ⟨⟨v9,rfl,Hx⟩,He⟩;clear o0 o1 o2 o3;go_wp2_with fail;go_ret
  exact ⟨⟨_,rfl,Hx⟩,xT HX.out He⟩
 have hR:=HR.out;rw[if_neg hk1] at hR
 have Kw:(k==1)=false:=by simpa using hk1
 rcases Kk with ⟨hneg,hg⟩ | ⟨i,hi,hpi,hg⟩
 ·rw[hg] at hR
  obtain rfl:fs=R:=hR
  clear hk1 hg;go_wp2_with fail;go_ret
  exact ⟨⟨_,rfl,HF.out⟩,HX.out⟩
 rw[hg] at hR;subst hpi;dsimp only at hR;obtain ⟨_,b1,H2,rfl,hc⟩:=HF.out.at_ (by omega);obtain ⟨Hh,B1,d1,Hs,Ke⟩:=hc i hi;have Kh:=Km.out _ (List.getElem_mem hi)
 generalize fs[i].2=c0 at *
 have Ks:¬ ((i:Int)<0):=by omega
 have KI:(i:Int)<(fs.length:Int):=by omega
 have K9:=zhd Ke;have Kd:=zhd Kh;have Hr:=zhd hR;clear hk1 hg hc Hh Ke Kh hR HR hi HJ
 by_cases hk2:k=2
 ·subst hk2
  have hR:=Hr.out;rw[if_pos rfl] at hR
  have hw:=fun W (h:Ext (w.alloc (.cells #[.int .u8 2,.string ⟨n.toArray⟩,.string ⟨t.toArray⟩,.slice Ab b.length cb] 86)) W) A0 c0' (hb:Bs W (.slice A0 (c0.length+b.length) c0') (c0++b))=>zgd _ fs n (c0++b) (.slice A0 (c0.length+b.length) c0') W (HF.out.ext h) hb HL.out
  unfold sv at hw;rw[hR] at hw;have Hw:=zhd hw
  have hold:∀ X,Ext (w.alloc (.cells #[.int .u8 2,.string ⟨n.toArray⟩,.string ⟨t.toArray⟩,.slice Ab b.length cb] 86)) X→X.cell? ⟨w.heap.size,1,none⟩=some (.string ⟨n.toArray⟩)∧X.cell? ⟨w.heap.size,3,none⟩=some (.slice Ab b.length cb)∧X.cell? ⟨b1,H2+i*2+1,none⟩=some (.slice B1 c0.length d1):=fun X h=>⟨h.cell o1,h.cell o3,h.cell Hs⟩
  have H0:=zhd hold;clear hw hR Hr hold;go_wp2_with fail
  refine wp_region_held_drew (S:=fun W=>W.cell? ⟨w.heap.size,1,none⟩=some (.string ⟨n.toArray⟩)∧W.cell? ⟨w.heap.size,3,none⟩=some (.slice Ab b.length cb)∧W.cell? ⟨b1,H2+i*2+1,none⟩=some (.slice B1 c0.length d1)) (by kernel_rfl) ⟨o1,o3,Hs⟩ (fun _=>?_)
  clear o0 o1 o2 o3 Hs;refine tkN 0 rfl ?_;refine tkN 1 rfl ?_;refine tkN 2 rfl ?_;refine tkN 4 rfl ?_;refine tkN 5 rfl ?_;refine tkN 6 rfl ?_;refine tkN 7 rfl ?_;refine tkN 8 rfl ?_;refine tkN 10 rfl ?_;refine tkN 11 rfl ?_
  refine ar1 3 rfl (fun K hK=>?_)
  go_simp
  have HO:Ext (w.alloc (.cells #[.int .u8 2,.string ⟨n.toArray⟩,.string ⟨t.toArray⟩,.slice Ab b.length cb] 86)) ((w.alloc (.cells #[.int .u8 2,.string ⟨n.toArray⟩,.string ⟨t.toArray⟩,.slice Ab b.length cb] 86)).alloc (.cells #[] 5)).drew:=xD (xA (xR _) _)
  have Ki:OwnB ((w.alloc (.cells #[.int .u8 2,.string ⟨n.toArray⟩,.string ⟨t.toArray⟩,.slice Ab b.length cb] 86)).alloc (.cells #[] 5)).drew (w.alloc (.cells #[.int .u8 2,.string ⟨n.toArray⟩,.string ⟨t.toArray⟩,.slice Ab b.length cb] 86)).heap.size (.slice (some ⟨(w.alloc (.cells #[.int .u8 2,.string ⟨n.toArray⟩,.string ⟨t.toArray⟩,.slice Ab b.length cb] 86)).heap.size,0,none⟩) 0 0) []:=zaf (zeq (w.alloc (.cells #[.int .u8 2,.string ⟨n.toArray⟩,.string ⟨t.toArray⟩,.slice Ab b.length cb] 86))) (xD (xR _))
  rw[show (w.alloc (.cells #[.int .u8 2,.string ⟨n.toArray⟩,.string ⟨t.toArray⟩,.slice Ab b.length cb] 86)).heap.size=w.heap.size+1 by rw[xS]] at Ki
  refine shK hK _ _ (H0.out _ HO) (fun _=>?_)
  refine ar1 9 rfl (fun K hK=>?_)
  refine zix (.tmp 29) (.tmp 34) rfl (w.heap.size+1) _ [] rfl Ki _ c0 rfl (K9.out.ext HO) (by have:=Kd.out;simp;omega) (by have:=HO.size;rw[xS] at this;exact this) ?_
  intro A5 c5 w5 HH Kp;have Ha:=Kp _ HO (by rw[xS];omega)
  simp only[List.length_nil,P0,xI] at HH ⊢
  refine shK hK _ _ (H0.out _ Ha) (fun _=>?_)
  refine ar1 12 rfl (fun K hK=>?_)
  refine zix (.tmp 35) (.tmp 37) rfl (w.heap.size+1) _ c0 rfl HH _ b rfl (Bs.ext HB.out Ha) (by have:=Kd.out;omega) (by have:=Ha.size;rw[xS] at this;exact this) ?_
  intro A6 c6 w6 Hk Kq;have H9:=Kq _ Ha (by rw[xS];omega)
  have Kr:Bs w6 (.slice A6 (c0.length+b.length) c6) (c0++b):=xW Hk
  refine shK hK _ _ (H0.out _ H9) (fun _=>?_)
  refine tkN 13 rfl ?_
  refine ar1 14 rfl (fun K hK=>?_)
  go_simp
  refine (Hw.out _ H9 _ _ Kr).mono ?_
  rintro e w9 ⟨⟨v9,rfl,Hx⟩,Hv⟩;have He:=xT H9 Hv
  refine shK hK _ _ (H0.out _ He) (fun _=>?_)
  refine tkN 15 rfl ?_;refine wpAnyH_done (by kernel_rfl) ?_ _;go_wp2_with fail;go_ret
  exact ⟨⟨_,rfl,Hx⟩,xT HX.out He⟩
 rw[if_neg hk2] at Hr
 have Kx:(k==2)=false:=by simpa using hk2
 by_cases hk3:k=3∧t≠n
 ·obtain ⟨rfl,K5⟩:=hk3
  have hR:=Hr.out;rw[if_pos ⟨rfl,K5⟩] at hR
  have KK:(t==n)=false:=by simpa using K5
  have HE:=fun W (h:Ext (w.alloc (.cells #[.int .u8 3,.string ⟨n.toArray⟩,.string ⟨t.toArray⟩,.slice Ab b.length cb] 86)) W)=>zfY _ fs (i:Int) W (HF.out.ext h) HL.out Kb.out
  rw[Ka.out] at HE
  have hw:=fun W v (h:Ext (w.alloc (.cells #[.int .u8 3,.string ⟨n.toArray⟩,.string ⟨t.toArray⟩,.slice Ab b.length cb] 86)) W) (hv:Fs W v (zbg n fs))=>zgd v (zbg n fs) t c0 (.slice B1 c0.length d1) W hv (K9.out.ext h) (by have:=(zbX n fs).length_le;have:=HL.out;omega)
  unfold sv at hw;rw[hR] at hw;have HW:=zhd HE;have Hw:=zhd hw
  have hold:∀ X,Ext (w.alloc (.cells #[.int .u8 3,.string ⟨n.toArray⟩,.string ⟨t.toArray⟩,.slice Ab b.length cb] 86)) X→X.cell? ⟨w.heap.size,2,none⟩=some (.string ⟨t.toArray⟩)∧X.cell? ⟨b1,H2+i*2+1,none⟩=some (.slice B1 c0.length d1):=fun X h=>⟨h.cell o2,h.cell Hs⟩
  have H0:=zhd hold;clear hw HE hR Hr hold K5;go_wp2_with fail
  refine wp_region_held_drew (S:=fun W=>W.cell? ⟨w.heap.size,2,none⟩=some (.string ⟨t.toArray⟩)∧W.cell? ⟨b1,H2+i*2+1,none⟩=some (.slice B1 c0.length d1)) (by kernel_rfl) ⟨o2,Hs⟩ (fun _=>?_)
  clear o0 o1 o2 o3 Hs;refine tkN 0 rfl ?_;refine tkN 1 rfl ?_;refine tkN 3 rfl ?_;refine tkN 4 rfl ?_;refine tkN 5 rfl ?_;refine tkN 6 rfl ?_;refine tkN 7 rfl ?_;refine tkN 8 rfl ?_;refine tkN 9 rfl ?_;refine tkN 10 rfl ?_
  refine ar1 2 rfl (fun K hK=>?_)
  go_simp
  refine (HW.out _ (xD (xR _))).mono ?_
  rintro e w8 ⟨⟨v8,rfl,Ko⟩,K0⟩;have HZ:=xT (xD (xR (w.alloc (.cells #[.int .u8 3,.string ⟨n.toArray⟩,.string ⟨t.toArray⟩,.slice Ab b.length cb] 86)))) K0
  refine shK hK _ _ (H0.out _ HZ) (fun _=>?_)
  refine ar1 11 rfl (fun K hK=>?_)
  go_simp
  refine (Hw.out _ _ HZ Ko).mono ?_
  rintro e w9 ⟨⟨v9,rfl,Hx⟩,Hv⟩;have He:=xT HZ Hv
  refine shK hK _ _ (H0.out _ He) (fun _=>?_)
  refine tkN 12 rfl ?_;refine wpAnyH_done (by kernel_rfl) ?_ _;go_wp2_with fail;go_ret
  exact ⟨⟨_,rfl,Hx⟩,xT HX.out He⟩
 have hR:=Hr.out;rw[if_neg hk3] at hR
 have h3:((k==3)=true∧(t==n)=true)∨(k==3)=false:=by
  by_cases h:k=3
  ·exact .inl ⟨by simpa using h,by
    by_cases h2:t=n
    ·simpa using h2
    ·exact absurd ⟨h,h2⟩ hk3⟩
  ·exact .inr (by simpa using h)
 by_cases hk4:k=4
 ·subst hk4
  rw[if_pos rfl] at hR
  have HE:=fun W (h:Ext (w.alloc (.cells #[.int .u8 4,.string ⟨n.toArray⟩,.string ⟨t.toArray⟩,.slice Ab b.length cb] 86)) W)=>zfY _ fs (i:Int) W (HF.out.ext h) HL.out Kb.out
  rw[Ka.out,hR] at HE;have HW:=zhd HE;clear HE hR Hr h3 hk3 hk2 Hs;go_wp2_with fail
  refine (HW.out _ (xR _)).mono ?_
  rintro e w9 ⟨⟨v9,rfl,Hx⟩,He⟩;clear o0 o1 o2 o3;go_wp2_with fail;go_ret
  exact ⟨⟨_,rfl,Hx⟩,xT HX.out He⟩
 ·rw[if_neg hk4] at hR
  obtain rfl:fs=R:=hR
  have Ky:(k==4)=false:=by simpa using hk4
  clear Hr hk3 hk2 hk4 Hs
  rcases h3 with ⟨h31,h32⟩ | h31
  ·go_wp2_with fail
   go_ret
   exact ⟨⟨_,rfl,HF.out⟩,HX.out⟩
  ·go_wp2_with fail
   go_ret
   exact ⟨⟨_,rfl,HF.out⟩,HX.out⟩
end Go.Proofs.YtgonhdeochgkoaaGreatDoor
