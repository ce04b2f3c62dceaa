/- Merged -/
import Derived.Test.YteggfecbjgbndaaGreatDoorZw34
set_option linter.all false
set_option maxHeartbeats 8000000
set_option maxRecDepth 100000
open Go.Value renaming string→C,slice→D,int→I,pointer→O
open Go.Obj renaming cells→E
open Go.Mv renaming zhd→F
open Option renaming some→G,none→H
open Go.Proofs.Tryz renaming prog→J
open Go.IntKind renaming u8→L,i64→N
open Nat renaming zero_add→P0,min_eq_left→P1,add_zero→P2,zero_le→P3
open List renaming length_take→P4,length_drop→P5,take_succ_eq_append_getElem→P6,append_assoc→P7,take_length→P8,append_nil→P9,getElem?_drop→Pa,getElem?_take_of_lt→Pb,singleton_append→Pc,findIdx?_cons→Pd,map_toArray→Pe,getElem_mem→Pf,map_cons→Pg,map_nil→Ph
open Go.Proofs.YteggfecbjgbndaaGreatDoor.FRow renaming append→Pi,one'→Pj
open Go.Mv.Blk renaming new→Pk
open Go.Mv.AllReadyH renaming two→Pl
open Go.Value renaming ownBlock→Pm
namespace Go.Proofs.YteggfecbjgbndaaGreatDoor
open Go.RowKit Go.Mv Go.Shelf
theorem zsV (tmps:Array Value) (W:World) (b:Nat) (cs:Array Value) (h4:tmps.getD 2 undef=O (G ⟨b,0,H⟩)) (hb:Blk W b 25 cs) (hs:cs.size=5):(results Tryz.f30 tmps).run J W=.ok (.agg cs) W:=by
 have hl:=hb.load (P:=J) (show Tryz.prog.underlying 25=G (.struct (Tryz.prog.fieldsOf 25)) by kernel_rfl) rfl (by rw[hs];kernel_rfl)
 have KJ:tmps[2]?.getD undef=O (G ⟨b,0,H⟩):=by simpa using h4
 simp[results,Tryz.results30,KJ,asAddr,hl]
theorem zr7 (q:Int) (hq:0≤q) (w:World):Calls J 30 #[I N q] w fun e w'=>e=.returned (.agg #[D none 0 0,D none 0 0,I N q,I N 0,.bool false])∧Ext w w':=by
 go_enter Tryz.func30,Tryz.ntmps30
 go_wp2
 rw[show max q 0=q by omega]
 refine bodyPost_ret (zsV _ _ _ _ rfl (Pk w _ _) rfl) rfl ?_
 exact ⟨rfl,xA (xR _) _⟩
theorem zfV (v:Value) (fs:List Fil) (n:List UInt8) (w:World) (hF:Fs w v fs) (hl:fs.length≤4000000):Calls J 113 #[v,sv n] w fun e w'=>e=.returned (I N (za4 fs n))∧w=w':=by
 obtain ⟨A,c,rfl,h1,h2⟩:=Fs.open_ hF;have HF:=F hF;unfold sv;clear hF
 go_enter Tryz.func113,Tryz.ntmps113
 go_wp2_with fail
 go_loopw [5] (fun i wr=>∃ j:Nat,j≤fs.length∧i=I N j∧Hid (∀ q (_:q<j) (h2:q<fs.length),fs[q].1≠n)∧w=wr) (fun i _=>fs.length-(intOf i).toNat)
 case atStart=>exact ⟨0,by omega,rfl,fun q hq=>by omega,rfl⟩
 case round =>
  obtain ⟨j,hj,rfl,Hn,rfl⟩:=hrel
  by_cases Hg:j<fs.length
  ·obtain ⟨_,b,H3,rfl,hc⟩:=HF.out.at_ (by omega)
   obtain ⟨H5,_⟩:=hc j Hg
   have hp:fs[j].1=n→za4 fs n=j:=fun h=>zjd Hg h Hn.out
   have hq:fs[j].1≠n→∀ q (_:q<j+1) (h2:q<fs.length),fs[q].1≠n:=fun h q h3 h2=>by
    by_cases e:q=j
    ·subst e;exact h
    ·exact Hn.out q (by omega) h2
   have Hp:=F hp;have Hq:=F hq;clear hc hp hq
   generalize fs[j].1=x at *
   simp only[sv] at H5
   by_cases hx:x=n
   ·have KV:(x==n)=true:=by simpa using hx
    have HG:=F (Hp.out hx);go_wp2_with fail;go_ret
    exact ⟨by rw[HG.out];rfl,rfl⟩
   ·have KV:(x==n)=false:=by simpa using hx
    have K8:=F (Hq.out hx);go_wp2_with fail
    go_roundw
    case rel=>exact ⟨j+1,by omega,by go_num,K8,trivial⟩
    case measure=>simp[intOf];omega
  ·obtain rfl:j=fs.length:=by omega
   have HG:=F (show za4 fs n = -1 from zhh fun q h2=>Hn.out q h2 h2)
   go_wp2_with fail;go_ret
   exact ⟨by rw[HG.out];rfl,rfl⟩
/-! Parts of rows of files -/
theorem zbZ (W:World):FRow W [] []:=⟨rfl,fun i hi=>by simp at hi⟩
theorem zhQ {W:World} {xs:List Value} {l:List Fil} (h:FRow W xs l) (k:Nat) (hk:k≤l.length):FRow W (xs.take (k*2)) (l.take k):=by
 obtain ⟨h1,h2⟩:=h
 refine ⟨by rw[P4,P4,h1];omega,fun i hi=>?_⟩
 have KZ:i<k:=by rw[P4] at hi;omega
 obtain ⟨a,u,b,c⟩:=h2 i (by omega);rw[Pb (by omega),Pb (by omega)];simp only[List.getElem_take]
 exact ⟨a,u,b,c⟩
theorem zhP {W:World} {xs:List Value} {l:List Fil} (h:FRow W xs l) (k:Nat) (hk:k≤l.length):FRow W (xs.drop (k*2)) (l.drop k):=by
 obtain ⟨h1,h2⟩:=h
 refine ⟨by rw[P5,P5,h1];omega,fun i hi=>?_⟩
 rw[P5] at hi;obtain ⟨a,u,b,c⟩:=h2 (k+i) (by omega);rw[Pa,Pa];simp only[List.getElem_drop]
 rw[show k*2+i*2=(k+i)*2 by omega,show k*2+(i*2+1)=(k+i)*2+1 by omega]
 exact ⟨a,u,b,c⟩
theorem zh5 {w:World} {A:Option Addr} {n c:Nat} {xs:List Value} (h:SlR w 2 (D A n c) n xs) (k:Nat) (hk:k≤n):SlR w 2 (D A k c) k (xs.take (k*2)):=by
 obtain ⟨hl,A',c',e,h1,h2,h3⟩:=h
 cases e
 refine ⟨by rw[P4,hl];omega,A,c,rfl,by omega,h2,fun hn=>?_⟩
 obtain ⟨b,H3,rfl,hc⟩:=h3 (by omega)
 exact ⟨b,H3,rfl,fun j u hu=>hc j u (by
  rw[List.getElem?_take] at hu
  split at hu
  ·exact hu
  ·cases hu)⟩
theorem zrG {w:World} {b H3 n c:Nat} {xs:List Value} (h:SlR w 2 (D (G ⟨b,H3,H⟩) n c) n xs) (k:Nat) (hk:k≤n):SlR w 2 (D (G ⟨b,H3+k*2,H⟩) (n-k) (c-k)) (n-k) (xs.drop (k*2)):=by
 obtain ⟨hl,A',c',e,h1,h2,h3⟩:=h
 cases e
 refine ⟨by rw[P5,hl];omega,_,_,rfl,by omega,by omega,fun hn=>?_⟩
 obtain ⟨b',KX,e,hc⟩:=h3 (by omega)
 cases e
 refine ⟨b,H3+k*2,rfl,fun j u hu=>?_⟩
 rw[Pa] at hu
 have:=hc _ u hu
 rwa [←Nat.add_assoc] at this
theorem zf5 {w:World} {b H3 n c:Nat} {xs:List Value} (h:SlR w 2 (D (G ⟨b,H3,H⟩) n c) n xs) (k:Nat) (hk:k≤n):SlR w 2 (D (if c=k then some ⟨b,H3,H⟩ else some ⟨b,H3+k*2,H⟩) (n-k) (c-k)) (n-k) (xs.drop (k*2)):=by
 have h0:=zrG h k hk
 split
 ·rename_i hc
  obtain ⟨hl,A',c',e,h1,h2,h3⟩:=h
  cases e
  obtain ⟨gl,A2,c2,e2,g1,g2,g3⟩:=h0
  cases e2
  exact ⟨gl,_,_,rfl,g1,g2,fun hn=>by omega⟩
 ·exact h0
theorem za8 {o:Oper} {a:Act} {w:World} {K:Act→World→Prop} {Q:Exit→Act→World→Prop} (s x:Operand)
  (ho:o.op=.call { callee:=.builtin .append,args:=#[s,x],argTypes:=#[22,22] })
  (W0:World) (Ku:Ext W0 w) (v:Value) (n:Nat) (xs:List Value) (hs:a.eval s=v) (Hk:w.ownsRow W0.heap.size 68 2 v n xs)
  (vx:Value) (m:Nat) (ys:List Value) (gs:List Fil) (hx:a.eval x=vx) (hy:SlR w 2 vx m ys) (KW:FRow W0 ys gs) (Kg:n+m≤4000000)
  (h:∀ A c w',w'.ownsRow W0.heap.size 68 2 (D A (n+m) c) (n+m) (xs++ys)→Ext W0 w'→w.grownBy w' v.ownBlock→K (a.put o.dst (D A (n+m) c)) w'):Oper.wp J o a w K Q:=by
 obtain ⟨i0,hi,Kj,Kk,Kl⟩:=info_parts zsN;obtain ⟨v',w',HI,h1,h2⟩:=zbD (P:=J) w W0.heap.size 22 o.type 68 i0 _ 2 40 Tryz.underlying22 hi Kj Kk Kl rfl (by decide) v n xs Hk vx m ys hy KW.one (by unfold maxLen;omega) (by omega) Ku.size
 have hE:Ext W0 w':=Ext.grownOwn Ku (zaf Hk (xN _)) h2
 unfold Oper.wp execOp;simp only[ho,resolve,invoke,builtin,Sem.run_bind,Sem.run_pure,Result.andThen_ok,Pe,Pg,Ph,hs,hx,HI];obtain ⟨A,c,rfl,_,_⟩:=xO (xW h1)
 exact h A c w' h1 hE h2
theorem zdp {W0 W:World} {base:Nat} {v:Value} {n:Nat} {xs:List Value} {l:List Fil} (h:W.ownsRow base 68 2 v n xs) (hr:FRow W0 xs l) (hn:n=l.length) (hE:Ext W0 W):Fs W v l:=by
 subst hn
 exact ⟨xs,xW h,(hr.ext hE).2⟩
def zhp (l:List Fil) (at_:Int):List Fil:=if at_<0 then l else l.take at_.toNat++l.drop (at_.toNat+1)
theorem zfP (v:Value) (fs:List Fil) (k:Int) (w:World) (hF:Fs w v fs) (hl:fs.length≤1000000) (hk:-1≤k∧k<fs.length):Calls J 201 #[v,I N k] w fun e w'=>(∃ v',e=.returned v'∧Fs w' v' (zhp fs k))∧Ext w w':=by
 obtain ⟨A,c,rfl,h1,h2⟩:=Fs.open_ hF;obtain ⟨k0,k1⟩:=hk
 by_cases hneg:k<0
 ·have hu:zhp fs k=fs:=by unfold zhp;rw[if_pos hneg]
  rw[hu];have HF:=F hF;clear hF hu
  go_enter Tryz.func201,Tryz.ntmps201
  go_wp2
  go_ret
  exact ⟨⟨_,rfl,HF.out⟩,xR _⟩
 ·obtain ⟨i,rfl⟩:∃ i:Nat,k=(i:Int):=⟨k.toNat,by omega⟩
  have hu:zhp fs (i:Int)=fs.take i++fs.drop (i+1):=by unfold zhp;rw[if_neg hneg];rfl
  rw[hu];obtain ⟨xs,Hb,Hu⟩:=hF
  have Hg:i<fs.length:=by omega
  have Hl:FRow w xs fs:=⟨Hb.1,Hu⟩
  obtain ⟨_,b,H3,rfl,_⟩:=Fs.at_ (show Fs w (D A fs.length c) fs from ⟨xs,Hb,Hu⟩) (by omega)
  have hX:Ext w (w.alloc (E #[] 68)):=xA (xR _) _
  have r1:=zhQ Hl i (by omega);have r2:=zhP Hl (i+1) (by omega);have s1:=zh5 Hb i (by omega);have s2:=zf5 Hb (i+1) (by omega)
  have J4:IntKind.i64.wrap ((i:Int)+1)=((i+1:Nat):Int):=by rw[IntKind.wrap_i64];omega
  have J0:i≤c:=by omega
  have Kz:i+1≤fs.length:=by omega
  have KO:0≤(i:Int)+1∧(i:Int)+1≤(fs.length:Int):=by omega
  have HX:=F hX;have R1:=F r1;have R2:=F r2;have S1:=F s1;have S2:=F s2;clear Hb Hu Hl hX r1 r2 s1 s2 hu
  go_enter Tryz.func201,Tryz.ntmps201
  go_wp2_with fail
  refine wp_region_held_drew (S:=fun _=>True) (by kernel_rfl) trivial (fun _=>?_)
  refine tkN 1 ?_;refine tkN 2 ?_;refine tkN 3 ?_;refine tkN 5 ?_;refine tkN 6 ?_;refine tkN 7 ?_;refine tkN 8 ?_
  refine ar1 0 (fun K hK=>?_)
  go_simp
  refine shK hK _ _ trivial (fun _=>?_)
  refine ar1 4 (fun K hK=>?_)
  refine za8 (.tmp 8) (.tmp 11) rfl w (xD (xA (xR _) _)) _ 0 [] rfl (zab (zfA w [] 0 rfl (by simp[maxLen]) (xN _)) (xD (xR _))) _ i _ _ rfl (S1.out.ext (xD (xA (xR _) _))) R1.out (by omega) ?_
  intro A1 c1 w1 KU Kv _
  refine shK hK _ _ trivial (fun _=>?_)
  refine ar1 9 (fun K hK=>?_)
  refine za8 (.tmp 12) (.tmp 16) rfl w Kv _ (0+i) _ rfl KU _ (fs.length-(i+1)) _ _ rfl (S2.out.ext Kv) R2.out (by omega) ?_
  intro A2 c2 w2 Kh Hz _
  refine shK hK _ _ trivial (fun _=>?_)
  refine tkN 10 ?_;refine wdD ?_
  have H8:FRow w _ (fs.take i++fs.drop (i+1)):=Pi (Pi (zbZ w) R1.out) R2.out
  simp only[P0] at Kh
  have Hy:i+(fs.length-(i+1))=(fs.take i++fs.drop (i+1)).length:=by
   rw[xL,P4,P5,P1 (by omega)]
  have HO:=F (zdp Kh H8 Hy Hz);have Hv:=F Hz;clear H8 Kh Hy Hz;go_wp2_with fail
  all_goals go_ret
  all_goals exact ⟨⟨_,rfl,HO.out⟩,Hv.out⟩
theorem mcR4ba0 {P:Prop} (h:P:=by
 refine ar1 7 (fun K hK=>?_)
 refine za8 (.tmp 32) (.tmp 34) rfl wr Ho _ l.length _ rfl HH _ 1 _ [(n,b)] rfl hs (Pj (HB.out.ext (xT Hv.out Hc.out))) (by omega) ?_
 intro A5 c5 w5 HN Hh _
 refine shK hK _ _ (H0.out _ Hh) (fun _=>?_)
 refine ar1 11 (fun K hK=>?_)
 refine za8 (.tmp 35) (.tmp 38) rfl wr Hh _ (l.length+1) _ rfl HN _ 0 [] [] rfl (zti _ _ _ (by unfold maxLen;omega)) (zbZ wr) (by omega) ?_
 intro A6 c6 w6 Hs Hd _
 refine shK hK _ _ (H0.out _ Hd) (fun _=>?_)
 refine tkN 12 ?_;refine wdD ?_;have H8:=Pi (Pi (Pi (zbZ wr) R1.out) (Pj (n1:=n) (HB.out.ext (xT Hv.out Hc.out)))) (zbZ wr);simp only[xI,P7,Pc,P9] at H8;simp only[P0,P2,xI,P7,P9] at Hs
 have Hy:l.length+1=(l.take l.length++[(n,b)]).length:=by rw[xL,P8];rfl
 have HD:=zdp Hs H8 Hy Hd
 rw[←show zcM (n,b) l=l.take l.length++[(n,b)] by rw[K7.out,List.drop_length]] at HD
 have HO:=F HD;have K4:=F Hd;clear H8 Hs Hy Hd HD;go_wp2_with fail
 all_goals go_ret
 all_goals exact ⟨⟨_,rfl,HO.out⟩,xT Hv.out (xT Hc.out K4.out)⟩):P:=h
theorem mcR4ba1 {P:Prop} (h:P:=by
 refine ar1 7 (fun K hK=>?_)
 refine za8 (.tmp 32) (.tmp 34) rfl wr Ho _ j _ rfl HH _ 1 _ [(n,b)] rfl hs (Pj (HB.out.ext (xT Hv.out Hc.out))) (by omega) ?_
 intro A5 c5 w5 HN Hh _
 refine shK hK _ _ (H0.out _ Hh) (fun _=>?_)
 refine ar1 11 (fun K hK=>?_)
 refine za8 (.tmp 35) (.tmp 38) rfl wr Hh _ (j+1) _ rfl HN _ (l.length-j) _ _ rfl ((zf5 Kr.out j hj).ext Hh) R2.out (by omega) ?_
 intro A6 c6 w6 Hs Hd _
 refine shK hK _ _ (H0.out _ Hd) (fun _=>?_)
 refine tkN 12 ?_;refine wdD ?_;have H8:=Pi (Pi (Pi (zbZ wr) R1.out) (Pj (n1:=n) (HB.out.ext (xT Hv.out Hc.out)))) R2.out;simp only[xI,P7,Pc,P9] at H8;simp only[P0,P2,xI,P7,P9] at Hs
 have Hy:j+1+(l.length-j)=(l.take j++(n,b)::l.drop j).length:=by
  rw[xL,xC,P4,P5,P1 (by omega)];omega
 have HD:=zdp Hs H8 Hy Hd;rw[←K7.out] at HD;have HO:=F HD;have K4:=F Hd;clear H8 Hs Hy Hd HD;go_wp2_with fail
 all_goals go_ret
 all_goals exact ⟨⟨_,rfl,HO.out⟩,xT Hv.out (xT Hc.out K4.out)⟩):P:=h
theorem zhY (n:List UInt8):∀ l:List Fil,zhp l (za4 l n)=za7 n l
 | []=>rfl
 | p::l=>by
  have ih:=zhY n l
  unfold za4 at ih ⊢
  rw[Pd,za7]
  by_cases h:p.1=n
  ·rw[if_pos (by simpa using h),if_pos h]
   rfl
  ·rw[if_neg (by simpa using h),if_neg h,←ih]
   cases hf:l.findIdx? (fun f=>f.1==n) with
   | none=>rfl
   | some i =>
    unfold zhp;simp only[Option.map_some];rw[if_neg (by omega),if_neg (by omega)];rfl
theorem ziP (n:List UInt8) (l:List Fil):-1≤za4 l n∧za4 l n<l.length:=by
 unfold za4
 cases hf:l.findIdx? (fun f=>f.1==n) with
 | none=>exact ⟨Int.le_refl _,by show (-1:Int)<_;omega⟩
 | some i =>
  have:=(List.findIdx?_eq_some_iff_getElem.1 hf).1
  exact ⟨by dsimp only;omega,by dsimp only;omega⟩
theorem zmd (p:Fil):∀ (l:List Fil) (j:Nat),j≤l.length→(∀ q (_:q<j) (h:q<l.length),ltB l[q].1 p.1=true)→(∀ h:j<l.length,ltB l[j].1 p.1=false)→zcM p l=l.take j++p::l.drop j
 | [],j,hj,_,_=>by
  obtain rfl:j=0:=by simpa using hj
  rfl
 | q::l,0,_,_,h2=>by
  have:=h2 (by simp)
  rw[zcM,if_neg (by simpa using this)];rfl
 | q::l,j+1,hj,h1,h2=>by
  have h0:ltB q.1 p.1=true:=h1 0 (by omega) (by simp)
  rw[zcM,if_pos h0,zmd p l j (by simpa using hj) (fun i hi h=>h1 (i+1) (by omega) (by simpa using h)) (fun h=>h2 (by simpa using h))]
  rfl
theorem zti (w:World) (X:Option Addr) (c:Nat) (h:c≤maxLen):SlR w 2 (D X 0 c) 0 []:=⟨rfl,X,c,rfl,by omega,h,fun hn=>by omega⟩
theorem zex {W:World} {b:Nat} {t:TypeId} {a v:Value} (h:Blk W b t #[a,v]):SlR W 2 (D (G ⟨b,0,H⟩) 1 1) 1 [a,v]:=by
 refine ⟨rfl,_,1,rfl,xN _,by simp[maxLen],fun _=>⟨b,0,rfl,fun j u hu=>?_⟩⟩
 rw[P0]
 match j,hu with
 | 0,hu=>cases hu;exact h.cell 0 rfl
 | 1,hu=>cases hu;exact h.cell 1 rfl
 | j+2,hu=>cases hu
theorem zgA {W:World} {b:Nat} {t:TypeId} {a v:Value} (h:Blk W b t #[a,v]):W.cell? ⟨b,0,H⟩=G a∧W.cell? ⟨b,1,H⟩=G v:=⟨h.cell 0 rfl,h.cell 1 rfl⟩
theorem zf8 (v:Value) (fs:List Fil) (n b:List UInt8) (vb:Value) (w:World) (hF:Fs w v fs) (hB:Bs w vb b) (hl:fs.length≤1000000):Calls J 142 #[v,.agg #[sv n,vb]] w fun e w'=>(∃ v',e=.returned v'∧Fs w' v' (withS fs (n,b)))∧Ext w w':=by
 obtain ⟨A,c,rfl,h1,h2⟩:=Fs.open_ hF;obtain ⟨Ab,cb,rfl,_,_⟩:=xO hB;unfold sv
 have hX:Ext w (w.alloc (E #[C ⟨n.toArray⟩,D Ab b.length cb] 68)):=xA (xR _) _
 have hf:=Pk w 68 #[C ⟨n.toArray⟩,D Ab b.length cb];obtain ⟨f0,f1⟩:=zgA hf;obtain ⟨K2,K3⟩:=ziP n fs;have key:=zfV (D A fs.length c) fs n _ (hF.ext hX) (by omega)
 have HK:=fun W (h:Ext w W)=>zfP (D A fs.length c) fs (za4 fs n) W (hF.ext h) hl ⟨K2,K3⟩
 rw[zhY] at HK
 have J2:(za7 n fs).length≤fs.length:=(zcp n fs).length_le
 have KE:withS fs (n,b)=zcM (n,b) (za7 n fs):=rfl
 rw[KE]
 generalize za7 n fs=l at *
 generalize za4 fs n=pl at *
 have Hm:=F key;have Ka:=F HK;have HX:=F hX;have Hf:=F hf;have HB:=F hB;clear key HK hX hf hB hF KE;unfold sv at Hm
 go_enter Tryz.func142,Tryz.ntmps142
 go_wp2_with fail
 refine Hm.out.mono ?_
 rintro e w1 ⟨rfl,rfl⟩;go_wp2_with fail
 refine (Ka.out _ HX.out).mono ?_
 rintro e w2 ⟨⟨v2,rfl,Kd⟩,Hz⟩;obtain ⟨A2,c2,rfl,HU,K0⟩:=Fs.open_ Kd;have K5:=F Kd;have Hv:=F (xT HX.out Hz);have HY:=F (Hf.out.ext Hz);clear f0 f1 Kd Hz;obtain ⟨f0,f1⟩:=zgA HY.out;go_wp2_with fail
 go_loopw [5] (fun i wr=>∃ j:Nat,j≤l.length∧i=I N j∧Hid (∀ q (_:q<j) (h2:q<l.length),ltB l[q].1 n=true)∧Hid (Ext w2 wr)) (fun i _=>l.length-(intOf i).toNat)
 case atStart=>exact ⟨0,by omega,rfl,fun q hq=>by omega,xR _⟩
 case round =>
  clear f0 f1;obtain ⟨j,hj,rfl,Hn,Hc⟩:=hrel;obtain ⟨f0,f1⟩:=zgA (HY.out.ext Hc.out)
  by_cases Hg:j<l.length
  ·obtain ⟨_,b1,H3,rfl,hc⟩:=(K5.out.ext Hc.out).at_ (by omega)
   obtain ⟨H5,_⟩:=hc j Hg
   have hq:ltB l[j].1 n=true→∀ q (_:q<j+1) (h2:q<l.length),ltB l[q].1 n=true:=fun h q h3 h2=>by
    by_cases e:q=j
    ·subst e;exact h
    ·exact Hn.out q (by omega) h2
   have hi:ltB l[j].1 n=false→zcM (n,b) l=l.take j++(n,b)::l.drop j:=fun h=>zmd _ _ _ hj Hn.out (fun _=>h)
   have Hq:=F hq;have Hi:=F hi;clear hc hq hi
   generalize l[j].1=x at *
   simp only[sv] at H5
   have Kf:(j:Int)<(l.length:Int):=by omega
   cases hx:ltB x n with
   | true =>
    have K8:=F (Hq.out hx);go_wp2_with fail
    refine wp_region_held_drew (S:=fun W=>W.cell? ⟨b1,H3+j*2,H⟩=G (C ⟨x.toArray⟩)∧W.cell? ⟨w.heap.size,0,H⟩=G (C ⟨n.toArray⟩)) (by kernel_rfl) ⟨H5,f0⟩ (fun _=>?_)
    clear H5 f0 f1;refine tkN 0 ?_;refine tkN 1 ?_;refine tkN 2 ?_;refine tkN 3 ?_;refine tkN 4 ?_;refine tkN 5 ?_;refine tkN 6 ?_;refine tkN 7 ?_;refine tkN 8 ?_;refine tkN 9 ?_;refine tkN 10 ?_;refine tkN 11 ?_;refine tkN 12 ?_;refine tkN 13 ?_;refine wdD ?_;go_wp2_with fail
    go_roundw
    case rel=>exact ⟨j+1,by omega,by go_num,K8,xD Hc.out⟩
    case measure=>simp[intOf];omega
   | false =>
    have K7:=F (Hi.out hx);go_wp2_with fail
    refine wp_region_held_drew (S:=fun W=>W.cell? ⟨b1,H3+j*2,H⟩=G (C ⟨x.toArray⟩)∧W.cell? ⟨w.heap.size,0,H⟩=G (C ⟨n.toArray⟩)) (by kernel_rfl) ⟨H5,f0⟩ (fun _=>?_)
    clear H5;refine tkN 0 ?_;refine tkN 1 ?_;refine tkN 2 ?_;refine tkN 3 ?_;refine tkN 4 ?_;refine tkN 5 ?_;refine tkN 6 ?_;refine tkN 7 ?_;refine tkN 8 ?_;refine tkN 9 ?_;refine tkN 10 ?_;refine tkN 11 ?_;refine tkN 12 ?_;refine tkN 13 ?_;refine wdD ?_;clear hx Kf;go_wp2_with fail;obtain ⟨xs,Hb,Hu⟩:=K5.out.ext Hc.out
    have Hl:FRow wr xs l:=⟨Hb.1,Hu⟩
    have R1:=F (zhQ Hl j hj);have R2:=F (zhP Hl j hj);have S1:=F (zh5 Hb j hj);have Kr:=F Hb
    have KP:j≤c2:=by omega
    have H2:∀ X,Ext wr X→X.cell? ⟨w.heap.size,0,H⟩=G (C ⟨n.toArray⟩)∧X.cell? ⟨w.heap.size,1,H⟩=G (D Ab b.length cb):=fun X h=>zgA ((HY.out.ext Hc.out).ext h)
    have H0:=F H2;clear Hl Hb Hu H2
    refine wp_region_held_drew (S:=fun W=>W.cell? ⟨w.heap.size,0,H⟩=G (C ⟨n.toArray⟩)∧W.cell? ⟨w.heap.size,1,H⟩=G (D Ab b.length cb)) (by kernel_rfl) (H0.out _ (xD (xD (xR _)))) (fun _=>?_)
    refine tkN 1 ?_;refine tkN 2 ?_;refine tkN 3 ?_;refine tkN 5 ?_;refine tkN 8 ?_;refine tkN 9 ?_;refine tkN 10 ?_
    refine Pl (i:=0) (j:=6) rfl rfl (by kernel_rfl) (by rfl) (by rfl) (fun K hK=>?_) (fun K hK=>?_)
    ·go_simp
     have H1:Ext wr (wr.alloc (E #[] 68)).drew.drew:=xD (xD (xA (xR _) _))
     have Ha:=zab (zfA wr [] 0 rfl (by simp[maxLen]) (xN _)) (xD (xD (xR (wr.alloc (E #[] 68)))))
     refine shK hK _ _ (H0.out _ H1) (fun _=>?_)
     refine Pl (i:=4) (j:=6) rfl rfl (by kernel_rfl) (by rfl) (by rfl) (fun K hK=>?_) (fun K hK=>?_)
     ·refine za8 (.tmp 28) (.tmp 31) rfl wr H1 (D (G ⟨wr.heap.size,0,H⟩) 0 0) 0 [] rfl Ha _ j _ _ rfl (S1.out.ext H1) R1.out (by omega) ?_
      intro A3 c3 w3 H6 H4 Hr
      rw[P0] at H6 ⊢
      refine shK hK _ _ (H0.out _ H4) (fun _=>?_)
      refine ar1 6 (fun K hK=>?_)
      go_simp
      have H9:Ext w3 (w3.alloc (E #[C ⟨n.toArray⟩,D Ab b.length cb] 68)):=xA (xR _) _
      have Ho:=xT H4 H9;have HH:=zab H6 H9;have hs:=zex (Pk w3 68 #[C ⟨n.toArray⟩,D Ab b.length cb])
      refine shK hK _ _ (H0.out _ Ho) (fun _=>?_)
      exact mcR4ba1
     ·go_simp
      have H9:Ext (wr.alloc (E #[] 68)).drew.drew ((wr.alloc (E #[] 68)).alloc (E #[C ⟨n.toArray⟩,D Ab b.length cb] 68)).drew.drew:=xA (xR _) _
      have Ht:=(Pk (wr.alloc (E #[] 68)) 68 #[C ⟨n.toArray⟩,D Ab b.length cb]).ext (xD (xD (xR _)));rw[xS] at Ht;have Ha:=zab Ha H9;have H1:=xT H1 H9
      refine shK hK _ _ (H0.out _ H1) (fun _=>?_)
      refine ar1 4 (fun K hK=>?_)
      refine za8 (.tmp 28) (.tmp 31) rfl wr H1 (D (G ⟨wr.heap.size,0,H⟩) 0 0) 0 [] rfl Ha _ j _ _ rfl (S1.out.ext H1) R1.out (by omega) ?_
      intro A3 c3 w3 H6 H4 Hr
      rw[P0] at H6 ⊢
      refine shK hK _ _ (H0.out _ H4) (fun _=>?_)
      have hs:=zex (Ht.kept Hr (by simp[Pm]));have Ho:=H4;have HH:=H6
      exact mcR4ba1
    ·go_simp
     have H9:Ext wr (wr.alloc (E #[C ⟨n.toArray⟩,D Ab b.length cb] 68)).drew.drew:=xD (xD (xA (xR _) _))
     refine shK hK _ _ (H0.out _ H9) (fun _=>?_)
     refine ar1 0 (fun K hK=>?_)
     go_simp
     have H1:Ext wr ((wr.alloc (E #[C ⟨n.toArray⟩,D Ab b.length cb] 68)).alloc (E #[] 68)).drew.drew:=xD (xD (xA (xA (xR _) _) _))
     have Ht:=((Pk wr 68 #[C ⟨n.toArray⟩,D Ab b.length cb]).alloc (E #[] 68)).ext (xD (xD (xR _)))
     have Ha:=zab (zfA (wr.alloc (E #[C ⟨n.toArray⟩,D Ab b.length cb] 68)) [] 0 rfl (by simp[maxLen]) (show wr.heap.size≤_ by rw[xS];omega)) (xD (xD (xR ((wr.alloc (E #[C ⟨n.toArray⟩,D Ab b.length cb] 68)).alloc (E #[] 68)))))
     rw[xS] at Ha
     refine shK hK _ _ (H0.out _ H1) (fun _=>?_)
     refine ar1 4 (fun K hK=>?_)
     refine za8 (.tmp 28) (.tmp 31) rfl wr H1 (D (G ⟨wr.heap.size+1,0,H⟩) 0 0) 0 [] rfl Ha _ j _ _ rfl (S1.out.ext H1) R1.out (by omega) ?_
     intro A3 c3 w3 H6 H4 Hr
     rw[P0] at H6 ⊢
     refine shK hK _ _ (H0.out _ H4) (fun _=>?_)
     have hs:=zex (Ht.kept Hr (by simp[Pm]));have Ho:=H4;have HH:=H6
     exact mcR4ba1
  ·obtain rfl:j=l.length:=by omega
   have K7:=F (zmd (n,b) l l.length (xN _) Hn.out (fun h=>by omega))
   go_wp2_with fail
   refine wp_region_held_drew (S:=fun _=>True) (by kernel_rfl) trivial (fun _=>?_)
   refine tkN 0 ?_;refine tkN 1 ?_;refine tkN 2 ?_;refine tkN 3 ?_;refine tkN 4 ?_;refine tkS 5 ?_;refine tkS 6 ?_;refine tkS 7 ?_;refine tkS 8 ?_;refine tkS 9 ?_;refine tkS 10 ?_;refine tkS 11 ?_;refine tkS 12 ?_;refine tkN 13 ?_;refine wdD ?_;go_wp2_with fail;obtain ⟨xs,Hb,Hu⟩:=K5.out.ext Hc.out
   have Hl:FRow wr xs l:=⟨Hb.1,Hu⟩
   have R1:=F (zhQ Hl l.length hj);have R2:=F (zhP Hl l.length hj);have S1:=F (zh5 Hb l.length hj);have Kr:=F Hb
   have KP:l.length≤c2:=by omega
   have H2:∀ X,Ext wr X→X.cell? ⟨w.heap.size,0,H⟩=G (C ⟨n.toArray⟩)∧X.cell? ⟨w.heap.size,1,H⟩=G (D Ab b.length cb):=fun X h=>zgA ((HY.out.ext Hc.out).ext h)
   have H0:=F H2;clear Hl Hb Hu H2
   refine wp_region_held_drew (S:=fun W=>W.cell? ⟨w.heap.size,0,H⟩=G (C ⟨n.toArray⟩)∧W.cell? ⟨w.heap.size,1,H⟩=G (D Ab b.length cb)) (by kernel_rfl) (H0.out _ (xD (xD (xR _)))) (fun _=>?_)
   refine tkN 1 ?_;refine tkN 2 ?_;refine tkN 3 ?_;refine tkN 5 ?_;refine tkN 8 ?_;refine tkN 9 ?_;refine tkN 10 ?_
   refine Pl (i:=0) (j:=6) rfl rfl (by kernel_rfl) (by rfl) (by rfl) (fun K hK=>?_) (fun K hK=>?_)
   ·go_simp
    have H1:Ext wr (wr.alloc (E #[] 68)).drew.drew:=xD (xD (xA (xR _) _))
    have Ha:=zab (zfA wr [] 0 rfl (by simp[maxLen]) (xN _)) (xD (xD (xR (wr.alloc (E #[] 68)))))
    refine shK hK _ _ (H0.out _ H1) (fun _=>?_)
    refine Pl (i:=4) (j:=6) rfl rfl (by kernel_rfl) (by rfl) (by rfl) (fun K hK=>?_) (fun K hK=>?_)
    ·refine za8 (.tmp 28) (.tmp 31) rfl wr H1 (D (G ⟨wr.heap.size,0,H⟩) 0 0) 0 [] rfl Ha _ l.length _ _ rfl (S1.out.ext H1) R1.out (by omega) ?_
     intro A3 c3 w3 H6 H4 Hr
     rw[P0] at H6 ⊢
     refine shK hK _ _ (H0.out _ H4) (fun _=>?_)
     refine ar1 6 (fun K hK=>?_)
     go_simp
     have H9:Ext w3 (w3.alloc (E #[C ⟨n.toArray⟩,D Ab b.length cb] 68)):=xA (xR _) _
     have Ho:=xT H4 H9;have HH:=zab H6 H9;have hs:=zex (Pk w3 68 #[C ⟨n.toArray⟩,D Ab b.length cb])
     refine shK hK _ _ (H0.out _ Ho) (fun _=>?_)
     exact mcR4ba0
    ·go_simp
     have H9:Ext (wr.alloc (E #[] 68)).drew.drew ((wr.alloc (E #[] 68)).alloc (E #[C ⟨n.toArray⟩,D Ab b.length cb] 68)).drew.drew:=xA (xR _) _
     have Ht:=(Pk (wr.alloc (E #[] 68)) 68 #[C ⟨n.toArray⟩,D Ab b.length cb]).ext (xD (xD (xR _)));rw[xS] at Ht;have Ha:=zab Ha H9;have H1:=xT H1 H9
     refine shK hK _ _ (H0.out _ H1) (fun _=>?_)
     refine ar1 4 (fun K hK=>?_)
     refine za8 (.tmp 28) (.tmp 31) rfl wr H1 (D (G ⟨wr.heap.size,0,H⟩) 0 0) 0 [] rfl Ha _ l.length _ _ rfl (S1.out.ext H1) R1.out (by omega) ?_
     intro A3 c3 w3 H6 H4 Hr
     rw[P0] at H6 ⊢
     refine shK hK _ _ (H0.out _ H4) (fun _=>?_)
     have hs:=zex (Ht.kept Hr (by simp[Pm]));have Ho:=H4;have HH:=H6
     exact mcR4ba0
   ·go_simp
    have H9:Ext wr (wr.alloc (E #[C ⟨n.toArray⟩,D Ab b.length cb] 68)).drew.drew:=xD (xD (xA (xR _) _))
    refine shK hK _ _ (H0.out _ H9) (fun _=>?_)
    refine ar1 0 (fun K hK=>?_)
    go_simp
    have H1:Ext wr ((wr.alloc (E #[C ⟨n.toArray⟩,D Ab b.length cb] 68)).alloc (E #[] 68)).drew.drew:=xD (xD (xA (xA (xR _) _) _))
    have Ht:=((Pk wr 68 #[C ⟨n.toArray⟩,D Ab b.length cb]).alloc (E #[] 68)).ext (xD (xD (xR _)))
    have Ha:=zab (zfA (wr.alloc (E #[C ⟨n.toArray⟩,D Ab b.length cb] 68)) [] 0 rfl (by simp[maxLen]) (show wr.heap.size≤_ by rw[xS];omega)) (xD (xD (xR ((wr.alloc (E #[C ⟨n.toArray⟩,D Ab b.length cb] 68)).alloc (E #[] 68)))))
    rw[xS] at Ha
    refine shK hK _ _ (H0.out _ H1) (fun _=>?_)
    refine ar1 4 (fun K hK=>?_)
    refine za8 (.tmp 28) (.tmp 31) rfl wr H1 (D (G ⟨wr.heap.size+1,0,H⟩) 0 0) 0 [] rfl Ha _ l.length _ _ rfl (S1.out.ext H1) R1.out (by omega) ?_
    intro A3 c3 w3 H6 H4 Hr
    rw[P0] at H6 ⊢
    refine shK hK _ _ (H0.out _ H4) (fun _=>?_)
    have hs:=zex (Ht.kept Hr (by simp[Pm]));have Ho:=H4;have HH:=H6
    exact mcR4ba0
theorem zif {o:Oper} {a:Act} {w:World} {K:Act→World→Prop} {Q:Exit→Act→World→Prop} (s x:Operand)
  (ho:o.op=.call { callee:=.builtin .append,args:=#[s,x],argTypes:=#[33,33] })
  (base:Nat) (v:Value) (bs:List UInt8) (hs:a.eval s=v) (Hk:OwnB w base v bs) (vx:Value) (cs:List UInt8) (hx:a.eval x=vx) (hr:Bs w vx cs) (Kg:bs.length+cs.length≤4000000) (HT:base≤w.heap.size)
  (h:∀ A c w',OwnB w' base (D A (bs.length+cs.length) c) (bs++cs)→zcz base w w'→K (a.put o.dst (D A (bs.length+cs.length) c)) w'):Oper.wp J o a w K Q:=by
 obtain ⟨i0,hi,Kj,Kk,Kl⟩:=info_parts zb0;obtain ⟨v',w',HI,h1,h2⟩:=zbD (P:=J) w base 33 o.type 5 i0 _ 1 1 Tryz.underlying33 hi Kj Kk Kl rfl (by decide) v bs.length (bs.map bv) Hk vx cs.length (cs.map bv) hr (zbI _) (by unfold maxLen;omega) (by omega) HT;unfold Oper.wp execOp;simp only[ho,resolve,invoke,builtin,Sem.run_bind,Sem.run_pure,Result.andThen_ok,Pe,Pg,Ph,hs,hx,HI];obtain ⟨A,c,rfl,_,_⟩:=xO (xW h1)
 refine h A c w' ?_ (fun W0 hE hb=>Ext.grownOwn hE (zaf Hk hb) h2)
 unfold OwnB;rw[xL,List.map_append]
 exact h1
theorem place_get {n:List UInt8}:∀ {l:List Fil},(za4 l n<0∧zaj n l=none)∨∃ (i:Nat) (h:i<l.length),za4 l n=i∧zaj n l=G l[i].2
 | []=>.inl ⟨by show (-1:Int)<0;omega,rfl⟩
 | p::l=>by
  have ih:=@place_get n l
  unfold za4 at ih ⊢
  rw[Pd,zaj]
  by_cases h:p.1=n
  ·rw[if_pos (by simpa using h),if_pos h]
   exact .inr ⟨0,by simp,rfl,rfl⟩
  ·rw[if_neg (by simpa using h),if_neg h]
   cases hf:l.findIdx? (fun f=>f.1==n) with
   | none =>
    rw[hf] at ih
    rcases ih with ⟨_,h2⟩ | ⟨i,_,h2,_⟩
    ·exact .inl ⟨by show (-1:Int)<0;omega,h2⟩
    ·exact absurd h2 (by show ¬ (-1:Int)=_;omega)
   | some j =>
    rw[hf] at ih
    rcases ih with ⟨h2,_⟩ | ⟨i,hi,h2,h3⟩
    ·exact absurd h2 (by show ¬ ((j:Nat):Int)<0;omega)
    ·have:j=i:=by have:((j:Nat):Int)=(i:Int):=h2;omega
     subst this
     exact .inr ⟨j+1,by simpa using hi,rfl,by simpa using h3⟩
theorem zqW (v:Value) (fs:List Fil) (o:Oq) (vo:Value) (w:World) (hF:Fs w v fs) (hB:Bs w vo o.b) (hl:fs.length≤1000000) (Ke:∀ f∈fs,f.2.length+o.b.length≤2000000) :
  Calls J 143 #[v,.agg #[I L o.k,sv o.n,sv o.t,vo]] w fun e w'=>(∃ v',e=.returned v'∧Fs w' v' (zcG fs o))∧Ext w w':=by
 obtain ⟨A,c,rfl,h1,h2⟩:=Fs.open_ hF;obtain ⟨Ab,cb,rfl,_,_⟩:=xO hB;obtain ⟨k,n,t,b⟩:=o
 dsimp only at hB Ke ⊢
 obtain ⟨R,hR⟩:∃ R,zcG fs ⟨k,n,t,b⟩=R:=⟨_,rfl⟩;rw[hR];unfold sv
 have hX:Ext w (w.alloc (E #[I L k,C ⟨n.toArray⟩,C ⟨t.toArray⟩,D Ab b.length cb] 98)):=xA (xR _) _
 have hf:=Pk w 98 #[I L k,C ⟨n.toArray⟩,C ⟨t.toArray⟩,D Ab b.length cb];obtain ⟨o0,o1,o2,o3⟩:=zaK hf;have key:=zfV (D A fs.length c) fs n _ (hF.ext hX) (by omega);have K1:=@place_get n fs;obtain ⟨K2,K3⟩:=ziP n fs;have KC:=zhY n fs;unfold zcG at hR;dsimp only at hR;have HX:=F hX;have Hf:=F hf;have HF:=F (hF.ext hX);have HB:=F (Bs.ext hB hX);have HR:=F hR;have KH:=F Ke;have HL:=F hl;have Kp:=F KC;have Kq:=F (And.intro K2 K3);unfold sv at key;have Hm:=F key;clear hX hf hF hB hR Ke KC key K2 K3 hl
 generalize za4 fs n=pl at *
 go_enter Tryz.func143,Tryz.ntmps143
 go_wp2_with fail
 refine Hm.out.mono ?_
 rintro e w1 ⟨rfl,rfl⟩
 by_cases hk1:k=1
 ·subst hk1
  have hR:=HR.out;rw[if_pos rfl] at hR;have HR:=F hR;clear hR K1;have hw:=zf8 _ fs n [] (D none 0 0) _ HF.out (SlR.nil _ 1) HL.out;unfold sv at hw;rw[HR.out] at hw;have Hw:=F hw;clear hw;go_wp2_with fail
  refine Hw.out.mono ?_
  rintro e w9 ⟨⟨v9,rfl,Hj⟩,He⟩;clear o0 o1 o2 o3;go_wp2_with fail;go_ret
  exact ⟨⟨_,rfl,Hj⟩,xT HX.out He⟩
 have hR:=HR.out;rw[if_neg hk1] at hR
 have KQ:(k==1)=false:=by simpa using hk1
 rcases K1 with ⟨hneg,hg⟩ | ⟨i,hi,hpi,hg⟩
 ·rw[hg] at hR
  obtain rfl:fs=R:=hR
  clear hk1 hg;go_wp2_with fail;go_ret
  exact ⟨⟨_,rfl,HF.out⟩,HX.out⟩
 rw[hg] at hR;subst hpi;dsimp only at hR;obtain ⟨_,b1,H3,rfl,hc⟩:=HF.out.at_ (by omega);obtain ⟨H5,B1,d1,H7,HS⟩:=hc i hi;have Kw:=KH.out _ (Pf hi)
 generalize fs[i].2=c0 at *
 have Kz:¬ ((i:Int)<0):=by omega
 have J1:(i:Int)<(fs.length:Int):=by omega
 have HM:=F HS;have Ks:=F Kw;have Hx:=F hR;clear hk1 hg hc H5 HS Kw hR HR hi Hm
 by_cases hk2:k=2
 ·subst hk2
  have hR:=Hx.out;rw[if_pos rfl] at hR
  have hw:=fun W (h:Ext (w.alloc (E #[I L 2,C ⟨n.toArray⟩,C ⟨t.toArray⟩,D Ab b.length cb] 98)) W) A0 c0' (hb:Bs W (D A0 (c0.length+b.length) c0') (c0++b))=>zf8 _ fs n (c0++b) (D A0 (c0.length+b.length) c0') W (HF.out.ext h) hb HL.out
  unfold sv at hw;rw[hR] at hw;have Hw:=F hw
  have H2:∀ X,Ext (w.alloc (E #[I L 2,C ⟨n.toArray⟩,C ⟨t.toArray⟩,D Ab b.length cb] 98)) X→X.cell? ⟨w.heap.size,1,H⟩=G (C ⟨n.toArray⟩)∧X.cell? ⟨w.heap.size,3,H⟩=G (D Ab b.length cb)∧X.cell? ⟨b1,H3+i*2+1,H⟩=G (D B1 c0.length d1):=fun X h=>⟨h.cell o1,h.cell o3,h.cell H7⟩
  have H0:=F H2;clear hw hR Hx H2;go_wp2_with fail
  refine wp_region_held_drew (S:=fun W=>W.cell? ⟨w.heap.size,1,H⟩=G (C ⟨n.toArray⟩)∧W.cell? ⟨w.heap.size,3,H⟩=G (D Ab b.length cb)∧W.cell? ⟨b1,H3+i*2+1,H⟩=G (D B1 c0.length d1)) (by kernel_rfl) ⟨o1,o3,H7⟩ (fun _=>?_)
  clear o0 o1 o2 o3 H7;refine tkN 0 ?_;refine tkN 1 ?_;refine tkN 2 ?_;refine tkN 4 ?_;refine tkN 5 ?_;refine tkN 6 ?_;refine tkN 7 ?_;refine tkN 8 ?_;refine tkN 10 ?_;refine tkN 11 ?_
  refine ar1 3 (fun K hK=>?_)
  go_simp
  have HZ:Ext (w.alloc (E #[I L 2,C ⟨n.toArray⟩,C ⟨t.toArray⟩,D Ab b.length cb] 98)) ((w.alloc (E #[I L 2,C ⟨n.toArray⟩,C ⟨t.toArray⟩,D Ab b.length cb] 98)).alloc (E #[] 5)).drew:=xD (xA (xR _) _)
  have KA:OwnB ((w.alloc (E #[I L 2,C ⟨n.toArray⟩,C ⟨t.toArray⟩,D Ab b.length cb] 98)).alloc (E #[] 5)).drew (w.alloc (E #[I L 2,C ⟨n.toArray⟩,C ⟨t.toArray⟩,D Ab b.length cb] 98)).heap.size (D (G ⟨(w.alloc (E #[I L 2,C ⟨n.toArray⟩,C ⟨t.toArray⟩,D Ab b.length cb] 98)).heap.size,0,H⟩) 0 0) []:=zab (zci (w.alloc (E #[I L 2,C ⟨n.toArray⟩,C ⟨t.toArray⟩,D Ab b.length cb] 98))) (xD (xR _))
  rw[show (w.alloc (E #[I L 2,C ⟨n.toArray⟩,C ⟨t.toArray⟩,D Ab b.length cb] 98)).heap.size=w.heap.size+1 by rw[xS]] at KA
  refine shK hK _ _ (H0.out _ HZ) (fun _=>?_)
  refine ar1 9 (fun K hK=>?_)
  refine zif (.tmp 29) (.tmp 34) rfl (w.heap.size+1) _ [] rfl KA _ c0 rfl (HM.out.ext HZ) (by have:=Ks.out;simp;omega) (by have:=HZ.size;rw[xS] at this;exact this) ?_
  intro A5 c5 w5 HN KL;have Hh:=KL _ HZ (by rw[xS];omega)
  simp only[List.length_nil,P0,xI] at HN ⊢
  refine shK hK _ _ (H0.out _ Hh) (fun _=>?_)
  refine ar1 12 (fun K hK=>?_)
  refine zif (.tmp 35) (.tmp 37) rfl (w.heap.size+1) _ c0 rfl HN _ b rfl (Bs.ext HB.out Hh) (by have:=Ks.out;omega) (by have:=Hh.size;rw[xS] at this;exact this) ?_
  intro A6 c6 w6 Hs KM;have Hd:=KM _ Hh (by rw[xS];omega)
  have KN:Bs w6 (D A6 (c0.length+b.length) c6) (c0++b):=xW Hs
  refine shK hK _ _ (H0.out _ Hd) (fun _=>?_)
  refine tkN 13 ?_
  refine ar1 14 (fun K hK=>?_)
  go_simp
  refine (Hw.out _ Hd _ _ KN).mono ?_
  rintro e w9 ⟨⟨v9,rfl,Hj⟩,HA⟩;have He:=xT Hd HA
  refine shK hK _ _ (H0.out _ He) (fun _=>?_)
  refine tkN 15 ?_;refine wdD ?_;go_wp2_with fail;go_ret
  exact ⟨⟨_,rfl,Hj⟩,xT HX.out He⟩
 rw[if_neg hk2] at Hx
 have KR:(k==2)=false:=by simpa using hk2
 by_cases hk3:k=3∧t≠n
 ·obtain ⟨rfl,Ki⟩:=hk3
  have hR:=Hx.out;rw[if_pos ⟨rfl,Ki⟩] at hR
  have J3:(t==n)=false:=by simpa using Ki
  have HJ:=fun W (h:Ext (w.alloc (E #[I L 3,C ⟨n.toArray⟩,C ⟨t.toArray⟩,D Ab b.length cb] 98)) W)=>zfP _ fs (i:Int) W (HF.out.ext h) HL.out Kq.out
  rw[Kp.out] at HJ
  have hw:=fun W v (h:Ext (w.alloc (E #[I L 3,C ⟨n.toArray⟩,C ⟨t.toArray⟩,D Ab b.length cb] 98)) W) (hv:Fs W v (za7 n fs))=>zf8 v (za7 n fs) t c0 (D B1 c0.length d1) W hv (HM.out.ext h) (by have:=(zcp n fs).length_le;have:=HL.out;omega)
  unfold sv at hw;rw[hR] at hw;have K9:=F HJ;have Hw:=F hw
  have H2:∀ X,Ext (w.alloc (E #[I L 3,C ⟨n.toArray⟩,C ⟨t.toArray⟩,D Ab b.length cb] 98)) X→X.cell? ⟨w.heap.size,2,H⟩=G (C ⟨t.toArray⟩)∧X.cell? ⟨b1,H3+i*2+1,H⟩=G (D B1 c0.length d1):=fun X h=>⟨h.cell o2,h.cell H7⟩
  have H0:=F H2;clear hw HJ hR Hx H2 Ki;go_wp2_with fail
  refine wp_region_held_drew (S:=fun W=>W.cell? ⟨w.heap.size,2,H⟩=G (C ⟨t.toArray⟩)∧W.cell? ⟨b1,H3+i*2+1,H⟩=G (D B1 c0.length d1)) (by kernel_rfl) ⟨o2,H7⟩ (fun _=>?_)
  clear o0 o1 o2 o3 H7;refine tkN 0 ?_;refine tkN 1 ?_;refine tkN 3 ?_;refine tkN 4 ?_;refine tkN 5 ?_;refine tkN 6 ?_;refine tkN 7 ?_;refine tkN 8 ?_;refine tkN 9 ?_;refine tkN 10 ?_
  refine ar1 2 (fun K hK=>?_)
  go_simp
  refine (K9.out _ (xD (xR _))).mono ?_
  rintro e w8 ⟨⟨v8,rfl,KK⟩,Kc⟩;have Kb:=xT (xD (xR (w.alloc (E #[I L 3,C ⟨n.toArray⟩,C ⟨t.toArray⟩,D Ab b.length cb] 98)))) Kc
  refine shK hK _ _ (H0.out _ Kb) (fun _=>?_)
  refine ar1 11 (fun K hK=>?_)
  go_simp
  refine (Hw.out _ _ Kb KK).mono ?_
  rintro e w9 ⟨⟨v9,rfl,Hj⟩,HA⟩;have He:=xT Kb HA
  refine shK hK _ _ (H0.out _ He) (fun _=>?_)
  refine tkN 12 ?_;refine wdD ?_;go_wp2_with fail;go_ret
  exact ⟨⟨_,rfl,Hj⟩,xT HX.out He⟩
 have hR:=Hx.out;rw[if_neg hk3] at hR
 have h3:((k==3)=true∧(t==n)=true)∨(k==3)=false:=by
  by_cases h:k=3
  ·exact .inl ⟨by simpa using h,by
    by_cases h2:t=n
    ·simpa using h2
    ·exact absurd ⟨h,h2⟩ hk3⟩
  ·exact .inr (by simpa using h)
 by_cases hk4:k=4
 ·subst hk4
  rw[if_pos rfl] at hR
  have HJ:=fun W (h:Ext (w.alloc (E #[I L 4,C ⟨n.toArray⟩,C ⟨t.toArray⟩,D Ab b.length cb] 98)) W)=>zfP _ fs (i:Int) W (HF.out.ext h) HL.out Kq.out
  rw[Kp.out,hR] at HJ;have K9:=F HJ;clear HJ hR Hx h3 hk3 hk2 H7;go_wp2_with fail
  refine (K9.out _ (xR _)).mono ?_
  rintro e w9 ⟨⟨v9,rfl,Hj⟩,He⟩;clear o0 o1 o2 o3;go_wp2_with fail;go_ret
  exact ⟨⟨_,rfl,Hj⟩,xT HX.out He⟩
 ·rw[if_neg hk4] at hR
  obtain rfl:fs=R:=hR
  have KT:(k==4)=false:=by simpa using hk4
  clear Hx hk3 hk2 hk4 H7
  rcases h3 with ⟨h31,h32⟩ | h31
  ·go_wp2_with fail
   go_ret
   exact ⟨⟨_,rfl,HF.out⟩,HX.out⟩
  ·go_wp2_with fail
   go_ret
   exact ⟨⟨_,rfl,HF.out⟩,HX.out⟩
theorem zol (p:Fil):∀ l:List Fil,(zcM p l).length=l.length+1
 | []=>rfl
 | q::l=>by
  rw[zcM]
  split
  ·rw[xC,zol p l,xC]
  ·rfl
theorem zg3 (l:List Fil) (p:Fil):(withS l p).length≤l.length+1:=by
 unfold Go.Proofs.YteggfecbjgbndaaGreatDoor.withS;rw[zol]
 have:=(zcp p.1 l).length_le
 omega
theorem zg6 {l:List Fil} {p q:Fil} (h:q∈withS l p):q=p∨q∈l:=by
 unfold Go.Proofs.YteggfecbjgbndaaGreatDoor.withS at h
 rcases (zkg p _ q).1 h with h | h
 ·exact .inl h
 ·exact .inr ((zcp p.1 l).subset h)
theorem zrj (l:List Fil) (o:Oq):(zcG l o).length≤l.length+1:=by
 unfold zcG
 split
 ·exact zg3 _ _
 ·split
  ·omega
  ·split
   ·exact zg3 _ _
   ·split
    ·have:=zg3 (za7 o.n l) (o.t,‹List UInt8›)
     have:=(zcp o.n l).length_le
     omega
    ·split
     ·have:=(zcp o.n l).length_le;omega
     ·omega
theorem zrp {l:List Fil} {o:Oq} {M:Nat} (hM:∀ f∈l,f.2.length≤M) {q:Fil} (h:q∈zcG l o):q.2.length≤M+o.b.length:=by
 unfold zcG at h
 split at h
 ·rcases zg6 h with rfl | h
  ·simp
  ·have:=hM q h;omega
 ·split at h
  ·have:=hM q h;omega
  ·rename_i b hb
   have KY:b.length≤M:=hM _ (zdq hb)
   split at h
   ·rcases zg6 h with rfl | h
    ·dsimp only;rw[xL];omega
    ·have:=hM q h;omega
   ·split at h
    ·rcases zg6 h with rfl | h
     ·dsimp only;omega
     ·have:=hM q ((zcp o.n l).subset h);omega
    ·split at h
     ·have:=hM q ((zcp o.n l).subset h);omega
     ·have:=hM q h;omega
theorem zfc {α β:Type} (f:β→α→β) (b:β) (l:List α) {i:Nat} (h:i<l.length):(l.take (i+1)).foldl f b=f ((l.take i).foldl f b) l[i]:=by
 rw[P6 h,List.foldl_append];rfl
theorem zhM {fs:List Fil}:∀ {i:Nat},i≤fs.length→((fs.take i).foldl zbe []).length≤i∧∀ f∈(fs.take i).foldl zbe [],f∈fs
 | 0,_=>⟨by simp,fun f hf=>by simp at hf⟩
 | i+1,h=>by
  obtain ⟨h1,h2⟩:=zhM (fs:=fs) (i:=i) (by omega);rw[zfc _ _ _ (by omega)];unfold zbe
  split
  ·refine ⟨?_,fun f hf=>?_⟩
   ·have:=zg3 ((fs.take i).foldl zbe []) (fs[i]'(by omega))
    unfold zbe at this h1;omega
   ·rcases zg6 hf with rfl | hf
    ·exact Pf _
    ·exact h2 f hf
  ·exact ⟨by unfold zbe at h1;omega,h2⟩
theorem zl2 {fs:List Fil} {q:List Oq}:∀ {i:Nat},i≤q.length→((q.take i).foldl zcG (fs.foldl zbe [])).length≤fs.length+i∧∀ f∈(q.take i).foldl zcG (fs.foldl zbe []),f.2.length≤tot fs+zaW (q.take i)
 | 0,_=>by
  have h:=zhM (fs:=fs) (i:=fs.length) (xN _);rw[P8] at h
  refine ⟨by simpa using h.1,fun f hf=>?_⟩
  have:=zfh (h.2 f (by simpa using hf))
  omega
 | i+1,h=>by
  obtain ⟨h1,h2⟩:=zl2 (fs:=fs) (q:=q) (i:=i) (by omega);rw[zfc _ _ _ (by omega)]
  refine ⟨?_,fun f hf=>?_⟩
  ·have:=zrj ((q.take i).foldl zcG (fs.foldl zbe [])) (q[i]'(by omega))
   omega
  ·have:=zrp h2 hf
   rw[P6 (by omega),zeF,zcm];omega
theorem zsi (v vq:Value) (fs:List Fil) (q:List Oq) (w:World) (hF:Fs w v fs) (hQ:Qs w vq q) (hl:fs.length+q.length≤900000) (hb:tot fs+zaW q≤900000) :
  Calls J 76 #[v,vq] w fun e w'=>(∃ v',e=.returned v'∧Fs w' v' (zkk fs q))∧Ext w w':=by
 obtain ⟨A,c,rfl,h1,h2⟩:=Fs.open_ hF;obtain ⟨B,e2,rfl,_,_⟩:=Qs.open_ hQ;unfold zkk;obtain ⟨R,hR⟩:∃ R,q.foldl zcG (fs.foldl zbe [])=R:=⟨_,rfl⟩;rw[hR];have HF:=F hF;have HQ:=F hQ;have HR:=F hR;have HB:=F hb;have HL:=F hl;clear hF hQ hR hb
 go_enter Tryz.func76,Tryz.ntmps76
 go_wp2_with fail
 go_loopw [5,6] (fun vl i wr=>∃ j:Nat,j≤fs.length∧i=I N j∧Hid (Fs wr vl ((fs.take j).foldl zbe []))∧Hid (Ext w wr)) (fun _ i _=>fs.length-(intOf i).toNat)
 case atStart=>exact ⟨0,P3 _,rfl,⟨[],SlR.nil _ _,fun i hi=>by simp at hi⟩,xR _⟩
 case round =>
  obtain ⟨j,hj,rfl,HV,HE⟩:=hrel
  by_cases Hg:j<fs.length
  ·obtain ⟨_,b,H3,rfl,hc⟩:=(HF.out.ext HE.out).at_ (by omega)
   obtain ⟨H5,B1,d1,H7,HS⟩:=hc j Hg;have Ky:=(zhM (fs:=fs) hj).1;have HW:=zfc zbe [] fs Hg;have HP:=F HW;have Ko:=F Ky;have HM:=F HS;clear hc HW Ky HS
   generalize (fs.take j).foldl zbe []=l at *
   obtain ⟨p,hp⟩:∃ p,fs[j]=p:=⟨_,rfl⟩;rw[hp] at H5 H7 HM HP;obtain ⟨n,pb⟩:=p;dsimp only at H5 H7 HM;have key:=zfV _ l n _ HV.out (by have:=Ko.out;omega);have K1:=@place_get n l
   have Kf:(j:Int)<(fs.length:Int):=by omega
   unfold sv at key H5;have Hm:=F key;clear key hp;go_wp2_with fail
   refine Hm.out.mono ?_
   rintro e w1 ⟨rfl,rfl⟩
   rcases K1 with ⟨hneg,hg⟩ | ⟨i,hi,hpi,hg⟩
   ·have H8:zbe l (n,pb)=withS l (n,pb):=by unfold zbe;rw[if_pos (by rw[hg];rfl)]
    have K6:=F H8;have hw:=zf8 _ l n pb _ _ HV.out HM.out (by have:=Ko.out;omega);unfold sv at hw;have Hw:=F hw;clear hg H8 hw;go_wp2_with fail
    refine Hw.out.mono ?_
    rintro e w9 ⟨⟨v9,rfl,Hj⟩,He⟩;go_wp2_with fail
    go_roundw
    case rel=>exact ⟨j+1,by omega,by go_num,by unfold Hid;rw[HP.out,K6.out];exact Hj,xT HE.out He⟩
    case measure=>simp[intOf];omega
   ·have H8:zbe l (n,pb)=l:=by unfold zbe;rw[if_neg (by rw[hg];simp)]
    have K6:=F H8
    have Kz:¬ (za4 l n<0):=by omega
    clear hg H8 hpi;go_wp2_with fail
    go_roundw
    case rel=>exact ⟨j+1,by omega,by go_num,by unfold Hid;rw[HP.out,K6.out];exact HV.out,HE.out⟩
    case measure=>simp[intOf];omega
  ·obtain rfl:j=fs.length:=by omega
   rw[P8] at HV;go_wp2_with fail
   go_loopw [5,7] (fun vl i KF=>∃ j:Nat,j≤q.length∧i=I N j∧Hid (Fs KF vl ((q.take j).foldl zcG (fs.foldl zbe [])))∧Hid (Ext w KF)) (fun _ i _=>q.length-(intOf i).toNat)
   case atStart=>exact ⟨0,P3 _,rfl,HV,HE⟩
   case round =>
    clear HV HE;obtain ⟨j,hj,rfl,HV,HE⟩:=hrel
    by_cases Hg:j<q.length
    ·obtain ⟨_,b,H3,rfl,hc⟩:=(HQ.out.ext HE.out).at_ (by omega)
     obtain ⟨H5,H7,HU,B3,d3,K0,Kt⟩:=hc j Hg;have Kx:=zl2 (fs:=fs) (q:=q) hj;have HW:=zfc zcG (fs.foldl zbe []) q Hg
     have KD:zaW (q.take j)+q[j].b.length≤zaW q:=by
      have h1:=congrArg zaW (List.take_append_drop (j+1) q);rw[zeF,P6 Hg,zeF,zcm] at h1;omega
     have HP:=F HW;have Kn:=F Kx;have KI:=F KD;have Km:=F Kt;clear hc HW Kx Kt KD
     have key:=zqW _ _ q[j] _ _ HV.out Km.out (by have h1:=Kn.out.1;have h2:=HL;omega) (fun f hf=>by have h1:=Kn.out.2 f hf;have h2:=KI.out;have h3:=HB.out;omega)
     rw[←HP.out] at key;obtain ⟨o,ho⟩:∃ o,q[j]=o:=⟨_,rfl⟩;rw[ho] at H5 H7 HU K0 key;obtain ⟨ok,on,ot,ob⟩:=o;dsimp only at H5 H7 HU K0 key
     have Kf:(j:Int)<(q.length:Int):=by omega
     unfold sv at key H7 HU;have Hm:=F key;clear key ho Km;go_wp2_with fail
     refine Hm.out.mono ?_
     rintro e w9 ⟨⟨v9,rfl,Hj⟩,He⟩;clear H5 H7 HU K0;go_wp2_with fail
     go_roundw
     case rel=>exact ⟨j+1,by omega,by go_num,Hj,xT HE.out He⟩
     case measure=>simp[intOf];omega
    ·obtain rfl:j=q.length:=by omega
     rw[P8,HR.out] at HV;go_wp2_with fail;go_ret
     exact ⟨⟨_,rfl,HV.out⟩,HE.out⟩
end Go.Proofs.YteggfecbjgbndaaGreatDoor
