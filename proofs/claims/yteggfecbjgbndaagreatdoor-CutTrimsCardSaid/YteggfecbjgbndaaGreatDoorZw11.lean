/- Merged -/
import Derived.Test.YteggfecbjgbndaaGreatDoorZw10
set_option linter.all false
set_option maxHeartbeats 8000000
set_option maxRecDepth 100000
open Go.Value renaming int→B,slice→G,bool→I,pointer→J
open Go.IntKind renaming i64→C
open Option renaming none→D,some→F
open Go.Mv renaming zhd→E
open Go.Proofs.Tryz renaming prog→H
open List renaming length_drop→P0,length_take→P1,append_nil→P2,length→P3
namespace Go.Proofs.YteggfecbjgbndaaGreatDoor
open Go.RowKit Go.Mv
theorem mcSnapR4a0 {P:Prop} (h:P:=by
 intro A4 c4 w4 HI Kc;have Kb:=Kc _ H9.out (by rw[Kk];exact xN _)
 have Kf:out.length+q.length=(out++q).length:=by simp
 rw[Kf] at HI ⊢
 go_wp2_with fail
 go_roundw
 case rel =>
  refine ⟨k+8,A4,c4,out++q,by omega,by omega,by go_num,rfl,E (by rw[List.append_assoc];exact HH.out),E ?_,HI,Kb⟩
  have:=congrArg P3 HH.out
  have h3:=zh9 bs
  simp only[xL] at this ⊢
  omega
 case measure=>simp[intOf];omega):P:=h
theorem mcSnapR4a1 {P:Prop} (h:P:=by
 obtain ⟨g0,g1,g2,g3,g4⟩:=zaa H7.out;obtain ⟨f0,f1,f2,f3,f4⟩:=zbJ H7.out;go_wp2_with fail
 refine bodyPost_ret (zge _ _ _ _ _ rfl rfl (za2 H7.out _ _ _ _ _) rfl) rfl ?_
 exact ⟨rfl,za3 HF.out (xN _) _ _ _ _ _⟩):P:=h
def zdX (b:List UInt8):Option Sta:=if (zap 5 [] (zcw b)).1=0∧(zap 5 [] (zcw b)).2.2=[] then some (zfa (zap 5 [] (zcw b)).2.1) else none
theorem zge (tmps:Array Value) (W:World) (b:Nat) (cs:Array Value) (u:Value) (h4:tmps.getD 2 undef=J (F ⟨b,0,D⟩)) (h5:tmps.getD 3 undef=u) (hb:Blk W b 41 cs) (hs:cs.size=5):(results Tryz.f159 tmps).run H W=.ok (.tuple #[.agg cs,u]) W:=by
 have hl:=hb.load (P:=H) zdx rfl (by rw[hs];kernel_rfl)
 have Hv:tmps[2]?.getD undef=J (F ⟨b,0,D⟩):=by simpa using h4
 have Hw:tmps[3]?.getD undef=u:=by simpa using h5
 simp[results,Tryz.results159,Hv,Hw,asAddr,hl]
theorem ztJ (b:List UInt8) (k:Nat) (h:k<b.length):(zaO 8 (b.drop k)).flatMap zgV=(b.drop k).take (min 4 (b.length-k-4))++(zaO 8 (b.drop (k+8))).flatMap zgV:=by
 have H6:b.drop k≠[]:=fun e=>by have:=congrArg P3 e;simp at this;omega
 rw[zaO,dif_neg (by rintro (e | e);exact H6 e;cases e),List.flatMap_cons,List.drop_drop]
 congr 1
 unfold zgV;rw[P1,P0,List.take_take]
 congr 1
 omega
theorem zsz (b:List UInt8) (k:Nat) (h:b.length≤k):(zaO 8 (b.drop k)).flatMap zgV=[]:=by
 rw[List.drop_of_length_le h,zaO,dif_pos (.inl rfl)];rfl
theorem zh9 (b:List UInt8):(zcw b).length≤b.length:=by
 have:=zpa (b.drop 2)
 unfold zcw
 show ((zaO 8 (b.drop 2)).flatMap zgV).length≤_
 rw[P0] at this;omega
theorem zlZ (v:Value) (bs:List UInt8) (w:World) (hB:Bs w v bs) (hl:bs.length≤2000000):Calls H 159 #[v] w (zsb w (zdX bs)):=by
 obtain ⟨A,c,rfl,h1,h2⟩:=xO hB;have Hi:=Blk.new w 41 #[B C 0,B C 0,B C 0,B C 0,I false]
 have hX:Ext w (w.alloc (.cells #[B C 0,B C 0,B C 0,B C 0,I false] 41)):=xA (xR _) _
 have Kk:(w.alloc (.cells #[B C 0,B C 0,B C 0,B C 0,I false] 41)).heap.size=w.heap.size+1:=by simp
 obtain ⟨R,hR⟩:∃ R,zdX bs=R:=⟨_,rfl⟩;rw[hR];have HR:=E hR;have HB:=E hB;have HX:=E hX;have Hb:=E Hi;clear hR hB hX Hi
 go_enter Tryz.func159,Tryz.ntmps159
 go_wp2_with fail
 go_loopw [4,5] (fun vo x W=>∃ (k:Nat) (Ao:Option Addr) (co:Nat) (out:List UInt8),2≤k∧k≤bs.length+8∧x=B C k∧vo=G Ao out.length co∧Hid (out++(zaO 8 (bs.drop k)).flatMap zgV=zcw bs)∧Hid (out.length≤bs.length)∧Hid (OwnB W (w.heap.size+1) (G Ao out.length co) out)∧Ext (w.alloc (.cells #[B C 0,B C 0,B C 0,B C 0,I false] 41)) W) (fun _ x _=>bs.length+9-(intOf x).toNat)
 case atStart=>exact ⟨2,none,0,[],by omega,by omega,rfl,rfl,E rfl,E (by simp),E (World.ownsRow_nil _ _ _ _),xR _⟩
 case round =>
  obtain ⟨k,Ao,co,out,Ko,hk,rfl,rfl,HP,Hp,HO,Hc⟩:=hrel
  by_cases hlt:k<bs.length
  ·obtain ⟨_,b,H1,rfl,_⟩:=Bs.at_ (HB.out.ext (xT HX.out Hc)) (by omega)
   have Hl:=HP.out;rw[ztJ bs k hlt] at Hl;obtain ⟨n,hn⟩:∃ n,min 4 (bs.length-k-4)=n:=⟨_,rfl⟩;rw[hn] at Hl;obtain ⟨q,hq⟩:∃ q,(bs.drop k).take n=q:=⟨_,rfl⟩
   have HL:q.length=n:=by rw[←hq,P1,P0];omega
   rw[hq] at Hl;have Ha:=Bs.take (Bs.cut (HB.out.ext (xT HX.out Hc)) k (by omega) rfl) n (by rw[P0];omega);rw[hq] at Ha;have H0:=E Ha;have HH:=E Hl;have Hq:=E HL;have H9:=E Hc
   have Kq:(k:Int)<(bs.length:Int):=by omega
   have Kp:¬ c=k:=by omega
   have Kt:IntKind.i64.wrap ((k:Int)+4)=(k:Int)+4:=by rw[IntKind.wrap_i64];omega
   have Ku:IntKind.i64.wrap ((bs.length:Int)-4)=(bs.length:Int)-4:=by rw[IntKind.wrap_i64];omega
   have HK:=Hp.out;clear Ha Hl hq HP Hc HL
   by_cases hA:k+8≤bs.length
   ·have a1:(k:Int)≤(bs.length:Int)-4:=by omega
    have a2:¬ (bs.length:Int)-4<(k:Int):=by omega
    have a3:(k:Int)+4≤(bs.length:Int)-4:=by omega
    have a4:¬ (bs.length:Int)-4<(k:Int)+4:=by omega
    obtain rfl:n=4:=by omega
    go_wp2_with (at_builtin;refine zaX rfl (.tmp 15) (.tmp 26) rfl (w.heap.size+1) _ out rfl HO.out _ q rfl ?a1 ?a2 ?a3 ?a4)
    case a1=>first | exact H0.out | (show Bs wr (G (F ⟨b,H1+k,D⟩) (((bs.length:Int)-4).toNat-k) (c-k)) q;rw[show ((bs.length:Int)-4).toNat-k=n by omega];exact H0.out) | (show Bs wr (G (F ⟨b,H1+k,D⟩) (bs.length-4-k) (c-k)) q;rw[show bs.length-4-k=n by omega];exact H0.out) | (show Bs wr (G (F ⟨b,H1+k,D⟩) (k-k) (c-k)) q;rw[show k-k=n by omega];exact H0.out) | (show Bs wr (G (F ⟨b,H1+k,D⟩) (0) (c-k)) q;rw[show 0=n by omega];exact H0.out)
    case a2=>have:=Hq.out;omega
    case a3=>have:=H9.out.size;simp at this;omega
    exact mcSnapR4a0
   ·by_cases hBc:k+4≤bs.length
    ·have a1:(k:Int)≤(bs.length:Int)-4:=by omega
     have a2:¬ (bs.length:Int)-4<(k:Int):=by omega
     have a3:(bs.length:Int)-4≤(k:Int)+4:=by omega
     have a4:(bs.length:Int)-4<(k:Int)+4:=by omega
     go_wp2_with (at_builtin;refine zaX rfl (.tmp 15) (.tmp 26) rfl (w.heap.size+1) _ out rfl HO.out _ q rfl ?b1 ?b2 ?b3 ?b4)
     case b1=>first | exact H0.out | (show Bs wr (G (F ⟨b,H1+k,D⟩) (((bs.length:Int)-4).toNat-k) (c-k)) q;rw[show ((bs.length:Int)-4).toNat-k=n by omega];exact H0.out) | (show Bs wr (G (F ⟨b,H1+k,D⟩) (bs.length-4-k) (c-k)) q;rw[show bs.length-4-k=n by omega];exact H0.out) | (show Bs wr (G (F ⟨b,H1+k,D⟩) (k-k) (c-k)) q;rw[show k-k=n by omega];exact H0.out) | (show Bs wr (G (F ⟨b,H1+k,D⟩) (0) (c-k)) q;rw[show 0=n by omega];exact H0.out)
     case b2=>have:=Hq.out;omega
     case b3=>have:=H9.out.size;simp at this;omega
     exact mcSnapR4a0
    ·have a1:(bs.length:Int)-4≤(k:Int):=by omega
     have a2:(bs.length:Int)-4<(k:Int):=by omega
     have a3:(k:Int)≤(k:Int)+4:=by omega
     have a4:¬ ((k:Int)+4<(k:Int)):=by omega
     go_wp2_with (at_builtin;refine zaX rfl (.tmp 15) (.tmp 26) rfl (w.heap.size+1) _ out rfl HO.out _ q rfl ?e1 ?e2 ?e3 ?e4)
     case e1=>first | exact H0.out | (show Bs wr (G (F ⟨b,H1+k,D⟩) (((bs.length:Int)-4).toNat-k) (c-k)) q;rw[show ((bs.length:Int)-4).toNat-k=n by omega];exact H0.out) | (show Bs wr (G (F ⟨b,H1+k,D⟩) (bs.length-4-k) (c-k)) q;rw[show bs.length-4-k=n by omega];exact H0.out) | (show Bs wr (G (F ⟨b,H1+k,D⟩) (k-k) (c-k)) q;rw[show k-k=n by omega];exact H0.out) | (show Bs wr (G (F ⟨b,H1+k,D⟩) (0) (c-k)) q;rw[show 0=n by omega];exact H0.out)
     case e2=>have:=Hq.out;omega
     case e3=>have:=H9.out.size;simp at this;omega
     exact mcSnapR4a0
  ·have hP:=HP.out
   rw[zsz bs k (by omega),P2] at hP;subst hP;obtain ⟨⟨er,ls,rs⟩,hq⟩:∃ q,zap 5 [] (zcw bs)=q:=⟨_,rfl⟩;have hT:=zdw _ _ 5 (by omega) _ HO.out.bs (by have:=Hp.out;omega);rw[hq] at hT
   have HT:Hid (Calls H 91 #[G Ao (zcw bs).length co,B C 5] wr (zfn wr (er,ls,rs))):=E hT
   have H2:Hid ((if er=0∧rs=[] then some (zfa ls) else none)=R):=E (by rw[←HR.out];unfold zdX;rw[hq])
   have Hq:=E hq;have H9:=E Hc;clear hT hq HR Hc HP HO Hp;go_wp2_with fail
   refine HT.out.mono ?_
   rintro e w2 ⟨vl,vr,rfl,Hk,HE,Hy⟩;have HF:=E (xT HX.out (xT H9.out Hy));have H7:=E (Hb.out.ext (xT H9.out Hy))
   dsimp only at Hk HE ⊢
   obtain ⟨Ar,cr,rfl,_,_⟩:=xO (xW HE)
   by_cases her:er=0
   case neg =>
    obtain rfl:none=R:=by rw[←H2.out,if_neg (fun h=>her h.1)]
    have Ke:(er != 0)=true:=by simpa using her
    exact mcSnapR4a1
   subst her
   by_cases hrs:rs=[]
   case neg =>
    obtain rfl:none=R:=by rw[←H2.out,if_neg (fun h=>hrs h.2)]
    have Ks:rs.length≠0:=fun h=>hrs (List.eq_nil_of_length_eq_zero h)
    have Kr:((rs.length:Int) != 0)=true:=by simp;exact fun h=>hrs h
    exact mcSnapR4a1
   subst hrs;have HA:=zn6 5 [] (zcw bs) (by rw[Hq.out]);rw[Hq.out] at HA;obtain ⟨x0,x1,x2,x3,x4,rfl⟩:=zvf HA
   obtain rfl:some ⟨x0,x1,x2,x3,x4==1⟩=R:=by rw[←H2.out,if_pos ⟨rfl,rfl⟩];rfl
   obtain ⟨Al,cl,rfl,_,_⟩:=xO (xW Hk);obtain ⟨_,bl,Hm,rfl,Hd⟩:=Is.at_ (l:=[x0,x1,x2,x3,x4]) (xW Hk) (by simp);have d0:=Hd 0 (by simp);have d1:=Hd 1 (by simp);have d2:=Hd 2 (by simp);have d3:=Hd 3 (by simp);have d4:=Hd 4 (by simp);simp only[List.getElem_cons_zero,List.getElem_cons_succ,Nat.add_zero] at d0 d1 d2 d3 d4;have Kg:=H7.out.not_row (by decide) Hk
   simp only[xC,List.length_nil,Nat.zero_add,Nat.reduceAdd] at *
   clear H2 Hd Hk HE HA HT Hq Hy;have Hj:=H7.out.ext (xD (xR _));obtain ⟨f0,f1,f2,f3,f4⟩:=zbJ Hj;obtain ⟨g0,g1,g2,g3,g4⟩:=zaa Hj;obtain ⟨K1,K2,K3,K4,K5⟩:=zbJ H7.out;obtain ⟨K6,K7,K8,K9,Ka⟩:=zaa H7.out;go_wp2_with fail
   refine wp_region_held_drew (S:=fun W=>W.cell? ⟨bl,Hm,D⟩=F (B C x0)∧W.cell? ⟨bl,Hm+1,D⟩=F (B C x1)∧W.cell? ⟨bl,Hm+2,D⟩=F (B C x2)∧W.cell? ⟨bl,Hm+3,D⟩=F (B C x3)∧W.cell? ⟨bl,Hm+4,D⟩=F (B C x4)) (by kernel_rfl) ⟨d0,d1,d2,d3,d4⟩ (fun _=>?_)
   refine tkN 0 ?_;refine tkN 1 ?_;refine tkN 2 ?_;refine tkN 3 ?_;refine tkN 4 ?_;refine tkN 5 ?_;refine tkN 6 ?_;refine tkN 7 ?_;refine tkN 8 ?_;refine tkN 9 ?_;refine tkN 10 ?_;refine tkN 11 ?_;refine tkN 12 ?_;refine tkN 13 ?_;refine tkN 14 ?_;refine tkN 15 ?_;refine tkN 16 ?_
   refine ar1 17 (fun K hK=>?_)
   go_simp
   have HD:w.heap.size≠bl:=fun e=>Kg (by rw[e];rfl)
   have kc:∀ (i:Nat) (u:Value),w2.cell? ⟨bl,i,D⟩=F u→(((((w2.setCell ⟨w.heap.size,0,D⟩ (B C x0)).setCell ⟨w.heap.size,1,D⟩ (B C x1)).setCell ⟨w.heap.size,2,D⟩ (B C x2)).setCell ⟨w.heap.size,3,D⟩ (B C x3)).setCell ⟨w.heap.size,4,D⟩ (I (x4==1))).drew.cell? ⟨bl,i,D⟩=F u:=fun i u h=>Ext.cell (xD (xR _)) (zhH (W:=w2) h HD _ _ _ _ _)
   have Kd:Blk (((((w2.setCell ⟨w.heap.size,0,D⟩ (B C x0)).setCell ⟨w.heap.size,1,D⟩ (B C x1)).setCell ⟨w.heap.size,2,D⟩ (B C x2)).setCell ⟨w.heap.size,3,D⟩ (B C x3)).setCell ⟨w.heap.size,4,D⟩ (I (x4==1))).drew w.heap.size 41 #[B C x0,B C x1,B C x2,B C x3,I (x4==1)]:=(za2 H7.out _ _ _ _ _).ext (xD (xR _))
   have H8:Ext w (((((w2.setCell ⟨w.heap.size,0,D⟩ (B C x0)).setCell ⟨w.heap.size,1,D⟩ (B C x1)).setCell ⟨w.heap.size,2,D⟩ (B C x2)).setCell ⟨w.heap.size,3,D⟩ (B C x3)).setCell ⟨w.heap.size,4,D⟩ (I (x4==1))).drew:=xD (za3 HF.out (xN _) _ _ _ _ _)
   first | (with_reducible refine hK.out _ _ ⟨kc _ _ d0,kc _ _ d1,kc _ _ d2,kc _ _ d3,kc _ _ d4⟩ (fun _=>?_)) | (trace_state;fail)
   clear hK K
   try simp only[Act.put,sA,sZ,sS]
   refine tkN 18 ?_;refine wdD ?_;go_wp2_with fail
   refine bodyPost_ret (zge _ _ _ _ _ rfl rfl Kd rfl) rfl ?_
   exact ⟨rfl,H8⟩
theorem mcSnapR5a0 {P:Prop} (h:P:=by
 rw[Ho] at H5
 have Hr:Hid ((if pr=F bs then some s else none)=R):=E (by have h:=H2.out;rw[tk9_some,Ho] at h;exact h)
 have Hs:=E H5;clear H5 Ho H2;go_wp2_with fail
 refine (Hs.out _).mono ?_
 rintro e w5 h5
 cases pr with
 | none =>
  obtain ⟨rfl,H8⟩:=h5
  obtain rfl:none=R:=Hr.out
  have H3:=E (H4.out.ext H8);have He:=E (xT Hf.out H8);obtain ⟨f0,f1,f2,f3,f4⟩:=zbJ H3.out;obtain ⟨g0,g1,g2,g3,g4⟩:=zaa H3.out;go_wp2_with fail
  refine bodyPost_ret (zc1 _ _ _ _ _ rfl rfl (za2 H3.out _ _ _ _ _) rfl) rfl ?_
  exact ⟨rfl,za3 He.out (xN _) _ _ _ _ _⟩
 | some q =>
  obtain ⟨A5,c5,rfl,Kh,H8⟩:=h5;have H3:=E (H4.out.ext H8);have K0:=E (Hh.out.ext H8);have He:=E (xT Hf.out H8);have Kl:=zaE (P:=H) w5 33 9 5 Tryz.underlying33 Tryz.underlying5 Tryz.underlying9 Kh.bs;have Km:=zaE (P:=H) w5 33 9 5 Tryz.underlying33 Tryz.underlying5 Tryz.underlying9 (HB.out.ext He.out)
  by_cases hqb:q=bs
  ·obtain rfl:some s=R:=by rw[←Hr.out,if_pos (by rw[hqb])]
   subst hqb;obtain ⟨t0,t1,t2,t3,t4⟩:=zaa K0.out;obtain ⟨f0,f1,f2,f3,f4⟩:=zbJ H3.out;obtain ⟨g0,g1,g2,g3,g4⟩:=zaa H3.out;go_wp2_with fail
   refine bodyPost_ret (zc1 _ _ _ _ _ rfl rfl (za2 H3.out _ _ _ _ _) rfl) rfl ?_
   exact ⟨rfl,za3 He.out (xN _) _ _ _ _ _⟩
  ·obtain rfl:none=R:=by rw[←Hr.out,if_neg (by simpa using hqb)]
   have Ki:(q==bs)=false:=by simpa using hqb
   obtain ⟨f0,f1,f2,f3,f4⟩:=zbJ H3.out;obtain ⟨g0,g1,g2,g3,g4⟩:=zaa H3.out;go_wp2_with fail
   refine bodyPost_ret (zc1 _ _ _ _ _ rfl rfl (za2 H3.out _ _ _ _ _) rfl) rfl ?_
   exact ⟨rfl,za3 He.out (xN _) _ _ _ _ _⟩):P:=h
def zgH (b:List UInt8) (f:Int):Option Sta:=if f=2 then zdX b else zgF b
def tk9 (b:List UInt8) (f:Int):Option Sta→Option Sta
 | none=>none
 | some s=>if zeu s f=F b then some s else none
theorem tk9_some (b:List UInt8) (f:Int) (s:Sta):tk9 b f (some s)=if zeu s f=F b then some s else none:=rfl
def zgI (b:List UInt8) (f:Int):Option Sta:=tk9 b f (zgH b f)
theorem zo3 {W:World} {b b':Nat} {t:TypeId} {cs:Array Value} (h:Blk W b t cs) (H6:b≠b') (a' v' u' x' y':Value):Blk (((((W.setCell ⟨b',0,D⟩ a').setCell ⟨b',1,D⟩ v').setCell ⟨b',2,D⟩ u').setCell ⟨b',3,D⟩ x').setCell ⟨b',4,D⟩ y') b t cs :=
 ((((h.other H6 0 a').other H6 1 v').other H6 2 u').other H6 3 x').other H6 4 y'
theorem zns (s:Sta) (h:s.ok=true):zdX (zbb s)=F s:=by
 have e1:zcw (zbb s)=zao s.ints:=by
  unfold zcw zbb;rw[zk6]
  exact zj3 (0,0) _
 have e2:zap 5 [] (zao s.ints)=(0,[]++s.ints,[]):=by
  have:=zgr s.ints (Sta.nums h) [] []
  rw[P2] at this
  exact this
 unfold zdX;rw[e1,e2,if_pos ⟨rfl,rfl⟩]
 show some (zfa s.ints)=_
 rw[zfb]
theorem zrC (b:List UInt8) (f:Int):zgI b f=zeE b f:=by
 cases h:zeE b f with
 | none =>
  unfold zgI
  cases hr:zgH b f with
  | none=>rfl
  | some s =>
   show (if zeu s f=F b then some s else none)=none
   rw[if_neg];intro hp;rw[zrQ hp] at h
   cases h
 | some s =>
  obtain ⟨HJ,h2,hp⟩:=zjY h
  have Kj:zgH b f=F s:=by
   unfold zgH
   rcases h2 with ⟨rfl,rfl⟩ | ⟨rfl,rfl⟩
   ·rw[if_neg (by decide)]
    unfold zgF;rw[zkQ s HJ]
    show some (zfa s.ints)=_
    rw[zfb]
   ·rw[if_pos rfl];exact zns s HJ
  unfold zgI;rw[Kj]
  exact if_pos hp
theorem zc1 (tmps:Array Value) (W:World) (b:Nat) (cs:Array Value) (u:Value) (h4:tmps.getD 4 undef=J (F ⟨b,0,D⟩)) (h5:tmps.getD 5 undef=u) (hb:Blk W b 41 cs) (hs:cs.size=5):(results Tryz.f93 tmps).run H W=.ok (.tuple #[.agg cs,u]) W:=by
 have hl:=hb.load (P:=H) zdx rfl (by rw[hs];kernel_rfl)
 have Hv:tmps[4]?.getD undef=J (F ⟨b,0,D⟩):=by simpa using h4
 have Hw:tmps[5]?.getD undef=u:=by simpa using h5
 simp[results,Tryz.results93,Hv,Hw,asAddr,hl]
theorem zqx (v:Value) (bs:List UInt8) (f:Int) (w:World) (hB:Bs w v bs) (hl:bs.length≤2000000):Calls H 93 #[v,B C f] w (zuR w (zeE bs f)):=by
 rw[←zrC];obtain ⟨A,c,rfl,h1,h2⟩:=xO hB;have Hi:=Blk.new w 41 #[B C 0,B C 0,B C 0,B C 0,I false]
 have hX:Ext w (w.alloc (.cells #[B C 0,B C 0,B C 0,B C 0,I false] 41)):=xA (xR _) _
 obtain ⟨R,hR⟩:∃ R,zgI bs f=R:=⟨_,rfl⟩;rw[hR];have HR:=E hR;have HB:=E hB;have HX:=E hX;have Hb:=E Hi;clear hR hB hX Hi
 go_enter Tryz.func93,Tryz.ntmps93
 go_wp2_with fail
 refine (zpI _ bs _ (HB.out.ext HX.out) hl).mono ?_
 rintro e w1 ⟨rfl,Hx⟩;obtain ⟨r1,HM⟩:∃ r,zgF bs=r:=⟨_,rfl⟩;rw[HM];have Hn:=E (xT HX.out Hx);have Ht:=E (Hb.out.ext Hx);obtain ⟨s1,HQ⟩:∃ s,r1.getD staZ=s:=⟨_,rfl⟩;rw[HQ];have HU:=Blk.new w1 41 #[B C s1.idx,B C s1.term,B C s1.sum,B C s1.lvl,I s1.fin]
 have X2:Ext w1 (w1.alloc (.cells #[B C s1.idx,B C s1.term,B C s1.sum,B C s1.lvl,I s1.fin] 41)):=xA (xR _) _
 have HG:=E HU;have Hg:=E X2;clear HU X2 Hx
 by_cases hf:f=2
 ·subst hf
  go_wp2_with fail
  refine (zlZ _ bs _ (HB.out.ext (xT Hn.out Hg.out)) hl).mono ?_
  rintro e w3 ⟨rfl,Hz⟩;obtain ⟨r3,HN⟩:∃ r,zdX bs=r:=⟨_,rfl⟩
  have H2:Hid (tk9 bs 2 r3=R):=E (by have h:=HR.out;unfold zgI zgH at h;rw[if_pos rfl,HN] at h;exact h)
  rw[HN];have HV:=E (xT Hn.out (xT Hg.out Hz));have HY:=E (Ht.out.ext (xT Hg.out Hz));have Hu:=E (HG.out.ext Hz);obtain ⟨s3,HS⟩:∃ s,r3.getD staZ=s:=⟨_,rfl⟩;rw[HS]
  have H6:w.heap.size≠w1.heap.size:=by have:=Ht.out.lt;omega
  obtain ⟨f0,f1,f2,f3,f4⟩:=zbJ Hu.out;obtain ⟨g0,g1,g2,g3,g4⟩:=zaa Hu.out;have HZ:=E (za2 Hu.out (B C s3.idx) (B C s3.term) (B C s3.sum) (B C s3.lvl) (I s3.fin));have HW:=E (za3 HV.out (b:=w1.heap.size) (by have:=Hn.out.size;omega) (B C s3.idx) (B C s3.term) (B C s3.sum) (B C s3.lvl) (I s3.fin));have H4:=E (zo3 HY.out H6 (B C s3.idx) (B C s3.term) (B C s3.sum) (B C s3.lvl) (I s3.fin));have Hh:=HZ;have Hf:=HW
  cases r3 with
  | none =>
   obtain rfl:none=R:=H2.out
   obtain ⟨K1,K2,K3,K4,K5⟩:=zbJ H4.out;obtain ⟨K6,K7,K8,K9,Ka⟩:=zaa H4.out;go_wp2_with fail
   refine bodyPost_ret (zc1 _ _ _ _ _ rfl rfl (za2 H4.out _ _ _ _ _) rfl) rfl ?_
   exact ⟨rfl,za3 Hf.out (xN _) _ _ _ _ _⟩
  | some s =>
   obtain rfl:s=s3:=HS
   have q0:=(zaa Hh.out).1;obtain ⟨q0,q1,q2,q3,q4⟩:=zaa Hh.out;obtain ⟨pr,Ho⟩:∃ pr,zeu s 2=pr:=⟨_,rfl⟩
   have H5:=fun W=>zlO s 2 W
   exact mcSnapR5a0
 ·have Kn:(f==2)=false:=by simpa using hf
  have H2:Hid (tk9 bs f r1=R):=E (by have h:=HR.out;unfold zgI zgH at h;rw[if_neg hf,HM] at h;exact h)
  have H4:=E (Ht.out.ext Hg.out);have Hh:=HG;have Hf:=E (xT Hn.out Hg.out)
  cases r1 with
  | none =>
   obtain rfl:none=R:=H2.out
   obtain ⟨f0,f1,f2,f3,f4⟩:=zbJ H4.out;obtain ⟨g0,g1,g2,g3,g4⟩:=zaa H4.out;go_wp2_with fail
   refine bodyPost_ret (zc1 _ _ _ _ _ rfl rfl (za2 H4.out _ _ _ _ _) rfl) rfl ?_
   exact ⟨rfl,za3 Hf.out (xN _) _ _ _ _ _⟩
  | some s =>
   obtain rfl:s=s1:=HQ
   obtain ⟨q0,q1,q2,q3,q4⟩:=zaa Hh.out;obtain ⟨pr,Ho⟩:∃ pr,zeu s f=pr:=⟨_,rfl⟩
   have H5:=fun W=>zlO s f W
   exact mcSnapR5a0
end Go.Proofs.YteggfecbjgbndaaGreatDoor
