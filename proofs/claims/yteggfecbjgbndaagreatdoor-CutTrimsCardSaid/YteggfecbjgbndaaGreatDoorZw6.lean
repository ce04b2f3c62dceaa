/- Merged -/
import Derived.Test.YteggfecbjgbndaaGreatDoorZw5
set_option linter.all false
set_option maxHeartbeats 8000000
set_option maxRecDepth 100000
open Go.Value renaming int→B,slice→C,pointer→N
open Option renaming some→D,none→E
open Go.IntKind renaming u8→F,i64→G
open Go.Proofs.Tryz renaming prog→I
open Go.Mv renaming zhd→K
open Go.Obj renaming cells→L
open List renaming eq_nil_of_length_eq_zero→P0,take_of_length_le→P1,append_assoc→P2,length_drop→P3,length_take→P4,getElem?_eq_some_iff→P5,take_append_drop→P6,getElem?_map→P7,cons_append→P8,mem_append→P9,length_map→Pa
open UInt8 renaming ofNat→Pb,toNat_ofNat'→Pc,ofNat_toNat→Pd
open Prod.mk renaming injEq→Pe
open Option.some renaming injEq→Pf
open Go.Oper renaming semAt_some→Pg
open Nat renaming pow_succ→Ph,add_assoc→Pi,zero_mul→Pj,le_trans→Pk,one_mul→Pl,add_mul→Pm
namespace Go.Proofs.YteggfecbjgbndaaGreatDoor
open Go.RowKit Go.Mv
theorem zmA (z v:Value) (es:List Ent) (w:World) (h:Es w v es) (hb:zeA es=false):Calls I 268 #[z,v] w (ztz w):=by
 obtain ⟨A,c,rfl,h1,h2⟩:=xO h
 have hB:=K (fun w (h:Es w (C A es.length c) es)=>zl8 _ es w h)
 have H:=K h
 by_cases hl:0<es.length∧es.length≤4
 ·have ha:zcA es=false:=by simpa [zeA,hl] using hb
  obtain ⟨Ka,Kb⟩:=hl
  have e0:((es.length:Int)==0)=false:=by rw[beq_eq_false_iff_ne];omega
  clear hb h
  go_enter Tryz.func268,Tryz.ntmps268
  go_wp2_with (go_at_call 290;refine (hB.out _ H.out).mono ?_;rintro e w' ⟨rfl,hE⟩)
  go_ret3
  exact ⟨rfl,hE⟩
 ·clear hb h
  by_cases e0:es.length=0
  ·have e1:((es.length:Int)==0)=true:=by rw[beq_iff_eq];omega
   go_enter Tryz.func268,Tryz.ntmps268
   go_wp2_with fail
   go_ret3
   exact ⟨rfl,xR _⟩
  ·have e1:((es.length:Int)==0)=false:=by rw[beq_eq_false_iff_ne];omega
   have h4:4<es.length:=by omega
   clear e0 hl
   go_enter Tryz.func268,Tryz.ntmps268
   go_wp2_with fail
   go_ret3
   exact ⟨rfl,xR _⟩
theorem znS (za zb:Nat) (v:Value) (es:List Ent) (w:World) (h:Es w v es) (hb:zeA es=true):Calls I 268 #[.complex .f64 za zb,v] w (zuk (ptV (.complex .f64 za zb)) es w):=by
 obtain ⟨A,c,rfl,h1,h2⟩:=xO h
 have hB:=K (fun w (h:Es w (C A es.length c) es)=>zl8 _ es w h)
 have H:=K h
 have hl:(0<es.length∧es.length≤4)∧zcA es=true:=by simpa [zeA] using hb
 obtain ⟨⟨Ka,Kb⟩,ha⟩:=hl
 have e0:((es.length:Int)==0)=false:=by rw[beq_eq_false_iff_ne];omega
 obtain ⟨i0,hi,HS,HT,HU⟩:=info_parts zb0;have Ha:=K ha;rw[ha] at hB;clear hb h ha
 go_enter Tryz.func268,Tryz.ntmps268
 go_wp2_with (go_at_call 290;refine (hB.out _ H.out).mono ?_;rintro e w1 ⟨rfl,HH⟩)
 go_loopw [7,8] (fun vb i wr=>∃ k:Nat,k≤es.length∧i=B G k∧wr.ownsRow w.heap.size 5 1 vb (1+((es.take k).flatMap zdf).length) (B F es.length::((es.take k).flatMap zdf).map bv)∧Ext w wr) (fun _ i _=>es.length-(intOf i).toNat)
 case atStart =>
  refine ⟨0,Nat.zero_le _,rfl,?_,xA HH _⟩
  have:=zaG w1 [B F (es.length:Int)] 5 1 rfl (by simp[maxLen]) HH.size
  simpa using this
 case round =>
  obtain ⟨k,hk,rfl,H0,hE⟩:=hrel
  by_cases Hc:k<es.length
  ·have K8:=Es.ext H.out hE
   obtain ⟨_,b,H1,rfl,hc⟩:=Es.at_ K8 (by omega);obtain ⟨HK,K6,K7⟩:=hc k Hc;have HN:=zos (zsj Ha.out k Hc)
   have Hr:b<wr.heap.size:=World.block_lt_of_cell? wr _ HK
   have Hu:=ztP es k Hc;obtain ⟨bs,H6⟩:∃ bs,zao [es[k].t,es[k].k,es[k].v]=bs:=⟨_,rfl⟩
   rw[show zdf es[k]=bs from H6] at Hu
   have Ht:bs.length≤15:=by rw[←H6];exact zl3 es[k]
   have Hg:((es.take k).flatMap zdf).length≤60:=by
    have:=zkF (es.take k)
    rw[P4] at this;omega
   have HZ:=K Hu;have HX:=K H6;have K1:=K HN;clear Hu H6 hc HN
   generalize es[k].t=et at *
   generalize es[k].k=ek at *
   generalize es[k].v=ev at *
   generalize (es.take k).flatMap zdf=pre at *
   obtain ⟨gb,cb,rfl,_,_,_⟩:=zdL H0 (by omega);go_wp2_with fail
   have HI:Is (wr.alloc (L #[B G et,B G ek,B G ev] 3)).drew (C (D ⟨wr.heap.size,0,E⟩) 3 3) [et,ek,ev]:=xW (zaG wr.drew [B G et,B G ek,B G ev] 3 3 rfl (by simp[maxLen]) (xN _))
   have HC:=K (zgo _ _ _ HI K1.out (by simp));clear HI
   go_region_held3 (fun w'=>w'.cell? ⟨b,H1+k*3,E⟩=D (B G et)∧w'.cell? ⟨b,H1+k*3+1,E⟩=D (B G ek)∧w'.cell? ⟨b,H1+k*3+2,E⟩=D (B G ev)) (first | go_keep | (refine ⟨?_,?_,?_⟩ <;> assumption))
    (first | (go_at_call 121;refine HC.out.mono ?_;rintro e w2 ⟨v2,rfl,HA,K5⟩;rw[HX.out] at HA;have H9:Ext wr w2:=xT (xD (xA (xR wr) _)) K5;have g0:=Ext.cell H9 HK;have g1:=Ext.cell H9 K6;have g2:=Ext.cell H9 K7;obtain ⟨A2,c2,rfl,_,_⟩:=xO (xW HA)))
   have He:=zab H0 H9
   go_wp2_with (at_builtin;refine zaC _ rfl (.tmp 55) (.tmp 56) 33 rfl w.heap.size 5 i0 (B F 0) 1 1 Tryz.underlying33 hi HS HT HU rfl (by decide) (C (D ⟨gb,0,E⟩) (1+pre.length) cb) (1+pre.length) _ rfl He (C A2 bs.length c2) bs.length (bs.map bv) rfl (xW HA) (zbI _) (by unfold maxLen;omega) (by omega) (xT hE H9).size ?_;intro v' w3 H5 H4)
   go_roundw
   case rel =>
    refine ⟨k+1,by omega,by go_num,?_,Ext.grownOwn (xT hE H9) He H4⟩
    rw[HZ.out]
    simpa [Pi] using H5
   case measure=>simp[intOf];omega
  ·have Hh:es.take k=es:=P1 (by omega)
   rw[Hh] at H0;obtain ⟨body,H2⟩:∃ body,zaL es=body:=⟨_,rfl⟩
   have Hr:body.length=1+(es.flatMap zdf).length:=by rw[←H2];unfold zaL;simp;omega
   have Ht:body.length≤61:=by have:=zkF es;omega
   have Hs:0<body.length:=by omega
   have H3:(B F (es.length:Int):Value)::(es.flatMap zdf).map bv=body.map bv:=by
    rw[←H2];unfold zaL
    rw[List.map_cons]
    congr 1
    simp[bv];omega
   rw[H3,←Hr] at H0;have H8:=K H2;clear Hh H3 H2 Hr;obtain ⟨gb,cb,rfl,_,_,_⟩:=zdL H0 Hs
   go_wp2_with (first
    | (go_at_call 218
       have H6:Bs wr (C (D ⟨gb,0,E⟩) body.length cb) body:=xW H0
       have hp:Parts (wr.alloc (L #[C (D ⟨gb,0,E⟩) body.length cb] 33)) (C (D ⟨wr.heap.size,0,E⟩) 1 1) [body]:=zjR H6
       refine (zfE za zb _ _ _ hp).mono ?_
       rintro e w2 ⟨vz,rfl,Hl,rfl⟩
       rw[show [body].flatten=body from by simp] at Hl
       have HW:=K Hl;have HP:=Hl.pt;obtain ⟨a1,b1,rfl,_,_⟩:=Hl;obtain ⟨f0,f1,f2,f3,hf⟩:∃ f0 f1 f2 f3:UInt8,zaT (zas (ptV (.complex .f64 za zb)) body)=[f0,f1,f2,f3]:=⟨_,_,_,_,rfl⟩
       have HF:Hid (∀ W,Calls I 249 #[.complex .f64 a1 b1] W fun e w'=>e=.returned (.agg #[B F f0.toNat,B F f1.toNat,B F f2.toNat,B F f3.toNat])∧Ext W w'):=by
        intro W
        refine (zgm a1 b1 W).mono ?_
        rintro e w' ⟨rfl,hE⟩
        exact ⟨by rw[HP,hf];rfl,hE⟩
       have Hf:=K hf
       clear hf HP)
    | (go_at_call 249;refine (HF.out _).mono ?_;rintro e w3 ⟨rfl,H9⟩)
    | (at_builtin
       have Hq:Ext wr ((w3.alloc (L #[B F f0.toNat,B F f1.toNat,B F f2.toNat,B F f3.toNat] 188)).alloc (L #[B F f0.toNat,B F f1.toNat,B F f2.toNat,B F f3.toNat] 5)):=xA (xA (xT (xA (xR _) _) H9) _) _
       have He:=zab H0 Hq
       have h4:SlR ((w3.alloc (L #[B F f0.toNat,B F f1.toNat,B F f2.toNat,B F f3.toNat] 188)).alloc (L #[B F f0.toNat,B F f1.toNat,B F f2.toNat,B F f3.toNat] 5)) 1 (C (D ⟨w3.heap.size+1,0,E⟩) 4 4) 4 ([f0,f1,f2,f3].map bv):=by
        have h:=zaG (w3.alloc (L #[B F f0.toNat,B F f1.toNat,B F f2.toNat,B F f3.toNat] 188)) ([f0,f1,f2,f3].map bv) 5 4 rfl (by simp[maxLen]) (xN _);rw[xS] at h
        exact xW h
       refine zaC _ rfl (.tmp 64) (.tmp 73) 33 rfl w.heap.size 5 i0 (B F 0) 1 1 Tryz.underlying33 hi HS HT HU rfl (by decide) _ body.length _ rfl He _ 4 _ rfl h4 (zbI _) (by unfold maxLen;omega) (by omega) (xT hE Hq).size ?_
       intro v' w4 H5 H4))
   go_ret3
   refine ⟨v',.complex .f64 a1 b1,rfl,?_,?_,Ext.grownOwn (xT hE Hq) He H4⟩
   ·rw[H8.out];exact HW.out
   ·unfold zdm
    rw[H8.out,Hf.out]
    simpa using H5
def zun (bs:List UInt8) (w:World) (e:Ending) (w':World):Prop:=∃ v',e=.returned v'∧PtV v' (zas (0,0) bs)∧w=w'
theorem zlk (vp:Value) (bss:List (List UInt8)) (w:World) (h:Parts w vp bss):Calls I 218 #[.complex .f64 0 0,vp] w (zun bss.flatten w):=by
 have hz:=PtV.zero.pt
 have:=zfE 0 0 vp bss w h
 unfold zlI at this;rw[hz] at this
 exact this
def zdy (n:Nat) (hs:List UInt8):Nat:=hs.foldl (fun a x=>a*128+x.toNat % 128) n
theorem zlc (n:Nat) (hs:List UInt8) (x:UInt8):zdy n (hs++[x])=zdy n hs*128+x.toNat % 128:=by unfold zdy;rw[List.foldl_append];rfl
theorem zlb (n:Nat) (hs:List UInt8) (x:UInt8):zdy n (x::hs)=zdy (n*128+x.toNat % 128) hs:=rfl
theorem zrP (f n:Nat) (l:List UInt8) (m:Nat) (r:List UInt8) (h:zbz f n l=(0,m,r)) :
  ∃ hs b,l=hs++b::r∧hs.length+1≤f∧(∀ x∈hs,128≤x.toNat)∧b.toNat<128∧m=zdy n hs*128+b.toNat∧m≤1073741824:=by
 induction f generalizing n l with
 | zero=>simp[zbz] at h
 | succ f ih =>
  cases l with
  | nil=>simp[zbz] at h
  | cons b l =>
   rw[zbz] at h
   by_cases hb:128≤b.toNat
   ·rw[if_pos hb] at h
    obtain ⟨hs,c,rfl,h1,h2,h3,h4,h5⟩:=ih _ _ h
    refine ⟨b::hs,c,rfl,by simp;omega,?_,h3,h4,h5⟩
    intro x hx
    rcases List.mem_cons.1 hx with rfl | hx
    ·exact hb
    ·exact h2 x hx
   ·rw[if_neg hb] at h
    split at h
    ·rename_i hm
     simp only[Pe,true_and] at h;obtain ⟨rfl,rfl⟩:=h
     exact ⟨[],b,rfl,by simp,by simp,by omega,by show _=n*128+_;omega,hm⟩
    ·simp at h
theorem zp6 (f n:Nat) (hs:List UInt8) (b:UInt8) (r:List UInt8) (h1:hs.length+1≤f) (h2:∀ x∈hs,128≤x.toNat) (h3:b.toNat<128) :
  zbz f n (hs++b::r)=if zdy n hs*128+b.toNat≤1073741824 then (0,zdy n hs*128+b.toNat,r) else (11,0,[]):=by
 induction hs generalizing f n with
 | nil =>
  obtain ⟨f,rfl⟩:∃ g,f=g+1:=⟨f-1,by simp at h1;omega⟩
  rw[xI,zbz,if_neg (by omega),show b.toNat % 128=b.toNat from by omega]
  rfl
 | cons x hs ih =>
  obtain ⟨f,rfl⟩:∃ g,f=g+1:=⟨f-1,by simp at h1;omega⟩
  rw[P8,zbz,if_pos (h2 x (by simp)),ih f _ (by simp at h1;omega) (fun y hy=>h2 y (by simp[hy]))]
  rfl
theorem zff {f m:Nat} (hm:m≠0):hiB (f+1) m=hiB f (m / 128)++[Pb (m % 128+128)]:=by rw[hiB,if_neg hm]
theorem zkd (m:Nat):(Pb (m % 128+128)).toNat=m % 128+128:=by
 rw[Pc];omega
theorem ztR (f v:Nat):∀ x∈hiB f v,128≤x.toNat:=by
 induction f generalizing v with
 | zero=>simp[hiB]
 | succ f ih =>
  by_cases h0:v=0
  ·subst h0;rw[zep];simp
  ·rw[zff h0]
   intro x hx
   rcases P9.1 hx with hx | hx
   ·exact ih _ x hx
   ·have:x=Pb (v % 128+128):=by simpa using hx
    subst this;rw[zkd];omega
theorem ztT (f v:Nat) (h:v<128^f):zdy 0 (hiB f v)=v:=by
 induction f generalizing v with
 | zero =>
  have:v=0:=by simpa using h
  subst this;rfl
 | succ f ih =>
  by_cases h0:v=0
  ·subst h0;rw[zep];rfl
  ·rw[zff h0,zlc,ih _ (by rw[Ph] at h;omega),zkd]
   omega
theorem ztS (f k v:Nat) (h:v<128^k):(hiB f v).length≤k:=by
 induction f generalizing v k with
 | zero=>simp[hiB]
 | succ f ih =>
  by_cases h0:v=0
  ·subst h0;rw[zep];simp
  ·rw[zff h0,xL]
   cases k with
   | zero=>simp at h;omega
   | succ k =>
    have:=ih k (v / 128) (by rw[Ph] at h;omega)
    simp;omega
theorem zsL (f v:Nat) (h:v<128^f):(hiB f v).head?≠some 128:=by
 induction f generalizing v with
 | zero=>simp[hiB]
 | succ f ih =>
  by_cases h0:v=0
  ·subst h0;rw[zep];simp
  ·rw[zff h0]
   by_cases h1:v / 128=0
   ·rw[h1,zep]
    intro e
    have e2:Pb (v % 128+128)=128:=by simpa using e
    have e3:=congrArg UInt8.toNat e2;rw[zkd] at e3
    have:(128:UInt8).toNat=128:=rfl
    omega
   ·have Hz:hiB f (v / 128)≠[]:=by
     cases f with
     | zero=>simp at h;omega
     | succ f=>rw[zff h1];simp
    have hi:=ih (v / 128) (by rw[Ph] at h;omega)
    cases hq:hiB f (v / 128) with
    | nil=>exact absurd hq Hz
    | cons y ys=>rw[hq] at hi;simpa using hi
theorem zue (n:Nat) (hs:List UInt8):n≤zdy n hs:=by
 induction hs generalizing n with
 | nil=>exact xN _
 | cons x hs ih=>rw[zlb];exact Pk (by omega) (ih _)
theorem ztm {hs:List UInt8} (Hz:hs≠[]) (h1:∀ x∈hs,128≤x.toNat) (h2:hs.head?≠some 128):zdy 0 hs≠0:=by
 cases hs with
 | nil=>exact absurd rfl Hz
 | cons x hs =>
  rw[zlb]
  have hx:x.toNat≠128:=fun e=>h2 (by simp;apply UInt8.toNat_inj.1;simpa using e)
  have h:=h1 x (by simp);have hl:=x.toNat_lt
  have:=zue (0*128+x.toNat % 128) hs
  omega
theorem zuE (f:Nat) (hs:List UInt8) (hl:hs.length≤f) (h1:∀ x∈hs,128≤x.toNat) (h2:hs.head?≠some 128):hiB f (zdy 0 hs)=hs:=by
 induction f generalizing hs with
 | zero =>
  have:hs=[]:=P0 (by omega)
  subst this;rfl
 | succ f ih =>
  by_cases h0:hs=[]
  ·subst h0;rfl
  ·have hp:=ztm h0 h1 h2
   obtain ⟨ys,y,rfl⟩:∃ ys y,hs=ys++[y]:=⟨hs.dropLast,hs.getLast h0,(List.dropLast_concat_getLast h0).symm⟩;rw[zff hp,zlc];have hy:=h1 y (by simp);have Kt:=y.toNat_lt
   have e1:(zdy 0 ys*128+y.toNat % 128) / 128=zdy 0 ys:=by omega
   have e2:(zdy 0 ys*128+y.toNat % 128) % 128+128=y.toNat:=by omega
   rw[e1,e2,ih ys (by simp at hl;omega) (fun x hx=>h1 x (by simp[hx])) ?_,Pd]
   cases ys with
   | nil=>simp
   | cons z ys=>simpa using h2
theorem zn0 (n:Nat) (hn:n≤1073741824):∃ hs b,zbC n=hs++[b]∧hs.length≤4∧(∀ x∈hs,128≤x.toNat)∧b.toNat<128∧hs.head?≠some 128∧n=zdy 0 hs*128+b.toNat:=by
 have hb:(Pb (n % 128)).toNat=n % 128:=by rw[Pc];omega
 have h5:n / 128<128^5:=by have:(128:Nat)^5=34359738368:=by decide
                           omega
 have h4:n / 128<128^4:=by have:(128:Nat)^4=268435456:=by decide
                           omega
 exact ⟨hiB 5 (n / 128),Pb (n % 128),zh4 n hn,ztS 5 4 _ h4,ztR _ _,by omega,zsL _ _ h5,by rw[ztT _ _ h5,hb];omega⟩
theorem zk2 (n:Nat) (hn:n≤1073741824) (r:List UInt8):zaI (zbC n++r)=(0,n,r):=by
 obtain ⟨hs,b,Hn,h1,h2,h3,h4,h5⟩:=zn0 n hn;rw[Hn,P2];unfold zaI
 have hh:(hs++([b]++r)).head?≠some 128:=by
  cases hs with
  | nil =>
   intro e
   have:b=128:=by simpa using e
   subst this
   exact absurd h3 (by decide)
  | cons x hs=>simpa using h4
 rw[if_neg hh]
 rw[show hs++([b]++r)=hs++b::r from rfl,zp6 5 0 hs b r (by omega) h2 h3,←h5,if_pos hn]
theorem zmW {l:List UInt8} {m:Nat} {r:List UInt8} (h:zaI l=(0,m,r)):l=zbC m++r∧m≤1073741824:=by
 unfold zaI at h
 split at h
 ·simp at h
 ·rename_i hh
  obtain ⟨hs,b,rfl,h1,h2,h3,h4,h5⟩:=zrP _ _ _ _ _ h
  have K9:hs.head?≠some 128:=by
   cases hs with
   | nil=>simp
   | cons x hs=>simpa using hh
  refine ⟨?_,h5⟩
  have hd:m / 128=zdy 0 hs:=by omega
  have hm:m % 128=b.toNat:=by omega
  rw[zh4 m h5,hd,hm,zuE 5 hs (by omega) h2 K9,Pd,P2];rfl
theorem zgr (l:List Int) (hl:zau l=true) (acc:List Int) (r:List UInt8):zap l.length acc (zao l++r)=(0,acc++l,r):=by
 induction l generalizing acc with
 | nil=>simp[zap,zao]
 | cons n l ih =>
  have hn:zaD n=true∧zau l=true:=by simpa [zau] using hl
  obtain ⟨hn,Hj⟩:=hn;have Kq:=numB_true.1 hn
  have e:zaI (zao (n::l)++r)=(0,n.toNat,zao l++r):=by
   rw[show zao (n::l)++r=zbC n.toNat++(zao l++r) from by simp[zao]]
   exact zk2 _ (by omega) _
  rw[xC,zap,e];simp only[if_true]
  rw[ih Hj,show ((n.toNat:Nat):Int)=n from by omega,P2]
  rfl
theorem zfd (k:Nat) (acc:List Int) (bs:List UInt8) (l:List Int) (r:List UInt8) (h:zap k acc bs=(0,l,r)) :
  ∃ l',l=acc++l'∧l'.length=k∧zau l'=true∧bs=zao l'++r:=by
 induction k generalizing acc bs with
 | zero =>
  simp only[zap,Pe,true_and] at h;obtain ⟨rfl,rfl⟩:=h
  exact ⟨[],by simp,rfl,rfl,rfl⟩
 | succ k ih =>
  rw[zap] at h
  rcases ht:zaI bs with ⟨e,m,r1⟩
  rw[ht] at h;dsimp only at h
  by_cases he:e=0
  ·subst he
   rw[if_pos rfl] at h;obtain ⟨h1,h2⟩:=zmW ht;obtain ⟨l',rfl,h3,h4,h5⟩:=ih _ _ h
   refine ⟨(m:Int)::l',by simp,by simp[h3],?_,?_⟩
   ·simp only[zau,List.all_cons,Bool.and_eq_true] at h4 ⊢
    exact ⟨numB_true.2 ⟨by omega,by omega⟩,h4⟩
   ·rw[h1,h5];simp[zao]
  ·rw[if_neg he] at h
   simp at h;exact absurd h.1 he
def zbd (es:List Ent):List Int:=es.flatMap fun e=>[e.t,e.k,e.v]
def zei:List Int→List Ent
 | t::k::v::l=>⟨t,k,v⟩::zei l
 | _=>[]
theorem zrT (es:List Ent):zei (zbd es)=es:=by
 induction es with
 | nil=>rfl
 | cons e es ih=>rw[show zbd (e::es)=e.t::e.k::e.v::zbd es from rfl,zei,ih]
theorem ziK (es:List Ent):(zbd es).length=3*es.length:=by
 induction es with
 | nil=>rfl
 | cons e es ih=>rw[show zbd (e::es)=e.t::e.k::e.v::zbd es from rfl];simp[ih];omega
theorem zkJ (k:Nat) (l:List Int) (h:l.length=3*k):zbd (zei l)=l∧(zei l).length=k:=by
 induction k generalizing l with
 | zero =>
  have:l=[]:=P0 (by omega)
  subst this;exact ⟨rfl,rfl⟩
 | succ k ih =>
  match l,h with
  | t::k'::v::l,h =>
   obtain ⟨h1,h2⟩:=ih l (by simp at h;omega);rw[zei]
   exact ⟨by rw[show zbd (⟨t,k',v⟩::zei l)=t::k'::v::zbd (zei l) from rfl,h1],by simp[h2]⟩
theorem zjW (a b:List Int):zao (a++b)=zao a++zao b:=by simp[zao]
theorem ziV (es:List Ent):zao (zbd es)=es.flatMap zdf:=by
 induction es with
 | nil=>rfl
 | cons e es ih=>rw[show zbd (e::es)=[e.t,e.k,e.v]++zbd es from rfl,zjW,ih];rfl
theorem zni {es:List Ent} (h:zcA es=true):zau (zbd es)=true:=by
 induction es with
 | nil=>rfl
 | cons e es ih =>
  have he:e.ok=true∧zcA es=true:=by simpa [zcA] using h
  have h1:=zos he.1;have h2:=ih he.2
  simp only[zau,List.all_eq_true] at h1 h2 ⊢
  intro x hx
  rcases P9.1 (show x∈[e.t,e.k,e.v]++zbd es from hx) with hx | hx
  ·exact h1 x hx
  ·exact h2 x hx
def zdb:List UInt8→Option (List Ent×List UInt8)
 | []=>none
 | c::r=>if c.toNat=0∨4<c.toNat then none else if (zap (3*c.toNat) [] r).1=0∧zcA (zei (zap (3*c.toNat) [] r).2.1)=true then some (zei (zap (3*c.toNat) [] r).2.1,(zap (3*c.toNat) [] r).2.2) else none
theorem zeI (es:List Ent):zeA es=true↔(0<es.length∧es.length≤4)∧zcA es=true:=by simp[zeA]
theorem zp8 {es:List Ent} (h:zeA es=true) (r:List UInt8):zdb (zaL es++r)=D (es,r):=by
 obtain ⟨⟨h1,h2⟩,h3⟩:=(zeI es).1 h
 have hc:(Pb es.length).toNat=es.length:=by rw[Pc];omega
 have ht:=zgr (zbd es) (zni h3) [] r;rw[ziK,ziV,xI] at ht
 rw[show zaL es++r=Pb es.length::(es.flatMap zdf++r) from rfl,zdb,hc,if_neg (by omega),ht]
 dsimp only;rw[zrT,if_pos ⟨rfl,h3⟩]
theorem zk3 {bs:List UInt8} {es:List Ent} {r:List UInt8} (h:zdb bs=D (es,r)):zeA es=true∧bs=zaL es++r:=by
 cases bs with
 | nil=>simp[zdb] at h
 | cons c l =>
  rw[zdb] at h
  split at h
  ·simp at h
  ·rename_i hc
   rcases ht:zap (3*c.toNat) [] l with ⟨e,li,r1⟩
   rw[ht] at h;dsimp only at h
   split at h
   ·rename_i he
    obtain ⟨rfl,h3⟩:=he;obtain ⟨l',Hj,h4,h5,h6⟩:=zfd _ _ _ _ _ ht;rw[xI] at Hj;subst Hj;simp only[Pf,Pe] at h;obtain ⟨rfl,rfl⟩:=h;obtain ⟨h7,h8⟩:=zkJ c.toNat li h4
    refine ⟨(zeI _).2 ⟨by omega,h3⟩,?_⟩
    rw[h6]
    conv=>lhs;rw[←h7]
    rw[ziV]
    show _=Pb (zei li).length::_
    rw[h8,Pd];rfl
   ·simp at h
def zcB (p:Nat×Nat) (bs:List UInt8):Option (List Ent×List UInt8) :=
 match zdb bs with
 | none=>none
 | some x=>if 4≤x.2.length∧x.2.take 4=zaT (zas p (zaL x.1)) then some (x.1,x.2.drop 4) else none
theorem zdn (p:Nat×Nat):(zaT p).length=4:=rfl
theorem zkM (p:Nat×Nat) (bs:List UInt8) (es:List Ent) (r:List UInt8):zcB p bs=D (es,r)↔zeA es=true∧bs=zdm p es++r:=by
 constructor
 ·intro h
  unfold zcB at h
  split at h
  ·simp at h
  ·rename_i x hx
   split at h
   ·rename_i h4
    simp only[Pf,Pe] at h;obtain ⟨rfl,rfl⟩:=h;obtain ⟨h5,h6⟩:=zk3 (es:=x.1) (r:=x.2) hx
    refine ⟨h5,?_⟩
    rw[h6];unfold zdm
    rw[←h4.2,P2,P6]
   ·simp at h
 ·rintro ⟨h1,rfl⟩
  have h2:=zp8 h1 (zaT (zas p (zaL es))++r);unfold zcB
  rw[show zdm p es++r=zaL es++(zaT (zas p (zaL es))++r) from by unfold zdm;rw[P2],h2]
  dsimp only;have hl:=zdn (zas p (zaL es))
  rw[if_pos ⟨by simp[hl],List.take_left' hl⟩,List.drop_left' hl]
theorem zso (p:Nat×Nat) (es:List Ent):5≤(zdm p es).length:=by unfold zdm zaL;rw[xL,zdn,xC];omega
theorem zrr {p:Nat×Nat} {bs:List UInt8} {es:List Ent} {r:List UInt8} (h:zcB p bs=D (es,r)):r.length<bs.length:=by
 rw[((zkM p bs es r).1 h).2,xL]
 have:=zso p es;omega
def zcd (p:Nat×Nat) (bs:List UInt8):List Ent×(Nat×Nat)×List UInt8 :=
 match h:zcB p bs with
 | none=>([],p,bs)
 | some (es,r)=>(es++(zcd (zas p (zaL es)) r).1,(zcd (zas p (zaL es)) r).2)
termination_by bs.length
decreasing_by all_goals exact zrr h
theorem zpX {p:Nat×Nat} {bs:List UInt8} (h:zcB p bs=none):zcd p bs=([],p,bs):=by
 rw[zcd];split
 ·rfl
 ·rename_i h';rw[h] at h';cases h'
theorem zpY {p:Nat×Nat} {bs:List UInt8} {es:List Ent} {r:List UInt8} (h:zcB p bs=D (es,r)) :
  zcd p bs=(es++(zcd (zas p (zaL es)) r).1,(zcd (zas p (zaL es)) r).2):=by
 rw[zcd];split
 ·rename_i h';rw[h] at h';cases h'
 ·rename_i h';rw[h] at h';cases h';rfl
def zdi:List UInt8→Option (Nat×List UInt8)
 | []=>none
 | c::r=>if c=2∧(zaI r).1=0∧(zaI r).2.1≠0 then some (zaI r).2 else none
theorem zkI (bs:List UInt8) (first:Nat) (r:List UInt8):zdi bs=D (first,r)↔(zcP (first:Int)).1=0∧bs=(zcP (first:Int)).2++r:=by
 have HQ:zao [(first:Int)]=zbC first:=by simp[zao]
 constructor
 ·intro h
  cases bs with
  | nil=>simp[zdi] at h
  | cons c l =>
   rw[zdi] at h
   split at h
   ·rename_i hc
    obtain ⟨rfl,h1,h2⟩:=hc
    rcases ht:zaI l with ⟨e,m,r1⟩
    rw[ht] at h h1 h2;dsimp only at h h1 h2;subst h1;simp only[Pf,Pe] at h;obtain ⟨rfl,rfl⟩:=h;obtain ⟨h3,h4⟩:=zmW ht;unfold zcP
    rw[if_pos ⟨numB_true.2 ⟨by omega,by omega⟩,by omega⟩,HQ]
    exact ⟨rfl,by rw[h3];rfl⟩
   ·simp at h
 ·rintro ⟨h1,h2⟩
  unfold zcP at h1 h2
  split at h1
  ·rename_i hc
   rw[if_pos hc,HQ] at h2;have hn:=numB_true.1 hc.1;subst h2
   rw[show (2::zbC first)++r=2::(zbC first++r) from rfl,zdi,zk2 first (by omega)]
   dsimp only
   rw[if_pos ⟨rfl,rfl,by omega⟩]
  ·simp at h1
theorem zrb {bs:List UInt8} {first:Nat} {r:List UInt8} (h:zdi bs=D (first,r)):r.length≤bs.length∧bs.take (bs.length-r.length)=(zcP (first:Int)).2:=by
 obtain ⟨_,h2⟩:=(zkI _ _ _).1 h;rw[h2]
 exact ⟨by simp,by rw[xL,Nat.add_sub_cancel,List.take_left]⟩
structure zih where
 err:Int
 first:Nat
 log:List Ent
 used:Nat
 pt:Nat×Nat
def zdE (bs:List UInt8):zih :=
 match zdi bs with
 | none=>⟨11,0,[],0,(0,0)⟩
 | some x=>⟨0,x.1,(zcd (zas (0,0) (zcP (x.1:Int)).2) x.2).1,bs.length-(zcd (zas (0,0) (zcP (x.1:Int)).2) x.2).2.2.length,(zcd (zas (0,0) (zcP (x.1:Int)).2) x.2).2.1⟩
open Go.RowKit Go.Mv Go.Shelf
attribute [local go_sem] Pg zew
theorem Hold.moves {wo W W':World} {M:Nat→Obj→Prop} (h:Hold wo W) (hm:Moves M W W') (hM:∀ k o,k<wo.heap.size→o.isCells=true→¬ M k o):Hold wo W':=by
 intro q u hq;have Hc:=World.block_lt_of_cell? wo q hq
 exact hm.cell (h q u hq) (fun o _ hc=>hM _ o Hc hc)
attribute [local go_sem] Pg
attribute [local go_sem] Pg
def zaO (n:Nat) (bs:List UInt8):List (List UInt8) :=
 if h:bs=[]∨n=0 then [] else bs.take n::zaO n (bs.drop n)
termination_by bs.length
decreasing_by
 have:0<bs.length:=List.length_pos_iff.2 (fun e=>h (.inl e))
 have:n≠0:=fun e=>h (.inr e)
 simp;omega
theorem zd8 (n:Nat):zaO n []=[]:=by rw[zaO];simp
theorem zdJ (n:Nat) (bs:List UInt8) (hn:0<n) (h:0<bs.length):zaO n bs=bs.take n::zaO n (bs.drop n):=by
 rw[zaO,dif_neg]
 rintro (e | e)
 ·rw[e] at h;simp at h
 ·omega
theorem zqK (n:Nat) (hn:0<n):∀ (i:Nat) (bs:List UInt8),(i*n<bs.length→(zaO n bs)[i]?=D ((bs.drop (i*n)).take n))∧(bs.length≤i*n→(zaO n bs).length≤i):=by
 intro i
 induction i with
 | zero =>
  intro bs
  refine ⟨fun h=>?_,fun h=>?_⟩
  ·rw[zdJ n bs hn (by omega),Pj]
   rfl
  ·have:bs=[]:=P0 (by omega)
   rw[this,zd8]
   exact xN _
 | succ i ih =>
  intro bs
  have hm:(i+1)*n=n+i*n:=by rw[Pm,Pl,Nat.add_comm]
  rcases Nat.eq_zero_or_pos bs.length with h0 | h0
  ·have:bs=[]:=P0 h0
   subst this
   exact ⟨fun h=>by simp at h,fun _=>by rw[zd8];simp⟩
  ·obtain ⟨h1,h2⟩:=ih (bs.drop n)
   rw[P3] at h1 h2;rw[zdJ n bs hn h0,hm]
   refine ⟨fun h=>?_,fun h=>?_⟩
   ·rw[List.getElem?_cons_succ,h1 (by omega),List.drop_drop]
   ·have:=h2 (by omega)
    rw[xC];omega
theorem zeY {wo:World} {b H1 m c:Nat} {bs:List UInt8} (h:Bs wo (C (D ⟨b,H1,E⟩) m c) bs) (k n:Nat) (hk:k+n≤bs.length):Bs wo (C (D ⟨b,H1+k,E⟩) n n) ((bs.drop k).take n):=by
 obtain ⟨h0,A,c',e,h1,h2,h3⟩:=h
 cases e
 unfold Bs
 have hl:((bs.drop k).take n).length=n:=by rw[P4,P3];omega
 rw[hl]
 refine ⟨by rw[Pa,hl];omega,_,n,rfl,xN _,by omega,fun hn=>?_⟩
 obtain ⟨b',Kg,e',hc⟩:=h3 (by omega)
 cases e'
 refine ⟨b,H1+k,rfl,fun j u hu=>?_⟩
 rw[Pi]
 refine hc (k+j) u ?_
 rw[←hu,P7,P7,List.getElem?_take,List.getElem?_drop]
 have hj:j<n:=by
  have:=(P5.1 hu).1
  rw[Pa,hl] at this
  exact this
 rw[if_pos hj]
theorem zo9 (n:Nat) (Ke:0<n) (Ks:n≤8) (wo W0:World) (v:Value) (bs:List UInt8) (H6:Bs wo v bs) (Kc:bs.length≤2000000) (bx bn:Nat) (K3:Boxed W0 bx 33 v) (K4:Boxed W0 bn 3 (B G n)) :
  Seq I 236 #[N (D ⟨bx,0,E⟩),N (D ⟨bn,0,E⟩)]
   (fun (p:List UInt8) av _=>∃ b H1,av = #[C (D ⟨b,H1,E⟩) p.length p.length]∧Bs wo (C (D ⟨b,H1,E⟩) p.length p.length) p∧0<p.length∧p.length≤n) (fun k o=>(k=bx∧o.ty=D 33)∨(k=bn∧o.ty=D 3)) (fun _ _=>False) (zaO n bs) W0:=by
 intro l J Jx hJ Ki hY h0;obtain ⟨A,c,rfl,h1,h2⟩:=xO H6
 refine (callsIn_wd (ro:=none) (n:=9)).1 ?_
 refine callsIn_of_wp Tryz.func236 rfl trivial ?_ rfl
 simp only[Tryz.ntmps236,List.size_toArray,xC,List.length_nil,Nat.reduceAdd,Nat.reduceSub,Array.replicate_succ,Array.replicate_zero,List.push_toArray,List.append_toArray,xI,P8];have HY:=K H6;clear H6
 gi_wp2
 gi_loopw [4] (fun j W=>∃ (i k:Nat),j=B G k∧Hid (i*n=k)∧k≤bs.length+n∧Hid (J ((zaO n bs).take i) W)∧Boxed W bx 33 (C A bs.length c)∧Boxed W bn 3 (B G n)∧W0.heap.size≤W.heap.size) (fun j _=>bs.length+16-(intOf j).toNat)
 case atStart=>exact ⟨0,0,rfl,by show 0*n=0;rw[Pj],by omega,h0,K3,K4,xN _⟩
 case round =>
  obtain ⟨i,k,rfl,Hk,Kk,HJ,b1,b2,HR⟩:=hrel;have c1:=b1.cell;have c2:=b2.cell;obtain ⟨Hi,H7⟩:=zqK n Ke i bs;rw[Hk.out] at Hi H7
  by_cases Hc:k<bs.length
  ·have Hb:=HY.out
   obtain ⟨hx,b,H1,rfl,hc⟩:=Bs.at_ Hb (by omega);clear hc hx;obtain ⟨m,hm⟩:∃ m,min n (bs.length-k)=m:=⟨_,rfl⟩
   have Kp:m≤n:=by omega
   have Kn:0<m:=by omega
   have Kd:k+m≤bs.length:=by omega
   obtain ⟨p,hp⟩:∃ p,(bs.drop k).take n=p:=⟨_,rfl⟩
   have Hg:p.length=m:=by rw[←hp,P4,P3,hm]
   have HB:=zeY Hb k m Kd
   have HO:(bs.drop k).take m=p:=by
    rw[←hp]
    rcases Nat.le_total n (bs.length-k) with h | h
    ·rw[show m=n from by omega]
    ·rw[P1 (by rw[P3];omega),P1 (by rw[P3];omega)]
   rw[HO] at HB;have Hp:=K HB;have Hw:=Hi Hc;rw[hp] at Hw;obtain ⟨Hx,Hv⟩:=P5.1 Hw
   have Hh:(zaO n bs).take (i+1)=(zaO n bs).take i++[p]:=by rw[List.take_succ_eq_append_getElem Hx,Hv]
   have HD:=K Hh
   have Hn:zaO n bs=(zaO n bs).take i++p::(zaO n bs).drop (i+1):=by rw[←Hv,←List.drop_eq_getElem_cons Hx,P6]
   have K2:=K Hn
   have HM:(i+1)*n=k+n:=by have:=Hk.out;rw[Pm,Pl,this]
   have K0:=K HM;have Hm:=K hm;clear Hh Hn Hb Hi H7 Hw Hx Hv HO HB hp HM hm
   gi_wp2
   gi_region
   have HL:(if bs.length-k<n then ((bs.length-k:Nat):Int) else (n:Int))=(m:Int):=by have:=Hm.out;split <;> omega
   rw[HL];clear HL
   have hy:=hY ((zaO n bs).take i) p ((zaO n bs).drop (i+1)) K2.out wr.drew #[C (D ⟨b,H1+k,E⟩) p.length p.length] (hJ _ _ _ HJ.out (Moves.refl.drew)) HR ⟨b,H1+k,rfl,by rw[Hg];exact Hp.out,by omega,by omega⟩
   rw[Hg] at hy;have Hy:=K hy;have Kh:=K Hg
   have HE:Boxed wr.drew bx 33 (C (D ⟨b,H1,E⟩) bs.length c):=b1
   have HG:Boxed wr.drew bn 3 (B G n):=b2
   have Kl:(k:Int)+(m:Int)≤(bs.length:Int):=by omega
   have Ko:(k:Int)+(m:Int)≤(c:Int):=by omega
   clear hy hY Hg c1 c2;have c1:=HE.cell;have c2:=HG.cell
   gi_wp2
   refine zbh Hy.out ?_
   rintro e W' ⟨Hd,⟨rfl,hj⟩ | ⟨rfl,hj⟩⟩
   ·refine ⟨true,rfl,?_⟩
    have d1:Boxed W' bx 33 (C (D ⟨b,H1,E⟩) bs.length c):=Hd.boxed HE (.inl (.inl ⟨rfl,rfl⟩))
    have d2:Boxed W' bn 3 (B G n):=Hd.boxed HG (.inl (.inr ⟨rfl,rfl⟩))
    have e2:=d2.cell
    have Kf:W0.heap.size≤W'.heap.size:=Pk HR Hd.size
    have Ho:=K hj
    have Km:(k:Int)+(n:Int)≤4000000:=by omega
    clear hj Hd c1 c2
    gi_wp2
    refine ⟨⟨i+1,k+n,by go_num,K0.out,by omega,?_,d1,d2,Kf⟩,by simp[intOf];omega⟩
    show J _ _;rw[HD.out];exact Ho.out
   ·refine ⟨false,rfl,?_⟩
    have Ho:=K hj;clear hj Hd c1 c2
    gi_wp2
    refine bodyPost_ret (results_none rfl _ _ _) rfl ?_
    refine ⟨⟨_,rfl⟩,.inr ⟨(zaO n bs).take (i+1),?_,?_⟩⟩
    ·exact List.take_prefix _ _
    ·rw[HD.out];exact Ho.out
  ·have hC:(zaO n bs).take i=zaO n bs:=P1 (H7 (by omega))
   have HV:=K hC
   have Kj:¬ ((k:Int)<(bs.length:Int)):=by omega
   clear hC Hi H7
   gi_wp2
   refine bodyPost_end (results_none rfl _ _ _) rfl ?_
   exact ⟨⟨_,rfl⟩,.inl (by have:=HJ.out;rw[HV.out] at this;exact this)⟩
theorem zoF (A:Option Addr) (m c n:Nat) (hn:0<n) (w:World):Calls I 205 #[C A m c,B G n] w fun e w' =>
  e=.returned (.func (.func 236) #[] #[N (D ⟨w.heap.size,0,E⟩),N (D ⟨w.heap.size+1,0,E⟩)]) ∧
  (w.alloc (L #[C A m c] 33)).alloc (L #[B G n] 3)=w':=by
 have Kr:¬ ((n:Int)<1):=by omega
 go_enter Tryz.func205,Tryz.ntmps205
 go_wp2
 go_ret
 exact ⟨rfl,rfl⟩
end Go.Proofs.YteggfecbjgbndaaGreatDoor
