/- Merged -/
import Derived.Test.YtgonhdeochgkoaaGreatDoorZx11
set_option linter.all false
set_option maxHeartbeats 8000000
set_option maxRecDepth 100000
open List renaming length_drop→P0,length_take→P1,getD_eq_getElem?_getD→P2,getElem?_eq_getElem→P3,push_toArray→P4,cons_append→P5,length_nil→P6,foldl_cons→P7,map_cons→P8,map_nil→P9
open Go.World renaming ownsRow_nil→Pa
open Nat renaming xor_assoc→Pb,shiftRight_xor_distrib→Pc,shiftRight_eq_div_pow→Pd,zero_add→Pe,xor_zero→Pf,xor_comm→Pg,xor_mod_two_pow→Ph,xor_lt_two_pow→Pi,reduceAdd→Pj
open Go.Mv.Blk renaming new→Pk
open Go.Instr renaming findNow→Pl,lookup→Pm
open Go.Oper renaming wp→Pn,semAt_some→Po
namespace Go.Proofs.YtgonhdeochgkoaaGreatDoor
open Go.RowKit Go.Mv Go.Shelf
theorem mcOne5a0 {P:Prop} (h:P:=by
 go_enter Tryz.func295,Tryz.ntmps295
 go_wp2_with fail
 refine K5.out.mono ?_
 rintro e w1 ⟨vr,rfl,-,H3⟩;have H4:=Hh.ext H3;obtain ⟨g0,g1,g2,f0,f1,f2⟩:=zbi H4;go_wp2_with fail
 exact bodyPost_ret (zeh _ _ _ _ _ rfl rfl (zbj H4 _ _ _) rfl) rfl ⟨_,rfl,Ha _,zcA (xT hX H3) (xN _) _ _ _⟩):P:=h
attribute [local go_sem] Po
variable {T:Tab}
def zg9:Nat→List (Nat×Ent)→Nat
 | d,[]=>d
 | _,x::l=>zg9 x.1 l
theorem zpz (l:List (Nat×Ent)) (x:Nat×Ent):∀ d,zg9 d (l++[x])=x.1:=by
 induction l with
 | nil=>intro d;rfl
 | cons y l ih=>intro d;exact ih _
def zcD (T:Tab) (b:List UInt8):zf1 :=
 if b.length<6∨b.getD 0 0≠1 then ⟨11,0,[],0,(0,0)⟩
 else if (zau ((b.drop 1).take 5)).1=0∧(zau ((b.drop 1).take 5)).2.1≠0 then ⟨0,(zau ((b.drop 1).take 5)).2.1,(zcL T (b.drop 6) 6).map (·.2),zg9 6 (zcL T (b.drop 6) 6),(0,0)⟩
 else ⟨11,0,[],0,(0,0)⟩
theorem ztF:Tryz.prog.underlying 121=some (.struct (Tryz.prog.fieldsOf 121)):=by kernel_rfl
theorem zeh (tmps:Array Value) (W:World) (b:Nat) (cs:Array Value) (u:Value) (h2:tmps.getD 2 undef=.pointer (some ⟨b,0,none⟩)) (h3:tmps.getD 3 undef=u) (hb:Blk W b 121 cs) (hs:cs.size=3):(results Tryz.f295 tmps).run Tryz.prog W=.ok (.tuple #[.agg cs,u]) W:=by
 have hl:=hb.load (P:=Tryz.prog) ztF rfl (by rw[hs];kernel_rfl)
 have KB:tmps[2]?.getD undef=.pointer (some ⟨b,0,none⟩):=by simpa using h2
 have KC:tmps[3]?.getD undef=u:=by simpa using h3
 simp[results,Tryz.results295,KB,KC,asAddr,hl]
theorem zrJ (b:List UInt8):∀ p,(zcL T b p).length*15≤b.length:=by
 generalize hn:b.length=n
 induction n using Nat.strongRecOn generalizing b with
 | _ n ih =>
  intro p
  by_cases h:b.length<15
  ·rw[zja h];simp
  ·cases ht:zd0 T (b.take 15) with
   | none=>rw[zks h ht];simp
   | some e =>
    have:=ih (b.drop 15).length (by rw[P0];omega) (b.drop 15) rfl (p+15)
    rw[zkt h ht,xC];rw[P0] at this;omega
theorem zqU (W:World) (x:Ent):Es (W.alloc (.cells #[.int .i64 x.t,.int .i64 x.k,.int .i64 x.v] 79)) (.slice (some ⟨W.heap.size,0,none⟩) 1 1) [x]:=by
 refine ⟨by simp[zap,Ent.cells],_,1,rfl,xN _,by simp[maxLen],fun _=>⟨W.heap.size,0,rfl,fun j u hu=>?_⟩⟩
 rw[Pe]
 exact (Pk W 79 #[.int .i64 x.t,.int .i64 x.k,.int .i64 x.v]).cell j (by simpa [zap,Ent.cells] using hu)
def ScI (w:World) (f:Nat) (H6:List (Nat×Ent)) (X:World):Prop:=∃ vl,Blk X w.heap.size 121 #[.int .i64 f,vl,.int .i64 (zg9 6 H6:Nat)]∧OwnE X w.heap.size vl (H6.map (·.2))∧Ext w X
theorem zqt (v:Value) (bs:List UInt8) (w:World) (hB:Bs w v bs) (h:(zcD T bs).err=11):Calls Tryz.prog 295 #[v] w (zgS w (zcD T bs)):=by
 obtain ⟨A,c,rfl,h1,h2⟩:=xO hB;have Hh:=Pk w 121 #[.int .i64 0,.slice none 0 0,.int .i64 0]
 have hX:Ext w (w.alloc (.cells #[.int .i64 0,.slice none 0 0,.int .i64 0] 121)):=xA (xR _) _
 have Hb:zcD T bs=⟨11,0,[],0,(0,0)⟩:=by
  unfold zcD at h ⊢
  split
  ·rfl
  ·rename_i hn
   rw[if_neg hn] at h
   split
   ·rename_i h3;rw[if_pos h3] at h;cases h
   ·rfl
 rw[Hb]
 have Ha:∀ W:World,W.ownsRow w.heap.size 79 3 (.slice none 0 0) ([]:List Ent).length (zap []):=fun W=>Pa _ _ _ _
 by_cases H2:bs.length<6
 ·have HK:((bs.length:Int)<6):=by omega
  clear Hb h hB;obtain ⟨g0,g1,g2,f0,f1,f2⟩:=zbi Hh
  go_enter Tryz.func295,Tryz.ntmps295
  go_wp2_with fail
  exact bodyPost_ret (zeh _ _ _ _ _ rfl rfl Hh rfl) rfl ⟨_,rfl,Ha _,hX⟩
 ·have HK:¬ ((bs.length:Int)<6):=by omega
  obtain ⟨_,b,H5,rfl,hc⟩:=Bs.at_ hB (by omega);have He:=hc 0 (by omega);obtain ⟨x0,Hc⟩:∃ x0,bs[0]'(by omega)=x0:=⟨_,rfl⟩;rw[Hc] at He
  have Hq:bs.getD 0 0=x0:=by rw[←Hc];simp[P2,P3 (show 0<bs.length by omega)]
  have HI:=zdd He (.cells #[.int .i64 0,.slice none 0 0,.int .i64 0] 121);rw[Nat.add_zero] at HI
  by_cases hx:x0=1
  ·have Ks:((x0.toNat:Int) != 1)=false:=by rw[hx];rfl
   have H0:=zem hB 1 5 (by omega);obtain ⟨p,hp⟩:∃ p,(bs.drop 1).take 5=p:=⟨_,rfl⟩
   have Hg:p.length=5:=by rw[←hp,P1,P0];omega
   rw[hp] at H0
   have Hd:Bs w (.slice (some ⟨b,H5+1,none⟩) 5 (c-1)) p:=SlR.capd H0 (by rw[Hg];omega) (by omega)
   have key:=zdw _ p _ (Hd.ext hX) (by omega)
   have HG:(zau p).1≠0∨(zau p).2.1=0:=by
    unfold zcD at h
    rw[if_neg (by rw[Hq,hx];intro h;rcases h with h | h;exact H2 h;exact h rfl)] at h
    rw[hp] at h
    by_cases h1:(zau p).1=0
    ·by_cases h2:(zau p).2.1=0
     ·exact .inr h2
     ·rw[if_pos ⟨h1,h2⟩] at h;cases h
    ·exact .inl h1
   rcases htl:zau p with ⟨e1,t,rest⟩
   rw[htl] at key HG;have K5:=zhd key
   have KO:(6:Int)≤(c:Int):=by omega
   clear key htl hp Hg H0 Hd Hb h hB hc He Hc Hq H2 hx
   rcases HG with h1 | h1
   ·have K9:((e1:Int) != 0)=true:=by simpa using h1
    clear h1
    exact mcOne5a0
   ·by_cases he:e1=0
    ·dsimp only at h1
     subst h1 he
     exact mcOne5a0
    ·have K9:((e1:Int) != 0)=true:=by simpa using he
     clear h1 he
     exact mcOne5a0
  ·have Ks:((x0.toNat:Int) != 1)=true:=by
    rw[bne_iff_ne];intro h
    apply hx
    apply UInt8.toNat_inj.1
    show x0.toNat=1
    omega
   clear Hb h hB hc He Hc Hq H2 hx;obtain ⟨g0,g1,g2,f0,f1,f2⟩:=zbi Hh
   go_enter Tryz.func295,Tryz.ntmps295
   go_wp2_with fail
   exact bodyPost_ret (zeh _ _ _ _ _ rfl rfl Hh rfl) rfl ⟨_,rfl,Ha _,hX⟩
theorem zoe (A:Option Addr) (n c:Nat) (w:World):Calls Tryz.prog 296 #[.slice A n c] w fun e w'=>e=.returned (.func (.func 297) #[] #[.pointer (some ⟨w.heap.size,0,none⟩)])∧w.alloc (.cells #[.slice A n c] 38)=w':=by
 go_enter Tryz.func296,Tryz.ntmps296
 go_wp2
 go_ret
 exact ⟨rfl,rfl⟩
theorem zsi (v:Value) (bs:List UInt8) (w:World) (hB:Bs w v bs) (hl:bs.length≤2000000) (hT:TabW T w) (h:(zcD T bs).err≠11):Calls Tryz.prog 295 #[v] w (zgS w (zcD T bs)):=by
 obtain ⟨A,c,rfl,h1,h2⟩:=xO hB;have Hh:=Pk w 121 #[.int .i64 0,.slice none 0 0,.int .i64 0]
 have hX:Ext w (w.alloc (.cells #[.int .i64 0,.slice none 0 0,.int .i64 0] 121)):=xA (xR _) _
 unfold zcD at h ⊢
 by_cases hd:bs.length<6∨bs.getD 0 0≠1
 ·rw[if_pos hd] at h;exact absurd rfl h
 rw[if_neg hd] at h ⊢
 by_cases hf:(zau ((bs.drop 1).take 5)).1=0∧(zau ((bs.drop 1).take 5)).2.1≠0
 case neg=>rw[if_neg hf] at h;exact absurd rfl h
 rw[if_pos hf]
 have H2:6≤bs.length:=by
  rcases Nat.lt_or_ge bs.length 6 with q | q
  ·exact absurd (Or.inl q) hd
  ·exact q
 have Hq:bs.getD 0 0=1:=by
  by_cases q:bs.getD 0 0=1
  ·exact q
  ·exact absurd (Or.inr q) hd
 obtain ⟨_,b,H5,rfl,hc⟩:=Bs.at_ hB (by omega);have He:=hc 0 (by omega)
 have Hc:bs[0]'(by omega)=1:=by rw[←Hq];simp[P2,P3 (show 0<bs.length by omega)]
 rw[Hc] at He
 have HI:(w.alloc (.cells #[.int .i64 0,.slice none 0 0,.int .i64 0] 121)).cell? ⟨b,H5,none⟩=some (.int .u8 1):=zdd He _
 have H0:=zem hB 1 5 (by omega);obtain ⟨p,hp⟩:∃ p,(bs.drop 1).take 5=p:=⟨_,rfl⟩
 have Hg:p.length=5:=by rw[←hp,P1,P0];omega
 rw[hp] at H0 hf ⊢
 have Hd:Bs w (.slice (some ⟨b,H5+1,none⟩) 5 (c-1)) p:=SlR.capd H0 (by rw[Hg];omega) (by omega)
 have key:=zdw _ p _ (Hd.ext hX) (by omega)
 rcases htl:zau p with ⟨e1,t,rest⟩
 rw[htl] at key hf;obtain ⟨rfl,Kp⟩:=hf;have K5:=zhd key
 have KO:(6:Int)≤(c:Int):=by omega
 have HK:¬ ((bs.length:Int)<6):=by omega
 have J7:((t:Int)==0)=false:=by rw[beq_eq_false_iff_ne];dsimp only at Kp;omega
 obtain ⟨L,hL⟩:∃ L,zcL T (bs.drop 6) 6=L:=⟨_,rfl⟩;have HB:=zhd hB;have HT:=zhd hT;dsimp only;rw[hL];have HL:=zhd hL;clear key htl hp Hg H0 Hd h hB hc He Hc Hq H2 hd hT Kp hL
 have J8:w.heap.size<(w.alloc (.cells #[.int .i64 0,.slice none 0 0,.int .i64 0] 121)).heap.size:=Hh.lt
 refine (callsIn_wd (ro:=none) (n:=9)).1 ?_
 refine callsIn_of_wp_marks Tryz.func295 rfl trivial ?_ rfl
 simp only[Tryz.ntmps295,List.size_toArray,xC,P6,Pj,Nat.reduceSub,Array.replicate_succ,Array.replicate_zero,P4,List.append_toArray,xI,P5]
 gi_wp2_with (refine ⟨trivial,?_⟩;gi_at_call 167;refine (callsIn_wd.2 K5.out).mono ?_;rintro e w1 ⟨vr,rfl,-,H3⟩;have H4:=Hh.ext H3;have Kf:=zhd H3;clear H3;obtain ⟨g0,g1,g2,f0,f1,f2⟩:=zbi H4)
 have Hk:=zbj H4 (.int .i64 t) (.slice none 0 0) (.int .i64 6)
 have Hp:Ext w (((w1.setCell ⟨w.heap.size,0,none⟩ (.int .i64 t)).setCell ⟨w.heap.size,1,none⟩ (.slice none 0 0)).setCell ⟨w.heap.size,2,none⟩ (.int .i64 6)):=zcA (xT hX Kf.out) (xN _) _ _ _
 clear g0 g1 g2 f0 f1 f2 H4 Kf
 generalize (((w1.setCell ⟨w.heap.size,0,none⟩ (.int .i64 t)).setCell ⟨w.heap.size,1,none⟩ (.slice none 0 0)).setCell ⟨w.heap.size,2,none⟩ (.int .i64 6))=w2 at *
 refine ⟨trivial,?_⟩
 refine (callsIn_wd.2 (zoe _ _ _ _)).mono ?_
 rintro e w3 ⟨rfl,rfl⟩
 have qB:Boxed (w2.alloc (.cells #[.slice (some ⟨b,H5,none⟩) bs.length c] 38)) w2.heap.size 38 (.slice (some ⟨b,H5,none⟩) bs.length c):=Boxed.new _ _ _
 have Ki:Ext w (w2.alloc (.cells #[.slice (some ⟨b,H5,none⟩) bs.length c] 38)):=xA Hp _
 have hb3:=Hk.alloc (.cells #[.slice (some ⟨b,H5,none⟩) bs.length c] 38)
 have h0:ScI w t [] (w2.alloc (.cells #[.slice (some ⟨b,H5,none⟩) bs.length c] 38)):=⟨_,hb3,Pa _ _ _ _,Ki⟩
 have J3:w.heap.size<w2.heap.size:=Hk.lt
 have Km:(w2.alloc (.cells #[.slice (some ⟨b,H5,none⟩) bs.length c] 38)).heap.size=w2.heap.size+1:=by simp
 clear Hk hb3 Hp
 gi_wp2
 generalize w2.alloc (.cells #[.slice (some ⟨b,H5,none⟩) bs.length c] 38)=w3 at *
 refine zdO (fun TT HU=>?_)
 refine zbN (a:=⟨TT,[]⟩) (by subst HU;rfl) (enters_of Tryz.func297 (by kernel_rfl) rfl)
  (fun W1 hb hs=>zmW (T:=T) w W1 _ bs HB.out hl (fun q u hq=>Ext.cell (xT Ki hb) hq) HT.out w2.heap.size w.heap.size w.heap.size (qB.kept (row:=none) (Ext.grown hb none) (by simp)) (by omega) (xN _) (xN _))
  (fun k o h=>h.elim) (fun k o h=>h.1) (fun x av W h=>by rw[h.1];rfl)
  (ScI w t) (fun _ _ _=>False) ?hI (fun _ _ _ _ h _=>h) h0
  (fun x a' W=>∃ q,Blk W q 79 #[.int .i64 x.2.t,.int .i64 x.2.k,.int .i64 x.2.v]∧a'=⟨(((TT.setIfInBounds 36 (.int .i64 x.1)).setIfInBounds 37 (.agg #[.int .i64 x.2.t,.int .i64 x.2.k,.int .i64 x.2.v])).setIfInBounds 6 (.int .i64 x.1)).setIfInBounds 7 (.pointer (some ⟨q,0,none⟩)),[]⟩)
  ?hAx ?assign ?body ?done (fun _ _ _ _ _ _ h _=>h.elim)
 case hI =>
  rintro s X Y ⟨v1,hv,hr,hB⟩ hm
  refine ⟨v1,hm.same _ _ hv ?_,hm.ownsRow hr ?_,hm.belowOf hB ?_ (xN _)⟩
  ·rintro (h | h)
   ·exact h
   ·cases h.2
  ·rintro k Kz _ (h | h)
   ·exact h
   ·cases h.2
  ·rintro k o hk (h | h)
   ·exact h
   ·have:=h.1;omega
 case hAx =>
  rintro x a' X Y ⟨q,hq,rfl⟩ hm
  refine ⟨q,hm.same _ _ hq ?_,rfl⟩
  rintro (h | h)
  ·exact h
  ·cases h.2
 case assign =>
  rintro l' H6 x Kd W av K' hx hi Kb ⟨rfl,Ks⟩ hK;obtain ⟨v1,hv,hr,hB⟩:=hi
  have Hi:Hid (ScI w t H6 (W.alloc (.cells #[.int .i64 x.2.t,.int .i64 x.2.k,.int .i64 x.2.v] 79))):=⟨v1,hv.alloc _,hr.alloc _,xA hB _⟩
  have HQ:=zhd (Pk W 79 #[.int .i64 x.2.t,.int .i64 x.2.k,.int .i64 x.2.v]);have Hx:=zhd hx;clear hx hv hr hB;subst HU
  gi_wp2
  exact hK _ _ (Kept.refl.alloc _) Hi.out ⟨W.heap.size,HQ.out,rfl⟩
 case body =>
  rintro l' H6 x Kd a' W hx J4 hr ⟨v1,hv,H1,hB⟩ Kb ⟨q,hq,rfl⟩
  have Hg:(H6.map (·.2)).length+1≤200000:=by
   have h3:=zrJ (T:=T) (bs.drop 6) 6;rw[hx,xL,xC,P0] at h3;rw[List.length_map];omega
  have Ko:(H6++[x]).map (·.2)=H6.map (·.2)++[x.2]:=by simp
  have Ht:zg9 6 (H6++[x])=x.1:=zpz H6 x 6
  have Kx:=zhd Ko;have K4:=zhd Ht;have Hx:=zhd hx;clear hx Ko Ht
  generalize H6.map (·.2)=P at *
  generalize zg9 6 H6=lp at *
  obtain ⟨A1,H7,rfl,_,_⟩:=xO (xW H1);have K9:=hv.not_row (e:=79) (by decide) H1;obtain ⟨g0,g1,g2,_,_,_⟩:=zbi hv;obtain ⟨p0,p1,p2,_,_,_⟩:=zbi hq;obtain ⟨i0,hi,HY,HZ,K0⟩:=info_parts zg7;have K7:=zqU W x.2
  have Hj:OwnE (W.alloc (.cells #[.int .i64 x.2.t,.int .i64 x.2.k,.int .i64 x.2.v] 79)) w.heap.size (.slice A1 P.length H7) P:=H1.alloc _
  have Kq:=hv.alloc (.cells #[.int .i64 x.2.t,.int .i64 x.2.k,.int .i64 x.2.v] 79)
  have KK:w.heap.size≤(W.alloc (.cells #[.int .i64 x.2.t,.int .i64 x.2.k,.int .i64 x.2.v] 79)).heap.size:=Nat.le_of_lt Kq.lt
  subst HU
  gi_wp2_with (gi_at_builtin;refine zbV _ rfl (.tmp 39) (.tmp 41) 54 rfl w.heap.size 79 i0 _ 3 24 Tryz.underlying54 hi HY HZ K0 rfl (by decide) _ P.length (zap P) rfl Hj _ 1 (zap [x.2]) rfl K7 (zhm _) (by unfold maxLen;omega) (by omega) KK ?_;intro v' w4 H9 H8;obtain ⟨A5,c5,rfl,_,_⟩:=xO (xW H9);have Kc:=Kq.kept H8 K9;obtain ⟨y0,y1,y2,z0,z1,z2⟩:=zbi Kc)
  have o1:=H9.kept (zab w4 w.heap.size 1 (.slice A5 (P.length+1) c5)) (.inr (Kc.not_row (by decide) H9).symm);have Kr:=Kc.set 1 (.slice A5 (P.length+1) c5);have o2:=o1.kept (zab _ w.heap.size 2 (.int .i64 x.1)) (.inr (Kr.not_row (by decide) o1).symm);have KZ:=Kr.set 2 (.int .i64 x.1)
  refine ⟨(((Kept.refl.alloc _).grown H8 (fun k o ek ho=>?_)).setCell (fun o ho _=>?_) _).setCell (fun o ho _=>?_) _,.slice A5 (P.length+1) c5,?_,?_,?_⟩
  ·obtain ⟨Kz,K6⟩:=zco H1 ek
   rw[ho] at K6;cases K6
   rintro (⟨_,_,h⟩ | ⟨_,h⟩)
   ·rcases h with h | h
    ·have:=(H1.lt k ek).1
     omega
    ·exact h rfl
   ·cases h
  ·rw[show W.heap[w.heap.size]?=_ from hv] at ho;cases ho
   rintro (⟨_,h,_⟩ | ⟨_,h⟩)
   ·exact h rfl
   ·cases h
  ·rw[show W.heap[w.heap.size]?=_ from hv] at ho;cases ho
   rintro (⟨_,h,_⟩ | ⟨_,h⟩)
   ·exact h rfl
   ·cases h
  ·rw[K4.out]
   exact KZ
  ·rw[Kx.out]
   have HJ:P.length+1=(P++[x.2]).length:=by simp
   rw[HJ] at o2 ⊢
   unfold OwnE
   have KQ:zap (P++[x.2])=zap P++zap [x.2]:=by simp[zap]
   rw[KQ]
   exact o2
  ·have KE:Ext w w4:=Ext.grownOwn (xA hB (.cells #[.int .i64 x.2.t,.int .i64 x.2.k,.int .i64 x.2.v] 79)) Hj H8
   exact (Below.setCell (p:=⟨w.heap.size,1,none⟩) KE (xN _) _).setCell (p:=⟨w.heap.size,2,none⟩) (xN _) _
 case done =>
  rintro D W hD ⟨v1,hv,H1,hB⟩ hK;rw[HL.out] at hv H1;obtain ⟨P,hP⟩:∃ P,L.map (·.2)=P:=⟨_,rfl⟩;obtain ⟨lp,Ht⟩:∃ lp,zg9 6 L=lp:=⟨_,rfl⟩;rw[hP] at H1;rw[Ht] at hv;have HP:=zhd hP;have K4:=zhd Ht;clear hP Ht;obtain ⟨A1,H7,rfl,_,_⟩:=xO (xW H1);obtain ⟨g0,g1,g2,f0,f1,f2⟩:=zbi hv;subst HU
  gi_wp2
  have KJ:Blk (zdt W w.heap.size (.int .i64 t) (.slice A1 P.length H7) (.int .i64 lp)) w.heap.size 121 #[.int .i64 t,.slice A1 P.length H7,.int .i64 lp]:=zbj hv _ _ _
  have KV:=zea hv (by decide:(121:TypeId)≠79) H1 (.int .i64 t) (.slice A1 P.length H7) (.int .i64 lp)
  have KH:Ext w (zdt W w.heap.size (.int .i64 t) (.slice A1 P.length H7) (.int .i64 lp)):=zcA hB (xN _) _ _ _
  have Kj:(zdt W w.heap.size (.int .i64 t) (.slice A1 P.length H7) (.int .i64 lp)).heap[D]?=some (.deferred (some [])):=zaC (zaC (zaC hK rfl ⟨w.heap.size,0,none⟩ _) rfl ⟨w.heap.size,1,none⟩ _) rfl ⟨w.heap.size,2,none⟩ _
  have KM:Blk ((zdt W w.heap.size (.int .i64 t) (.slice A1 P.length H7) (.int .i64 lp)).putObj D (.deferred none)) w.heap.size 121 #[.int .i64 t,.slice A1 P.length H7,.int .i64 lp]:=(World.putObj_heap_other (by omega)).trans KJ
  refine zbc Kj (.tuple #[.agg #[.int .i64 t,.slice A1 P.length H7,.int .i64 lp],.int .i64 0]) (zeh _ _ _ _ _ rfl rfl KM rfl) ?_
  refine ⟨.slice A1 P.length H7,by rw[K4.out],?_,zaq KH (by omega) _⟩
  dsimp only;rw[HP.out]
  exact ownsRow_putObj KV (.deferred none) Kj rfl
theorem zqs (v:Value) (bs:List UInt8) (w:World) (hB:Bs w v bs) (hl:bs.length≤2000000) (hT:TabW T w):Calls Tryz.prog 295 #[v] w (zgS w (zcD T bs)):=by
 by_cases h:(zcD T bs).err=11
 ·exact zqt v bs w hB h
 ·exact zsi v bs w hB hl hT h
open Go.RowKit Go.Mv
theorem mcEith1a0 {P:Prop} (h:P:=by
 go_wp2_with fail
 refine key.out.mono ?_
 rintro e w1 ⟨vl,rfl,HM,H3⟩
 have Hm:OwnE w1 _ vl r.log:=HM
 obtain ⟨A1,c1,rfl,_,_⟩:=xO Hm.es;have H4:=hb.ext H3;obtain ⟨g0,g1,g2,f0,f1,f2⟩:=zbi H4;go_wp2_with fail;have Hu:=zea H4 (by decide:(121:TypeId)≠79) HM (.int .i64 r.first) (.slice A1 r.log.length c1) (.int .i64 r.used)
 refine bodyPost_ret (zii rfl _ _ _ _ _ rfl rfl (zbj H4 _ _ _) rfl) rfl ⟨_,rfl,zai Hu hX.size,zcA (xT hX H3) (Nat.le_succ _) _ _ _⟩):P:=h
variable {T:Tab}
theorem zii {fn:Func} {p q:Tmp} (hr:fn.results = #[.cell p 121,.tmp q]) (tmps:Array Value) (W:World) (b:Nat) (cs:Array Value) (u:Value) (hp:tmps.getD p undef=.pointer (some ⟨b,0,none⟩)) (hq:tmps.getD q undef=u) (hb:Blk W b 121 cs) (hs:cs.size=3):(results fn tmps).run Tryz.prog W=.ok (.tuple #[.agg cs,u]) W:=by
 have hl:=hb.load (P:=Tryz.prog) ztF rfl (by rw[hs];kernel_rfl)
 have KW:tmps[p]?.getD undef=.pointer (some ⟨b,0,none⟩):=by simpa using hp
 have KX:tmps[q]?.getD undef=u:=by simpa using hq
 simp[results,hr,KW,KX,asAddr,hl]
def fmtMap:Array MapEntry:=#[{ key:=.int .i64 1,val:=.iface 228 (.agg #[]),born:=0 },{ key:=.int .i64 2,val:=.iface 229 (.agg #[]),born:=1 }]
theorem zuT (w:World) (es:Array MapEntry) (c:Nat) (n:Int) (v:Value) (hn:Pl (.int .i64) (.int .i64 n) es.toList 0=some none) :
  (Instr.mapUpdate 197 (.map (some w.heap.size)) (.int .i64 n) v).run Tryz.prog (w.alloc (.map es c))=.ok () (w.alloc (.map (es.push { key:=.int .i64 n,val:=v,born:=c }) (c+1))) :=
 zdT w .i64 Tryz.underlying197 Tryz.underlying3 es c n v hn
theorem zgi (w:World):Calls Tryz.prog 156 #[] w fun e w'=>e=.returned (.map (some w.heap.size))∧w.alloc (.map fmtMap 2)=w':=by
 have J5:=@run_makeMap Tryz.prog;have h0:=zuT w #[] 0 1 (.iface 228 (.agg #[])) rfl;have h1:=zuT w #[{ key:=.int .i64 1,val:=.iface 228 (.agg #[]),born:=0 }] 1 2 (.iface 229 (.agg #[])) rfl;simp only[P4,xI,P5,Pj] at h0 h1
 go_enter Tryz.func156,Tryz.ntmps156
 go_wp2
 go_ret
 exact ⟨rfl,rfl⟩
theorem zms (f:Int):Pl (.int .i64) (.int .i64 f) fmtMap.toList 0=some (if f=1 then some (0,.iface 228 (.agg #[])) else if f=2 then some (1,.iface 229 (.agg #[])) else none):=by
 by_cases h1:f=1
 ·subst h1;rfl
 ·by_cases h2:f=2
  ·subst h2;rfl
  ·have e1:(f==1)=false:=by simp[h1]
   have e2:(f==2)=false:=by simp[h2]
   rw[if_neg h1,if_neg h2]
   simp[fmtMap,Pl,Instr.sameNow,e1,e2]
theorem zsQ (W:World) (r:Nat) (h:W.heap[r]?=some (.map fmtMap 2)) (f:Int) :
  (Pm 197 (.map (some r)) (.int .i64 f) true).run Tryz.prog W=.ok (.tuple #[if f=1 then .iface 228 (.agg #[]) else if f=2 then .iface 229 (.agg #[]) else .nilIface,.bool (decide (f=1∨f=2))]) W ∧
  (Pm 197 (.map (some r)) (.int .i64 f) false).run Tryz.prog W=.ok (if f=1 then .iface 228 (.agg #[]) else if f=2 then .iface 229 (.agg #[]) else .nilIface) W:=by
 have k1:=zhG (P:=Tryz.prog) W .i64 Tryz.underlying197 Tryz.underlying3 fmtMap 2 f .nilIface (by kernel_rfl) h _ (zms f);have k2:=zgG (P:=Tryz.prog) W .i64 Tryz.underlying197 Tryz.underlying3 fmtMap 2 f .nilIface (by kernel_rfl) h _ (zms f);rw[k1,k2]
 by_cases h1:f=1
 ·subst h1;exact ⟨rfl,rfl⟩
 ·by_cases h2:f=2
  ·subst h2;exact ⟨rfl,rfl⟩
  ·simp[h1,h2]
theorem mth (w:World) :
  (method 272 228 (.agg #[]) "moult/either.file").run Tryz.prog w=.ok (292,.agg #[]) w∧(method 272 229 (.agg #[]) "moult/either.file").run Tryz.prog w=.ok (299,.agg #[]) w ∧
  (method 272 228 (.agg #[]) "moult/either.scan").run Tryz.prog w=.ok (294,.agg #[]) w∧(method 272 229 (.agg #[]) "moult/either.scan").run Tryz.prog w=.ok (301,.agg #[]) w ∧
  (method 272 228 (.agg #[]) "moult/either.more").run Tryz.prog w=.ok (293,.agg #[]) w∧(method 272 229 (.agg #[]) "moult/either.more").run Tryz.prog w=.ok (300,.agg #[]) w:=by
 refine ⟨?_,?_,?_,?_,?_,?_⟩ <;> kernel_rfl
theorem zuY (w:World):(w.alloc (.map fmtMap 2)).heap[w.heap.size]?=some (.map fmtMap 2):=World.alloc_heap_new _ _
def zc4 (T:Tab) (b:List UInt8) (f:Int):zf1:=if f=1 then zcD T b else if f=2 then zc2 b else ⟨2,0,[],0,(0,0)⟩
theorem zn2 (v:Value) (bs:List UInt8) (w:World) (hB:Bs w v bs) (hl:bs.length≤2000000) (hT:TabW T w):Calls Tryz.prog 294 #[.agg #[],v] w (zgS w (zcD T bs)):=by
 have HF:Ext w (w.alloc (.cells #[] 228)):=xA (xR _) _
 have hX:Ext w ((w.alloc (.cells #[] 228)).alloc (.cells #[.int .i64 0,.slice none 0 0,.int .i64 0] 121)):=xA HF _
 have hb:=Pk (w.alloc (.cells #[] 228)) 121 #[.int .i64 0,.slice none 0 0,.int .i64 0];rw[xS] at hb;have key:=zhd (zqs (T:=T) v bs _ (hB.ext hX) hl (hT.ext hX));obtain ⟨A,c,rfl,_,_⟩:=xO hB;clear hB hT;obtain ⟨r,hr⟩:∃ r,zcD T bs=r:=⟨_,rfl⟩
 rw[hr] at key ⊢
 go_enter Tryz.func294,Tryz.ntmps294
 exact mcEith1a0
theorem zlT (v:Value) (bs:List UInt8) (w:World) (hB:Bs w v bs) (hl:bs.length≤2000000):Calls Tryz.prog 301 #[.agg #[],v] w (zgS w (zc2 bs)):=by
 have HF:Ext w (w.alloc (.cells #[] 229)):=xA (xR _) _
 have hX:Ext w ((w.alloc (.cells #[] 229)).alloc (.cells #[.int .i64 0,.slice none 0 0,.int .i64 0] 121)):=xA HF _
 have hb:=Pk (w.alloc (.cells #[] 229)) 121 #[.int .i64 0,.slice none 0 0,.int .i64 0];rw[xS] at hb;have key:=zhd (zsj v bs _ (hB.ext hX) hl);obtain ⟨A,c,rfl,_,_⟩:=xO hB;clear hB;obtain ⟨r,hr⟩:∃ r,zc2 bs=r:=⟨_,rfl⟩
 rw[hr] at key ⊢
 go_enter Tryz.func301,Tryz.ntmps301
 exact mcEith1a0
theorem mcEith2a0 {P:Prop} (h:P:=by
 rw[hr] at key ⊢
 go_enter Tryz.func119,Tryz.ntmps119
 go_wp2_with (go_at_call 156;refine (zgi _).mono ?_;rintro e w' ⟨rfl,rfl⟩)
 refine key.out.mono ?_
 rintro e w1 ⟨vl,rfl,HM,H3⟩
 have Hm:OwnE w1 _ vl r.log:=HM
 obtain ⟨A1,c1,rfl,_,_⟩:=xO Hm.es;have Hk:=H4.ext H3;obtain ⟨g0,g1,g2,f0,f1,f2⟩:=zbi Hk;go_wp2_with fail;have Hu:=zea Hk (by decide:(121:TypeId)≠79) HM (.int .i64 r.first) (.slice A1 r.log.length c1) (.int .i64 r.used)
 exact bodyPost_ret (zii rfl _ _ _ _ _ rfl rfl (zbj Hk _ _ _) rfl) rfl ⟨_,rfl,zai Hu hX.size,zcA (xT hX H3) (xN _) _ _ _⟩):P:=h
attribute [local go_sem] Po
variable {T:Tab}
theorem zrM {b:List UInt8} {f:Int} (h:¬ (f=1∨f=2)):zc4 T b f=⟨2,0,[],0,(0,0)⟩:=by
 unfold zc4
 rw[if_neg (fun q=>h (.inl q)),if_neg (fun q=>h (.inr q))]
theorem zqu (v:Value) (bs:List UInt8) (f:Int) (w:World) (hB:Bs w v bs) (hl:bs.length≤2000000) (hT:TabW T w):Calls Tryz.prog 119 #[v,.int .i64 f] w (zgS w (zc4 T bs f)):=by
 have hb:=Pk w 121 #[.int .i64 0,.slice none 0 0,.int .i64 0]
 have HF:Ext w (w.alloc (.cells #[.int .i64 0,.slice none 0 0,.int .i64 0] 121)):=xA (xR _) _
 have hX:Ext w ((w.alloc (.cells #[.int .i64 0,.slice none 0 0,.int .i64 0] 121)).alloc (.map fmtMap 2)):=xA HF _
 have H4:=hb.alloc (.map fmtMap 2);obtain ⟨Hb,_⟩:=zsQ _ _ (zuY (w.alloc (.cells #[.int .i64 0,.slice none 0 0,.int .i64 0] 121))) f;rw[xS] at Hb;obtain ⟨A,c,rfl,_,_⟩:=xO hB
 by_cases h1:f=1
 ·subst h1
  have hr:zc4 T bs 1=zcD T bs:=rfl
  rw[hr];have key:=zhd (zn2 (T:=T) _ bs _ (hB.ext hX) hl (hT.ext hX));clear hB hT hr;simp only[if_true,true_or,decide_true] at Hb
  have hm:=fun w=>(mth w).2.2.1
  obtain ⟨r,hr⟩:∃ r,zcD T bs=r:=⟨_,rfl⟩
  exact mcEith2a0
 ·by_cases h2:f=2
  ·subst h2
   have hr:zc4 T bs 2=zc2 bs:=rfl
   rw[hr];have key:=zhd (zlT _ bs _ (hB.ext hX) hl);clear hB hT hr
   have KT:(Pm 197 (.map (some (w.heap.size+1))) (.int .i64 2) true).run Tryz.prog ((w.alloc (.cells #[.int .i64 0,.slice none 0 0,.int .i64 0] 121)).alloc (.map fmtMap 2))=.ok (.tuple #[.iface 229 (.agg #[]),.bool true]) ((w.alloc (.cells #[.int .i64 0,.slice none 0 0,.int .i64 0] 121)).alloc (.map fmtMap 2)):=Hb
   have hm:=fun w=>(mth w).2.2.2.1
   clear Hb h1;obtain ⟨r,hr⟩:∃ r,zc2 bs=r:=⟨_,rfl⟩
   exact mcEith2a0
  ·have hr:zc4 T bs f=⟨2,0,[],0,(0,0)⟩:=zrM (by omega)
   rw[hr]
   have hd:decide (f=1∨f=2)=false:=by simp[h1,h2]
   rw[if_neg h1,if_neg h2,hd] at Hb;clear hB hT hd hr;obtain ⟨g0,g1,g2,f0,f1,f2⟩:=zbi H4
   go_enter Tryz.func119,Tryz.ntmps119
   go_wp2_with (go_at_call 156;refine (zgi _).mono ?_;rintro e w' ⟨rfl,rfl⟩)
   exact bodyPost_ret (zii rfl _ _ _ _ _ rfl rfl H4 rfl) rfl ⟨_,rfl,Pa _ _ _ _,hX⟩
variable {T:Tab}
theorem znG (x:List UInt8):zaM T (zaH T x)=some x:=by
 have hl:(zaH T x).length-4=x.length:=by rw[zj9];omega
 unfold zaM;rw[hl]
 have e1:(zaH T x).take x.length=x:=by unfold zaH;exact List.take_left
 have e2:(zaH T x).drop x.length=zc1 (zce T 0 x):=by unfold zaH;exact List.drop_left
 rw[e1,e2,if_pos rfl]
end Go.Proofs.YtgonhdeochgkoaaGreatDoor

namespace Go.Mv
open Go.RowKit
theorem zcK {P:Program} (w:World) {o:Oper} {a:Act} {K:Act→World→Prop} {Q:Exit→Act→World→Prop} (s x:Operand) (t:TypeId)
  (ho:o.op=.call { callee:=.builtin .append,args:=#[s,x],argTypes:=#[t,t] })
  (base:Nat) (e:TypeId) (i:TypeInfo) (z:Value) (size bytes:Nat) (ht:P.underlying t=some (.slice e)) (hi:P.info? e=some i) (hz:i.zero=some z)
  (HO:i.size=size) (KN:i.bytes=bytes) (J1:z.cells.size=size) (Kb:0<size)
  (v:Value) (n:Nat) (xs:List Value) (hs:a.eval s=v) (Ka:w.ownsRow base e size v n xs)
  (vx:Value) (m:Nat) (news:List Value) (hx:a.eval x=vx) (hr:SlR w size vx m news) (h1:∀ u∈news,u.oneCell'=true)
  (KD:n+m≤maxLen) (Hl:(n+m)*bytes≤140737488355328) (HH:base≤w.heap.size)
  (h:∀ v' w',w'.ownsRow base e size v' (n+m) (xs++news)→w.grownBy w' v.ownBlock→K (a.put o.dst v') w'):Pn P o a w K Q:=by
 obtain ⟨v',w',Ho,h2,h3⟩:=za6 (P:=P) w base t o.type e i z size bytes ht hi hz HO KN J1 Kb v n xs Ka vx m news hr h1 KD Hl HH;unfold Pn execOp;simp only[ho,resolve,invoke,builtin,Sem.run_bind,Sem.run_pure,Result.andThen_ok,List.map_toArray,P8,P9,hs,hx,Ho]
 exact h v' w' h2 h3
theorem zlS {P:Program} (w:World) {o:Oper} {a:Act} {K:Act→World→Prop} {Q:Exit→Act→World→Prop} (src dst e:TypeId) (x:Operand) (ho:o.op=.convert src dst x)
  (hs:P.underlying src=some (.slice e)) (he:P.underlying e=some (.int .u8)) (hd:P.underlying dst=some .string) {v:Value} {bs:List UInt8} (hx:a.eval x=v) (hb:Bs w v bs)
  (h:K (a.put o.dst (.string ⟨bs.toArray⟩)) w):Pn P o a w K Q:=by
 have Ho:=za7 (P:=P) w src dst e hs he hd hb;unfold Pn execOp;simp only[ho,Sem.run_bind,Sem.run_pure,Result.andThen_ok,hx,Ho]
 exact h
end Go.Mv
namespace Go.Proofs.YtgonhdeochgkoaaGreatDoor
open Go.RowKit Go.Mv
def zbK (x:Nat):Nat:=if x % 2=1 then (x / 2) ^^^ 2197175160 else x / 2
theorem ztx (a b:Nat):(a ^^^ b) / 2=(a / 2) ^^^ (b / 2):=by
 have:=Pc (a:=a) (b:=b) (i:=1)
 simpa [Pd] using this
theorem zlC (a b:Nat):(a ^^^ b) / 16=(a / 16) ^^^ (b / 16):=by
 have:=Pc (a:=a) (b:=b) (i:=4)
 simpa [Pd] using this
theorem zty (a b:Nat):(a ^^^ b) % 2=(a % 2) ^^^ (b % 2):=Ph (n:=1)
theorem zuA (a b:Nat):(a ^^^ b) % 16=(a % 16) ^^^ (b % 16):=Ph (n:=4)
theorem zf6 (a b:Nat):zbK (a ^^^ b)=zbK a ^^^ zbK b:=by
 unfold zbK;rw[zty,ztx]
 have ha:a % 2=0∨a % 2=1:=by omega
 have hb:b % 2=0∨b % 2=1:=by omega
 rcases ha with ha | ha <;> rcases hb with hb | hb <;> rw[ha,hb] <;> simp
 ·rw[Pb]
 ·rw[Pb,Pb,Pg (b / 2)]
 ·rw[Pb,←Pb 2197175160,Pg 2197175160 (b / 2),Pb,Nat.xor_self,Pf]
theorem zfr (q:Nat):zbK (2*q)=q:=by
 unfold zbK;rw[if_neg (by omega)];omega
theorem zsb (x:Nat):x=(16*(x / 16)) ^^^ (x % 16):=by
 have h1:((16*(x / 16)) ^^^ (x % 16)) / 16=x / 16:=by
  rw[zlC,show x % 16 / 16=0 from by omega,Pf];omega
 have h2:((16*(x / 16)) ^^^ (x % 16)) % 16=x % 16:=by
  rw[zuA,show 16*(x / 16) % 16=0 from by omega,Nat.zero_xor];omega
 omega
theorem zvg (x:Nat):zbK (zbK (zbK (zbK x)))=crcTab.getD (x % 16) 0 ^^^ (x / 16):=by
 have key:∀ r,r<16→zbK (zbK (zbK (zbK r)))=crcTab.getD r 0:=by decide
 conv=>lhs;rw[zsb x]
 rw[zf6,zf6,zf6,zf6,key _ (Nat.mod_lt _ (by decide)),show 16*(x / 16)=2*(2*(2*(2*(x / 16)))) from by omega,zfr,zfr,zfr,zfr,Pg]
theorem zpp (s h:Nat) (hh:h<16):zbK (zbK (zbK (zbK (s ^^^ h))))=zbZ rT s h:=by
 rw[zvg,zlC,show h / 16=0 from by omega,Pf]
 rfl
theorem zsT {x:Nat} (h:x<4294967296):zbK x<4294967296:=by
 unfold zbK
 split
 ·have:(x / 2) ^^^ 2197175160<2^32:=Pi (by omega) (by omega)
  simpa using this
 ·omega
def zkj:Nat→Nat→Nat
 | 0,x=>x
 | k+1,x=>zbK (zkj k x)
theorem zjb (s h:Nat) (hs:s<4294967296) (hh:h<16) (w:World):Calls Tryz.prog 166 #[.int .u32 s,.int .u8 h] w fun e w'=>e=.returned (.int .u32 (zbZ rT s h))∧w=w':=by
 have hx:=zdx s h hs (by omega)
 have J0:s ^^^ h<2^32:=Pi (by omega) (by omega)
 have Hw:=zpp s h hh;obtain ⟨x,Hc⟩:∃ x,s ^^^ h=x:=⟨_,rfl⟩;rw[Hc] at hx J0 Hw
 have KU:(h:Int) % 16=(h:Int):=by omega
 have HD:Hid (zkj 4 x=zbZ rT s h):=Hw
 clear Hw Hc
 go_enter Tryz.func166,Tryz.ntmps166
 go_wp2_with fail
 go_loopw [0,5,6] (fun a i o wr=>∃ k y:Nat,k≤4∧a=.int .u32 y∧i=.int .i64 k∧Hid (zkj k x=y)∧y<4294967296∧w=wr) (fun _ i _ _=>4-(intOf i).toNat)
 case atStart=>exact ⟨0,x,by omega,rfl,rfl,rfl,by omega,rfl⟩
 case round =>
  obtain ⟨k,y,hk,rfl,rfl,Hy,HR,rfl⟩:=hrel
  by_cases hlt:k<4
  ·by_cases ho:y % 2=1
   ·have h1:((y:Int) % 2==1)=true:=by simp;omega
    have KA:(y:Int) % 2=1:=by omega
    have J9:bits .xor .u32 ((y:Int) / 2) 2197175160=(((y / 2) ^^^ 2197175160:Nat):Int):=by simpa using zdx (y / 2) 2197175160 (by omega) (by decide)
    have hn:zbK y=(y / 2) ^^^ 2197175160:=by unfold zbK;rw[if_pos ho]
    have HV:=zsT HR;rw[hn] at HV;have Hn:=zhd hn
    generalize (y / 2) ^^^ 2197175160=z at *
    clear hn ho;go_wp2_with fail
    go_roundw
    case rel=>exact ⟨k+1,z,by omega,rfl,by go_num,by show zbK (zkj k x)=z;rw[Hy.out];exact Hn.out,HV,trivial⟩
    case measure=>simp[intOf];omega
   ·have h1:((y:Int) % 2==1)=false:=by simp;omega
    have KA:(y:Int) % 2=0:=by omega
    have hn:zbK y=y / 2:=by unfold zbK;rw[if_neg ho]
    have Hn:=zhd hn;clear hn ho;go_wp2_with fail
    go_roundw
    case rel=>exact ⟨k+1,y / 2,by omega,by go_num,by go_num,by show zbK (zkj k x)=y / 2;rw[Hy.out];exact Hn.out,by omega,trivial⟩
    case measure=>simp[intOf];omega
  ·obtain rfl:k=4:=by omega
   go_wp2_with fail;go_ret
   exact ⟨by rw[←HD.out,Hy.out];rfl,rfl⟩
theorem zpC {T:Tab} (s:Nat) (a:List UInt8) (b:UInt8):zhj T s (a++[b])=zbZ T (zbZ T (zhj T s a) (b.toNat % 16)) (b.toNat / 16):=by
 have hb:=b.toNat_lt
 have e1:(UInt8.ofNat (b.toNat % 16)).toNat=b.toNat % 16:=by simp;omega
 have e2:(UInt8.ofNat (b.toNat / 16)).toNat=b.toNat / 16:=by simp;omega
 unfold zhj zaP;rw[List.flatMap_append,List.foldl_append,List.flatMap_cons,List.flatMap_nil,List.append_nil,P7,P7,List.foldl_nil,e1,e2]
theorem zmY (s:Nat) (hs:s<4294967296) (v:Value) (bs:List UInt8) (w:World) (h:Bs w v bs) (H2:bs.length≤2000000) :
  Calls Tryz.prog 137 #[.int .u32 s,v] w fun e w'=>e=.returned (.int .u32 (zce rT s bs))∧Ext w w':=by
 obtain ⟨A,c,rfl,h1,h2⟩:=xO h;have HP:=zhd h;clear h;have hn:=ziJ s hs;have HV:=zfv s hs;unfold zce
 generalize 4294967295 ^^^ s=s0 at *
 go_enter Tryz.func137,Tryz.ntmps137
 go_wp2_with fail
 go_loopw [0,5] (fun a i wr=>∃ k y:Nat,k≤bs.length∧a=.int .u32 y∧i=.int .i64 k∧Hid (zhj rT s0 (bs.take k)=y)∧y<4294967296∧Ext w wr) (fun _ i _=>bs.length-(intOf i).toNat)
 case atStart=>exact ⟨0,s0,by omega,rfl,rfl,rfl,HV,xR _⟩
 case round =>
  obtain ⟨k,y,hk,rfl,rfl,Hy,HR,hE⟩:=hrel
  by_cases hlt:k<bs.length
  ·obtain ⟨_,b,H5,rfl,hc⟩:=Bs.at_ (HP.out.ext hE) (by omega)
   have He:=hc k hlt;have hq:=bs[k].toNat_lt
   have Hw:zhj rT s0 (bs.take (k+1))=zbZ rT (zbZ rT y (bs[k].toNat % 16)) (bs[k].toNat / 16):=by
    rw[List.take_succ_eq_append_getElem hlt,zpC,Hy.out]
   have HD:=zhd Hw;clear hc Hw
   generalize bs[k].toNat=q at *
   have HJ:=zjQ (T:=rT) (q % 16) HR;have K8:=zjQ (T:=rT) (q / 16) HJ
   have k1:=fun W=>zjb y (q % 16) HR (by omega) W
   have k2:=fun W=>zjb (zbZ rT y (q % 16)) (q / 16) HJ (by omega) W
   obtain ⟨y1,Kt⟩:∃ y1,zbZ rT y (q % 16)=y1:=⟨_,rfl⟩;rw[Kt] at k1 k2 K8 HD;obtain ⟨y2,Hz⟩:∃ y2,zbZ rT y1 (q / 16)=y2:=⟨_,rfl⟩;rw[Hz] at k2 K8 HD
   have e1:(q:Int).tmod 16=((q % 16:Nat):Int):=by rw[Int.tmod_eq_emod_of_nonneg (by omega)];omega
   have e2:IntKind.u8.wrap ((q:Int) / 16)=((q / 16:Nat):Int):=by rw[IntKind.wrap_u8];omega
   have e3:(q:Int).tdiv 16=((q / 16:Nat):Int):=by rw[Int.tdiv_eq_ediv_of_nonneg (by omega)];omega
   have e4:IntKind.u8.wrap ((q / 16:Nat):Int)=((q / 16:Nat):Int):=by rw[IntKind.wrap_u8];omega
   generalize q % 16=q0 at *
   generalize q / 16=q1 at *
   have K1:=zhd k1;have K2:=zhd k2;clear k1 k2 Kt Hz HJ;go_wp2_with fail
   go_region_held3 (fun w'=>w'.cell? ⟨b,H5+k,none⟩=some (.int .u8 q)) (first | go_keep | assumption)
    (first
      | (go_at_call 166;with_reducible refine (K1.out _).mono ?_;rintro e w2 ⟨rfl,rfl⟩)
      | (go_at_call 166;with_reducible refine (K2.out _).mono ?_;rintro e w3 ⟨rfl,rfl⟩))
   go_wp2_with fail
   go_roundw
   case rel=>exact ⟨k+1,y2,by omega,rfl,by go_num,HD.out,K8,xD hE⟩
   case measure=>simp[intOf];omega
  ·obtain rfl:k=bs.length:=by omega
   have Hz:=Hy.out;rw[List.take_length] at Hz;have Ky:=zhd Hz;have J6:=ziJ y HR;clear Hz Hy;go_wp2_with fail;go_ret
   exact ⟨by rw[Ky.out];rfl,hE⟩
theorem zpK (p:Nat) (A:Option Addr) (c:Nat) (bs:List UInt8) (w:World) (hc:w.cell? ⟨p,0,none⟩=some (.slice A bs.length c)) (h:Bs w (.slice A bs.length c) bs) (H2:bs.length≤2000000) :
  Calls Tryz.prog 99 #[.slice (some ⟨p,0,none⟩) 1 1] w fun e w'=>e=.returned (.int .u32 (zce rT 0 bs))∧Ext w w':=by
 have HP:=zhd h;clear h
 go_enter Tryz.func99,Tryz.ntmps99
 go_wp2_with fail
 go_loopw [3,4] (fun s i wr=>∃ k sn:Nat,k≤1∧s=.int .u32 sn∧i=.int .i64 k∧Hid (sn=if k=0 then 0 else zce rT 0 bs)∧Ext w wr) (fun _ i _=>1-(intOf i).toNat)
 case atStart=>exact ⟨0,0,by omega,rfl,rfl,rfl,xR _⟩
 case round =>
  obtain ⟨k,sn,hk,rfl,rfl,Hs,hE⟩:=hrel;have K6:=hE.cell hc
  by_cases hlt:k<1
  ·obtain rfl:k=0:=by omega
   obtain rfl:sn=0:=Hs.out
   go_wp2_with (go_at_call 137;refine (zmY 0 (by decide) _ bs wr (HP.out.ext hE) H2).mono ?_;rintro e w1 ⟨rfl,H3⟩)
   go_roundw
   case rel=>exact ⟨1,zce rT 0 bs,by omega,rfl,rfl,rfl,xT hE H3⟩
   case measure=>simp[intOf]
  ·obtain rfl:k=1:=by omega
   obtain rfl:sn=zce rT 0 bs:=Hs.out
   go_wp2_with fail;go_ret
   exact ⟨rfl,hE⟩
theorem zmX (s:Nat) (hs:s<4294967296) (w:World):Calls Tryz.prog 98 #[.int .u32 s] w fun e w'=>e=.returned (.agg ((zc1 s).map bv).toArray)∧Ext w w':=by
 go_enter Tryz.func98,Tryz.ntmps98
 go_wp2_with fail
 refine bodyPost_ret (results_cell_row rfl _ _ _ 140 _ _ _ rfl (heap_alloc_new _ _) Tryz.underlying140 rfl (by kernel_rfl)) rfl ⟨?_,xA (xR _) _⟩
 congr 3
 simp[zc1,bv]
 omega
theorem zku (v:Value) (bs:List UInt8) (w:World) (h:Bs w v bs) (hl:bs.length≤2000000):Calls Tryz.prog 55 #[v] w fun e w'=>∃ A c,e=.returned (.slice A (zaH rT bs).length c)∧OwnB w' w.heap.size (.slice A (zaH rT bs).length c) (zaH rT bs)∧Ext w w':=by
 obtain ⟨A,c,rfl,h1,h2⟩:=xO h;have HB:=zhd h;have Kn:=zhh (T:=rT) 0 bs (by decide);obtain ⟨sm,HX⟩:∃ sm,zce rT 0 bs=sm:=⟨_,rfl⟩;rw[HX] at Kn
 have hps:zaH rT bs=bs++zc1 sm:=by unfold zaH;rw[HX]
 have Kv:=zhd hps;have Kw:=zhd HX;obtain ⟨i0,hi,HY,HZ,K0⟩:=info_parts zb8;obtain ⟨f0,f1,f2,f3,hf⟩:∃ f0 f1 f2 f3:UInt8,zc1 sm=[f0,f1,f2,f3]:=⟨_,_,_,_,rfl⟩;have Hf:=zhd hf;clear h hps HX hf
 go_enter Tryz.func55,Tryz.ntmps55
 go_wp2_with fail
 have Kh:Ext w (w.alloc (.cells #[.slice A bs.length c] 38)):=xA (xR _) _
 refine (zpK w.heap.size A c bs _ (Boxed.new w _ _).cell (HB.out.ext Kh) (by omega)).mono ?_
 rw[Kw.out];rintro e w1 ⟨rfl,H3⟩;go_wp2_with fail
 refine (zmX sm Kn _).mono ?_
 rw[Hf.out];rintro e w2 ⟨rfl,Hp⟩;simp only[P8,P9,bv];go_wp2_with fail
 have HE:Ext w (w2.alloc (.cells #[.int .u8 (f0.toNat:Int),.int .u8 (f1.toNat:Int),.int .u8 (f2.toNat:Int),.int .u8 (f3.toNat:Int)] 140)):=xA (xT Kh (xT H3 Hp)) _
 have hb3:Blk (w2.alloc (.cells #[.int .u8 (f0.toNat:Int),.int .u8 (f1.toNat:Int),.int .u8 (f2.toNat:Int),.int .u8 (f3.toNat:Int)] 140)) w2.heap.size 140 ([f0,f1,f2,f3].map bv).toArray:=Pk w2 _ _
 have h4:Bs (w2.alloc (.cells #[.int .u8 (f0.toNat:Int),.int .u8 (f1.toNat:Int),.int .u8 (f2.toNat:Int),.int .u8 (f3.toNat:Int)] 140)) (.slice (some ⟨w2.heap.size,0,none⟩) 4 4) [f0,f1,f2,f3]:=zdy hb3 rfl (by simp[maxLen])
 refine wp_region_held_drew (S:=fun _=>True) (by kernel_rfl) trivial (fun _=>?_)
 refine tkN 1 rfl ?_;refine tkN 3 rfl ?_
 refine ar1 0 rfl (fun K hK=>?_)
 go_simp
 refine shK hK _ _ trivial (fun _=>?_)
 have Km:(w2.alloc (.cells #[.int .u8 (f0.toNat:Int),.int .u8 (f1.toNat:Int),.int .u8 (f2.toNat:Int),.int .u8 (f3.toNat:Int)] 140)).heap.size=w2.heap.size+1:=by simp
 generalize J2:w2.alloc (.cells #[.int .u8 (f0.toNat:Int),.int .u8 (f1.toNat:Int),.int .u8 (f2.toNat:Int),.int .u8 (f3.toNat:Int)] 140)=w3 at *
 have HN:=zaV w3 [] 5 0 rfl (by simp[maxLen]) HE.size;rw[Km] at HN
 have K3:Ext w3 (w3.alloc (.cells #[] 5)).drew:=xD (xA (xR _) _)
 have HW:=zaf HN (xD (xR (w3.alloc (.cells #[] 5))));have X3:=xT HE K3
 refine ar1 2 rfl (fun K hK=>?_)
 refine zcK _ (.tmp 8) (.tmp 9) 38 (by rfl) w.heap.size 5 i0 (.int .u8 0) 1 1 Tryz.underlying38 hi HY HZ K0 rfl (by decide) _ 0 [] (by rfl) HW _ bs.length (bs.map bv) (by rfl) (HB.out.ext X3) (zcP _) (by unfold maxLen;omega) (by omega) X3.size ?_
 intro v5 w5 Hv Kk
 refine shK hK _ _ trivial (fun _=>?_)
 have X5:Ext w w5:=Ext.grownOwn X3 HW Kk
 have Ku:Ext w3 w5:=by
  refine Below.grown K3 Kk K3.size (fun k ek=>?_)
  have:w2.heap.size+1=k:=by simpa [Value.ownBlock,Act.eval] using ek
  omega
 simp only[Pe,xI] at Hv
 refine ar1 4 rfl (fun K hK=>?_)
 refine zcK _ (.tmp 10) (.tmp 11) 38 (by rfl) w.heap.size 5 i0 (.int .u8 0) 1 1 Tryz.underlying38 hi HY HZ K0 rfl (by decide) _ bs.length (bs.map bv) (by rfl) Hv _ 4 ([f0,f1,f2,f3].map bv) (by rfl) (h4.ext Ku) (zcP _) (by unfold maxLen;omega) (by omega) X5.size ?_
 intro v6 w6 Kl KR
 refine shK hK _ _ trivial (fun _=>?_)
 have X6:Ext w w6:=Ext.grownOwn X5 Hv KR
 refine tkN 5 rfl ?_;refine wpAnyH_done (by kernel_rfl) ?_ _;go_wp2_with fail;go_ret
 have HK:(zaH rT bs).length=bs.length+4:=by unfold zaH;rw[xL,ze6]
 obtain ⟨A6,c6,rfl,_,_⟩:=xO (xW Kl);rw[HK]
 refine ⟨_,_,rfl,?_,X6⟩
 show w6.ownsRow w.heap.size 5 1 _ (zaH rT bs).length ((zaH rT bs).map bv)
 rw[HK,Kv.out,Hf.out,List.map_append]
 exact Kl
def zuC (w:World) (r:Option (List UInt8)) (e:Ending) (w':World):Prop:=(∃ v,e=.returned (.tuple #[v,.bool r.isSome])∧OwnB w' w.heap.size v (r.getD []))∧Ext w w'
theorem zkN {T:Tab} {b:List UInt8} (h:b.length<4):zaM T b=none:=by
 unfold zaM;rw[if_neg];intro e
 have:=congrArg List.length e
 rw[ze6,P0] at this;omega
theorem zml {T:Tab} {b:List UInt8} (h:4≤b.length):zaM T b=if zaH T (b.take (b.length-4))=b then some (b.take (b.length-4)) else none:=by
 unfold zaM zaH
 by_cases e:zc1 (zce T 0 (b.take (b.length-4)))=b.drop (b.length-4)
 ·rw[if_pos e,if_pos (by rw[e,List.take_append_drop])]
 ·rw[if_neg e,if_neg]
  intro e2
  apply e
  have:=congrArg (List.drop (b.length-4)) e2
  rw[List.drop_append_of_le_length (by rw[P1];omega)] at this
  rw[←this,List.drop_of_length_le (by rw[P1];omega),xI]
theorem zmZ (v:Value) (bs:List UInt8) (w:World) (h:Bs w v bs) (hl:bs.length≤2000000):Calls Tryz.prog 56 #[v] w (zuC w (zaM rT bs)):=by
 obtain ⟨A,c,rfl,h1,h2⟩:=xO h
 by_cases h4:bs.length<4
 ·have hn:((bs.length:Int)-4<0):=by omega
  have Hr:=zhd (zkN (T:=rT) h4);clear h
  go_enter Tryz.func56,Tryz.ntmps56
  go_wp2_with fail
  refine wp_region_held_drew (S:=fun _=>True) (by kernel_rfl) trivial (fun _=>?_)
  refine tkN 0 rfl ?_;refine tkN 1 rfl ?_;refine tkN 2 rfl ?_;refine tkS 3 rfl ?_;refine tkS 4 rfl ?_;refine tkS 5 rfl ?_;refine tkS 6 rfl ?_;refine tkS 7 rfl ?_;refine tkS 8 rfl ?_;refine tkS 9 rfl ?_;refine tkS 10 rfl ?_;refine tkN 11 rfl ?_;refine wpAnyH_done (by kernel_rfl) ?_ _;go_wp2_with fail
  go_ret2
  exact ⟨⟨_,by rw[Hr.out];rfl,by rw[Hr.out];exact Pa _ _ _ _⟩,xD (xR _)⟩
 ·obtain ⟨_,b,H5,rfl,_⟩:=Bs.at_ h (by omega)
  obtain ⟨n,hn⟩:∃ n,bs.length-4=n:=⟨_,rfl⟩
  have KL:bs.length=n+4:=by omega
  have Hd:=Bs.take h n (by omega);have hr:=zml (T:=rT) (b:=bs) (by omega);rw[hn] at hr;obtain ⟨p,hp⟩:∃ p,bs.take n=p:=⟨_,rfl⟩
  have Hg:p.length=n:=by rw[←hp,P1];omega
  rw[hp] at Hd hr;have HB:=zhd h;have Ke:=zhd Hd;have Hr:=zhd hr;have Kg:=zhd Hg
  have e1:¬ ((bs.length:Int)-4<0):=by omega
  have e2:(bs.length:Int)-4=(n:Int):=by omega
  have e3:(n:Int)≤(c:Int):=by omega
  have e4:((n:Int)<0)=False:=by simp
  have e5:decide ((n:Int)<0)=false:=by simp
  clear h Hd hr hp Hg
  go_enter Tryz.func56,Tryz.ntmps56
  go_wp2_with fail
  refine wp_region_held_drew (S:=fun W=>Ext w W) (by kernel_rfl) (xD (xR _)) (fun _=>?_)
  refine tkN 0 rfl ?_;refine tkN 1 rfl ?_;refine tkN 2 rfl ?_;refine tkN 3 rfl ?_;refine tkN 4 rfl ?_;refine tkN 5 rfl ?_;refine tkN 8 rfl ?_
  refine zaa (i:=9) (v:=.string ⟨bs.toArray⟩) rfl (by kernel_rfl) (by kernel_rfl) (by kernel_rfl) (fun _ _ _ h=>h) (by rfl) (by assumption) (fun w' hw=>?hc) ?rc
  case hc =>
   have KP:=za7 (P:=Tryz.prog) w' 38 9 5 Tryz.underlying38 Tryz.underlying5 Tryz.underlying9 (HB.out.ext hw);rw[KL] at KP
   go_simp
   try with_reducible rfl
  case' rc=>skip
  try simp only[Act.put,sA,sZ,sS]
  refine ar1 6 rfl (fun K hK=>?_)
  go_simp
  refine (zku _ _ _ (Ke.out.ext (xD (xR _))) (by rw[Kg.out];omega)).mono ?_
  rintro e w2 ⟨A2,c2,rfl,Hu,Hp⟩
  try (go_wp2_with fail)
  have X2:Ext w w2:=xT (xD (xR _)) Hp
  refine shK hK _ _ X2 (fun _=>?_)
  refine ar1 7 rfl (fun K hK=>?_)
  refine zlS _ 38 9 5 (.tmp 14) (by rfl) Tryz.underlying38 Tryz.underlying5 Tryz.underlying9 (by rfl) Hu.bs ?_
  refine shK hK _ _ X2 (fun _=>?_)
  obtain ⟨q,hq⟩:∃ q,zaH rT p=q:=⟨_,rfl⟩
  have HS:Hid (zaM rT bs=if q=bs then some p else none):=by rw[Hid,←hq];exact Hr.out
  rw[hq];clear hq Hu Hr
  by_cases hqb:q=bs
  ·subst hqb
   have HA:Hid (zaM rT q=some p):=by rw[Hid,HS.out,if_pos rfl]
   clear HS;refine tkN 10 rfl ?_;refine tkN 11 rfl ?_;refine wpAnyH_done (by kernel_rfl) ?_ _
   have HW:(w2.alloc (.cells #[] 5)).ownsRow w.heap.size 5 1 (.slice (some ⟨w2.heap.size,0,none⟩) 0 0) 0 []:=zaV w2 [] 5 0 rfl (by simp[maxLen]) X2.size
   go_wp2_with (at_builtin;refine zc9 rfl (.tmp 20) (.tmp 23) rfl w.heap.size _ [] rfl HW _ p rfl (Ke.out.ext (xA X2 _)) (by have:=Kg.out;simp;omega) (by have:=X2.size;simp;omega) ?_;intro A5 c5 w5 Hv KI;have KF:Ext w w5:=KI w (xA X2 _) (xN _);simp only[P6,Pe,xI] at Hv ⊢)
   go_ret2
   exact ⟨⟨_,by rw[HA.out];rfl,by rw[HA.out];exact Hv⟩,KF⟩
  ·have HA:Hid (zaM rT bs=none):=by rw[Hid,HS.out,if_neg hqb]
   have KY:(q==bs)=false:=by simpa using hqb
   clear HS;refine tkN 10 rfl ?_;refine tkN 11 rfl ?_;refine wpAnyH_done (by kernel_rfl) ?_ _;go_wp2_with fail
   go_ret2
   exact ⟨⟨_,by rw[HA.out];rfl,by rw[HA.out];exact Pa _ _ _ _⟩,X2⟩
end Go.Proofs.YtgonhdeochgkoaaGreatDoor
