/- Merged: Rdl2 Lift Files Door13 StoreReadsRow -/
import Derived.Test.YtgonhdeochgkoaaGreatDoorStoreReads35
import Derived.ProofKit
import Derived.OpenShut
import Derived.Carry
import Derived.Deep.Slices
import Derived.ChangeSlices
import Derived.ChangeSame
import Derived.WideKeyArgs
import Derived.Test.YtgonhdeochgkoaaGreatDoorRows
import Derived.Lib.LaidTab
import Derived.LaidMore
import Derived.LaidSub
import Derived.Stop.Joined
import Derived.Deep.DeepHandedRow
import Derived.Test.YtgonhdeochgkoaaGreatDoorCards
import Derived.Test.YtgonhdeochgkoaaGreatDoorTie
import Derived.WalkKit
import Derived.SevenTiedAt
set_option linter.all false
set_option maxHeartbeats 8000000
set_option maxRecDepth 100000
namespace Go.Proofs.YtgonhdeochgkoaaGreatDoor
open Go.RowKit Go.Mv Go.Shelf
theorem zh2 {A B:World} (h:Ext A B) {p:Addr} {v:Value} (hc:A.cell? p=some v):B.cell? p=some v:=h.cell hc
theorem zqF {a b:Option Nat} (h:∀ q,a=some q→b≠some q):a=none∨a≠b:=by
 cases a with
 | none=>exact .inl rfl
 | some q=>exact .inr fun e=>h q rfl e.symm
theorem ztf {a b:Option Nat} (h:∀ q,a=some q→b≠some q):b=none∨b≠a:=by
 cases b with
 | none=>exact .inl rfl
 | some q=>exact .inr fun e=>h q e.symm rfl
theorem zmw (v:Value) (fs:List Fil) (at_:Int) (w:World) (hS:StW w) (hF:Fs w v fs) (hl:fs.length≤2000000) (hbl:∀ f∈fs,f.2.length≤2000000) :
  Calls Tryz.prog 7 #[v,.int .i64 at_] w fun e w'=>e=.returned (.bool true)∧Ext w w':=by
 obtain ⟨A,c,rfl,_,_⟩:=Fs.open_ hF
 have HS:=zhd hS
 have HF:=zhd hF
 have HBL0:=zhd hbl
 have key:=zpa _ fs w hF (by omega)
 have Key:=zhd key
 clear hS hF hbl key
 go_enter Tryz.func7,Tryz.ntmps7
 go_wp2_with fail
 refine Key.out.mono ?_
 rintro e w1 ⟨rfl,hE1⟩
 have HE1:=zhd hE1
 clear hE1 Key
 rcases hg:zeP fs with _ | _
 case true =>
  go_wp2_with fail
  refine (zeE _ (HS.out.ext HE1.out)).mono ?_
  rintro e w2 ⟨rfl,hE2⟩
  go_wp2_with fail
  go_ret
  exact ⟨rfl,Ext.trans HE1.out hE2⟩
 obtain ⟨hl40,hb2⟩:=zsR hg
 have HB2:=zhd hb2
 have hrd:=zeI _ fs w1 (HS.out.ext HE1.out) (HF.out.ext HE1.out) (by omega) (fun f hf=>by have:=hb2 f hf;omega)
 have Hrd:=zhd hrd
 clear hg hb2 hrd
 go_wp2_with fail
 refine Hrd.out.mono ?_
 obtain ⟨⟨er,t,m⟩,hR⟩:∃ r,zaK fs=r:=⟨_,rfl⟩
 rw[hR]
 rintro e w2 ⟨vl,vs,rfl,hes,hss,hE2⟩
 dsimp only at hes hss ⊢
 obtain ⟨Al,cl,rfl,_,_⟩:=SlR.open_ hes
 obtain ⟨As,cs,rfl,_,_⟩:=Sgs.open_ hss
 have hb5:=(Blk.new w2 56 #[.int .i64 t.s.idx,.int .i64 t.s.term,.int .i64 t.s.sum,.int .i64 t.s.lvl,.bool t.s.fin,.slice Al t.log.length cl,.int .i64 t.term,.int .i64 t.vote]).alloc (.cells #[.int .i64 m.next,.int .i64 m.term,.int .i64 m.vote,.int .i64 m.sq,.int .i64 m.sf,.slice As m.segs.length cs] 30)
 have hb6:=Blk.new (w2.alloc (.cells #[.int .i64 t.s.idx,.int .i64 t.s.term,.int .i64 t.s.sum,.int .i64 t.s.lvl,.bool t.s.fin,.slice Al t.log.length cl,.int .i64 t.term,.int .i64 t.vote] 56)) 30 #[.int .i64 m.next,.int .i64 m.term,.int .i64 m.vote,.int .i64 m.sq,.int .i64 m.sf,.slice As m.segs.length cs]
 rw[World.size_alloc] at hb6
 have hX3:Ext w2 ((w2.alloc (.cells #[.int .i64 t.s.idx,.int .i64 t.s.term,.int .i64 t.s.sum,.int .i64 t.s.lvl,.bool t.s.fin,.slice Al t.log.length cl,.int .i64 t.term,.int .i64 t.vote] 56)).alloc (.cells #[.int .i64 m.next,.int .i64 m.term,.int .i64 m.vote,.int .i64 m.sq,.int .i64 m.sf,.slice As m.segs.length cs] 30)):=Ext.alloc (Ext.alloc (Ext.refl _) _) _
 have hE3:=Ext.trans HE1.out (Ext.trans hE2 hX3)
 have hman:=zqb _ fs _ (HS.out.ext hE3) (HF.out.ext hE3) (by omega) HBL0.out
 have Hman:=zhd hman
 have HB5:=zhd hb5
 have HB6:=zhd hb6
 have HES:=zhd (Es.ext hes hX3)
 have HSS:=zhd (hss.ext hX3)
 have HE3:=zhd hE3
 have HR:=zhd hR
 clear hb5 hb6 hX3 hE2 hE3 hes hss hman hR Hrd HE1
 go_wp2_with fail
 refine Hman.out.mono ?_
 rintro e w4 ⟨rfl,hE4⟩
 have HE4:=zhd (Ext.trans HE3.out hE4)
 have HB5':=zhd (HB5.out.ext hE4)
 have HB6':=zhd (HB6.out.ext hE4)
 have HES':=zhd (Es.ext HES.out hE4)
 have HSS':=zhd (HSS.out.ext hE4)
 clear hE4 HB5 HB6 HES HSS Hman HE3
 obtain ⟨t0,t1,t2,t3,t4,t5,t6,t7⟩:=zbQ HB5'.out
 obtain ⟨q0,q1,q2,q3,q4,q5⟩:=zao HB6'.out
 by_cases her:er=0
 case neg =>
  have hne:(zaK fs).err≠0:=by rw[HR.out];exact her
  obtain ⟨h1,h2,h3,h4⟩:=zsg hne
  rw[HR.out] at h1 h2 h3 h4
  dsimp only at h1 h2 h3 h4
  subst h3 h4
  have hsm:=zpk mf0 mf0 _ (.slice none 0 0) w4 HSS'.out (Sgs.nil w4)
  rw[decide_eq_true (rfl:mf0=mf0)] at hsm
  dsimp only[mf0,zdV,zmg,List.length_nil] at hsm t0 t1 t2 t3 t4 t5 t6 t7 q0 q1 q2 q3 q4 q5
  have Hsm:=zhd hsm
  have Hbs:=zhd h1
  clear hsm h1 hne HB5' HB6' HES' HSS'
  rcases h2 with rfl | rfl
  ·have hb:=Hbs.out.1 rfl
   rw[hb]
   dsimp only[Option.isSome,Option.getD]
   clear hb
   go_wp2_with fail
   refine Hsm.out.mono ?_
   rintro e w5 ⟨rfl,hE5⟩
   have HE5:=zhd (Ext.trans HE4.out hE5)
   clear hE5 t0 t1 t2 t3 t4 t5 t6 t7 q0 q1 q2 q3 q4 q5
   go_wp2_with fail
   refine (zeE _ (HS.out.ext HE5.out)).mono ?_
   rintro e w6 ⟨rfl,hE6⟩
   go_wp2_with fail
   go_ret
   exact ⟨rfl,Ext.trans HE5.out hE6⟩
  ·cases hb:zaF fs (some [77]) with
   | none=>exact absurd (Hbs.out.2 hb) (by decide)
   | some b =>
    dsimp only[Option.isSome,Option.getD]
    clear hb
    go_wp2_with fail
    refine Hsm.out.mono ?_
    rintro e w5 ⟨rfl,hE5⟩
    have HE5:=zhd (Ext.trans HE4.out hE5)
    clear hE5 t0 t1 t2 t3 t4 t5 t6 t7 q0 q1 q2 q3 q4 q5
    go_wp2_with fail
    refine (zeE _ (HS.out.ext HE5.out)).mono ?_
    rintro e w6 ⟨rfl,hE6⟩
    go_wp2_with fail
    go_ret
    exact ⟨rfl,Ext.trans HE5.out hE6⟩
 subst her
 obtain ⟨b,s,hb,hm,hst,hlog,hrt,ht⟩:=zj9 HR.out
 have hput:=(zdJ hm).2
 have hchk:=(zdJ hm).1
 have hent:∀ x∈m.segs,∃ y,zay fs x=some y:=fun x hx=>by
  cases h:zay fs x with
  | some y=>exact ⟨y,rfl⟩
  | none =>
   have:=zi8 hb hm (.inr ⟨x,hx,h⟩)
   rw[HR.out] at this
   cases this
 have hln:t.log.length≤zen fs m.segs:=by rw[ht];exact zs0
 have hrtt:zbt t=true:=by rw[ht];exact hrt
 have ht4:t.term=m.term∧t.vote=m.vote:=by rw[ht];exact ⟨rfl,rfl⟩
 rw[hb]
 dsimp only[Option.isSome,Option.getD]
 have hpm:=zq8 m _ w4 HSS'.out
 rw[hput] at hpm
 have Hpm:=zhd hpm
 have HENT:=zhd hent
 have HLN:=zhd hln
 have HRT:=zhd hrtt
 have HCHK:=zhd hchk
 clear hb hm hst hlog hrt ht hput hchk hent hln hrtt hpm
 obtain ⟨ts,lg,tt,tv⟩:=t
 dsimp only at ht4 HB5' HES' t0 t1 t2 t3 t4 t5 t6 t7 ⊢
 obtain ⟨rfl,rfl⟩:=ht4
 go_wp2_with fail
 refine Hpm.out.mono ?_
 rintro e w5 ⟨⟨vb,rfl,hob⟩,hE5⟩
 dsimp only[Option.isSome,Option.getD] at hob ⊢
 obtain ⟨Ab,cb,rfl,_,_⟩:=SlR.open_ (SlR.of_own hob)
 have hcv:=zdC (P:=Tryz.prog) w5 38 9 5 Tryz.underlying38 Tryz.underlying5 Tryz.underlying9 (SlR.of_own hob)
 have HE5:=zhd (Ext.trans HE4.out hE5)
 have HB5:=zhd (HB5'.out.ext hE5)
 have HB6:=zhd (HB6'.out.ext hE5)
 have HSS:=zhd (HSS'.out.ext hE5)
 have hrt:=znT ⟨ts,lg,m.term,m.vote⟩ _ w5 (Es.ext HES'.out hE5)
 rw[HRT.out] at hrt
 have Hrt:=zhd hrt
 clear hob hE5 HE4 HB5' HB6' HES' HSS' Hpm t0 t1 t2 t3 t4 t5 t6 t7 q0 q1 q2 q3 q4 q5 hrt
 obtain ⟨t0,t1,t2,t3,t4,t5,t6,t7⟩:=zbQ HB5.out
 obtain ⟨q0,q1,q2,q3,q4,q5⟩:=zao HB6.out
 unfold sv
 go_wp2_with fail
 refine Hrt.out.mono ?_
 rintro e w6 ⟨rfl,hE6⟩
 have HE6:=zhd (Ext.trans HE5.out hE6)
 have HB5':=zhd (HB5.out.ext hE6)
 have HB6':=zhd (HB6.out.ext hE6)
 have HSS':=zhd (HSS.out.ext hE6)
 clear hE6 HE5 HB5 HB6 HSS Hrt t0 t1 t2 t3 t4 t5 t6 t7 q0 q1 q2 q3 q4 q5 hcv
 obtain ⟨t0,t1,t2,t3,t4,t5,t6,t7⟩:=zbQ HB5'.out
 obtain ⟨q0,q1,q2,q3,q4,q5⟩:=zao HB6'.out
 go_wp2_with fail
 clear t0 t1 t2 t3 t4 t5 t6 t7 q0 q1 q2 q3 q4 q5
 go_loopw [12,13] (fun vn vi wr=>∃ j:Nat,j≤m.segs.length∧vi=.int .i64 j∧vn=.int .i64 ((zen fs (m.segs.take j):Nat):Int)∧Hid (Ext w6 wr)) (fun _ vi _=>m.segs.length-(intOf vi).toNat)
 case atStart=>exact ⟨0,Nat.zero_le _,rfl,rfl,Ext.refl _⟩
 case round =>
  obtain ⟨j,hj,rfl,rfl,HEr⟩:=hrel
  obtain ⟨q0,q1,q2,q3,q4,q5⟩:=zao (HB6'.out.ext HEr.out)
  have hcm:=zdi HCHK.out
  have hs60:m.segs.length≤60:=hcm.2.2.2.1
  by_cases hlt:j<m.segs.length
  ·obtain ⟨_,bs,of,rfl,hc⟩:=Sgs.at_ (HSS'.out.ext HEr.out) (by omega)
   obtain ⟨s0,s1,s2,s3⟩:=hc j hlt
   obtain ⟨x,hx⟩:=HENT.out _ (List.getElem_mem hlt)
   obtain ⟨hx1,hx4⟩:=znv HCHK.out hlt hx
   have htk:=zkm hlt hx
   have hle:=zjW HCHK.out HENT.out j hj
   have key:=zll (.slice A fs.length c) fs m.segs[j] wr (HS.out.ext (Ext.trans HE6.out HEr.out)) (HF.out.ext (Ext.trans HE6.out HEr.out)) (by omega) HBL0.out
   rw[hx] at key
   generalize m.segs[j]=sg at *
   generalize zen fs (m.segs.take j)=en at *
   have hjz:(j:Int)<(m.segs.length:Int):=by omega
   have hxz:((x.length:Int)==0)=false:=by simp;intro h;subst h;simp at hx1
   have hwn:IntKind.i64.wrap ((en:Int)+(x.length:Int))=((en+x.length:Nat):Int):=by rw[IntKind.wrap_i64];omega
   have Key:=zhd key
   have HTK:=zhd htk
   clear key htk hc hx hx1 hx4 hle hcm hs60
   go_wp2_with fail
   refine Key.out.mono ?_
   rintro e w7 ⟨vx,rfl,hxo,hE7⟩
   dsimp only[Option.isSome,Option.getD] at hxo ⊢
   obtain ⟨Ax,cx,rfl,_,_⟩:=SlR.open_ (SlR.of_own hxo)
   have HE7:=zhd (Ext.trans HEr.out hE7)
   clear hxo hE7 q0 q1 q2 q3 q4 q5 s0 s1 s2 s3
   go_wp2_with fail
   go_roundw
   case rel=>exact ⟨j+1,by omega,by go_num,by rw[HTK.out];first | rfl | go_num,HE7.out⟩
   case measure=>simp[intOf];omega
  ·obtain rfl:j=m.segs.length:=by omega
   rw[List.take_length]
   have hkp:=fun W (h:Ext wr W)=>zq2 m _ W ((HSS'.out.ext HEr.out).ext h) (by omega)
   have Hkp:=zhd (hkp wr (Ext.refl _))
   have hen:=zjW HCHK.out HENT.out m.segs.length (Nat.le_refl _)
   rw[List.take_length] at hen
   have HEN:=zhd hen
   have hk62:(zbh m).length≤1000000:=by have:=zrM m;omega
   have HK62:=zhd hk62
   clear hkp hen hcm hs60 hk62
   go_wp2_with fail
   refine Hkp.out.mono ?_
   rintro e w7 ⟨vk,rfl,hko,hE7⟩
   obtain ⟨Ak,ck,rfl,_,_⟩:=SlR.open_ (SlR.of_own hko)
   have HKO:=zhd (SlR.of_own hko)
   have HE7:=zhd (Ext.trans (Ext.trans HE6.out HEr.out) hE7)
   have HB7:=zhd ((HB5'.out.ext HEr.out).ext hE7)
   clear hko hE7 q0 q1 q2 q3 q4 q5 HB5' HB6' HSS' HEr Hkp
   go_wp2_with fail
   obtain ⟨jx,hjx,hjE⟩:=zqz at_ (zbh m).length (zrN m) HK62.out
   rw[hjE]
   obtain ⟨_,bk,ok,rfl,hck⟩:=SlR.at_ HKO.out (by omega)
   obtain ⟨⟨ik,is,if_⟩,hid⟩:∃ x,(zbh m)[jx]?=some x:=⟨_,List.getElem?_eq_getElem hjx⟩
   obtain ⟨nm,hnm⟩:=zp5 HCHK.out hid
   obtain ⟨i0,i1,i2⟩:=idCells_get hid
   have y0:=hck _ _ i0
   have y1:=hck _ _ i1
   have y2:=hck _ _ i2
   rw[←Nat.add_assoc] at y1 y2
   have hnp:=fun W (h:Ext w7 W)=>ziy ik is if_ W (HS.out.ext (Ext.trans HE7.out h))
   rw[hnm] at hnp
   have Hnp:=zhd hnp
   have HID:=zhd hid
   have HNM:=zhd hnm
   have HJX:=zhd hjx
   have hkl:(jx:Int)<((zbh m).length:Int):=by omega
   have HL40:=zhd hl40
   clear hck hjE HKO hid hnm i0 i1 i2 hnp
   generalize (zbh m).length=kn at *
   go_loopw [17,18,19] (fun va vb vi wr2=>∃ (j:Nat) (A1:Option Addr) (c1 n1:Nat) (A2:Option Addr) (c2:Nat) (xs ys:List Value),j≤fs.length∧vi=.int .i64 j∧va=.slice A1 n1 c1∧vb=.slice A2 j c2∧Hid (n1=(zaV (fs.take j) nm).length)∧Hid (wr2.ownsRow w7.heap.size 51 2 (.slice A1 n1 c1) n1 xs)∧Hid (HRow w7 wr2 xs (zaV (fs.take j) nm))∧Hid (wr2.ownsRow w7.heap.size 51 2 (.slice A2 j c2) j ys)∧Hid (HRow w7 wr2 ys (zcu (fs.take j) nm))∧Hid (∀ q,(Value.slice A1 n1 c1).ownBlock=some q→(Value.slice A2 j c2).ownBlock≠some q)∧Hid (Ext w7 wr2)) (fun _ _ vi _=>fs.length-(intOf vi).toNat)
   case atStart=>exact ⟨0,none,0,0,none,0,[],[],Nat.zero_le _,rfl,rfl,rfl,zhd rfl,World.ownsRow_nil _ _ _ _,HRow.nil _ _,World.ownsRow_nil _ _ _ _,HRow.nil _ _,zhd (fun q hq=>by cases hq),Ext.refl _⟩
   case round =>
    rename World=>wq
    obtain ⟨j,A1,c1,n1,A2,c2,xs,ys,hj,rfl,rfl,rfl,HN1,HO1,HR1,HO2,HR2,HSP,HEq⟩:=hrel
    by_cases hlt:j<fs.length
    ·have hnq:=Hnp.out wq HEq.out
     have z0:=HEq.out.cell y0
     have z1:=HEq.out.cell y1
     have z2:=HEq.out.cell y2
     obtain ⟨_,bf,of,rfl,hcf⟩:=(HF.out.ext HE7.out).at_ (by omega)
     obtain ⟨f0,B2,d2,f1,hB2⟩:=hcf j hlt
     have hjz:(j:Int)<(fs.length:Int):=by omega
     have Hnq:=zhd hnq
     clear hnq hcf
     go_wp2_with fail
     refine Hnq.out.mono ?_
     rintro e w8 ⟨rfl,hE8⟩
     dsimp only[Option.isSome,Option.getD]
     have hE8':=Ext.trans HEq.out hE8
     have g0:=zh2 hE8' f0
     have g1:=zh2 hE8' f1
     have hwt:=zmp (n:=nm) hlt
     have hht:=zpW (n:=nm) hlt
     have hwl:(zaV (fs.take j) nm).length≤40:=by have:=ziF (fs:=fs.take j) (n:=nm);rw[List.length_take] at this;have:=HL40.out;omega
     have HWT:=zhd hwt
     have HHT:=zhd hht
     have HWL:=zhd hwl
     have HE8:=zhd hE8
     have HE8':=zhd hE8'
     have HB2':=zhd hB2
     have HF0:=zhd f0
     have HF1:=zhd f1
     clear hwt hht hwl hE8 hE8' z0 z1 z2 hB2 f0 f1 Hnq
     generalize zaV (fs.take j) nm=lw at *
     generalize zcu (fs.take j) nm=lh at *
     obtain ⟨p,hp⟩:∃ p,fs[j]=p:=⟨_,rfl⟩
     rw[hp] at g0 g1 HWT HHT HB2' HF0 HF1
     obtain ⟨fn,fb⟩:=p
     dsimp only at g0 g1 HWT HHT HB2' HF0 HF1
     unfold sv at g0 ⊢
     clear hp
     by_cases hx:fn=nm
     ·have hxb:(fn==nm)=true:=by simpa using hx
      have HX:=zhd hx
      have hEn:Ext w8 ((w8.alloc (.cells #[.int .u8 9] 5)).alloc (.cells #[.string ⟨nm.toArray⟩,.slice (some ⟨w8.heap.size,0,none⟩) 1 1] 51)):=Ext.alloc (Ext.alloc (Ext.refl _) _) _
      have hb9:=(Blk.new w8 5 #[.int .u8 9]).alloc (.cells #[.string ⟨nm.toArray⟩,.slice (some ⟨w8.heap.size,0,none⟩) 1 1] 51)
      have hrow:=zc6 (Blk.new (w8.alloc (.cells #[.int .u8 9] 5)) 51 #[.string ⟨nm.toArray⟩,.slice (some ⟨w8.heap.size,0,none⟩) 1 1])
      rw[World.size_alloc] at hrow
      have hEn':=Ext.trans HE8.out hEn
      have ho2:=zae HO2.out hEn'
      have ho1:=zae HO1.out hEn'
      have hr2:=(HR2.out.ext hEn').snoc (n:=nm) (b:=[9]) (.inr ⟨_,rfl,hb9,rfl⟩)
      have hr1:=HR1.out.ext hEn'
      have HQ1:=zhd ho1
      have HQ2:=zhd ho2
      have HQ3:=zhd hr1
      have HQ4:=zhd hr2
      have HQ5:=zhd hrow
      have HQ6:=zhd (Ext.trans HE8'.out hEn)
      clear hx hEn hb9 hrow hEn' ho1 ho2 hr1 hr2
      go_wp2_with (at_builtin;refine zfF rfl (.tmp 178) (.tmp 182) rfl w7 HQ6.out _ j ys rfl HQ2.out _ [.string ⟨nm.toArray⟩,.slice (some ⟨w8.heap.size,0,none⟩) 1 1] rfl HQ5.out (ziX (n:=nm)) (by omega) ?_;intro A5 c5 w9 ho9 hE9 hg9 hbk9;have HO9:=zhd ho9;have HE9:=zhd hE9;have HG9:=zhd hg9;have HK9:=zhd hbk9;clear ho9 hE9 hg9 hbk9)
      go_roundw
      case rel =>
       refine ⟨j+1,A1,c1,n1,A5,c5,xs,_,by omega,by go_num,rfl,rfl,?_,HQ1.out.kept HG9.out (zqF HSP.out),?_,HO9.out,?_,?_,HE9.out⟩
       ·unfold Hid;rw[HWT.out,if_pos HX.out,List.append_nil];exact HN1.out
       ·unfold Hid;rw[HWT.out,if_pos HX.out,List.append_nil];exact HQ3.out.grow HG9.out (zes HQ2.out)
       ·unfold Hid;rw[HHT.out,if_pos HX.out];exact HQ4.out.grow HG9.out (zes HQ2.out)
       ·intro q hq hh
        rcases HK9.out with hk | hk
        ·rw[hk] at hh;exact HSP.out q hq hh
        ·rw[hk] at hh
         injection hh with hh
         have:=zj7 HQ1.out hq
         omega
      case measure=>simp[intOf];omega
     ·have hxb:(fn==nm)=false:=by simpa using hx
      have HX:=zhd hx
      have hEn:Ext w8 (w8.alloc (.cells #[.string ⟨fn.toArray⟩,.slice B2 fb.length d2] 51)):=Ext.alloc (Ext.refl _) _
      have hrow:=zc6 (Blk.new w8 51 #[.string ⟨fn.toArray⟩,.slice B2 fb.length d2])
      have hEn':=Ext.trans HE8.out hEn
      have ho2:=zae HO2.out hEn'
      have ho1:=zae HO1.out hEn'
      have hr1:=(HR1.out.ext hEn').snoc (n:=fn) (b:=fb) (.inl HB2'.out)
      have hr2:=HR2.out.ext hEn'
      have HQ1:=zhd ho1
      have HQ2:=zhd ho2
      have HQ3:=zhd hr1
      have HQ4:=zhd hr2
      have HQ5:=zhd hrow
      have HQ6:=zhd (Ext.trans HE8'.out hEn)
      clear hx hEn hrow hEn' ho1 ho2 hr1 hr2
      go_wp2_with (first
       | (at_builtin;refine zfF rfl (.tmp 164) (.tmp 169) rfl w7 HQ6.out _ n1 xs rfl HQ1.out _ [.string ⟨fn.toArray⟩,.slice B2 fb.length d2] rfl HQ5.out (ziX (n:=fn)) (by have:=HN1.out;have:=HWL.out;omega) ?_;intro A5 c5 w9 ho9 hE9 hg9 hbk9;have HO9:=zhd ho9;have HE9:=zhd hE9;have HG9:=zhd hg9;have HK9:=zhd hbk9;clear ho9 hE9 hg9 hbk9 g0 g1;have g0:=zh2 HE9.out HF0.out;have g1:=zh2 HE9.out HF1.out;(try unfold sv at g0);have hrow:=zc6 (Blk.new w9 51 #[.string ⟨fn.toArray⟩,.slice B2 fb.length d2]);have HQ5':=zhd hrow;have HQ2':=zhd (zae (HQ2.out.kept HG9.out (ztf HSP.out)) (Ext.alloc (Ext.refl w9) (.cells #[.string ⟨fn.toArray⟩,.slice B2 fb.length d2] 51)));have HQ6':=zhd (Ext.alloc HE9.out (.cells #[.string ⟨fn.toArray⟩,.slice B2 fb.length d2] 51));clear hrow)
       | (at_builtin;refine zfF rfl (.tmp 171) (.tmp 176) rfl w7 HQ6'.out _ j ys rfl HQ2'.out _ [.string ⟨fn.toArray⟩,.slice B2 fb.length d2] rfl HQ5'.out (ziX (n:=fn)) (by omega) ?_;intro A6 c6 w10 ho10 hE10 hg10 hbk10;have HO10:=zhd ho10;have HE10:=zhd hE10;have HG10:=zhd hg10;have HK10:=zhd hbk10;clear ho10 hE10 hg10 hbk10))
      go_roundw
      case rel =>
       have hX2:Ext w9 (w9.alloc (.cells #[.string ⟨fn.toArray⟩,.slice B2 fb.length d2] 51)):=Ext.alloc (Ext.refl _) _
       have hsp9:∀ q,(Value.slice A5 (n1+1) c5).ownBlock=some q→(Value.slice A2 j c2).ownBlock≠some q:=by
        intro q hq hh
        rcases HK9.out with hk | hk
        ·rw[hk] at hq;exact HSP.out q hq hh
        ·rw[hk] at hq
         injection hq with hq
         have:=zj7 HQ2.out hh
         omega
       have ho1:=zae HO9.out hX2
       refine ⟨j+1,A5,c5,n1+1,A6,c6,_,_,by omega,by go_num,rfl,rfl,?_,ho1.kept HG10.out (zqF hsp9),?_,HO10.out,?_,?_,HE10.out⟩
       ·unfold Hid;rw[HWT.out,if_neg HX.out,List.length_append,HN1.out];rfl
       ·unfold Hid;rw[HWT.out,if_neg HX.out];exact ((HQ3.out.grow HG9.out (zes HQ1.out)).ext hX2).grow HG10.out (zes HQ2'.out)
       ·unfold Hid;rw[HHT.out,if_neg HX.out];exact (((HQ4.out.grow HG9.out (zes HQ1.out)).ext hX2).snoc (.inl HB2'.out)).grow HG10.out (zes HQ2'.out)
       ·intro q hq hh
        rcases HK10.out with hk | hk
        ·rw[hk] at hh;exact hsp9 q hq hh
        ·rw[hk] at hh
         injection hh with hh
         have:=zj7 ho1 hq
         omega
      case measure=>simp[intOf];omega
    ·obtain rfl:j=fs.length:=by omega
     have hfw:Fs wq (.slice A1 n1 c1) (zaV fs nm):=by
      have h:=HR1.out
      have hn:=HN1.out
      rw[List.take_length] at h hn
      exact zct HO1.out (h.fs HEq.out) hn (Ext.refl _)
     have hfh:Fs wq (.slice A2 fs.length c2) (zcu fs nm):=by
      have h:=HR2.out
      rw[List.take_length] at h
      exact zct HO2.out (h.fs HEq.out) harm_len.symm (Ext.refl _)
     have hwl:=ziF (fs:=fs) (n:=nm)
     have hE9:=Ext.trans HE7.out HEq.out
     obtain ⟨r1,r2⟩:=zk1 HR.out HID.out HNM.out
     have r3:=zoF HR.out HID.out HNM.out
     have k1:=zeI _ (zaV fs nm) wq (HS.out.ext hE9) hfw (by omega) (fun f hf=>by have:=HB2.out f (znp hf);omega)
     have hb7:=HB7.out.ext HEq.out
     have hX:=fun W (h:Ext wq W)=>zeI _ (zcu fs nm) W (HS.out.ext (Ext.trans hE9 h)) (hfh.ext h) (by rw[harm_len];omega) (fun f hf=>by rcases zrH hf with h | h;omega;have:=HB2.out f h;omega)
     have K1:=zhd k1
     have K2:=zhd hX
     have HB9:=zhd hb7
     have HE9:=zhd hE9
     have Hr1:=zhd r1
     have Hr2:=zhd r2
     have Hr3:=zhd r3
     clear k1 hX hb7 hE9 r1 r2 r3 hfw hfh hwl y0 y1 y2 HN1 HO1 HR1 HO2 HR2 HSP
     obtain ⟨⟨e1,ta,ma⟩,hRa⟩:∃ r,zaK (zaV fs nm)=r:=⟨_,rfl⟩
     obtain ⟨⟨e2,tb,mb⟩,hRb⟩:∃ r,zaK (zcu fs nm)=r:=⟨_,rfl⟩
     rw[hRa] at K1 Hr1 Hr2
     rw[hRb] at K2 Hr3
     obtain rfl:e2=130:=Hr3.out
     have h1b:(e1 != 0)=true:=by have:=Hr1.out;simpa using this
     have h2b:(e1==42)=((jx:Int)==0):=by
      have:=Hr2.out
      dsimp only at this
      rw[Bool.eq_iff_iff]
      simp only[beq_iff_eq]
      rw[this]
      omega
     have HRa:=zhd hRa
     have HRb:=zhd hRb
     clear hRa hRb
     go_wp2_with fail
     refine K1.out.mono ?_
     rintro e w8 ⟨vl1,vs1,rfl,hes1,hss1,hE8⟩
     dsimp only at hes1 hss1 ⊢
     obtain ⟨A5,c5,rfl,_,_⟩:=SlR.open_ hes1
     obtain ⟨A6,c6,rfl,_,_⟩:=Sgs.open_ hss1
     have HE8:=zhd hE8
     clear hes1 hss1 hE8 K1
     go_wp2_with fail
     refine (K2.out _ (Ext.alloc (Ext.alloc HE8.out _) _)).mono ?_
     rintro e w9 ⟨vl2,vs2,rfl,hes2,hss2,hE9'⟩
     dsimp only at hes2 hss2 ⊢
     obtain ⟨A7,c7,rfl,_,_⟩:=SlR.open_ hes2
     obtain ⟨A8,c8,rfl,_,_⟩:=Sgs.open_ hss2
     have hE9q:=Ext.trans (Ext.alloc (Ext.alloc HE8.out _) _) hE9'
     have t5:=fun o1 o2=>(zbQ (HB9.out.ext (Ext.alloc (Ext.alloc hE9q o1) o2))).2.2.2.2.2.1
     have hle:lg.length≤zen fs m.segs:=HLN.out
     have HE9q:=zhd (Ext.trans HE9.out hE9q)
     clear hes2 hss2 hE9q hE9' K2 HB9
     go_wp2_with fail
     refine (zeE _ (HS.out.ext (Ext.alloc (Ext.alloc HE9q.out _) _))).mono ?_
     rintro e w10 ⟨rfl,hE10⟩
     have HE10:=zhd (Ext.trans (Ext.alloc (Ext.alloc HE9q.out _) _) hE10)
     clear hE10 t5
     go_wp2_with fail
     go_ret
     exact ⟨rfl,HE10.out⟩
open Go.ChangeShapes Go.WideShapes Go.ChangeAt Go.RowKit Go.Deep Go.Mv
theorem own:ownKnob Tryz.prog.godebug=none:=by kernel_rfl
theorem zsZ:laidOutB Tryz.prog=true:=by kernel_rfl
theorem zsI:Tryz.prog.cellsOf 5=1:=by kernel_rfl
instance:Inhabited Ent:=⟨⟨0,0,0⟩⟩
theorem zhT {w:World} {a:Addr} {size n c:Nat} {xs:List Value} (hl:xs.length=n*size) (h1:n≤c) (h2:c≤maxLen) (hs:0<size) (h:∀ j u,xs[j]?=some u→w.cell? (a.add j)=some u):SlR w size (.slice (some a) n c) n xs:=by
 refine ⟨hl,_,c,rfl,h1,h2,fun hn=>?_⟩
 obtain ⟨b,off,sp⟩:=a
 have h0:0<xs.length:=by rw[hl];exact Nat.mul_pos hn hs
 have hc:=h 0 xs[0] (List.getElem?_eq_getElem h0)
 cases sp with
 | none =>
  refine ⟨b,off,rfl,fun j u hu=>?_⟩
  have:=h j u hu
  rwa [show (⟨b,off,none⟩:Addr).add j=⟨b,off+j,none⟩ from by unfold Addr.add;split <;> simp_all] at this
 | some k =>
  exfalso
  unfold World.cell? Addr.add at hc
  simp at hc
  split at hc <;> simp_all
section
variable {H:Type} {enc:TypeId×Value→H} {W:World} {base:Nat} {v:Value} {d:DataW H} {p:List MemPlace}
end
section
variable {H:Type} {enc:TypeId×Value→H} {P:Program}
theorem zk0 {f:Func} {s:ChangeSpec} {apart fresh handsOn again:Bool} {W W':World} {args:Array Value} {v:Value} {ds gs:List (DataW H)} {before pa pv:List MemPlace}
  (hW:DataW.Whole enc P f.params.toList s.vars apart W args.toList ds gs before)
  (hres:∀ (b:Nat) (sp:Nat→Bool) (hd:Bool),DataW.TrodAll enc P W' b sp hd f.resultTypes.toList (v.resultList f.resultTypes.size) (s.fn H (ds++gs)).results [])
  (hargs:∀ sp:Nat→Bool,(∀ p∈before,sp p.block=true)→DataW.TrodAll enc P W' 0 sp true f.params.toList args.toList (s.fn H (ds++gs)).args pa)
  (hvars:∀ sp:Nat→Bool,(∀ p∈before,sp p.block=true)→DataW.TrodVars enc P W' sp s.vars (s.fn H (ds++gs)).vars pv)
  (hps:before=pa++pv) (hb:Below W.heap.size W W')
  (hok:∀ (j:Nat) (t:TypeId) (r:Value),f.resultTypes[j]?=some t→(v.resultList f.resultTypes.size)[j]?=some r→Value.okWide P W' .any 0 t r) :
  s.post enc P f apart fresh handsOn again W args v W':=by
 have hlt:∀ p∈before,p.block<W.heap.size:=fun p hp=>hW.lt p hp
 have hold:∀ p∈before,(fun b=>decide (b<W.heap.size)) p.block=true:=fun p hp=>by simpa using hlt p hp
 refine ⟨ds,gs,before,[],pa,pv,hW,hres _ _ _,hargs _ hold,hvars _ hold,World.keptBut_mono (fun p hp=>⟨hp,?_⟩) (hb.frame (·∈before)),fun _=>?_⟩
 ·rw[hps,List.mem_append] at hp
  exact Or.inr hp
 ·obtain ⟨_,_,_,_,_,hz,hn⟩:=hW
  refine ⟨hok,_,_,([]++pa)++pv,⟨[]++pa,pv,trodAll_append (hargs _ (fun _ _=>rfl)) (hres _ _ _),hvars _ (fun _ _=>rfl),rfl,?_,?_⟩,?_⟩
  ·intro b off hp
   have hin:MemPlace.cell b off∈before:=by rw[hps];simpa using hp
   rw[hb.frozen (hlt _ hin)]
   exact hz b off hin
  ·intro ha
   have:=hn ha
   rw[hps] at this
   simpa using this
  ·intro p hp _
   rw[hps]
   simpa using hp
end
open Go.ChangeShapes Go.WideShapes Go.ChangeAt Go.RowKit Go.Deep Go.Mv Go.WideElems
theorem zrq {H:Type} (d:DataW H):1≤Rows.uptoBulk d:=by
 cases d with
 | lit l=>cases l <;> simp[Rows.uptoBulk]
 | _=>simp[Rows.uptoBulk]
theorem zkk {H:Type} {d:DataW H} {l:List (DataW H)} (h:d∈l):Rows.uptoBulk d≤Rows.uptoBulkAll l:=by
 induction l with
 | nil=>cases h
 | cons x r ih =>
  simp only[Rows.uptoBulkAll]
  rcases List.mem_cons.1 h with rfl | h
  ·omega
  ·have:=ih h;omega
theorem zlq {H:Type} (l:List (DataW H)):l.length≤Rows.uptoBulkAll l:=by
 induction l with
 | nil=>simp[Rows.uptoBulkAll]
 | cons x r ih=>have:=zrq x;simp only[Rows.uptoBulkAll,List.length_cons];omega
theorem zji {H:Type} (l r:List (DataW H)):Rows.uptoBulk (.slice l r)=Rows.uptoBulkAll l+Rows.uptoBulkAll r+1:=by simp only[Rows.uptoBulk]
theorem zrr:Tryz.prog.cellsOf 51=2:=by kernel_rfl
theorem zrs:Tryz.prog.cellsOf 9=1:=by kernel_rfl
theorem zsH:Tryz.prog.cellsOf 38=1:=by kernel_rfl
section
variable {H:Type} {enc:TypeId×Value→H} {W:World} {base:Nat} {v:Value} {d:DataW H} {p:List MemPlace}
theorem zmD {n:Nat} {c:Value} {x:DataW H×List MemPlace} (hf:DataW.trod enc Tryz.prog W 0 (fun _=>true) true n 38 [c]=some x):∃ bs,Bs W c bs∧bs.length≤Rows.uptoBulk x.1:=by
 rcases open_ints Tryz.underlying38 Tryz.underlying5 zsI hf with ⟨hcs,_⟩ | ⟨a,len',cap',zs,hcs,hb,hl,hm,hz,hx,hcell,hw⟩
 ·cases hcs;exact ⟨[],SlR.nil _ 1,Nat.zero_le _⟩
 ·cases hcs
  have hzc:zs.length=cap':=by simpa using hz
  refine ⟨(zs.take len').map (fun n=>UInt8.ofNat n.toNat),?_,?_⟩
  ·unfold Bs
   rw[List.length_map,List.length_take,Nat.min_eq_left (by omega)]
   refine zhT (by simp;omega) hl hm (by decide) (fun j u hu=>?_)
   have hj:=(List.getElem?_eq_some_iff.1 hu).1
   simp only[List.length_map,List.length_take,Nat.lt_min] at hj
   rw[hcell j (by omega),←hu]
   have hwf:=hw (zs[j]'(by omega)) (List.getElem_mem _)
   have hr:0≤zs[j]'(by omega)∧zs[j]'(by omega)≤255:=by simpa [Lit.wf,IntKind.min,IntKind.max,IntKind.signed,IntKind.bits] using hwf
   have h1:zs.getD j 0=zs[j]'(by omega):=by simp[List.getD,List.getElem?_eq_getElem (show j<zs.length by omega)]
   rw[h1]
   have h2:((List.map (fun n:Int=>UInt8.ofNat n.toNat) (zs.take len')).map bv)[j]?=some (bv (UInt8.ofNat (zs[j]'(by omega)).toNat)):=by
    simp[List.getElem?_map,List.getElem?_take,hj.1,List.getElem?_eq_getElem (show j<zs.length by omega)]
   rw[h2]
   simp[bv]
   omega
  ·rw[hx,zji,List.length_map]
   have:=zlq (H:=H) (lits .u8 (zs.take len'))
   have e:(lits (H:=H) .u8 (zs.take len')).length=(zs.take len').length:=by simp[lits]
   omega
theorem ztU {s:ByteArray}:Value.string s=sv s.data.toList:=by
 unfold sv
 simp
theorem zog (hv:Value.okWide Tryz.prog W .any base 22 v) (h:DataW.Trod enc Tryz.prog W 0 (fun _=>true) true 22 v d p):∃ fs,Fs W v fs∧fs.length≤Rows.uptoBulk d∧∀ f∈fs,f.2.length≤Rows.uptoBulk d:=by
 obtain ⟨a0,len,cap,rfl⟩:=okWide_slice Tryz.underlying22 hv
 obtain ⟨fuel,hf⟩:=h
 have hf':DataW.trod enc Tryz.prog W 0 (fun _=>true) true fuel 22 [.slice a0 len cap]=some (d,p):=by simpa [Value.cells] using hf
 rcases open_slice Tryz.underlying22 hf' with ⟨hcs,_⟩ | ⟨a,len',cap',m,n,D,Pl,hcs,hb,hl,hm,hmm,hx,hi⟩
 ·cases hcs;exact ⟨[],⟨[],SlR.nil _ 2,fun i hi=>absurd hi (by simp)⟩,Nat.zero_le _,fun f hf=>by cases hf⟩
 ·cases hcs
  have hmc:m=cap:=by simpa using hmm
  have each:∀ i,i<len→∃ e:Fil×Value,W.cell? (a.add (i*2))=some (sv e.1.1)∧W.cell? (a.add (i*2+1))=some e.2∧Bs W e.2 e.1.2∧e.1.2.length≤Rows.uptoBulk (D i):=by
   intro i hil
   obtain ⟨cs,h1,h2⟩:=hi i (by omega)
   rw[zrr] at h1
   obtain ⟨_,hcl,hcell⟩:=World.cells?_some h1
   obtain ⟨xs,n',_,hxx,_,hxl,hf⟩:=DataW.trod_struct Tryz.underlying51 h2
   match cs,hcl with
   | [c0,c1],_ =>
    have g0:=hf 0 _ rfl
    have g1:=hf 1 _ rfl
    have hxl':xs.length=2:=hxl
    match xs,hxl' with
    | [x0,x1],_ =>
     obtain ⟨s,e0,_,_⟩:=DataW.trod_string Tryz.underlying9 g0
     have k0:c0=.string s:=by have h:List.take (Tryz.prog.cellsOf 9) [c0,c1]=[Value.string s]:=e0;rw[zrs] at h;simpa using h
     have k1:DataW.trod enc Tryz.prog W 0 (fun _=>true) true n' 38 [c1]=some x1:=by
      have h:DataW.trod enc Tryz.prog W 0 (fun _=>true) true n' 38 (List.take (Tryz.prog.cellsOf 38) [c1])=some x1:=g1
      rw[zsH] at h
      exact h
     subst k0
     obtain ⟨bs,hbs,hbl⟩:=zmD k1
     have q0:=hcell 0 (by omega)
     have q1:=hcell 1 (by omega)
     rw[Go.Deep.add_add] at q0 q1
     refine ⟨((s.data.toList,bs),c1),by rw[←ztU];simpa using q0,by simpa using q1,hbs,?_⟩
     have hD:D i=.agg [x0.1,x1.1]:=by
      have:=congrArg (·.1) hxx
      simpa using this
     rw[hD]
     simp only[Rows.uptoBulk,Rows.uptoBulkAll]
     show bs.length≤_
     omega
  obtain ⟨E,hE⟩:=choose_lt (α:=Fil×Value) (p:=fun i e=>W.cell? (a.add (i*2))=some (sv e.1.1)∧W.cell? (a.add (i*2+1))=some e.2∧Bs W e.2 e.1.2∧e.1.2.length≤Rows.uptoBulk (D i)) each
  have hd:d=.slice ((List.range len).map D) ((List.range (m-len)).map fun j=>D (len+j)):=congrArg (·.1) hx
  have hbulk:Rows.uptoBulkAll ((List.range len).map D)≤Rows.uptoBulk d:=by rw[hd,zji];omega
  refine ⟨(List.range len).map fun i=>(E i).1,⟨(List.range (len*2)).map fun j=>if j % 2=0 then sv (E (j / 2)).1.1 else (E (j / 2)).2,?_,fun i hi=>?_⟩,?_,fun f hf=>?_⟩
  ·rw[List.length_map,List.length_range]
   refine zhT (by simp) hl hm (by decide) (fun j u hu=>?_)
   have hj:=(List.getElem?_eq_some_iff.1 hu).1
   rw[List.length_map,List.length_range] at hj
   rw[List.getElem?_map,List.getElem?_range hj] at hu
   obtain ⟨h0,h1,_,_⟩:=hE (j / 2) (by omega)
   rcases Nat.mod_two_eq_zero_or_one j with hr | hr
   ·rw[show j / 2*2=j from by omega] at h0
    rw[h0,←hu]
    simp[hr]
   ·rw[show j / 2*2+1=j from by omega] at h1
    rw[h1,←hu]
    simp[hr]
  ·rw[List.length_map,List.length_range] at hi
   obtain ⟨h0,h1,h2,_⟩:=hE i hi
   rw[List.getElem?_map,List.getElem?_range (by omega),List.getElem?_map,List.getElem?_range (by omega)]
   simp only[List.getElem_map,List.getElem_range,Option.map_some]
   refine ⟨?_,(E i).2,?_,h2⟩
   ·rw[if_pos (by omega),show i*2 / 2=i from by omega]
   ·rw[if_neg (by omega),show (i*2+1) / 2=i from by omega]
  ·rw[List.length_map,List.length_range]
   have:=zlq ((List.range len).map D)
   rw[List.length_map,List.length_range] at this
   omega
  ·obtain ⟨i,hi,rfl⟩:=List.mem_map.1 hf
   rw[List.mem_range] at hi
   have h3:=(hE i hi).2.2.2
   have h4:=zkk (d:=D i) (l:=(List.range len).map D) (List.mem_map.2 ⟨i,List.mem_range.2 hi,rfl⟩)
   omega
end
open Go.ChangeShapes Go.WideShapes Go.ChangeAt Go.RowKit Go.Deep Go.Mv Go.WideElems
theorem zst:Tryz.prog.globalNamed "moult/crc.rows"=some 1:=by kernel_rfl
theorem zt5:(Tryz.prog.globals[1]?).map (·.type)=some 267:=by kernel_rfl
theorem zt8:Tryz.prog.cellsOf 142=1:=by kernel_rfl
theorem zt0:Tryz.prog.cellsOf 267=16:=by kernel_rfl
theorem zud:Tryz.prog.globalNamed "internal/strconv.uint64pow10"=some 0:=by kernel_rfl
theorem zug:(Tryz.prog.globals[0]?).map (·.type)=some 264:=by kernel_rfl
theorem zt9:Tryz.prog.cellsOf 234=1:=by kernel_rfl
theorem zt7:Tryz.prog.cellsOf 264=20:=by kernel_rfl
theorem znh {W:World} (h:laidMetH Tryz.prog Rows.storeReadsUptoRow.laid W):StW W:=by
 rw[MakeChecks.laidMetH_plain _ _ _ (by kernel_rfl)] at h
 have h1:laidMet Tryz.prog [("moult/crc.rows",Lib.tabData .u32 (crcTab.map Int.ofNat))] W:=h.filter fun x=>x.1 == "moult/crc.rows"
 have h2:laidMet Tryz.prog [("internal/strconv.uint64pow10",Lib.tabData .u64 Lib.pow10Tab)] W:=h.filter fun x=>x.1 == "internal/strconv.uint64pow10"
 have ht:Lib.TabIs Tryz.prog W "moult/crc.rows" .u32 (crcTab.map Int.ofNat):=Lib.tabIs_of_head (rest:=[]) zst zt5 Tryz.underlying267 Tryz.underlying142 zt8 zt0 h1
 refine ⟨?_,Lib.tabIs_of_head (rest:=[]) zud zug Tryz.underlying264 Tryz.underlying234 zt9 zt7 h2⟩
 intro i hi
 have:=ht.cell zst i (by simpa [crcTab] using hi)
 rw[this]
 congr 2
 show (crcTab.map Int.ofNat).getD i 0=((crcTab.getD i 0:Nat):Int)
 simp[List.getD_eq_getElem?_getD,List.getElem?_map]
 cases crcTab[i]? <;> simp
end Go.Proofs.YtgonhdeochgkoaaGreatDoor

namespace Go.Proofs.YtgonhdeochgkoaaGreatDoor.storeReads
open Go.ChangeShapes Go.WideShapes Go.ChangeAt Go.RowKit Go.Deep Go.Mv Go.WideElems
set_option maxRecDepth 100000 in
theorem contract (H:Type) (enc:TypeId×Value→H) (W:World) (base:Nat) (args:Array Value) (ds gs:List (DataW H)) (before:List MemPlace)
  (hval0:∀ (j:Nat) t v,Tryz.f7.params[j]?=some t→args[j]?=some v→Value.okWide Tryz.prog W .any base t v)
  (hW:DataW.Whole enc Tryz.prog Tryz.f7.params.toList Rows.storeReadsSpec.vars false W args.toList ds gs before) (hk:Rows.uptoSmall H (ds++gs)=true) (hL:laidMetH Tryz.prog Rows.storeReadsUptoRow.laid W) :
  Calls Tryz.prog 7 args W fun e W'=>∃ v,e=.returned v∧Rows.storeReadsSpec.post enc Tryz.prog Tryz.f7 false true false false W args v W':=by
 have hval:∀ (j:Nat) t v,Tryz.f7.params[j]?=some t→args[j]?=some v→Value.okWide Tryz.prog W .any base t v:=hval0
 have hW':=hW
 have hT:=znh hL
 have hb:=of_decide_eq_true hk
 obtain ⟨p,q,hA0,hV,rfl,hfz,hnd⟩:=hW
 have hA:DataW.TrodAll enc Tryz.prog W 0 (fun _=>true) true Tryz.f7.params.toList args.toList ds p:=hA0
 rw[Tryz.params7] at hA hval
 obtain ⟨v0,vs0,d0,ds0,p0,q0,hargs,rfl,rfl,h0,r0⟩:=trodAll_cons hA
 obtain ⟨v1,vs1,d1,ds1,p1,q1,rfl,rfl,rfl,h1,r1⟩:=trodAll_cons r0
 obtain ⟨rfl,rfl,rfl⟩:=trodAll_nil r1
 obtain rfl:args = #[v0,v1]:=by cases args;simp_all
 obtain ⟨rfl,rfl⟩:=trodVars_none hV
 have hb0:Rows.uptoBulk d0≤1048576:=Nat.le_trans (zkk (by simp)) hb
 obtain ⟨l0,hl0,hn0,hf0⟩:=zog (hval 0 22 v0 rfl rfl) h0
 obtain ⟨a1,rfl,rfl,rfl,w1⟩:=open_int Tryz.underlying3 (hval 1 3 v1 rfl rfl) h1
 clear hA0 hval0
 simp only[List.append_nil,List.nil_append] at hW'
 refine (zmw v0 l0 a1 W hT hl0 (by omega) (fun f hf=>by have:=hf0 f hf;omega) ).mono fun e W' ⟨he,hE⟩=>?_
 subst he
 exact ⟨_,rfl,zk0 (pa:=_) (pv:=[]) hW' (fun _ _ _=>trodAll_cons_mk (shut_bool Tryz.underlying4 _) trodAll_mk0)
  (fun sp hsp=>(trodAll_cons_mk (WideElems.Trod_stays zsZ (by kernel_rfl) (of_decide_eq_true (by kernel_rfl)) h0 (fun x hx=>hE.same (hW'.lt x (by simp[hx]))) (fun x hx=>hsp x (by simp[hx]))) (trodAll_cons_mk (shut_int Tryz.underlying3 w1) trodAll_mk0))) (fun _ _=>rfl) (by simp) hE (ok_one (by kernel_rfl) rfl (okWide_bool_mk Tryz.underlying4 _))⟩
theorem laid_met (os:Os):laidMetH Tryz.prog Rows.storeReadsUptoRow.laid ((World.doorLaid Tryz.prog 400 os).forCall (fun _ _=>0) ⟨#[],#[.slice none 0 0,.int .i64 0],[]⟩).memory :=
 laidMetH_of_parts3 (fuel:=8) (laidMet_of_run' 8 (by kernel_rfl) (by kernel_rfl)) (by kernel_rfl) (by kernel_rfl)
theorem reads (os:Os) {H:Type} (enc:TypeId×Value→H):∃ places,DataW.whole enc Tryz.prog ((World.doorLaid Tryz.prog 400 os).forCall (fun _ _=>0) ⟨#[],#[.slice none 0 0,.int .i64 0],[]⟩).memory Tryz.f7.params.toList Rows.storeReadsSpec.vars false (#[.slice none 0 0,.int .i64 0]:Array Value).toList 8=some ([.nil,.lit (.int .i64 0)],[],places) :=
 ⟨[],by kernel_rfl⟩
set_option maxRecDepth 100000 in
theorem lifted (os:Os) (started:os.Started) (H:Type) (enc:TypeId×Value→H) (I:Stop.Interp) :
  ReturnsInHanded {} Tryz.checked os 7 .any ((Rows.OpenSpec.upto Rows.storeReadsSpec).preRow enc Tryz.prog Tryz.f7 Rows.storeReadsUptoRow.domain false Rows.storeReadsUptoRow.laid) (((Rows.OpenSpec.upto Rows.storeReadsSpec).at I).post enc Tryz.prog Tryz.f7 false true false false):=by
 obtain ⟨places,hx⟩:=reads os enc
 refine returnsInHanded_of_row (C:=Tryz.checked) (s:=Rows.OpenSpec.upto Rows.storeReadsSpec) own started (by kernel_rfl) Tryz.func7
  (witness_row_at (enc:=enc) (C:=Tryz.checked) false (World.doorLaid Tryz.prog 400 os) #[.slice none 0 0,.int .i64 0] rfl (by kernel_rfl) (by kernel_rfl) (by kernel_rfl)
    (OpenSpec.preRow_of_cond 8 hx (by kernel_rfl) (fun k hk=>by cases hk;kernel_rfl) (by kernel_rfl) (laid_met os))) ?_
 intro W base args ds gs before hval hW _ hcond _ hL _ _
 exact contract H enc W base args ds gs before hval hW (hcond _ rfl) hL
theorem over:Rows.StoreReadsUptoSaid :=
 OpenClaim.holds_of_cond 7 Tryz.f7 rfl rfl rfl rfl rfl rfl rfl ⟨rfl,rfl,rfl,rfl,rfl⟩ rfl rfl rfl rfl rfl (by kernel_rfl) Tryz.func7 (by kernel_rfl)
  (of_decide_eq_true (by kernel_rfl)) (by unfold Func.isWrapper;first | (rw[if_pos (by decide +kernel)];kernel_rfl) | (rw[if_neg (by decide +kernel)];exact ⟨rfl,rfl⟩))
  (fun os started H enc _ I=>by rw[OpenClaim.pre_eq_preRow];exact lifted os started H enc I)
theorem proved:Rows.StoreReadsUptoCardSaid :=
 Claim7.holds_tied_plain_at .later [] _ _ _ _ over (fun _ h=>by cases h) (by kernel_rfl) (fun _ h=>by cases h) storeReadsUpto_row_tie rfl ⟨rfl,rfl⟩ (by kernel_rfl) rfl
  (fun f fn hf hfn=>by
    obtain rfl:f=7:=Option.some.inj ((show Tryz.prog.funcNamed "moult/moultlaw13.StoreReads"=some 7 by kernel_rfl).symm.trans hf) |>.symm
    obtain rfl:fn=Tryz.f7:=(Option.some.inj (Tryz.func7.symm.trans hfn)).symm
    exact ⟨by kernel_rfl,fun j t ht=>by
     rw[Tryz.params7] at ht
     have hm:t∈[22,3]:=by simpa using Array.mem_of_getElem? ht
     have hall:([22,3].all fun u=>!Tryz.prog.wantsStandIn u)=true:=by kernel_rfl
     exact (show Tryz.prog.wantsStandIn t=false by simpa using List.all_eq_true.1 hall t hm)⟩)
  (by kernel_rfl)
#print axioms proved
end Go.Proofs.YtgonhdeochgkoaaGreatDoor.storeReads
