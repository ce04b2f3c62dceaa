/- Merged -/
import Derived.Test.YtgonhdeochgkoaaGreatDoorZx23
set_option linter.all false
set_option maxHeartbeats 8000000
set_option maxRecDepth 100000
open Bool renaming eq_false_iff→P0,true_and→P1
open List renaming drop_eq_getElem_cons→P2
namespace Go.Proofs.YtgonhdeochgkoaaGreatDoor
open Go.RowKit Go.Mv Go.Shelf
theorem mcDFinea0 {P:Prop} (h:P:=by
 subst hf;have HT:=zhd ht;clear ht;refine tkN 4 rfl ?_;refine tkN 5 rfl ?_;refine tkN 6 rfl ?_;refine tkN 7 rfl ?_;refine tkN 8 rfl ?_;refine tkN 9 rfl ?_;refine tkN 10 rfl ?_;refine tkN 11 rfl ?_;refine tkN 12 rfl ?_;refine tkN 13 rfl ?_;refine tkN 14 rfl ?_;refine tkN 15 rfl ?_;refine tkN 16 rfl ?_;refine tkN 17 rfl ?_;refine tkN 18 rfl ?_;refine tkN 19 rfl ?_;refine tkN 20 rfl ?_;refine wpAnyH_done (by kernel_rfl) ?_ _;go_wp2_with fail;go_ret
 exact ⟨rfl,HE.out⟩):P:=h
theorem mcDFinea1 {P:Prop} (h:P:=by
 refine tkN 9 rfl ?_;refine tkN 10 rfl ?_;refine tkS 11 rfl ?_;refine tkS 12 rfl ?_;refine tkS 13 rfl ?_;refine tkS 14 rfl ?_;refine tkS 15 rfl ?_;refine tkS 16 rfl ?_;refine tkS 17 rfl ?_;refine tkS 18 rfl ?_;refine tkN 19 rfl ?_;refine tkN 20 rfl ?_;refine wpAnyH_done (by kernel_rfl) ?_ _;go_wp2_with fail;go_ret
 exact ⟨rfl,HE.out⟩):P:=h
theorem zqM {k:Int} (h:k=1∨k=2∨k=3∨k=4):∃ f,zdL k=.func (.func f) #[] #[]:=by
 unfold zdL
 rcases h with rfl | rfl | rfl | rfl <;> exact ⟨_,rfl⟩
theorem zpg {k:Int} (h:¬ (k=1∨k=2∨k=3∨k=4)):zdL k=.nilFunc:=by
 unfold zdL;rw[if_neg (by omega),if_neg (by omega),if_neg (by omega),if_neg (by omega)]
theorem zk5 (o:Oq) (v:Value) (w:World) (hB:Bs w v o.b):Calls Tryz.prog 134 #[.agg #[.int .u8 o.k,sv o.n,sv o.t,v]] w fun e w'=>e=.returned (.bool (zbn o))∧Ext w w':=by
 obtain ⟨A,c,rfl,_,_⟩:=xO hB;obtain ⟨k,n,t,b⟩:=o
 dsimp only at *
 have hX:Ext w (w.alloc (.cells #[.int .u8 k,sv n,sv t,.slice A b.length c] 86)):=xA (xR _) _
 have Ht:=Blk.new w 86 #[.int .u8 k,sv n,sv t,.slice A b.length c];have HX:=zhd hX;have Hp:=zhd Ht
 have HK:=zhd (fun W r h=>zh2 k W r h)
 have HP:=zoG;have HS:=zoH;clear hX Ht hB
 simp only[sv] at *
 obtain ⟨F,hF⟩:∃ F,zbn ⟨k,n,t,b⟩=F:=⟨_,rfl⟩;rw[hF];have HF:=zhd hF;clear hF;obtain ⟨g0,g1,g2,g3⟩:=blk4 Hp.out
 go_enter Tryz.func134,Tryz.ntmps134
 go_wp2_with fail
 refine wp_region_held_drew (S:=fun W=>W.cell? ⟨w.heap.size,0,none⟩=some (.int .u8 k)∧W.cell? ⟨w.heap.size,1,none⟩=some (.string ⟨n.toArray⟩)∧W.cell? ⟨w.heap.size,2,none⟩=some (.string ⟨t.toArray⟩)) (by kernel_rfl) ⟨g0,g1,g2⟩ (fun _=>?_)
 refine tkN 1 rfl ?_;refine tkN 2 rfl ?_
 refine ar1 0 rfl (fun K hK=>?_)
 go_simp
 refine (zka _).mono ?_
 rintro e w2 ⟨rfl,Hm⟩
 have H7:Ext (w.alloc (.cells #[.int .u8 k,.string ⟨n.toArray⟩,.string ⟨t.toArray⟩,.slice A b.length c] 86)) w2:=by rw[←Hm];exact xA (xD (xR _)) _
 have He:w2.heap[(w.alloc (.cells #[.int .u8 k,.string ⟨n.toArray⟩,.string ⟨t.toArray⟩,.slice A b.length c] 86)).drew.heap.size]?=some (.map ddMap 4):=by rw[←Hm];exact World.alloc_heap_new _ _
 have HO:=HK.out w2 _ He;clear Hm He
 generalize (w.alloc (.cells #[.int .u8 k,.string ⟨n.toArray⟩,.string ⟨t.toArray⟩,.slice A b.length c] 86)).drew.heap.size=N at *
 obtain ⟨e0,e1,e2,_⟩:=blk4 (Hp.out.ext H7);have HE:=zhd (xT HX.out H7);clear g0 g1 g2 g3 H7
 refine shK hK _ _ ⟨e0,e1,e2⟩ (fun _=>?_)
 refine ar1 3 rfl (fun K hK=>?_)
 go_simp
 refine shK hK _ _ ⟨e0,e1,e2⟩ (fun _=>?_)
 by_cases hk:k=1∨k=2∨k=3∨k=4
 case neg =>
  rw[zpg hk]
  have hf:false=F:=by
   rw[←HF.out]
   symm
   rw[P0];intro h
   exact hk ((zde _).1 h).1
  subst hf;clear hk;refine tkN 4 rfl ?_;refine tkN 5 rfl ?_;refine tkS 6 rfl ?_;refine tkS 7 rfl ?_;refine tkS 8 rfl ?_
  exact mcDFinea1
 obtain ⟨f,hf⟩:=zqM hk;rw[hf];have Hr:=zhd hk;clear hf hk
 by_cases hn:n=[]
 case pos =>
  have Hl:(n==[])=true:=by simpa using hn
  have hf:false=F:=by
   rw[←HF.out]
   symm
   rw[P0];intro h
   exact ((zde _).1 h).2.1 hn
  subst hf;have HN:=zhd hn;clear hn;refine tkN 4 rfl ?_;refine tkN 5 rfl ?_;refine tkN 6 rfl ?_;refine tkN 7 rfl ?_;refine tkN 8 rfl ?_
  exact mcDFinea1
 have Hl:(n==[])=false:=by simpa using hn
 have HN:=zhd hn;clear hn
 by_cases hk3:k=3
 case neg =>
  have Hy:(k != 3)=true:=by simp[hk3]
  have hf:true=F:=by
   rw[←HF.out]
   exact ((zde _).2 ⟨Hr.out,HN.out,fun h=>absurd h hk3⟩).symm
  subst hf;clear hk3;refine tkN 4 rfl ?_;refine tkN 5 rfl ?_;refine tkN 6 rfl ?_;refine tkN 7 rfl ?_;refine tkN 8 rfl ?_;refine tkN 9 rfl ?_;refine tkN 10 rfl ?_;refine tkN 11 rfl ?_;refine tkN 12 rfl ?_;refine tkN 13 rfl ?_;refine tkN 14 rfl ?_;refine tkS 15 rfl ?_;refine tkS 16 rfl ?_;refine tkS 17 rfl ?_;refine tkN 18 rfl ?_;refine tkN 19 rfl ?_;refine tkN 20 rfl ?_;refine wpAnyH_done (by kernel_rfl) ?_ _;go_wp2_with fail;go_ret
  exact ⟨rfl,HE.out⟩
 have Hy:(k != 3)=false:=by simp[hk3]
 have Hv:=zhd hk3;clear hk3
 by_cases ht:t=[]
 case pos =>
  have HD:(t==[])=true:=by simpa using ht
  have hf:false=F:=by
   rw[←HF.out]
   symm
   rw[P0];intro h
   exact ((zde _).1 h).2.2 Hv.out ht
  exact mcDFinea0
 have HD:(t==[])=false:=by simpa using ht
 have hf:true=F:=by
  rw[←HF.out]
  exact ((zde _).2 ⟨Hr.out,HN.out,fun _=>ht⟩).symm
 exact mcDFinea0
/-! Right's test of the queue -/
theorem znN (o:Oq) (v:Value) (w:World) (hB:Bs w v o.b):Calls Tryz.prog 191 #[.agg #[.int .u8 o.k,sv o.n,sv o.t,v]] w fun e w'=>e=.returned (.bool (!zbn o))∧Ext w w':=by
 obtain ⟨A,c,rfl,_,_⟩:=xO hB
 have hX:Ext w (w.alloc (.cells #[.int .u8 o.k,sv o.n,sv o.t,.slice A o.b.length c] 86)):=xA (xR _) _
 obtain ⟨g0,g1,g2,g3⟩:=blk4 (Blk.new w 86 #[.int .u8 o.k,sv o.n,sv o.t,.slice A o.b.length c]);have HC:=zhd (zk5 o _ _ (hB.ext hX));have HX:=zhd hX;clear hX hB
 simp only[sv] at *
 go_enter Tryz.func191,Tryz.ntmps191
 go_wp2_with fail
 refine HC.out.mono ?_
 rintro e w1 ⟨rfl,hE⟩;go_wp2_with fail;go_ret
 exact ⟨rfl,xT HX.out hE⟩
def zgT:List Oq→Nat→Int
 | [],_=>-1
 | o::q,i=>if zbn o then zgT q (i+1) else i
theorem znx (q:List Oq) (i:Nat):(0≤zgT q i↔q.all zbn=false)∧-1≤zgT q i:=by
 induction q generalizing i with
 | nil=>simp[zgT]
 | cons o q ih =>
  have:=ih (i+1)
  unfold zgT;rw[List.all_cons]
  cases h:zbn o <;> simp[h] at this ⊢ <;> first | omega | exact this
theorem zkI (v:Value) (q:List Oq) (w:World) (h:Qs w v q) (hl:q.length≤2000000) :
  Calls Tryz.prog 232 #[v,.func (.func 191) #[] #[]] w fun e w'=>e=.returned (.int .i64 (zgT q 0))∧Ext w w':=by
 obtain ⟨A,c,rfl,h1,h2⟩:=Qs.open_ h;have HQ:=zhd h;clear h
 go_enter Tryz.func232,Tryz.ntmps232
 go_wp2_with fail
 go_loopw [8] (fun i wr=>∃ k:Nat,k≤q.length∧i=.int .i64 k∧Hid (zgT q 0=zgT (q.drop k) k)∧Ext w wr) (fun i _=>q.length-(intOf i).toNat)
 case atStart=>exact ⟨0,Nat.zero_le _,rfl,rfl,xR _⟩
 case round =>
  obtain ⟨k,hk,rfl,Hb,hB⟩:=hrel
  by_cases hlt:k<q.length
  ·obtain ⟨_,b,HG,rfl,hc⟩:=(HQ.out.ext hB).at_ (by omega)
   obtain ⟨k0,k1,k2,B,d,k3,Hs⟩:=hc k hlt;have hbd:=Hb.out;rw[P2 hlt,zgT] at hbd;have Ho:=zhd hbd
   have HC:=zhd (fun W hW=>znN q[k] _ W (Bs.ext Hs hW))
   clear hc Hs hbd Hb
   generalize q[k]=o at *
   simp only[sv] at *
   go_wp2_with (go_at_call 191;refine (HC.out _ (xR _)).mono ?_;rintro e w' ⟨rfl,hb⟩)
   ·go_ret
    have Hl:zbn o=false:=by simpa using (by assumption:(!zbn o)=true)
    have:=Ho.out
    rw[Hl] at this
    exact ⟨by rw[this];rfl,xT hB hb⟩
   ·go_roundw
    case rel =>
     have HA:zbn o=true:=by simpa using (by assumption:(!zbn o)=false)
     have:=Ho.out
     rw[HA] at this
     exact ⟨k+1,by omega,by go_num,this,xT hB hb⟩
    case measure=>simp[intOf];omega
  ·go_wp2_with fail
   go_ret
   have:=Hb.out
   rw[List.drop_of_length_le (by omega)] at this
   exact ⟨by rw[this];rfl,hB⟩
theorem ziQ (v:Value) (q:List Oq) (w:World) (h:Qs w v q) (hl:q.length≤2000000) :
  Calls Tryz.prog 190 #[v,.func (.func 191) #[] #[]] w fun e w'=>e=.returned (.bool (!q.all zbn))∧Ext w w':=by
 obtain ⟨h1,h2⟩:=znx q 0;have H1:=zhd h1;have H2:=zhd h2;have HC:=zhd (zkI v q w h hl);clear h1 h2
 go_enter Tryz.func190,Tryz.ntmps190
 go_wp2_with fail
 refine HC.out.mono ?_
 rintro e w1 ⟨rfl,hE⟩;go_wp2_with fail;go_ret
 refine ⟨ret_bool ?_,hE⟩
 have:=H1.out
 cases h:q.all zbn <;> simp[h] at this ⊢ <;> omega
theorem mcDRighta0 {P:Prop} (h:P:=by
 refine tkN 15 rfl ?_;refine tkN 16 rfl ?_;refine tkS 17 rfl ?_;refine tkS 18 rfl ?_;refine tkS 19 rfl ?_;refine tkS 20 rfl ?_;refine tkS 21 rfl ?_;refine tkN 22 rfl ?_;refine tkN 23 rfl ?_;refine wpAnyH_done (by kernel_rfl) ?_ _;go_wp2_with fail;go_ret
 exact ⟨rfl,xD H4.out⟩):P:=h
theorem zuL {l n:List UInt8} (h:ltB l n=true):Op.bytesLess n l=false∧(n==l)=false:=by
 constructor
 ·rw[P0]
  intro h2
  have:=zf7 h h2
  rw[zhe] at this
  cases this
 ·simpa using (zkl h).symm
theorem zsF {l n:List UInt8} (h:ltB l n=false):(Op.bytesLess n l||n==l)=true:=by
 by_cases he:n=l
 ·simp[he]
 ·rw[show Op.bytesLess n l=true from zoE h (Ne.symm he)]
  rfl
structure RiI (w:World) (d:Dk) (b:Nat) (cs:Array Value) (l:List UInt8) (k:Nat) (W:World):Prop where
 ri:zbG [] d.fs=zbG l (d.fs.drop k)
 bl:Blk W b 25 cs
 e:Ext w W
theorem zpj (v:Value) (d:Dk) (w:World) (hD:DkV w v d) (Hk:d.fs.length≤2000000) (Hh:d.q.length≤2000000) (hb:tot d.fs+zaG d.q≤70000000) :
  Calls Tryz.prog 164 #[v] w fun e w'=>e=.returned (.bool d.right)∧Ext w w':=by
 obtain ⟨vf,vq,rfl,hF,hQ⟩:=hD;obtain ⟨A,c,rfl,_,_⟩:=Fs.open_ hF;obtain ⟨B,e2,rfl,_,_⟩:=Qs.open_ hQ
 have H5:Ext w (w.alloc (.cells #[.slice A d.fs.length c,.slice B d.q.length e2,.int .i64 d.quota,.int .i64 d.fuse,.bool d.dead] 25)):=xA (xR _) _
 have H8:=Blk.new w 25 #[.slice A d.fs.length c,.slice B d.q.length e2,.int .i64 d.quota,.int .i64 d.fuse,.bool d.dead];have HF:=zhd hF;have HQ:=zhd hQ;have HB:=zhd hb
 have HI:=zhd (show RiI w d w.heap.size #[.slice A d.fs.length c,.slice B d.q.length e2,.int .i64 d.quota,.int .i64 d.fuse,.bool d.dead] [] 0 _ from ⟨rfl,H8,H5⟩)
 obtain ⟨R,hR⟩:∃ R,d.right=R:=⟨_,rfl⟩;have HR:=zhd hR;rw[hR];clear hF hQ hb H5 hR;obtain ⟨g0,g1,g2,g3,g4⟩:=zac H8;clear H8
 go_enter Tryz.func164,Tryz.ntmps164
 go_wp2_with fail;clear g0 g1 g2 g3 g4
 go_loopw [3,10] (fun vl i wr=>∃ (k:Nat) (l:List UInt8),k≤d.fs.length∧i=.int .i64 k∧vl=.string ⟨l.toArray⟩∧Hid (RiI w d w.heap.size #[.slice A d.fs.length c,.slice B d.q.length e2,.int .i64 d.quota,.int .i64 d.fuse,.bool d.dead] l k wr)) (fun _ i _=>d.fs.length-(intOf i).toNat)
 case atStart=>exact ⟨0,[],Nat.zero_le _,rfl,rfl,HI⟩
 case round =>
  clear HI;obtain ⟨k,l,hk,rfl,rfl,HI⟩:=hrel
  by_cases hlt:k<d.fs.length
  ·obtain ⟨_,b,HG,rfl,hc⟩:=(HF.out.ext HI.out.e).at_ (by omega)
   obtain ⟨HH,B2,d2,HJ,_⟩:=hc k hlt;have H9:=HI.out.ri;rw[P2 hlt,zbG] at H9;have Hc:=zhd H9;have Ha:=zhd HI.out.bl;have HE:=zhd HI.out.e;clear hc H9 HI
   generalize d.fs[k]=x at *
   obtain ⟨n,bb⟩:=x
   dsimp only at *
   have HX:=zhd (Blk.new wr 51 #[sv n,.slice B2 bb.length d2]);obtain ⟨x0,x1⟩:=zhW HX.out
   simp only[sv] at *
   cases hcmp:ltB l n with
   | false =>
    have Hx:=zsF hcmp
    have hf:false=R:=by
     rw[←HR.out];unfold Dk.right;rw[Hc.out,hcmp];rfl
    subst hf;clear hcmp;go_wp2_with fail;go_ret
    exact ⟨rfl,xA HE.out _⟩
   | true =>
    obtain ⟨Hx,HL⟩:=zuL hcmp
    have Hi:=zhd (show zbG [] d.fs=zbG n (d.fs.drop (k+1)) from by rw[Hc.out,hcmp,P1])
    clear hcmp;go_wp2_with fail
    go_roundw
    case rel=>exact ⟨k+1,n,by omega,by go_num,rfl,⟨Hi.out,Ha.out.alloc _,xA HE.out _⟩⟩
    case measure=>simp[intOf];omega
  ·obtain rfl:k=d.fs.length:=by omega
   have H9:=HI.out.ri;rw[List.drop_length,zbG] at H9;have Hc:=zhd H9;have Ha:=zhd HI.out.bl;have HE:=zhd HI.out.e;clear HI H9;obtain ⟨g0,g1,g2,g3,g4⟩:=zac Ha.out;go_wp2_with fail
   refine (ziQ _ d.q _ (HQ.out.ext HE.out) Hh).mono ?_
   rintro e w1 ⟨rfl,H6⟩;clear g0 g1 g2 g3 g4;have Hf:=zhd (Ha.out.ext H6);have H4:=zhd (xT HE.out H6);clear Ha HE H6;obtain ⟨g0,g1,g2,g3,g4⟩:=zac Hf.out
   have Hg:=zhd (show (d.q.all zbn&&decide (d.q.length≤400)&&decide (0≤d.quota)&&decide (0≤d.fuse)&&decide ((tot d.now:Int)≤d.quota))=R from by rw[←HR.out];unfold Dk.right;rw[Hc.out,P1])
   clear HR Hc
   cases hall:d.q.all zbn with
   | false =>
    have hf:false=R:=by rw[←Hg.out,hall];rfl
    subst hf;clear Hg hall;go_wp2_with fail
    refine wp_region_held_drew (S:=fun W=>W.cell? ⟨w.heap.size,0,none⟩=some (.slice A d.fs.length c)∧W.cell? ⟨w.heap.size,1,none⟩=some (.slice B d.q.length e2)∧W.cell? ⟨w.heap.size,2,none⟩=some (.int .i64 d.quota)∧W.cell? ⟨w.heap.size,3,none⟩=some (.int .i64 d.fuse)∧W.cell? ⟨w.heap.size,4,none⟩=some (.bool d.dead)) (by kernel_rfl) ⟨g0,g1,g2,g3,g4⟩ (fun _=>?_)
    refine tkN 0 rfl ?_;refine tkN 1 rfl ?_;refine tkN 2 rfl ?_;refine tkS 3 rfl ?_;refine tkS 4 rfl ?_;refine tkS 5 rfl ?_;refine tkS 6 rfl ?_;refine tkN 7 rfl ?_;refine tkN 8 rfl ?_;refine tkS 9 rfl ?_;refine tkS 10 rfl ?_;refine tkS 11 rfl ?_;refine tkS 12 rfl ?_;refine tkS 13 rfl ?_;refine tkS 14 rfl ?_
    exact mcDRighta0
   | true =>
    have H0:=zhd (show (decide (d.q.length≤400)&&decide (0≤d.quota)&&decide (0≤d.fuse)&&decide ((tot d.now:Int)≤d.quota))=R from by rw[←Hg.out,hall,P1])
    clear Hg hall;go_wp2_with fail
    refine wp_region_held_drew (S:=fun W=>W.cell? ⟨w.heap.size,0,none⟩=some (.slice A d.fs.length c)∧W.cell? ⟨w.heap.size,1,none⟩=some (.slice B d.q.length e2)∧W.cell? ⟨w.heap.size,2,none⟩=some (.int .i64 d.quota)∧W.cell? ⟨w.heap.size,3,none⟩=some (.int .i64 d.fuse)∧W.cell? ⟨w.heap.size,4,none⟩=some (.bool d.dead)) (by kernel_rfl) ⟨g0,g1,g2,g3,g4⟩ (fun _=>?_)
    by_cases h4:d.q.length≤400
    case neg =>
     have Hw:decide (((d.q.length:Nat):Int)≤400)=false:=by simp;omega
     have hf:false=R:=by rw[←H0.out];simp[h4]
     subst hf;clear H0 h4;refine tkN 0 rfl ?_;refine tkN 1 rfl ?_;refine tkN 2 rfl ?_;refine tkN 3 rfl ?_;refine tkN 4 rfl ?_;refine tkN 5 rfl ?_;refine tkN 6 rfl ?_;refine tkN 7 rfl ?_;refine tkN 8 rfl ?_;refine tkS 9 rfl ?_;refine tkS 10 rfl ?_;refine tkS 11 rfl ?_;refine tkS 12 rfl ?_;refine tkS 13 rfl ?_;refine tkS 14 rfl ?_
     exact mcDRighta0
    have Hw:decide (((d.q.length:Nat):Int)≤400)=true:=by simp;omega
    have H3:=zhd (show (decide (0≤d.quota)&&decide (0≤d.fuse)&&decide ((tot d.now:Int)≤d.quota))=R from by rw[←H0.out];simp[h4])
    clear H0 h4
    by_cases hmn:0≤min d.quota d.fuse
    case neg =>
     have Hz:decide (0≤min d.quota d.fuse)=false:=by simpa using hmn
     have hf:false=R:=by
      rw[←H3.out]
      by_cases h1:0≤d.quota
      ·have h2:¬ 0≤d.fuse:=by omega
       simp[h2]
      ·simp[h1]
     subst hf;clear H3 hmn;refine tkN 0 rfl ?_;refine tkN 1 rfl ?_;refine tkN 2 rfl ?_;refine tkN 3 rfl ?_;refine tkN 4 rfl ?_;refine tkN 5 rfl ?_;refine tkN 6 rfl ?_;refine tkN 7 rfl ?_;refine tkN 8 rfl ?_;refine tkN 9 rfl ?_;refine tkN 10 rfl ?_;refine tkN 11 rfl ?_;refine tkN 12 rfl ?_;refine tkN 13 rfl ?_;refine tkN 14 rfl ?_
     exact mcDRighta0
    have Hz:decide (0≤min d.quota d.fuse)=true:=by simpa using hmn
    have Hj:=zhd (show decide ((tot d.now:Int)≤d.quota)=R from by
     rw[←H3.out]
     have h1:0≤d.quota:=by omega
     have h2:0≤d.fuse:=by omega
     simp[h1,h2])
    clear H3 hmn;refine tkN 0 rfl ?_;refine tkN 1 rfl ?_;refine tkN 2 rfl ?_;refine tkN 3 rfl ?_;refine tkN 4 rfl ?_;refine tkN 5 rfl ?_;refine tkN 6 rfl ?_;refine tkN 7 rfl ?_;refine tkN 8 rfl ?_;refine tkN 9 rfl ?_;refine tkN 10 rfl ?_;refine tkN 11 rfl ?_;refine tkN 12 rfl ?_;refine tkN 13 rfl ?_;refine tkN 14 rfl ?_;refine tkN 15 rfl ?_;refine tkN 16 rfl ?_;refine tkN 17 rfl ?_;refine tkN 19 rfl ?_;refine tkN 20 rfl ?_
    refine ar1 18 rfl (fun K hK=>?_)
    go_simp
    refine (zsn _ d _ (show DkV _ _ d from ⟨_,_,rfl,HF.out.ext (xD H4.out),HQ.out.ext (xD H4.out)⟩) Hk Hh HB.out).mono ?_
    rintro e w2 ⟨rfl,Hd⟩;have H7:=xT (xD (xR _)) Hd;have Hu:=zhd (xT H4.out H7);clear g0 g1 g2 g3 g4;obtain ⟨g0,g1,g2,g3,g4⟩:=zac (Hf.out.ext H7);clear H7 Hd
    refine shK hK _ _ ⟨g0,g1,g2,g3,g4⟩ (fun _=>?_)
    refine tkN 21 rfl ?_;refine tkN 22 rfl ?_;refine tkN 23 rfl ?_;refine wpAnyH_done (by kernel_rfl) ?_ _;go_wp2_with fail;go_ret
    exact ⟨by rw[←Hj.out];rfl,Hu.out⟩
theorem zsI (v:Value) (d:Dk) (w:World) (hD:DkV w v d) (Hk:d.fs.length≤2000000) (Hh:d.q.length≤2000000) (hb:tot d.fs+zaG d.q≤70000000) :
  Calls Tryz.prog 133 #[v] w fun e w'=>e=.returned (.int .i64 d.may)∧Ext w w':=by
 obtain ⟨vf,vq,rfl,hF,hQ⟩:=hD;obtain ⟨A,c,rfl,_,_⟩:=Fs.open_ hF;obtain ⟨B,e2,rfl,_,_⟩:=Qs.open_ hQ
 have H5:Ext w (w.alloc (.cells #[.slice A d.fs.length c,.slice B d.q.length e2,.int .i64 d.quota,.int .i64 d.fuse,.bool d.dead] 25)):=xA (xR _) _
 have H8:=Blk.new w 25 #[.slice A d.fs.length c,.slice B d.q.length e2,.int .i64 d.quota,.int .i64 d.fuse,.bool d.dead]
 have HC:=zhd (zpj _ d _ (show DkV _ _ d from ⟨_,_,rfl,hF.ext H5,hQ.ext H5⟩) Hk Hh hb)
 have Hq:=zhd H5;have Hn:=zhd H8;obtain ⟨M,hM⟩:∃ M,d.may=M:=⟨_,rfl⟩;rw[hM];have HM:=zhd hM;clear hF hQ H5 hb hM;obtain ⟨g0,g1,g2,g3,g4⟩:=zac H8;clear H8
 go_enter Tryz.func133,Tryz.ntmps133
 go_wp2_with fail
 refine HC.out.mono ?_
 rintro e w1 ⟨rfl,H6⟩;have Hf:=zhd (Hn.out.ext H6);have H4:=zhd (xT Hq.out H6);clear g0 g1 g2 g3 g4 HC Hn Hq H6;obtain ⟨g0,g1,g2,g3,g4⟩:=zac Hf.out
 cases hr:d.right with
 | false =>
  have hm:(2:Int)=M:=by rw[←HM.out];unfold Dk.may;rw[if_pos hr]
  subst hm;clear hr;go_wp2_with fail;go_ret
  exact ⟨rfl,H4.out⟩
 | true =>
  cases hd:d.dead with
  | true =>
   have hm:(40:Int)=M:=by rw[←HM.out];unfold Dk.may;rw[if_neg (by rw[hr];simp),if_pos hd]
   subst hm;clear hr;rw[hd] at g4;go_wp2_with fail;go_ret
   exact ⟨rfl,H4.out⟩
  | false =>
   have hm:(0:Int)=M:=by rw[←HM.out];unfold Dk.may;rw[if_neg (by rw[hr];simp),if_neg (by rw[hd];simp)]
   subst hm;clear hr;rw[hd] at g4;go_wp2_with fail;go_ret
   exact ⟨rfl,H4.out⟩
def zf2 (W:World) (b:Nat) (f:Int):World:=if 0<f then (W.setCell ⟨b,3,none⟩ (.int .i64 (f-1))).setCell ⟨b,4,none⟩ (.bool (f-1==0)) else W
theorem zmg (b:Nat) (vf vq:Value) (q f:Int) (dd:Bool) (w:World) (hB:Blk w b 25 #[vf,vq,.int .i64 q,.int .i64 f,.bool dd]) (hf:f≤9223372036854775807) :
  Calls Tryz.prog 136 #[.pointer (some ⟨b,0,none⟩)] w fun e w'=>e=.returned (.tuple #[])∧zf2 w b f=w':=by
 obtain ⟨g0,g1,g2,g3,g4⟩:=zac hB;have f3:=hB.frozen 3;have f4:=hB.frozen 4;unfold zf2
 by_cases h0:0<f
 ·rw[if_pos h0]
  have hw:wrap64 (f-1)=f-1:=by unfold wrap64;omega
  go_enter Tryz.func136,Tryz.ntmps136
  go_wp2_with fail
  refine bodyPost_end (results_none rfl _ _ _) rfl ?_
  exact ⟨rfl,rfl⟩
 ·rw[if_neg h0]
  go_enter Tryz.func136,Tryz.ntmps136
  go_wp2_with fail
  refine bodyPost_end (results_none rfl _ _ _) rfl ?_
  exact ⟨rfl,rfl⟩
end Go.Proofs.YtgonhdeochgkoaaGreatDoor
