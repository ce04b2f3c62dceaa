/- Merged -/
import Derived.Test.YteggfecbjgbndaaGreatDoorZw26
set_option linter.all false
set_option maxHeartbeats 8000000
set_option maxRecDepth 100000
open Go.Value renaming slice→C,int→D,bool→G
open Go.IntKind renaming i64→E
open Go.Mv renaming zhd→F
open Option renaming none→H,some→I
namespace Go.Proofs.YteggfecbjgbndaaGreatDoor
open Go.RowKit Go.Mv Go.Shelf
theorem mcDRighta0 {P:Prop} (h:P:=by
 refine tkN 15 ?_;refine tkN 16 ?_;refine tkS 17 ?_;refine tkS 18 ?_;refine tkS 19 ?_;refine tkS 20 ?_;refine tkS 21 ?_;refine tkN 22 ?_;refine tkN 23 ?_;refine wdD ?_;go_wp2_with fail;go_ret
 exact ⟨rfl,xD H2.out⟩):P:=h
theorem zux {l n:List UInt8} (h:ltB l n=true):Op.bytesLess n l=false∧(n==l)=false:=by
 constructor
 ·rw[Bool.eq_false_iff]
  intro h2
  have:=zhW h h2
  rw[zg4] at this
  cases this
 ·simpa using (zmi h).symm
theorem zsy {l n:List UInt8} (h:ltB l n=false):(Op.bytesLess n l||n==l)=true:=by
 by_cases he:n=l
 ·simp[he]
 ·rw[show Op.bytesLess n l=true from zom h (Ne.symm he)]
  rfl
structure RiI (w:World) (d:Dk) (b:Nat) (cs:Array Value) (l:List UInt8) (k:Nat) (W:World):Prop where
 ri:zbP [] d.fs=zbP l (d.fs.drop k)
 bl:Blk W b 25 cs
 e:Ext w W
theorem zpg (v:Value) (d:Dk) (w:World) (hD:DkV w v d) (Hg:d.fs.length≤2000000) (Hc:d.q.length≤2000000) (hb:tot d.fs+zaW d.q≤70000000) :
  Calls Tryz.prog 221 #[v] w fun e w'=>e=.returned (G d.right)∧Ext w w':=by
 obtain ⟨vf,vq,rfl,hF,hQ⟩:=hD;obtain ⟨A,c,rfl,_,_⟩:=Fs.open_ hF;obtain ⟨B,e2,rfl,_,_⟩:=Qs.open_ hQ
 have H3:Ext w (w.alloc (.cells #[C A d.fs.length c,C B d.q.length e2,D E d.quota,D E d.fuse,G d.dead] 25)):=xA (xR _) _
 have H5:=Blk.new w 25 #[C A d.fs.length c,C B d.q.length e2,D E d.quota,D E d.fuse,G d.dead];have HF:=F hF;have HQ:=F hQ;have HB:=F hb
 have HI:=F (show RiI w d w.heap.size #[C A d.fs.length c,C B d.q.length e2,D E d.quota,D E d.fuse,G d.dead] [] 0 _ from ⟨rfl,H5,H3⟩)
 obtain ⟨R,hR⟩:∃ R,d.right=R:=⟨_,rfl⟩;have HR:=F hR;rw[hR];clear hF hQ hb H3 hR;obtain ⟨g0,g1,g2,g3,g4⟩:=zaa H5;clear H5
 go_enter Tryz.func221,Tryz.ntmps221
 go_wp2_with fail;clear g0 g1 g2 g3 g4
 go_loopw [3,10] (fun vl i wr=>∃ (k:Nat) (l:List UInt8),k≤d.fs.length∧i=D E k∧vl=.string ⟨l.toArray⟩∧Hid (RiI w d w.heap.size #[C A d.fs.length c,C B d.q.length e2,D E d.quota,D E d.fuse,G d.dead] l k wr)) (fun _ i _=>d.fs.length-(intOf i).toNat)
 case atStart=>exact ⟨0,[],Nat.zero_le _,rfl,rfl,HI⟩
 case round =>
  clear HI;obtain ⟨k,l,hk,rfl,rfl,HI⟩:=hrel
  by_cases hlt:k<d.fs.length
  ·obtain ⟨_,b,Hq,rfl,hc⟩:=(HF.out.ext HI.out.e).at_ (by omega)
   obtain ⟨Hn,B2,d2,Ho,_⟩:=hc k hlt;have H6:=HI.out.ri;rw[List.drop_eq_getElem_cons hlt,zbP] at H6;have H8:=F H6;have H7:=F HI.out.bl;have HE:=F HI.out.e;clear hc H6 HI
   generalize d.fs[k]=x at *
   obtain ⟨n,bb⟩:=x
   dsimp only at *
   have HX:=F (Blk.new wr 68 #[sv n,C B2 bb.length d2]);obtain ⟨x0,x1⟩:=zhF HX.out
   simp only[sv] at *
   cases hcmp:ltB l n with
   | false =>
    have Hl:=zsy hcmp
    have hf:false=R:=by
     rw[←HR.out];unfold Dk.right;rw[H8.out,hcmp];rfl
    subst hf;clear hcmp;go_wp2_with fail;go_ret
    exact ⟨rfl,xA HE.out _⟩
   | true =>
    obtain ⟨Hl,Hp⟩:=zux hcmp
    have Hd:=F (show zbP [] d.fs=zbP n (d.fs.drop (k+1)) from by rw[H8.out,hcmp,Bool.true_and])
    clear hcmp;go_wp2_with fail
    go_roundw
    case rel=>exact ⟨k+1,n,by omega,by go_num,rfl,⟨Hd.out,H7.out.alloc _,xA HE.out _⟩⟩
    case measure=>simp[intOf];omega
  ·obtain rfl:k=d.fs.length:=by omega
   have H6:=HI.out.ri;rw[List.drop_length,zbP] at H6;have H8:=F H6;have H7:=F HI.out.bl;have HE:=F HI.out.e;clear HI H6;obtain ⟨g0,g1,g2,g3,g4⟩:=zaa H7.out;go_wp2_with fail
   refine (ziB _ d.q _ (HQ.out.ext HE.out) Hc).mono ?_
   rintro e w1 ⟨rfl,H4⟩;clear g0 g1 g2 g3 g4;have Ha:=F (H7.out.ext H4);have H2:=F (xT HE.out H4);clear H7 HE H4;obtain ⟨g0,g1,g2,g3,g4⟩:=zaa Ha.out
   have Hb:=F (show (d.q.all zbo&&decide (d.q.length≤400)&&decide (0≤d.quota)&&decide (0≤d.fuse)&&decide ((tot d.now:Int)≤d.quota))=R from by rw[←HR.out];unfold Dk.right;rw[H8.out,Bool.true_and])
   clear HR H8
   cases hall:d.q.all zbo with
   | false =>
    have hf:false=R:=by rw[←Hb.out,hall];rfl
    subst hf;clear Hb hall;go_wp2_with fail
    refine wp_region_held_drew (S:=fun W=>W.cell? ⟨w.heap.size,0,H⟩=I (C A d.fs.length c)∧W.cell? ⟨w.heap.size,1,H⟩=I (C B d.q.length e2)∧W.cell? ⟨w.heap.size,2,H⟩=I (D E d.quota)∧W.cell? ⟨w.heap.size,3,H⟩=I (D E d.fuse)∧W.cell? ⟨w.heap.size,4,H⟩=I (G d.dead)) (by kernel_rfl) ⟨g0,g1,g2,g3,g4⟩ (fun _=>?_)
    refine tkN 0 ?_;refine tkN 1 ?_;refine tkN 2 ?_;refine tkS 3 ?_;refine tkS 4 ?_;refine tkS 5 ?_;refine tkS 6 ?_;refine tkN 7 ?_;refine tkN 8 ?_;refine tkS 9 ?_;refine tkS 10 ?_;refine tkS 11 ?_;refine tkS 12 ?_;refine tkS 13 ?_;refine tkS 14 ?_
    exact mcDRighta0
   | true =>
    have H0:=F (show (decide (d.q.length≤400)&&decide (0≤d.quota)&&decide (0≤d.fuse)&&decide ((tot d.now:Int)≤d.quota))=R from by rw[←Hb.out,hall,Bool.true_and])
    clear Hb hall;go_wp2_with fail
    refine wp_region_held_drew (S:=fun W=>W.cell? ⟨w.heap.size,0,H⟩=I (C A d.fs.length c)∧W.cell? ⟨w.heap.size,1,H⟩=I (C B d.q.length e2)∧W.cell? ⟨w.heap.size,2,H⟩=I (D E d.quota)∧W.cell? ⟨w.heap.size,3,H⟩=I (D E d.fuse)∧W.cell? ⟨w.heap.size,4,H⟩=I (G d.dead)) (by kernel_rfl) ⟨g0,g1,g2,g3,g4⟩ (fun _=>?_)
    by_cases h4:d.q.length≤400
    case neg =>
     have Hk:decide (((d.q.length:Nat):Int)≤400)=false:=by simp;omega
     have hf:false=R:=by rw[←H0.out];simp[h4]
     subst hf;clear H0 h4;refine tkN 0 ?_;refine tkN 1 ?_;refine tkN 2 ?_;refine tkN 3 ?_;refine tkN 4 ?_;refine tkN 5 ?_;refine tkN 6 ?_;refine tkN 7 ?_;refine tkN 8 ?_;refine tkS 9 ?_;refine tkS 10 ?_;refine tkS 11 ?_;refine tkS 12 ?_;refine tkS 13 ?_;refine tkS 14 ?_
     exact mcDRighta0
    have Hk:decide (((d.q.length:Nat):Int)≤400)=true:=by simp;omega
    have H1:=F (show (decide (0≤d.quota)&&decide (0≤d.fuse)&&decide ((tot d.now:Int)≤d.quota))=R from by rw[←H0.out];simp[h4])
    clear H0 h4
    by_cases hmn:0≤min d.quota d.fuse
    case neg =>
     have Hm:decide (0≤min d.quota d.fuse)=false:=by simpa using hmn
     have hf:false=R:=by
      rw[←H1.out]
      by_cases h1:0≤d.quota
      ·have h2:¬ 0≤d.fuse:=by omega
       simp[h2]
      ·simp[h1]
     subst hf;clear H1 hmn;refine tkN 0 ?_;refine tkN 1 ?_;refine tkN 2 ?_;refine tkN 3 ?_;refine tkN 4 ?_;refine tkN 5 ?_;refine tkN 6 ?_;refine tkN 7 ?_;refine tkN 8 ?_;refine tkN 9 ?_;refine tkN 10 ?_;refine tkN 11 ?_;refine tkN 12 ?_;refine tkN 13 ?_;refine tkN 14 ?_
     exact mcDRighta0
    have Hm:decide (0≤min d.quota d.fuse)=true:=by simpa using hmn
    have He:=F (show decide ((tot d.now:Int)≤d.quota)=R from by
     rw[←H1.out]
     have h1:0≤d.quota:=by omega
     have h2:0≤d.fuse:=by omega
     simp[h1,h2])
    clear H1 hmn;refine tkN 0 ?_;refine tkN 1 ?_;refine tkN 2 ?_;refine tkN 3 ?_;refine tkN 4 ?_;refine tkN 5 ?_;refine tkN 6 ?_;refine tkN 7 ?_;refine tkN 8 ?_;refine tkN 9 ?_;refine tkN 10 ?_;refine tkN 11 ?_;refine tkN 12 ?_;refine tkN 13 ?_;refine tkN 14 ?_;refine tkN 15 ?_;refine tkN 16 ?_;refine tkN 17 ?_;refine tkN 19 ?_;refine tkN 20 ?_
    refine ar1 18 (fun K hK=>?_)
    go_simp
    refine (zsg _ d _ (show DkV _ _ d from ⟨_,_,rfl,HF.out.ext (xD H2.out),HQ.out.ext (xD H2.out)⟩) Hg Hc HB.out).mono ?_
    rintro e w2 ⟨rfl,H9⟩;have Hf:=xT (xD (xR _)) H9;have Hj:=F (xT H2.out Hf);clear g0 g1 g2 g3 g4;obtain ⟨g0,g1,g2,g3,g4⟩:=zaa (Ha.out.ext Hf);clear Hf H9
    refine shK hK _ _ ⟨g0,g1,g2,g3,g4⟩ (fun _=>?_)
    refine tkN 21 ?_;refine tkN 22 ?_;refine tkN 23 ?_;refine wdD ?_;go_wp2_with fail;go_ret
    exact ⟨by rw[←He.out];rfl,Hj.out⟩
theorem zsB (v:Value) (d:Dk) (w:World) (hD:DkV w v d) (Hg:d.fs.length≤2000000) (Hc:d.q.length≤2000000) (hb:tot d.fs+zaW d.q≤70000000) :
  Calls Tryz.prog 171 #[v] w fun e w'=>e=.returned (D E d.may)∧Ext w w':=by
 obtain ⟨vf,vq,rfl,hF,hQ⟩:=hD;obtain ⟨A,c,rfl,_,_⟩:=Fs.open_ hF;obtain ⟨B,e2,rfl,_,_⟩:=Qs.open_ hQ
 have H3:Ext w (w.alloc (.cells #[C A d.fs.length c,C B d.q.length e2,D E d.quota,D E d.fuse,G d.dead] 25)):=xA (xR _) _
 have H5:=Blk.new w 25 #[C A d.fs.length c,C B d.q.length e2,D E d.quota,D E d.fuse,G d.dead]
 have HC:=F (zpg _ d _ (show DkV _ _ d from ⟨_,_,rfl,hF.ext H3,hQ.ext H3⟩) Hg Hc hb)
 have Hi:=F H3;have Hh:=F H5;obtain ⟨M,hM⟩:∃ M,d.may=M:=⟨_,rfl⟩;rw[hM];have HM:=F hM;clear hF hQ H3 hb hM;obtain ⟨g0,g1,g2,g3,g4⟩:=zaa H5;clear H5
 go_enter Tryz.func171,Tryz.ntmps171
 go_wp2_with fail
 refine HC.out.mono ?_
 rintro e w1 ⟨rfl,H4⟩;have Ha:=F (Hh.out.ext H4);have H2:=F (xT Hi.out H4);clear g0 g1 g2 g3 g4 HC Hh Hi H4;obtain ⟨g0,g1,g2,g3,g4⟩:=zaa Ha.out
 cases hr:d.right with
 | false =>
  have hm:(2:Int)=M:=by rw[←HM.out];unfold Dk.may;rw[if_pos hr]
  subst hm;clear hr;go_wp2_with fail;go_ret
  exact ⟨rfl,H2.out⟩
 | true =>
  cases hd:d.dead with
  | true =>
   have hm:(40:Int)=M:=by rw[←HM.out];unfold Dk.may;rw[if_neg (by rw[hr];simp),if_pos hd]
   subst hm;clear hr;rw[hd] at g4;go_wp2_with fail;go_ret
   exact ⟨rfl,H2.out⟩
  | false =>
   have hm:(0:Int)=M:=by rw[←HM.out];unfold Dk.may;rw[if_neg (by rw[hr];simp),if_neg (by rw[hd];simp)]
   subst hm;clear hr;rw[hd] at g4;go_wp2_with fail;go_ret
   exact ⟨rfl,H2.out⟩
def zfT (W:World) (b:Nat) (f:Int):World:=if 0<f then (W.setCell ⟨b,3,H⟩ (D E (f-1))).setCell ⟨b,4,H⟩ (G (f-1==0)) else W
theorem zlW (b:Nat) (vf vq:Value) (q f:Int) (dd:Bool) (w:World) (hB:Blk w b 25 #[vf,vq,D E q,D E f,G dd]) (hf:f≤9223372036854775807) :
  Calls Tryz.prog 174 #[.pointer (I ⟨b,0,H⟩)] w fun e w'=>e=.returned (.tuple #[])∧zfT w b f=w':=by
 obtain ⟨g0,g1,g2,g3,g4⟩:=zaa hB;have f3:=hB.frozen 3;have f4:=hB.frozen 4;unfold zfT
 by_cases h0:0<f
 ·rw[if_pos h0]
  have hw:wrap64 (f-1)=f-1:=by unfold wrap64;omega
  go_enter Tryz.func174,Tryz.ntmps174
  go_wp2_with fail
  refine bodyPost_end (results_none rfl _ _ _) rfl ?_
  exact ⟨rfl,rfl⟩
 ·rw[if_neg h0]
  go_enter Tryz.func174,Tryz.ntmps174
  go_wp2_with fail
  refine bodyPost_end (results_none rfl _ _ _) rfl ?_
  exact ⟨rfl,rfl⟩
end Go.Proofs.YteggfecbjgbndaaGreatDoor
