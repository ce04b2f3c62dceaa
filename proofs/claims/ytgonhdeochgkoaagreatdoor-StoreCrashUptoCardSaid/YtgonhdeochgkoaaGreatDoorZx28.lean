/- Merged -/
import Derived.Test.YtgonhdeochgkoaaGreatDoorZx27
set_option linter.all false
set_option maxHeartbeats 8000000
set_option maxRecDepth 100000
open Bool renaming true_and→P0,false_and→P1
open List renaming drop_eq_getElem_cons→P2,drop_length→P3
namespace Go.Proofs.YtgonhdeochgkoaaGreatDoor
open Go.RowKit Go.Mv Go.Shelf
theorem mcR5ca0 {P:Prop} (h:P:=by
 subst hf;refine tkN 0 rfl ?_;refine tkN 1 rfl ?_;refine tkN 2 rfl ?_;refine tkN 3 rfl ?_;refine tkN 4 rfl ?_;refine tkN 5 rfl ?_;refine tkN 6 rfl ?_;refine tkN 7 rfl ?_;refine tkS 8 rfl ?_;refine tkS 9 rfl ?_;refine tkS 10 rfl ?_;refine tkS 11 rfl ?_;refine tkS 12 rfl ?_;refine tkS 13 rfl ?_;refine tkS 14 rfl ?_;refine tkS 15 rfl ?_;refine tkS 16 rfl ?_;refine tkS 17 rfl ?_;refine tkS 18 rfl ?_;refine tkS 19 rfl ?_;refine tkS 20 rfl ?_;refine tkS 21 rfl ?_;refine tkS 22 rfl ?_;refine tkS 23 rfl ?_;refine tkS 24 rfl ?_;refine tkS 25 rfl ?_;refine tkN 26 rfl ?_;refine wpAnyH_done (by kernel_rfl) ?_ _;go_wp2_with fail;go_ret
 exact ⟨rfl,xD HE.out⟩):P:=h
theorem mcR5ca1 {P:Prop} (h:P:=by
 refine tkN 13 rfl ?_;refine tkN 14 rfl ?_;refine tkS 15 rfl ?_;refine tkS 16 rfl ?_;refine tkS 17 rfl ?_;refine tkS 18 rfl ?_;refine tkS 19 rfl ?_;refine tkN 20 rfl ?_;refine tkN 21 rfl ?_;refine wpAnyH_done (by kernel_rfl) ?_ _;go_wp2_with fail;go_ret
 exact ⟨rfl,xD HE.out⟩):P:=h
def zd4 (fs:List Fil) (k:Nat):List UInt8:=if k=0 then [] else ((fs[k-1]?).map (·.1)).getD []
theorem zpN {fs:List Fil} {k:Nat} (h:k<fs.length):zbG (zd4 fs k) (fs.drop k)=(ltB (zd4 fs k) fs[k].1&&zbG (zd4 fs (k+1)) (fs.drop (k+1))):=by
 rw[P2 h,zbG]
 have:zd4 fs (k+1)=fs[k].1:=by
  unfold zd4;rw[if_neg (by omega)]
  simp[h]
 rw[this]
theorem zic {fs:List Fil} {k:Nat} (h:k<fs.length):zd4 fs (k+1)=fs[k].1:=by
 unfold zd4;rw[if_neg (by omega)]
 simp[h]
structure R4I (w:World) (b:Nat) (cs:Array Value) (W:World):Prop where
 bl:Blk W b 25 cs
 e:Ext w W
theorem zjZ (v:Value) (d:Dk) (w:World) (hD:DkV w v d) (hl:d.fs.length+d.q.length≤900000) (hb:tot d.fs+zaG d.q≤900000) (Ht:d.now.length≤4000000) :
  Calls Tryz.prog 9 #[v] w fun e w'=>e=.returned (.bool d.right)∧Ext w w':=by
 obtain ⟨vf,vq,rfl,hF,hQ⟩:=hD;obtain ⟨A,c,rfl,_,_⟩:=Fs.open_ hF;obtain ⟨B,e2,rfl,_,_⟩:=Qs.open_ hQ
 have Hq:Ext w (w.alloc (.cells #[.slice A d.fs.length c,.slice B d.q.length e2,.int .i64 d.quota,.int .i64 d.fuse,.bool d.dead] 25)):=xA (xR _) _
 have Hk:=Blk.new w 25 #[.slice A d.fs.length c,.slice B d.q.length e2,.int .i64 d.quota,.int .i64 d.fuse,.bool d.dead];have HF:=zhd hF;have HQ:=zhd hQ;have Hv:=zhd hb;have Hy:=zhd Ht
 have HI:=zhd (show R4I w w.heap.size #[.slice A d.fs.length c,.slice B d.q.length e2,.int .i64 d.quota,.int .i64 d.fuse,.bool d.dead] _ from ⟨Hk,Hq⟩)
 obtain ⟨R,hR⟩:∃ R,d.right=R:=⟨_,rfl⟩;have HR:=zhd hR;rw[hR];clear hF hQ hb Hq hR Ht;obtain ⟨g0,g1,g2,g3,g4⟩:=zac Hk;clear Hk
 go_enter Tryz.func9,Tryz.ntmps9
 go_wp2_with fail;clear g0 g1 g2 g3 g4
 go_loopw [3] (fun i wr=>∃ k:Nat,k≤d.fs.length∧i=.int .i64 k∧Hid (zbG [] d.fs=zbG (zd4 d.fs k) (d.fs.drop k))∧Hid (R4I w w.heap.size #[.slice A d.fs.length c,.slice B d.q.length e2,.int .i64 d.quota,.int .i64 d.fuse,.bool d.dead] wr)) (fun i _=>d.fs.length-(intOf i).toNat)
 case atStart=>exact ⟨0,Nat.zero_le _,rfl,rfl,HI⟩
 case round =>
  clear HI;obtain ⟨k,hk,rfl,Hc,HI⟩:=hrel;have HE:=zhd HI.out.e;obtain ⟨g0,g1,g2,g3,g4⟩:=zac HI.out.bl
  by_cases hlt:k<d.fs.length
  ·obtain ⟨_,b,H7,rfl,hc⟩:=(HF.out.ext HI.out.e).at_ (by omega)
   obtain ⟨Hd,_⟩:=hc k hlt;have H1:=Hc.out;rw[zpN hlt] at H1;have H8:=zhd H1
   have HL:(k:Int)<(d.fs.length:Int):=by omega
   clear H1 Hc
   cases k with
   | zero =>
    clear hc
    generalize d.fs[0].1=n at *
    simp only[sv] at *
    simp only[Nat.zero_mul,Nat.add_zero] at Hd;go_wp2_with fail
    refine wp_region_held_drew (S:=fun W=>W.cell? ⟨w.heap.size,0,none⟩=some (.slice (some ⟨b,H7,none⟩) d.fs.length c)∧W.cell? ⟨b,H7,none⟩=some (.string ⟨n.toArray⟩)) (by kernel_rfl) ⟨g0,Hd⟩ (fun _=>?_)
    by_cases hn:n=[]
    case pos =>
     have Hm:(n==[])=true:=by simpa using hn
     have hf:false=R:=by
      rw[←HR.out];unfold Dk.right
      rw[H8.out,hn,show ltB (zd4 d.fs 0) []=false from rfl,P1]
      rfl
     exact mcR5ca0
    have Hm:(n==[])=false:=by simpa using hn
    have H0:=zhd (show zbG [] d.fs=zbG (zd4 d.fs 1) (d.fs.drop 1) by rw[H8.out,show ltB (zd4 d.fs 0) n=true from ltB_nil.2 hn,P0])
    clear hn H8;refine tkN 0 rfl ?_;refine tkN 1 rfl ?_;refine tkN 2 rfl ?_;refine tkN 3 rfl ?_;refine tkN 4 rfl ?_;refine tkN 5 rfl ?_;refine tkN 6 rfl ?_;refine tkN 7 rfl ?_;refine tkN 8 rfl ?_;refine tkN 9 rfl ?_;refine tkN 10 rfl ?_;refine tkS 11 rfl ?_;refine tkS 12 rfl ?_;refine tkS 13 rfl ?_;refine tkS 14 rfl ?_;refine tkS 15 rfl ?_;refine tkS 16 rfl ?_;refine tkS 17 rfl ?_;refine tkS 18 rfl ?_;refine tkS 19 rfl ?_;refine tkS 20 rfl ?_;refine tkS 21 rfl ?_;refine tkS 22 rfl ?_;refine tkS 23 rfl ?_;refine tkS 24 rfl ?_;refine tkN 25 rfl ?_;refine tkN 26 rfl ?_;refine wpAnyH_done (by kernel_rfl) ?_ _;go_wp2_with fail
    go_roundw
    case rel=>exact ⟨1,by omega,by go_num,H0,⟨HI.out.bl.ext (xD (xR _)),xD HE.out⟩⟩
    case measure=>simp[intOf];omega
   | succ j =>
    obtain ⟨Hu,_⟩:=hc j (by omega)
    have HB:(0:Int)≤(j:Int)+1:=by omega
    have HD:(0:Int)<(j:Int)+1:=by omega
    have HG:IntKind.i64.wrap (j:Int)=(j:Int):=by rw[IntKind.wrap_i64];omega
    have HH:(j:Int)<(d.fs.length:Int):=by omega
    have H1:=H8.out;rw[zic (by omega:j<d.fs.length),zic hlt] at H1;have Hf:=zhd (zic hlt);have H0:=zhd H1
    have HK:j+1<d.fs.length:=hlt
    clear H1 H8;clear hc;obtain ⟨n,Hs⟩:∃ n,d.fs[j+1].1=n:=⟨_,rfl⟩;obtain ⟨l,Hr⟩:∃ l,d.fs[j].1=l:=⟨_,rfl⟩;rw[Hs] at Hd H0 Hf;rw[Hr] at Hu H0;clear Hs Hr
    simp only[sv] at *
    go_wp2_with fail
    refine wp_region_held_drew (S:=fun W=>W.cell? ⟨w.heap.size,0,none⟩=some (.slice (some ⟨b,H7,none⟩) d.fs.length c)∧W.cell? ⟨b,H7+(j+1)*2,none⟩=some (.string ⟨n.toArray⟩)∧W.cell? ⟨b,H7+j*2,none⟩=some (.string ⟨l.toArray⟩)) (by kernel_rfl) ⟨g0,Hd,Hu⟩ (fun _=>?_)
    by_cases hn:n=[]
    case pos =>
     have Hm:(n==[])=true:=by simpa using hn
     have hf:false=R:=by
      rw[←HR.out];unfold Dk.right
      rw[H0.out,hn,show ltB l []=false from (by cases l <;> rfl),P1]
      rfl
     exact mcR5ca0
    have Hm:(n==[])=false:=by simpa using hn
    clear hn
    cases hcmp:ltB l n with
    | false =>
     have HA:Op.bytesLess l n=false:=hcmp
     have hf:false=R:=by
      rw[←HR.out];unfold Dk.right;rw[H0.out,hcmp];rfl
     subst hf;clear hcmp;refine tkN 0 rfl ?_;refine tkN 1 rfl ?_;refine tkN 2 rfl ?_;refine tkN 3 rfl ?_;refine tkN 4 rfl ?_;refine tkN 5 rfl ?_;refine tkN 6 rfl ?_;refine tkN 7 rfl ?_;refine tkN 8 rfl ?_;refine tkN 9 rfl ?_;refine tkN 10 rfl ?_;refine tkN 11 rfl ?_;refine tkN 12 rfl ?_;refine tkN 13 rfl ?_;refine tkN 14 rfl ?_;refine tkN 15 rfl ?_;refine tkN 16 rfl ?_;refine tkN 17 rfl ?_;refine tkN 18 rfl ?_;refine tkN 19 rfl ?_;refine tkN 20 rfl ?_;refine tkN 21 rfl ?_;refine tkN 22 rfl ?_;refine tkN 23 rfl ?_;refine tkN 24 rfl ?_;refine tkN 25 rfl ?_;refine tkN 26 rfl ?_;refine wpAnyH_done (by kernel_rfl) ?_ _;go_wp2_with fail;go_ret
     exact ⟨rfl,xD HE.out⟩
    | true =>
     have HA:Op.bytesLess l n=true:=hcmp
     have Hg:=zhd (show zbG [] d.fs=zbG (zd4 d.fs (j+1+1)) (d.fs.drop (j+1+1)) from by rw[H0.out,hcmp,P0,Hf.out])
     clear hcmp H0 Hf;refine tkN 0 rfl ?_;refine tkN 1 rfl ?_;refine tkN 2 rfl ?_;refine tkN 3 rfl ?_;refine tkN 4 rfl ?_;refine tkN 5 rfl ?_;refine tkN 6 rfl ?_;refine tkN 7 rfl ?_;refine tkN 8 rfl ?_;refine tkN 9 rfl ?_;refine tkN 10 rfl ?_;refine tkN 11 rfl ?_;refine tkN 12 rfl ?_;refine tkN 13 rfl ?_;refine tkN 14 rfl ?_;refine tkN 15 rfl ?_;refine tkN 16 rfl ?_;refine tkN 17 rfl ?_;refine tkN 18 rfl ?_;refine tkN 19 rfl ?_;refine tkN 20 rfl ?_;refine tkN 21 rfl ?_;refine tkN 22 rfl ?_;refine tkN 23 rfl ?_;refine tkN 24 rfl ?_;refine tkN 25 rfl ?_;refine tkN 26 rfl ?_;refine wpAnyH_done (by kernel_rfl) ?_ _;go_wp2_with fail
     go_roundw
     case rel=>exact ⟨j+1+1,by omega,by go_num,Hg,⟨HI.out.bl.ext (xD (xR _)),xD HE.out⟩⟩
     case measure=>simp[intOf];omega
  ·obtain rfl:k=d.fs.length:=by omega
   have H1:=Hc.out;rw[P3,zbG] at H1
   have Hb:=zhd (show (d.q.all zbn&&decide (d.q.length≤400)&&decide (0≤d.quota)&&decide (0≤d.fuse)&&decide ((tot d.now:Int)≤d.quota))=R from by rw[←HR.out];unfold Dk.right;rw[H1,P0])
   clear Hc H1 HR;go_wp2_with fail;clear g0 g1 g2 g3 g4
   go_loopw [4] (fun i wr=>∃ k:Nat,k≤d.q.length∧i=.int .i64 k∧Hid (d.q.all zbn=(d.q.drop k).all zbn)∧Hid (R4I w w.heap.size #[.slice A d.fs.length c,.slice B d.q.length e2,.int .i64 d.quota,.int .i64 d.fuse,.bool d.dead] wr)) (fun i _=>d.q.length-(intOf i).toNat)
   case atStart=>exact ⟨0,Nat.zero_le _,rfl,rfl,HI⟩
   case round =>
    clear HI HE;obtain ⟨k2,HJ,rfl,H5,HI⟩:=hrel;have HE:=zhd HI.out.e;obtain ⟨g0,g1,g2,g3,g4⟩:=zac HI.out.bl
    by_cases hlt2:k2<d.q.length
    ·obtain ⟨_,b,H7,rfl,hc⟩:=(HQ.out.ext HI.out.e).at_ (by omega)
     obtain ⟨c0,c1,c2,B3,d3,c3,Hp⟩:=hc k2 hlt2;have H6:=H5.out;rw[P2 hlt2,List.all_cons] at H6;have Ha:=zhd H6
     have HC:=zhd (fun W hW=>zqY d.q[k2] _ W (Bs.ext Hp hW))
     clear hc H6 H5 Hp
     generalize d.q[k2]=o at *
     simp only[sv] at *
     go_wp2_with fail
     refine (HC.out _ (xR _)).mono ?_
     rintro e w1 ⟨rfl,Hi⟩
     have Ho:=zhd (show R4I w w.heap.size #[.slice A d.fs.length c,.slice (some ⟨b,H7,none⟩) d.q.length e2,.int .i64 d.quota,.int .i64 d.fuse,.bool d.dead] w1 from ⟨HI.out.bl.ext Hi,xT HE.out Hi⟩)
     clear g0 g1 g2 g3 g4 HI HE Hi
     cases hfi:zbn o with
     | false =>
      have hf:false=R:=by rw[←Hb.out,Ha.out,hfi];rfl
      subst hf;clear Ha Hb;go_wp2_with fail;go_ret
      exact ⟨rfl,Ho.out.e⟩
     | true =>
      have He:=zhd (show d.q.all zbn=(d.q.drop (k2+1)).all zbn by rw[Ha.out,hfi,P0])
      clear Ha hfi;go_wp2_with fail
      go_roundw
      case rel=>exact ⟨k2+1,by omega,by go_num,He,Ho⟩
      case measure=>simp[intOf];omega
    ·obtain rfl:k2=d.q.length:=by omega
     have H6:=H5.out;rw[P3] at H6
     have H2:=zhd (show (decide (d.q.length≤400)&&decide (0≤d.quota)&&decide (0≤d.fuse)&&decide ((tot d.now:Int)≤d.quota))=R from by rw[←Hb.out,H6];rfl)
     clear H6 H5 Hb;have Hw:=zhd HI.out.bl;go_wp2_with fail
     refine wp_region_held_drew (S:=fun W=>W.cell? ⟨w.heap.size,0,none⟩=some (.slice A d.fs.length c)∧W.cell? ⟨w.heap.size,1,none⟩=some (.slice B d.q.length e2)∧W.cell? ⟨w.heap.size,2,none⟩=some (.int .i64 d.quota)∧W.cell? ⟨w.heap.size,3,none⟩=some (.int .i64 d.fuse)∧W.cell? ⟨w.heap.size,4,none⟩=some (.bool d.dead)) (by kernel_rfl) ⟨g0,g1,g2,g3,g4⟩ (fun _=>?_)
     by_cases h4:d.q.length≤400
     case neg =>
      have Hz:decide (((d.q.length:Nat):Int)≤400)=false:=by simp;omega
      have hf:false=R:=by rw[←H2.out];simp[h4]
      subst hf;clear H2 h4;refine tkN 0 rfl ?_;refine tkN 1 rfl ?_;refine tkN 2 rfl ?_;refine tkN 3 rfl ?_;refine tkN 4 rfl ?_;refine tkS 5 rfl ?_;refine tkS 6 rfl ?_;refine tkS 7 rfl ?_;refine tkN 8 rfl ?_;refine tkN 9 rfl ?_;refine tkS 10 rfl ?_;refine tkS 11 rfl ?_;refine tkS 12 rfl ?_
      exact mcR5ca1
     have Hz:decide (((d.q.length:Nat):Int)≤400)=true:=by simp;omega
     have H3:=zhd (show (decide (0≤d.quota)&&decide (0≤d.fuse)&&decide ((tot d.now:Int)≤d.quota))=R from by rw[←H2.out];simp[h4])
     clear H2 h4
     by_cases hq0:0≤d.quota
     case neg =>
      have Hn:decide (0≤d.quota)=false:=by simpa using hq0
      have hf:false=R:=by rw[←H3.out,Hn];rfl
      subst hf;clear H3 hq0;refine tkN 0 rfl ?_;refine tkN 1 rfl ?_;refine tkN 2 rfl ?_;refine tkN 3 rfl ?_;refine tkN 4 rfl ?_;refine tkN 5 rfl ?_;refine tkN 6 rfl ?_;refine tkN 7 rfl ?_;refine tkN 8 rfl ?_;refine tkN 9 rfl ?_;refine tkS 10 rfl ?_;refine tkS 11 rfl ?_;refine tkS 12 rfl ?_
      exact mcR5ca1
     have Hn:decide (0≤d.quota)=true:=by simpa using hq0
     have H4:=zhd (show (decide (0≤d.fuse)&&decide ((tot d.now:Int)≤d.quota))=R from by rw[←H3.out,Hn];rfl)
     clear H3 hq0
     by_cases hf0:0≤d.fuse
     case neg =>
      have Hl:decide (0≤d.fuse)=false:=by simpa using hf0
      have hf:false=R:=by rw[←H4.out,Hl];rfl
      subst hf;clear H4 hf0;refine tkN 0 rfl ?_;refine tkN 1 rfl ?_;refine tkN 2 rfl ?_;refine tkN 3 rfl ?_;refine tkN 4 rfl ?_;refine tkN 5 rfl ?_;refine tkN 6 rfl ?_;refine tkN 7 rfl ?_;refine tkN 8 rfl ?_;refine tkN 9 rfl ?_;refine tkN 10 rfl ?_;refine tkN 11 rfl ?_;refine tkN 12 rfl ?_
      exact mcR5ca1
     have Hl:decide (0≤d.fuse)=true:=by simpa using hf0
     have Hh:=zhd (show decide ((tot d.now:Int)≤d.quota)=R from by rw[←H4.out,Hl];rfl)
     clear H4 hf0;refine tkN 0 rfl ?_;refine tkN 1 rfl ?_;refine tkN 2 rfl ?_;refine tkN 3 rfl ?_;refine tkN 4 rfl ?_;refine tkN 5 rfl ?_;refine tkN 6 rfl ?_;refine tkN 7 rfl ?_;refine tkN 8 rfl ?_;refine tkN 9 rfl ?_;refine tkN 10 rfl ?_;refine tkN 11 rfl ?_;refine tkN 12 rfl ?_;refine tkN 13 rfl ?_;refine tkN 14 rfl ?_;refine tkN 15 rfl ?_;refine tkN 17 rfl ?_;refine tkN 18 rfl ?_
     refine ar1 16 rfl (fun K hK=>?_)
     go_simp
     refine (zqz _ d _ (show DkV _ _ d from ⟨_,_,rfl,HF.out.ext (xD HE.out),HQ.out.ext (xD HE.out)⟩) hl Hv.out Hy.out).mono ?_
     rintro e w2 ⟨rfl,H9⟩;have Hj:=xT (xD (xR _)) H9;have Hx:=zhd (xT HE.out Hj);clear g0 g1 g2 g3 g4;obtain ⟨g0,g1,g2,g3,g4⟩:=zac (Hw.out.ext Hj);clear Hj H9
     refine shK hK _ _ ⟨g0,g1,g2,g3,g4⟩ (fun _=>?_)
     refine tkN 19 rfl ?_;refine tkN 20 rfl ?_;refine tkN 21 rfl ?_;refine wpAnyH_done (by kernel_rfl) ?_ _;go_wp2_with fail;go_ret
     exact ⟨by rw[←Hh.out];rfl,Hx.out⟩
end Go.Proofs.YtgonhdeochgkoaaGreatDoor
