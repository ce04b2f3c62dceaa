/- Merged: Crc2 -/
import Derived.Test.YtgonhdeochgkoaaGreatDoorZt9
set_option linter.all false
set_option maxHeartbeats 8000000
set_option maxRecDepth 100000
namespace Go.Proofs.YtgonhdeochgkoaaGreatDoor
open Go.RowKit Go.Mv
variable {T:Tab}
theorem zhD (s:Nat) (bs:List UInt8) (h:s<4294967296):zcq T s bs<4294967296:=zfN _ (zjT _ _ (zfN _ h))
theorem zew (p:Nat) (A:Option Addr) (c:Nat) (bs:List UInt8) (w:World) (hc:w.cell? ⟨p,0,none⟩=some (.slice A bs.length c)) (h:Bs w (.slice A bs.length c) bs) (hlen:bs.length≤2000000) (hT:TabW T w) :
  Calls Tryz.prog 131 #[.slice (some ⟨p,0,none⟩) 1 1] w fun e w'=>e=.returned (.int .u32 (zcq T 0 bs))∧Ext w w':=by
 have HP:=zhd h;have HT:=zhd hT;clear h hT
 go_enter Tryz.func131,Tryz.ntmps131
 go_wp2_with fail
 go_loopw [2,7] (fun s i wr=>∃ k sn:Nat,k≤1∧s=.int .u32 sn∧i=.int .i64 k∧Hid (sn=if k=0 then 0 else zcq T 0 bs)∧Ext w wr) (fun _ i _=>1-(intOf i).toNat)
 case atStart=>exact ⟨0,0,by omega,rfl,rfl,rfl,Ext.refl _⟩
 case round =>
  obtain ⟨k,sn,hk,rfl,rfl,Hs,hE⟩:=hrel;have hc':=hE.cell hc
  by_cases hlt:k<1
  ·obtain rfl:k=0:=by omega
   obtain rfl:sn=0:=Hs.out
   go_wp2_with (go_at_call 163;refine (zn8 0 (by decide) _ bs wr (HP.out.ext hE) hlen (HT.out.ext hE)).mono ?_;rintro e w1 ⟨rfl,hE1⟩)
   go_roundw
   case rel=>exact ⟨1,zcq T 0 bs,by omega,rfl,rfl,rfl,Ext.trans hE hE1⟩
   case measure=>simp[intOf]
  ·obtain rfl:k=1:=by omega
   obtain rfl:sn=zcq T 0 bs:=Hs.out
   go_wp2_with fail;go_ret
   exact ⟨rfl,hE⟩
def zdh (s:Nat):List UInt8:=[UInt8.ofNat s,UInt8.ofNat (s / 256),UInt8.ofNat (s / 65536),UInt8.ofNat (s / 16777216)]
def zpT (s k:Nat):Array Value:=#[if 0<k then .int .u8 ((s:Int) % 256) else .int .u8 0,if 1<k then .int .u8 ((s:Int) / 256 % 256) else .int .u8 0,if 2<k then .int .u8 ((s:Int) / 65536 % 256) else .int .u8 0,if 3<k then .int .u8 ((s:Int) / 16777216 % 256) else .int .u8 0]
theorem zpU (s:Nat):zpT s 4=((zdh s).map bv).toArray:=by simp[zpT,zdh,bv]
theorem zd0 (s:Nat) (hs:s<4294967296) (w:World):Calls Tryz.prog 130 #[.int .u32 s] w fun e w'=>e=.returned (.agg ((zdh s).map bv).toArray)∧Ext w w':=by
 go_enter Tryz.func130,Tryz.ntmps130
 go_wp2_with fail
 go_loopw [4] (fun i wr=>∃ k:Nat,k≤4∧i=.int .i64 k∧Blk wr w.heap.size 140 (zpT s k)∧Ext w wr) (fun i _=>4-(intOf i).toNat)
 case atStart=>exact ⟨0,by omega,rfl,Blk.new w _ _,Ext.alloc (Ext.refl _) _⟩
 case round =>
  obtain ⟨k,hk,rfl,hB,hE⟩:=hrel
  rcases (by omega:k=0∨k=1∨k=2∨k=3∨k=4) with rfl | rfl | rfl | rfl | rfl
  ·have hB':Blk wr w.heap.size 140 #[.int .u8 0,.int .u8 0,.int .u8 0,.int .u8 0]:=hB
   obtain ⟨c0,c1,c2,c3,f0,f1,f2,f3⟩:=blk4 hB';go_wp2_with fail
   go_roundw
   case rel=>exact ⟨1,by omega,rfl,hB'.set 0 _,Below.setCell (p:=⟨w.heap.size,0,none⟩) hE (Nat.le_refl _) _⟩
   case measure=>simp[intOf]
  ·have hB':Blk wr w.heap.size 140 #[.int .u8 ((s:Int) % 256),.int .u8 0,.int .u8 0,.int .u8 0]:=hB
   obtain ⟨c0,c1,c2,c3,f0,f1,f2,f3⟩:=blk4 hB';go_wp2_with fail
   go_roundw
   case rel=>exact ⟨2,by omega,rfl,hB'.set 1 _,Below.setCell (p:=⟨w.heap.size,1,none⟩) hE (Nat.le_refl _) _⟩
   case measure=>simp[intOf]
  ·have hB':Blk wr w.heap.size 140 #[.int .u8 ((s:Int) % 256),.int .u8 ((s:Int) / 256 % 256),.int .u8 0,.int .u8 0]:=hB
   obtain ⟨c0,c1,c2,c3,f0,f1,f2,f3⟩:=blk4 hB';go_wp2_with fail
   go_roundw
   case rel=>exact ⟨3,by omega,rfl,hB'.set 2 _,Below.setCell (p:=⟨w.heap.size,2,none⟩) hE (Nat.le_refl _) _⟩
   case measure=>simp[intOf]
  ·have hB':Blk wr w.heap.size 140 #[.int .u8 ((s:Int) % 256),.int .u8 ((s:Int) / 256 % 256),.int .u8 ((s:Int) / 65536 % 256),.int .u8 0]:=hB
   obtain ⟨c0,c1,c2,c3,f0,f1,f2,f3⟩:=blk4 hB';go_wp2_with fail
   go_roundw
   case rel =>
    have e:(s:Int) / 16777216 % 256=(s:Int) / 16777216:=by omega
    have hs4:=hB'.set 3 (.int .u8 ((s:Int) / 16777216))
    refine ⟨4,by omega,rfl,?_,Below.setCell (p:=⟨w.heap.size,3,none⟩) hE (Nat.le_refl _) _⟩
    show Blk _ _ _ #[.int .u8 ((s:Int) % 256),.int .u8 ((s:Int) / 256 % 256),.int .u8 ((s:Int) / 65536 % 256),.int .u8 ((s:Int) / 16777216 % 256)]
    rw[e]
    exact hs4
   case measure=>simp[intOf]
  ·have hB':Blk wr w.heap.size 140 #[.int .u8 ((s:Int) % 256),.int .u8 ((s:Int) / 256 % 256),.int .u8 ((s:Int) / 65536 % 256),.int .u8 ((s:Int) / 16777216 % 256)]:=hB
   obtain ⟨c0,c1,c2,c3,f0,f1,f2,f3⟩:=blk4 hB';go_wp2_with fail;have hB4:=(((hB'.set 0 (.int .u8 ((s:Int) % 256))).set 1 (.int .u8 ((s:Int) / 256 % 256))).set 2 (.int .u8 ((s:Int) / 65536 % 256))).set 3 (.int .u8 ((s:Int) / 16777216 % 256))
   refine bodyPost_ret (results_cell_row rfl _ _ _ 140 _ _ _ rfl hB4 Tryz.underlying140 rfl (by kernel_rfl)) rfl ?_
   refine ⟨by rw[←zpU];rfl,?_⟩
   exact Below.setCell (p:=⟨w.heap.size,3,none⟩) (Below.setCell (p:=⟨w.heap.size,2,none⟩) (Below.setCell (p:=⟨w.heap.size,1,none⟩) (Below.setCell (p:=⟨w.heap.size,0,none⟩) hE (Nat.le_refl _) _) (Nat.le_refl _) _) (Nat.le_refl _) _) (Nat.le_refl _) _
theorem zko (v:Value) (bs:List UInt8) (w:World) (h:Bs w v bs) (h0:0<bs.length) (hl:bs.length≤2000000):Calls Tryz.prog 132 #[v] w fun e w'=>∃ A c,e=.returned (.slice A bs.length c)∧OwnB w' w.heap.size (.slice A bs.length c) bs∧Ext w w':=by
 obtain ⟨A,c,rfl,h1,h2⟩:=SlR.open_ h;obtain ⟨_,b,off,rfl,_⟩:=Bs.at_ h h0
 have hnil:=fun (W:World)=>Lib.run_eql_slice_nil (P:=Tryz.prog) W
 have HB:=zhd h
 go_enter Tryz.func132,Tryz.ntmps132
 go_wp2_with (at_builtin;refine zdN rfl (.tmp 5) (.tmp 6) rfl w.heap.size _ [] rfl (zez w) _ bs rfl (HB.out.ext (Ext.alloc (Ext.refl _) _)) (by simp;omega) (by simp) ?_;intro A1 c1 w1 ho1 hG1;have hE1:Ext w w1:=hG1 w (Ext.alloc (Ext.refl _) _) (Nat.le_refl _);simp only[List.length_nil,Nat.zero_add,List.nil_append] at ho1 ⊢)
 go_ret
 exact ⟨_,_,rfl,ho1,hE1⟩
def zaK (T:Tab) (bs:List UInt8):List UInt8:=bs++zdh (zcq T 0 bs)
theorem zgm (s:Nat):(zdh s).length=4:=rfl
theorem zfH (v:Value) (bs:List UInt8) (w:World) (h:Bs w v bs) (h0:0<bs.length) (hl:bs.length≤100000) (hT:TabW T w):Calls Tryz.prog 85 #[v] w fun e w'=>∃ A c,e=.returned (.slice A (zaK T bs).length c)∧OwnB w' w.heap.size (.slice A (zaK T bs).length c) (zaK T bs)∧Ext w w':=by
 obtain ⟨A,c,rfl,h1,h2⟩:=SlR.open_ h;have HB:=zhd h;have HT:=zhd hT;have hsl:=zhD (T:=T) 0 bs (by decide);obtain ⟨sm,hsm⟩:∃ sm,zcq T 0 bs=sm:=⟨_,rfl⟩;rw[hsm] at hsl
 have hps:zaK T bs=bs++zdh sm:=by unfold zaK;rw[hsm]
 have Hps:=zhd hps;have Hsm:=zhd hsm;obtain ⟨i0,hi,hz0,hz1,hz2⟩:=info_parts zcA;obtain ⟨f0,f1,f2,f3,hf⟩:∃ f0 f1 f2 f3:UInt8,zdh sm=[f0,f1,f2,f3]:=⟨_,_,_,_,rfl⟩;have Hf:=zhd hf;clear h hT hps hsm hf
 go_enter Tryz.func85,Tryz.ntmps85
 go_wp2_with fail
 have hE0:Ext w (w.alloc (.cells #[.slice A bs.length c] 38)):=Ext.alloc (Ext.refl _) _
 refine (zew w.heap.size A c bs _ (Boxed.new w _ _).cell (HB.out.ext hE0) (by omega) (HT.out.ext hE0)).mono ?_
 rw[Hsm.out];rintro e w1 ⟨rfl,hE1⟩;go_wp2_with fail
 refine (zd0 sm hsl _).mono ?_
 rw[Hf.out];rintro e w2 ⟨rfl,hE2⟩;simp only[List.map_cons,List.map_nil,bv];go_wp2_with fail
 have hE03:Ext w (w2.alloc (.cells #[.int .u8 (f0.toNat:Int),.int .u8 (f1.toNat:Int),.int .u8 (f2.toNat:Int),.int .u8 (f3.toNat:Int)] 140)):=Ext.alloc (Ext.trans hE0 (Ext.trans hE1 hE2)) _
 have hb3:=Blk.new w2 140 #[.int .u8 (f0.toNat:Int),.int .u8 (f1.toNat:Int),.int .u8 (f2.toNat:Int),.int .u8 (f3.toNat:Int)]
 refine wp_region_held_drew (S:=fun _=>True) (by kernel_rfl) trivial (fun _=>?_)
 refine tkN 0 rfl ?_;refine tkN 2 rfl ?_
 refine ar1 1 rfl (fun K hK=>?_)
 go_simp
 refine (zko _ bs _ (HB.out.ext (Ext.drew hE03)) h0 (by omega)).mono ?_
 rintro e w4 ⟨A4,c4,rfl,ho4,hE4⟩
 try (go_wp2_with fail)
 refine shK hK _ _ trivial (fun _=>?_)
 have hE34:Ext (w2.alloc (.cells #[.int .u8 (f0.toNat:Int),.int .u8 (f1.toNat:Int),.int .u8 (f2.toNat:Int),.int .u8 (f3.toNat:Int)] 140)) w4:=Ext.trans (Ext.drew (Ext.refl _)) hE4
 have hb4:=hb3.ext hE34
 have hE04:Ext w w4:=Ext.trans hE03 hE34
 have ho4':w4.ownsRow w.heap.size 5 1 (.slice A4 bs.length c4) bs.length (bs.map bv):=zaj ho4 (Ext.drew hE03).size
 refine ar1 3 rfl (fun K hK=>?_)
 refine wp_append_lies _ (.tmp 9) (.tmp 10) 38 (by rfl) w.heap.size 5 i0 (.int .u8 0) 1 1 Tryz.underlying38 hi hz0 hz1 hz2 rfl (by decide) _ bs.length (bs.map bv) (by rfl) ho4' ⟨w2.heap.size,0,none⟩ 4 4 [.int .u8 (f0.toNat:Int),.int .u8 (f1.toNat:Int),.int .u8 (f2.toNat:Int),.int .u8 (f3.toNat:Int)] (by rfl) rfl (World.news_of_block hb4) (by simp[Value.oneCell']) (by omega) (by unfold maxLen;omega) (by omega) hE04.size _ rfl ?_
 intro g' cap w5 hown' hgrow _ _
 refine shK hK _ _ trivial (fun _=>?_)
 refine tkN 4 rfl ?_;refine wpAnyH_done (by kernel_rfl) ?_ _;go_wp2_with fail;go_ret
 have hll:(zaK T bs).length=bs.length+4:=by unfold zaK;rw[List.length_append,zgm]
 rw[hll]
 refine ⟨_,_,rfl,?_,Ext.grownOwn hE04 ho4' hgrow⟩
 show w5.ownsRow w.heap.size 5 1 _ (zaK T bs).length ((zaK T bs).map bv)
 rw[hll,Hps.out,Hf.out,List.map_append]
 exact hown'
end Go.Proofs.YtgonhdeochgkoaaGreatDoor
