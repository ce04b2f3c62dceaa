/- Merged -/
import Derived.Test.YtgonhdeochgkoaaGreatDoorZx9
set_option linter.all false
set_option maxHeartbeats 8000000
set_option maxRecDepth 100000
open Go.RowKit.Below renaming setCell→P0
open UInt8 renaming ofNat→P1
namespace Go.Proofs.YtgonhdeochgkoaaGreatDoor
open Go.RowKit Go.Mv
variable {T:Tab}
theorem zhh (s:Nat) (bs:List UInt8) (h:s<4294967296):zce T s bs<4294967296:=zfv _ (zjz _ _ (zfv _ h))
theorem zen (p:Nat) (A:Option Addr) (c:Nat) (bs:List UInt8) (w:World) (hc:w.cell? ⟨p,0,none⟩=some (.slice A bs.length c)) (h:Bs w (.slice A bs.length c) bs) (Ha:bs.length≤2000000) (hT:TabW T w) :
  Calls Tryz.prog 131 #[.slice (some ⟨p,0,none⟩) 1 1] w fun e w'=>e=.returned (.int .u32 (zce T 0 bs))∧Ext w w':=by
 have HP:=zhd h;have HT:=zhd hT;clear h hT
 go_enter Tryz.func131,Tryz.ntmps131
 go_wp2_with fail
 go_loopw [2,7] (fun s i wr=>∃ k sn:Nat,k≤1∧s=.int .u32 sn∧i=.int .i64 k∧Hid (sn=if k=0 then 0 else zce T 0 bs)∧Ext w wr) (fun _ i _=>1-(intOf i).toNat)
 case atStart=>exact ⟨0,0,by omega,rfl,rfl,rfl,xR _⟩
 case round =>
  obtain ⟨k,sn,hk,rfl,rfl,Hs,hE⟩:=hrel;have Hu:=hE.cell hc
  by_cases hlt:k<1
  ·obtain rfl:k=0:=by omega
   obtain rfl:sn=0:=Hs.out
   go_wp2_with (go_at_call 163;refine (znD 0 (by decide) _ bs wr (HP.out.ext hE) Ha (HT.out.ext hE)).mono ?_;rintro e w1 ⟨rfl,H3⟩)
   go_roundw
   case rel=>exact ⟨1,zce T 0 bs,by omega,rfl,rfl,rfl,xT hE H3⟩
   case measure=>simp[intOf]
  ·obtain rfl:k=1:=by omega
   obtain rfl:sn=zce T 0 bs:=Hs.out
   go_wp2_with fail;go_ret
   exact ⟨rfl,hE⟩
def zc1 (s:Nat):List UInt8:=[P1 s,P1 (s / 256),P1 (s / 65536),P1 (s / 16777216)]
def zpl (s k:Nat):Array Value:=#[if 0<k then .int .u8 ((s:Int) % 256) else .int .u8 0,if 1<k then .int .u8 ((s:Int) / 256 % 256) else .int .u8 0,if 2<k then .int .u8 ((s:Int) / 65536 % 256) else .int .u8 0,if 3<k then .int .u8 ((s:Int) / 16777216 % 256) else .int .u8 0]
theorem zpm (s:Nat):zpl s 4=((zc1 s).map bv).toArray:=by simp[zpl,zc1,bv]
theorem zdW (s:Nat) (hs:s<4294967296) (w:World):Calls Tryz.prog 130 #[.int .u32 s] w fun e w'=>e=.returned (.agg ((zc1 s).map bv).toArray)∧Ext w w':=by
 go_enter Tryz.func130,Tryz.ntmps130
 go_wp2_with fail
 go_loopw [4] (fun i wr=>∃ k:Nat,k≤4∧i=.int .i64 k∧Blk wr w.heap.size 140 (zpl s k)∧Ext w wr) (fun i _=>4-(intOf i).toNat)
 case atStart=>exact ⟨0,by omega,rfl,Blk.new w _ _,xA (xR _) _⟩
 case round =>
  obtain ⟨k,hk,rfl,hB,hE⟩:=hrel
  rcases (by omega:k=0∨k=1∨k=2∨k=3∨k=4) with rfl | rfl | rfl | rfl | rfl
  ·have H0:Blk wr w.heap.size 140 #[.int .u8 0,.int .u8 0,.int .u8 0,.int .u8 0]:=hB
   obtain ⟨c0,c1,c2,c3,f0,f1,f2,f3⟩:=blk4 H0;go_wp2_with fail
   go_roundw
   case rel=>exact ⟨1,by omega,rfl,H0.set 0 _,P0 (p:=⟨w.heap.size,0,none⟩) hE (xN _) _⟩
   case measure=>simp[intOf]
  ·have H0:Blk wr w.heap.size 140 #[.int .u8 ((s:Int) % 256),.int .u8 0,.int .u8 0,.int .u8 0]:=hB
   obtain ⟨c0,c1,c2,c3,f0,f1,f2,f3⟩:=blk4 H0;go_wp2_with fail
   go_roundw
   case rel=>exact ⟨2,by omega,rfl,H0.set 1 _,P0 (p:=⟨w.heap.size,1,none⟩) hE (xN _) _⟩
   case measure=>simp[intOf]
  ·have H0:Blk wr w.heap.size 140 #[.int .u8 ((s:Int) % 256),.int .u8 ((s:Int) / 256 % 256),.int .u8 0,.int .u8 0]:=hB
   obtain ⟨c0,c1,c2,c3,f0,f1,f2,f3⟩:=blk4 H0;go_wp2_with fail
   go_roundw
   case rel=>exact ⟨3,by omega,rfl,H0.set 2 _,P0 (p:=⟨w.heap.size,2,none⟩) hE (xN _) _⟩
   case measure=>simp[intOf]
  ·have H0:Blk wr w.heap.size 140 #[.int .u8 ((s:Int) % 256),.int .u8 ((s:Int) / 256 % 256),.int .u8 ((s:Int) / 65536 % 256),.int .u8 0]:=hB
   obtain ⟨c0,c1,c2,c3,f0,f1,f2,f3⟩:=blk4 H0;go_wp2_with fail
   go_roundw
   case rel =>
    have e:(s:Int) / 16777216 % 256=(s:Int) / 16777216:=by omega
    have Ho:=H0.set 3 (.int .u8 ((s:Int) / 16777216))
    refine ⟨4,by omega,rfl,?_,P0 (p:=⟨w.heap.size,3,none⟩) hE (xN _) _⟩
    show Blk _ _ _ #[.int .u8 ((s:Int) % 256),.int .u8 ((s:Int) / 256 % 256),.int .u8 ((s:Int) / 65536 % 256),.int .u8 ((s:Int) / 16777216 % 256)]
    rw[e]
    exact Ho
   case measure=>simp[intOf]
  ·have H0:Blk wr w.heap.size 140 #[.int .u8 ((s:Int) % 256),.int .u8 ((s:Int) / 256 % 256),.int .u8 ((s:Int) / 65536 % 256),.int .u8 ((s:Int) / 16777216 % 256)]:=hB
   obtain ⟨c0,c1,c2,c3,f0,f1,f2,f3⟩:=blk4 H0;go_wp2_with fail;have Hh:=(((H0.set 0 (.int .u8 ((s:Int) % 256))).set 1 (.int .u8 ((s:Int) / 256 % 256))).set 2 (.int .u8 ((s:Int) / 65536 % 256))).set 3 (.int .u8 ((s:Int) / 16777216 % 256))
   refine bodyPost_ret (results_cell_row rfl _ _ _ 140 _ _ _ rfl Hh Tryz.underlying140 rfl (by kernel_rfl)) rfl ?_
   refine ⟨by rw[←zpm];rfl,?_⟩
   exact P0 (p:=⟨w.heap.size,3,none⟩) (P0 (p:=⟨w.heap.size,2,none⟩) (P0 (p:=⟨w.heap.size,1,none⟩) (P0 (p:=⟨w.heap.size,0,none⟩) hE (xN _) _) (xN _) _) (xN _) _) (xN _) _
theorem zj1 (v:Value) (bs:List UInt8) (w:World) (h:Bs w v bs) (h0:0<bs.length) (hl:bs.length≤2000000):Calls Tryz.prog 132 #[v] w fun e w'=>∃ A c,e=.returned (.slice A bs.length c)∧OwnB w' w.heap.size (.slice A bs.length c) bs∧Ext w w':=by
 obtain ⟨A,c,rfl,h1,h2⟩:=xO h;obtain ⟨_,b,Hv,rfl,_⟩:=Bs.at_ h h0
 have Hm:=fun (W:World)=>Lib.run_eql_slice_nil (P:=Tryz.prog) W
 have HB:=zhd h
 go_enter Tryz.func132,Tryz.ntmps132
 go_wp2_with (at_builtin;refine zc9 rfl (.tmp 5) (.tmp 6) rfl w.heap.size _ [] rfl (zeq w) _ bs rfl (HB.out.ext (xA (xR _) _)) (by simp;omega) (by simp) ?_;intro A1 c1 w1 Hc Hk;have H3:Ext w w1:=Hk w (xA (xR _) _) (xN _);simp only[List.length_nil,Nat.zero_add,xI] at Hc ⊢)
 go_ret
 exact ⟨_,_,rfl,Hc,H3⟩
def zaH (T:Tab) (bs:List UInt8):List UInt8:=bs++zc1 (zce T 0 bs)
theorem ze6 (s:Nat):(zc1 s).length=4:=rfl
theorem zfo (v:Value) (bs:List UInt8) (w:World) (h:Bs w v bs) (h0:0<bs.length) (hl:bs.length≤100000) (hT:TabW T w):Calls Tryz.prog 85 #[v] w fun e w'=>∃ A c,e=.returned (.slice A (zaH T bs).length c)∧OwnB w' w.heap.size (.slice A (zaH T bs).length c) (zaH T bs)∧Ext w w':=by
 obtain ⟨A,c,rfl,h1,h2⟩:=xO h;have HB:=zhd h;have HT:=zhd hT;have Hd:=zhh (T:=T) 0 bs (by decide);obtain ⟨sm,H8⟩:∃ sm,zce T 0 bs=sm:=⟨_,rfl⟩;rw[H8] at Hd
 have hps:zaH T bs=bs++zc1 sm:=by unfold zaH;rw[H8]
 have He:=zhd hps;have Hg:=zhd H8;obtain ⟨i0,hi,Hp,Hq,Hr⟩:=info_parts zb8;obtain ⟨f0,f1,f2,f3,hf⟩:∃ f0 f1 f2 f3:UInt8,zc1 sm=[f0,f1,f2,f3]:=⟨_,_,_,_,rfl⟩;have Hf:=zhd hf;clear h hT hps H8 hf
 go_enter Tryz.func85,Tryz.ntmps85
 go_wp2_with fail
 have H9:Ext w (w.alloc (.cells #[.slice A bs.length c] 38)):=xA (xR _) _
 refine (zen w.heap.size A c bs _ (Boxed.new w _ _).cell (HB.out.ext H9) (by omega) (HT.out.ext H9)).mono ?_
 rw[Hg.out];rintro e w1 ⟨rfl,H3⟩;go_wp2_with fail
 refine (zdW sm Hd _).mono ?_
 rw[Hf.out];rintro e w2 ⟨rfl,Hi⟩;simp only[List.map_cons,List.map_nil,bv];go_wp2_with fail
 have H1:Ext w (w2.alloc (.cells #[.int .u8 (f0.toNat:Int),.int .u8 (f1.toNat:Int),.int .u8 (f2.toNat:Int),.int .u8 (f3.toNat:Int)] 140)):=xA (xT H9 (xT H3 Hi)) _
 have hb3:=Blk.new w2 140 #[.int .u8 (f0.toNat:Int),.int .u8 (f1.toNat:Int),.int .u8 (f2.toNat:Int),.int .u8 (f3.toNat:Int)]
 refine wp_region_held_drew (S:=fun _=>True) (by kernel_rfl) trivial (fun _=>?_)
 refine tkN 0 rfl ?_;refine tkN 2 rfl ?_
 refine ar1 1 rfl (fun K hK=>?_)
 go_simp
 refine (zj1 _ bs _ (HB.out.ext (xD H1)) h0 (by omega)).mono ?_
 rintro e w4 ⟨A4,c4,rfl,Hn,Hj⟩
 try (go_wp2_with fail)
 refine shK hK _ _ trivial (fun _=>?_)
 have H4:Ext (w2.alloc (.cells #[.int .u8 (f0.toNat:Int),.int .u8 (f1.toNat:Int),.int .u8 (f2.toNat:Int),.int .u8 (f3.toNat:Int)] 140)) w4:=xT (xD (xR _)) Hj
 have Hl:=hb3.ext H4
 have H2:Ext w w4:=xT H1 H4
 have H6:w4.ownsRow w.heap.size 5 1 (.slice A4 bs.length c4) bs.length (bs.map bv):=zai Hn (xD H1).size
 refine ar1 3 rfl (fun K hK=>?_)
 refine wp_append_lies _ (.tmp 9) (.tmp 10) 38 (by rfl) w.heap.size 5 i0 (.int .u8 0) 1 1 Tryz.underlying38 hi Hp Hq Hr rfl (by decide) _ bs.length (bs.map bv) (by rfl) H6 ⟨w2.heap.size,0,none⟩ 4 4 [.int .u8 (f0.toNat:Int),.int .u8 (f1.toNat:Int),.int .u8 (f2.toNat:Int),.int .u8 (f3.toNat:Int)] (by rfl) rfl (World.news_of_block Hl) (by simp[Value.oneCell']) (by omega) (by unfold maxLen;omega) (by omega) H2.size _ rfl ?_
 intro g' Ht w5 H7 H5 _ _
 refine shK hK _ _ trivial (fun _=>?_)
 refine tkN 4 rfl ?_;refine wpAnyH_done (by kernel_rfl) ?_ _;go_wp2_with fail;go_ret
 have Hb:(zaH T bs).length=bs.length+4:=by unfold zaH;rw[xL,ze6]
 rw[Hb]
 refine ⟨_,_,rfl,?_,Ext.grownOwn H2 H6 H5⟩
 show w5.ownsRow w.heap.size 5 1 _ (zaH T bs).length ((zaH T bs).map bv)
 rw[Hb,He.out,Hf.out,List.map_append]
 exact H7
end Go.Proofs.YtgonhdeochgkoaaGreatDoor
