/- Merged: Crc2 Long One1 One2 One3 CutP ChunkB -/
import Derived.Test.YtgonhdeochgkoaaGreatDoorStoreReads8
import Derived.Deep.RegionHeld3
import Derived.Deep.AppendLies
set_option linter.all false
set_option maxHeartbeats 8000000
set_option maxRecDepth 100000
namespace Go.Proofs.YtgonhdeochgkoaaGreatDoor
open Go.RowKit Go.Mv
variable {T:Tab}
theorem zgO (s:Nat) (bs:List UInt8) (h:s<4294967296):zb6 T s bs<4294967296:=zfb _ (ziS _ _ (zfb _ h))
theorem zd4 (p:Nat) (A:Option Addr) (c:Nat) (bs:List UInt8) (w:World) (hc:w.cell? ⟨p,0,none⟩=some (.slice A bs.length c)) (h:Bs w (.slice A bs.length c) bs) (hlen:bs.length≤2000000) (hT:TabW T w) :
  Calls Tryz.prog 131 #[.slice (some ⟨p,0,none⟩) 1 1] w fun e w'=>e=.returned (.int .u32 (zb6 T 0 bs))∧Ext w w':=by
 have HP:=zhd h
 have HT:=zhd hT
 clear h hT
 go_enter Tryz.func131,Tryz.ntmps131
 go_wp2_with fail
 go_loopw [2,7] (fun s i wr=>∃ k sn:Nat,k≤1∧s=.int .u32 sn∧i=.int .i64 k∧Hid (sn=if k=0 then 0 else zb6 T 0 bs)∧Ext w wr) (fun _ i _=>1-(intOf i).toNat)
 case atStart=>exact ⟨0,0,by omega,rfl,rfl,rfl,Ext.refl _⟩
 case round =>
  obtain ⟨k,sn,hk,rfl,rfl,Hs,hE⟩:=hrel
  have hc':=hE.cell hc
  by_cases hlt:k<1
  ·obtain rfl:k=0:=by omega
   obtain rfl:sn=0:=Hs.out
   go_wp2_with (go_at_call 163;refine (zmH 0 (by decide) _ bs wr (HP.out.ext hE) hlen (HT.out.ext hE)).mono ?_;rintro e w1 ⟨rfl,hE1⟩)
   go_roundw
   case rel=>exact ⟨1,zb6 T 0 bs,by omega,rfl,rfl,rfl,Ext.trans hE hE1⟩
   case measure=>simp[intOf]
  ·obtain rfl:k=1:=by omega
   obtain rfl:sn=zb6 T 0 bs:=Hs.out
   go_wp2_with fail
   go_ret
   exact ⟨rfl,hE⟩
def zdb (s:Nat):List UInt8:=[UInt8.ofNat s,UInt8.ofNat (s / 256),UInt8.ofNat (s / 65536),UInt8.ofNat (s / 16777216)]
def zoe (s k:Nat):Array Value:=#[if 0<k then .int .u8 ((s:Int) % 256) else .int .u8 0,if 1<k then .int .u8 ((s:Int) / 256 % 256) else .int .u8 0,if 2<k then .int .u8 ((s:Int) / 65536 % 256) else .int .u8 0,if 3<k then .int .u8 ((s:Int) / 16777216 % 256) else .int .u8 0]
theorem zof (s:Nat):zoe s 4=((zdb s).map bv).toArray:=by simp[zoe,zdb,bv]
theorem zdF (s:Nat) (hs:s<4294967296) (w:World):Calls Tryz.prog 130 #[.int .u32 s] w fun e w'=>e=.returned (.agg ((zdb s).map bv).toArray)∧Ext w w':=by
 go_enter Tryz.func130,Tryz.ntmps130
 go_wp2_with fail
 go_loopw [4] (fun i wr=>∃ k:Nat,k≤4∧i=.int .i64 k∧Blk wr w.heap.size 140 (zoe s k)∧Ext w wr) (fun i _=>4-(intOf i).toNat)
 case atStart=>exact ⟨0,by omega,rfl,Blk.new w _ _,Ext.alloc (Ext.refl _) _⟩
 case round =>
  obtain ⟨k,hk,rfl,hB,hE⟩:=hrel
  rcases (by omega:k=0∨k=1∨k=2∨k=3∨k=4) with rfl | rfl | rfl | rfl | rfl
  ·have hB':Blk wr w.heap.size 140 #[.int .u8 0,.int .u8 0,.int .u8 0,.int .u8 0]:=hB
   obtain ⟨c0,c1,c2,c3,f0,f1,f2,f3⟩:=blk4 hB'
   go_wp2_with fail
   go_roundw
   case rel=>exact ⟨1,by omega,rfl,hB'.set 0 _,Below.setCell (p:=⟨w.heap.size,0,none⟩) hE (Nat.le_refl _) _⟩
   case measure=>simp[intOf]
  ·have hB':Blk wr w.heap.size 140 #[.int .u8 ((s:Int) % 256),.int .u8 0,.int .u8 0,.int .u8 0]:=hB
   obtain ⟨c0,c1,c2,c3,f0,f1,f2,f3⟩:=blk4 hB'
   go_wp2_with fail
   go_roundw
   case rel=>exact ⟨2,by omega,rfl,hB'.set 1 _,Below.setCell (p:=⟨w.heap.size,1,none⟩) hE (Nat.le_refl _) _⟩
   case measure=>simp[intOf]
  ·have hB':Blk wr w.heap.size 140 #[.int .u8 ((s:Int) % 256),.int .u8 ((s:Int) / 256 % 256),.int .u8 0,.int .u8 0]:=hB
   obtain ⟨c0,c1,c2,c3,f0,f1,f2,f3⟩:=blk4 hB'
   go_wp2_with fail
   go_roundw
   case rel=>exact ⟨3,by omega,rfl,hB'.set 2 _,Below.setCell (p:=⟨w.heap.size,2,none⟩) hE (Nat.le_refl _) _⟩
   case measure=>simp[intOf]
  ·have hB':Blk wr w.heap.size 140 #[.int .u8 ((s:Int) % 256),.int .u8 ((s:Int) / 256 % 256),.int .u8 ((s:Int) / 65536 % 256),.int .u8 0]:=hB
   obtain ⟨c0,c1,c2,c3,f0,f1,f2,f3⟩:=blk4 hB'
   go_wp2_with fail
   go_roundw
   case rel =>
    have e:(s:Int) / 16777216 % 256=(s:Int) / 16777216:=by omega
    have hs4:=hB'.set 3 (.int .u8 ((s:Int) / 16777216))
    refine ⟨4,by omega,rfl,?_,Below.setCell (p:=⟨w.heap.size,3,none⟩) hE (Nat.le_refl _) _⟩
    show Blk _ _ _ #[.int .u8 ((s:Int) % 256),.int .u8 ((s:Int) / 256 % 256),.int .u8 ((s:Int) / 65536 % 256),.int .u8 ((s:Int) / 16777216 % 256)]
    rw[e]
    exact hs4
   case measure=>simp[intOf]
  ·have hB':Blk wr w.heap.size 140 #[.int .u8 ((s:Int) % 256),.int .u8 ((s:Int) / 256 % 256),.int .u8 ((s:Int) / 65536 % 256),.int .u8 ((s:Int) / 16777216 % 256)]:=hB
   obtain ⟨c0,c1,c2,c3,f0,f1,f2,f3⟩:=blk4 hB'
   go_wp2_with fail
   have hB4:=(((hB'.set 0 (.int .u8 ((s:Int) % 256))).set 1 (.int .u8 ((s:Int) / 256 % 256))).set 2 (.int .u8 ((s:Int) / 65536 % 256))).set 3 (.int .u8 ((s:Int) / 16777216 % 256))
   refine bodyPost_ret (results_cell_row rfl _ _ _ 140 _ _ _ rfl hB4 Tryz.underlying140 rfl (by kernel_rfl)) rfl ?_
   refine ⟨by rw[←zof];rfl,?_⟩
   exact Below.setCell (p:=⟨w.heap.size,3,none⟩) (Below.setCell (p:=⟨w.heap.size,2,none⟩) (Below.setCell (p:=⟨w.heap.size,1,none⟩) (Below.setCell (p:=⟨w.heap.size,0,none⟩) hE (Nat.le_refl _) _) (Nat.le_refl _) _) (Nat.le_refl _) _) (Nat.le_refl _) _
theorem zjg (v:Value) (bs:List UInt8) (w:World) (h:Bs w v bs) (h0:0<bs.length) (hl:bs.length≤2000000):Calls Tryz.prog 132 #[v] w fun e w'=>∃ A c,e=.returned (.slice A bs.length c)∧OwnB w' w.heap.size (.slice A bs.length c) bs∧Ext w w':=by
 obtain ⟨A,c,rfl,h1,h2⟩:=SlR.open_ h
 obtain ⟨_,b,off,rfl,_⟩:=Bs.at_ h h0
 have hnil:=fun (W:World)=>Lib.run_eql_slice_nil (P:=Tryz.prog) W
 have HB:=zhd h
 go_enter Tryz.func132,Tryz.ntmps132
 go_wp2_with (at_builtin;refine zdt rfl (.tmp 5) (.tmp 6) rfl w.heap.size _ [] rfl (zd7 w) _ bs rfl (HB.out.ext (Ext.alloc (Ext.refl _) _)) (by simp;omega) (by simp) ?_;intro A1 c1 w1 ho1 hG1;have hE1:Ext w w1:=hG1 w (Ext.alloc (Ext.refl _) _) (Nat.le_refl _);simp only[List.length_nil,Nat.zero_add,List.nil_append] at ho1 ⊢)
 go_ret
 exact ⟨_,_,rfl,ho1,hE1⟩
def zaU (T:Tab) (bs:List UInt8):List UInt8:=bs++zdb (zb6 T 0 bs)
theorem zhG (s:Nat):(zdb s).length=4:=rfl
theorem ze5 (v:Value) (bs:List UInt8) (w:World) (h:Bs w v bs) (h0:0<bs.length) (hl:bs.length≤100000) (hT:TabW T w):Calls Tryz.prog 85 #[v] w fun e w'=>∃ A c,e=.returned (.slice A (zaU T bs).length c)∧OwnB w' w.heap.size (.slice A (zaU T bs).length c) (zaU T bs)∧Ext w w':=by
 obtain ⟨A,c,rfl,h1,h2⟩:=SlR.open_ h
 have HB:=zhd h
 have HT:=zhd hT
 have hsl:=zgO (T:=T) 0 bs (by decide)
 obtain ⟨sm,hsm⟩:∃ sm,zb6 T 0 bs=sm:=⟨_,rfl⟩
 rw[hsm] at hsl
 have hps:zaU T bs=bs++zdb sm:=by unfold zaU;rw[hsm]
 have Hps:=zhd hps
 have Hsm:=zhd hsm
 obtain ⟨i0,hi,hz0,hz1,hz2⟩:=info_parts zcc
 obtain ⟨f0,f1,f2,f3,hf⟩:∃ f0 f1 f2 f3:UInt8,zdb sm=[f0,f1,f2,f3]:=⟨_,_,_,_,rfl⟩
 have Hf:=zhd hf
 clear h hT hps hsm hf
 go_enter Tryz.func85,Tryz.ntmps85
 go_wp2_with fail
 have hE0:Ext w (w.alloc (.cells #[.slice A bs.length c] 38)):=Ext.alloc (Ext.refl _) _
 refine (zd4 w.heap.size A c bs _ (Boxed.new w _ _).cell (HB.out.ext hE0) (by omega) (HT.out.ext hE0)).mono ?_
 rw[Hsm.out]
 rintro e w1 ⟨rfl,hE1⟩
 go_wp2_with fail
 refine (zdF sm hsl _).mono ?_
 rw[Hf.out]
 rintro e w2 ⟨rfl,hE2⟩
 simp only[List.map_cons,List.map_nil,bv]
 go_wp2_with fail
 have hE03:Ext w (w2.alloc (.cells #[.int .u8 (f0.toNat:Int),.int .u8 (f1.toNat:Int),.int .u8 (f2.toNat:Int),.int .u8 (f3.toNat:Int)] 140)):=Ext.alloc (Ext.trans hE0 (Ext.trans hE1 hE2)) _
 have hb3:=Blk.new w2 140 #[.int .u8 (f0.toNat:Int),.int .u8 (f1.toNat:Int),.int .u8 (f2.toNat:Int),.int .u8 (f3.toNat:Int)]
 refine wp_region_held_drew (S:=fun _=>True) (by kernel_rfl) trivial (fun _=>?_)
 refine tkN 0 rfl ?_
 refine tkN 2 rfl ?_
 refine ar1 1 rfl (fun K hK=>?_)
 go_simp
 refine (zjg _ bs _ (HB.out.ext (Ext.drew hE03)) h0 (by omega)).mono ?_
 rintro e w4 ⟨A4,c4,rfl,ho4,hE4⟩
 try (go_wp2_with fail)
 refine shK hK _ _ trivial (fun _=>?_)
 have hE34:Ext (w2.alloc (.cells #[.int .u8 (f0.toNat:Int),.int .u8 (f1.toNat:Int),.int .u8 (f2.toNat:Int),.int .u8 (f3.toNat:Int)] 140)) w4:=Ext.trans (Ext.drew (Ext.refl _)) hE4
 have hb4:=hb3.ext hE34
 have hE04:Ext w w4:=Ext.trans hE03 hE34
 have ho4':w4.ownsRow w.heap.size 5 1 (.slice A4 bs.length c4) bs.length (bs.map bv):=zah ho4 (Ext.drew hE03).size
 refine ar1 3 rfl (fun K hK=>?_)
 refine wp_append_lies _ (.tmp 9) (.tmp 10) 38 (by rfl) w.heap.size 5 i0 (.int .u8 0) 1 1 Tryz.underlying38 hi hz0 hz1 hz2 rfl (by decide) _ bs.length (bs.map bv) (by rfl) ho4' ⟨w2.heap.size,0,none⟩ 4 4 [.int .u8 (f0.toNat:Int),.int .u8 (f1.toNat:Int),.int .u8 (f2.toNat:Int),.int .u8 (f3.toNat:Int)] (by rfl) rfl (World.news_of_block hb4) (by simp[Value.oneCell']) (by omega) (by unfold maxLen;omega) (by omega) hE04.size _ rfl ?_
 intro g' cap w5 hown' hgrow _ _
 refine shK hK _ _ trivial (fun _=>?_)
 refine tkN 4 rfl ?_
 refine wpAnyH_done (by kernel_rfl) ?_ _
 go_wp2_with fail
 go_ret
 have hll:(zaU T bs).length=bs.length+4:=by unfold zaU;rw[List.length_append,zhG]
 rw[hll]
 refine ⟨_,_,rfl,?_,Ext.grownOwn hE04 ho4' hgrow⟩
 show w5.ownsRow w.heap.size 5 1 _ (zaU T bs).length ((zaU T bs).map bv)
 rw[hll,Hps.out,Hf.out,List.map_append]
 exact hown'
open Go.RowKit Go.Mv Go.Shelf
attribute [local go_sem] Oper.semAt_some
def zgL (n:Nat):List UInt8:=zaL 8 n false 4
def zaX (l:List Int):List UInt8:=l.flatMap fun n=>zgL n.toNat
theorem zmK (n:Nat) (k:Nat):(zaL 8 n false k).length=k+1:=by
 induction k with
 | zero=>simp[zaL]
 | succ k ih=>rw[zaL,if_neg (by simp)];simp[ih]
theorem zp9 (n:Nat):(zgL n).length=5:=zmK n 4
theorem zks (l:List Int):(zaX l).length=5*l.length:=by
 induction l with
 | nil=>rfl
 | cons n l ih=>rw[show zaX (n::l)=zgL n.toNat++zaX l from rfl,List.length_append,zp9,ih,List.length_cons];omega
theorem zou {l:List Int} {k:Nat} (h:k<l.length):zaX (l.take (k+1))=zaX (l.take k)++zgL l[k].toNat:=by
 rw[List.take_succ_eq_append_getElem h];unfold zaX;rw[List.flatMap_append];simp
def LgI (base N:Nat) (w:World) (bs pre:List UInt8) (X:World):Prop :=
 ∃ v,Boxed X N 38 v∧X.ownsRow base 5 1 v (bs++pre).length ((bs++pre).map bv)∧Below base w X
set_option maxRecDepth 100000 in
theorem zpd (bs:List UInt8) (n:Nat) (hn:n≤1073741824) (vb:Value) (base:Nat) (w:World) (hown:w.ownsRow base 5 1 vb bs.length (bs.map bv)) (hbase:base≤w.heap.size) (hlen:bs.length+5≤1099511627776) :
  Calls Tryz.prog 234 #[vb,.int .i64 n] w (zns base w (bs++zgL n)):=by
 obtain ⟨A,cc,rfl,_,_⟩:=SlR.open_ (SlR.of_own hown)
 refine (callsIn_wd (ro:=none) (n:=9)).1 ?_
 refine callsIn_of_wp_marks Tryz.func234 rfl trivial ?_ rfl
 simp only[Tryz.ntmps234,List.size_toArray,List.length_cons,List.length_nil,Nat.reduceAdd,Nat.reduceSub,Array.replicate_succ,Array.replicate_zero,List.push_toArray,List.append_toArray,List.nil_append,List.cons_append]
 gi_wp2_with (refine ⟨trivial,?_⟩;gi_at_call 129;refine (callsIn_wd.2 (zjq n 8 5 false _)).mono ?_;rintro e w' ⟨rfl,rfl⟩)
 have hN:w.heap.size+5=(zeZ (w.alloc (Obj.cells #[Value.slice A bs.length cc] 38)) n 8 5 false).heap.size:=by rw[(ze6 _ n 8 5 false).1];simp
 obtain ⟨_,q1,q2,q3,q4,qe⟩:=ze6 (w.alloc (Obj.cells #[Value.slice A bs.length cc] 38)) n 8 5 false
 generalize zeZ (w.alloc (Obj.cells #[Value.slice A bs.length cc] 38)) n 8 5 false=w2 at *
 simp only[World.size_alloc] at q1 q2 q3 q4
 have h0:LgI base w.heap.size w bs [] w2:=by
  refine ⟨_,(Boxed.new w _ _).kept (W':=w2) (row:=none) (Ext.grown qe none) (by simp),?_,?_⟩
  ·have h1:=hown.alloc (Obj.cells #[Value.slice A bs.length cc] 38)
   simpa using h1.kept (w':=w2) (row:=none) (Ext.grown qe none) (by cases A <;> simp[Value.ownBlock])
  ·exact (((Below.refl base w).alloc hbase _).trans (qe.mono (by simp;omega)))
 refine zbu (a:=⟨_,_⟩) rfl (enters_of Tryz.func162 (by kernel_rfl) rfl)
  (fun W1 hb _=>zir 8 n 5 false (.inr rfl) hn (by omega) (by omega) (w.heap.size+1+2) (w.heap.size+1) (w.heap.size+1+1) (w.heap.size+1+3) (by omega) (by omega) W1
    (q3.kept (row:=none) (Ext.grown hb none) (by simp)) (q1.kept (row:=none) (Ext.grown hb none) (by simp))
    (q2.kept (row:=none) (Ext.grown hb none) (by simp)) (q4.kept (row:=none) (Ext.grown hb none) (by simp)))
  (fun k o h=>zaW h.2) (fun k o h=>by rcases h with h | h <;> exact zaW h.2) (fun x av W h=>by rw[h];rfl)
  (LgI base w.heap.size w bs) (fun _ _ _=>False) ?hI (fun _ _ _ _ h _=>h) h0
  (fun x a' _=>a'=⟨#[.slice A bs.length cc,.int .i64 n,.pointer (some ⟨w.heap.size,0,none⟩),undef,.slice none 0 0,.int .u8 x.toNat,.int .i64 n,zrv (w.heap.size+1),.int .u8 x.toNat,undef,undef,undef,undef,undef],[]⟩)
  (fun _ _ _ _ h _=>h) ?assign ?body ?done ?stop
 case hI =>
  rintro s X Y ⟨v,hv,hr,hB⟩ hm
  refine ⟨v,hm.boxed hv ?_,hm.ownsRow hr ?_,hm.belowOf hB ?_ hbase⟩
  ·rintro (h | h)
   ·have:=h.1;omega
   ·cases h.2
  ·rintro k cur _ (h | h)
   ·cases h.2
   ·cases h.2
  ·rintro k o hk (h | h)
   ·have:=h.1;omega
   ·have:=h.1;omega
 case assign =>
  rintro l pre x post W av K' hx hi hsz rfl hK
  simp only[bv]
  gi_wp2
  exact hK _ _ Kept.refl hi rfl
 case body =>
  rintro l pre x post a' W hx hl hr ⟨v,hv,hrow,hB⟩ hsz rfl
  have hm:(bs++pre).length=bs.length+pre.length:=by simp
  rw[hm] at hrow
  obtain ⟨A',c',rfl,_,_⟩:=SlR.open_ (SlR.of_own hrow)
  have hpl:pre.length≤4:=by
   have:=congrArg List.length hx
   have:=zgB 8 n false 4
   simp at *;omega
  obtain ⟨i0,hi,hz0,hz1,hz2⟩:=info_parts zcc
  have hc:=hv.cell
  have hne:=hv.not_row (e:=5) (by decide) hrow
  gi_wp2_with (gi_at_builtin;refine wpListIn_append_own _ rfl (.tmp 9) (.tmp 11) 38 rfl base 5 i0 (.int .u8 0) 1 1 Tryz.underlying38 hi hz0 hz1 hz2 rfl (by decide) (.slice A' (bs.length+pre.length) c') (bs.length+pre.length) ((bs++pre).map bv) rfl (hrow.alloc _) ⟨W.heap.size,0,none⟩ 1 1 [.int .u8 (x.toNat:Int)] rfl rfl (cell_one_new _ _ _) (by simp[Value.oneCell']) (by simp[maxLen];omega) (by simp;omega) (by have:=hB.size;simp;omega) ?_;intro v' w1 hown' hgrow _;obtain ⟨g',cap',rfl,_,_,_⟩:=zc5 hown' (by omega);have hv1:=(hv.alloc _).kept hgrow hne;have hc1:=hv1.cell;have hf1:=hv1.frozen)
  refine ⟨Kept.appended _ hv hrow hgrow ?_ ?_,_,hv1.set _,?_,?_⟩
  ·rintro ((⟨_,h⟩ | ⟨_,h⟩) | ⟨_,h⟩) <;> cases h
  ·rintro k cur _ ((⟨_,h⟩ | ⟨_,h⟩) | ⟨_,h⟩) <;> cases h
  ·have h:=hown'.kept (grownBy_setCell' w1 w.heap.size (.slice (some ⟨g',0,none⟩) (bs.length+pre.length+1) cap')) (.inr (hv1.not_row (by decide) hown').symm)
   simpa [bv,Nat.add_assoc] using h
  ·refine (((hB.alloc (by have:=hB.size;omega) _).grown hgrow (by have:=hB.size;simp;omega) (fun k ek=>?_)).setCell (p:=⟨w.heap.size,0,none⟩) hbase _)
   exact (hrow.lt k ek).1
 case done =>
  rintro D W hD ⟨v,hv,hrow,hB⟩ hK
  have hc:=hv.cell
  have hN':w.heap.size≤w2.heap.size:=by omega
  clear h0 hown q1 q2 q3 q4 qe hN
  have hrow2:=ownsRow_putObj hrow (.deferred none) hK rfl
  obtain ⟨A',c',rfl,_,_⟩:=SlR.open_ (SlR.of_own hrow)
  gi_wp2
  have hrow3:(W.putObj D (.deferred none)).ownsRow base 5 1 (.slice A' (bs.length+(zaL 8 n false 4).length) c') (bs++zgL n).length ((bs++zgL n).map bv):=by
   have h:=hrow2
   rw[List.length_append] at h
   rw[List.length_append]
   exact h
  exact za0 hK (.slice A' (bs.length+(zaL 8 n false 4).length) c') (by simp[results,Tryz.results234,go_sem]) ⟨_,rfl,hrow3,zan hB (by omega) _⟩
 case stop =>
  rintro D c pre W _ _ h _
  exact h.elim
def zpe (w:World) (l:List Int) (e:Ending) (w':World):Prop:=∃ v',e=.returned (.tuple #[v',.int .i64 0])∧w'.ownsRow w.heap.size 5 1 v' (zaX l).length ((zaX l).map bv)∧Ext w w'
set_option maxRecDepth 100000 in
theorem zoz (v:Value) (l:List Int) (w:World) (h:Is w v l) (hn:zax l=true) (hl:l.length≤2000000) :
  Calls Tryz.prog 127 #[v,.func (.func 234) #[] #[]] w (zpe w l):=by
 obtain ⟨A,c,rfl,h1,h2⟩:=SlR.open_ h
 have Hn:=zhd hn
 go_enter Tryz.func127,Tryz.ntmps127
 go_wp2_with (go_at_call 161;refine (zhl _ _ _ h).mono ?_;rintro e w' ⟨rfl,rfl⟩)
 clear hn
 go_loopw [4,13] (fun vb i wr=>∃ k:Nat,k≤l.length∧i=.int .i64 k∧wr.ownsRow w.heap.size 5 1 vb (zaX (l.take k)).length ((zaX (l.take k)).map bv)∧Ext w wr) (fun _ i _=>l.length-(intOf i).toNat)
 case atStart=>exact ⟨0,Nat.zero_le _,rfl,World.ownsRow_nil _ _ _ _,Ext.refl _⟩
 case round =>
  obtain ⟨k,hk,rfl,hown,hB⟩:=hrel
  by_cases hlt:k<l.length
  ·obtain ⟨_,b,off,rfl,hc⟩:=Is.at_ (h.ext hB) (by omega)
   have hc0:=hc k hlt
   clear hc
   obtain ⟨hn0,hn1⟩:=zgR Hn.out hlt
   have hsl:=zks (l.take k)
   have htl:(l.take k).length≤k:=List.length_take_le _ _
   have key:=zpd (zaX (l.take k)) l[k].toNat (by omega) _ w.heap.size wr hown hB.size (by omega)
   rw[Int.toNat_of_nonneg hn0] at key
   have Key:=zhd key
   clear key
   go_wp2_with (go_at_call 234;refine Key.out.mono ?_;rintro e w1 ⟨v',rfl,hown',hB'⟩)
   go_roundw
   case rel=>exact ⟨k+1,by omega,by go_num,by rw[zou hlt];exact hown',Below.trans hB hB'⟩
   case measure=>simp[intOf];omega
  ·have hk':l.take k=l:=List.take_of_length_le (by omega)
   rw[hk'] at hown
   clear hk'
   go_wp2_with fail
   go_ret2
   exact ⟨_,rfl,hown,hB⟩
theorem zsw (v:Value) (l:List Int) (w:World) (h:Is w v l) (hn:zax l=true) (hl:l.length≤2000000):Calls Tryz.prog 200 #[v] w (zpe w l):=by
 go_enter Tryz.func200,Tryz.ntmps200
 go_wp2_with (go_at_call 127;refine (zoz _ _ _ h hn hl).mono ?_;rintro e w' ⟨v',rfl,ho,hb⟩)
 go_ret2
 exact ⟨_,rfl,ho,hb⟩
def beN (l:List UInt8):Nat:=l.foldl (fun a b=>a*256+b.toNat) 0
theorem zrl (l:List UInt8) (b:UInt8):beN (l++[b])=beN l*256+b.toNat:=by unfold beN;rw[List.foldl_append];rfl
def zaq (bs:List UInt8):Int×Nat×List UInt8:=if bs.length<5 then (10,0,[]) else if beN (bs.take 5)≤1073741824 then (0,beN (bs.take 5),bs.drop 5) else (11,0,[])
set_option maxRecDepth 100000 in
theorem zde (v:Value) (bs:List UInt8) (w:World) (hBs:Bs w v bs) (hl:bs.length≤2000000):Calls Tryz.prog 167 #[v] w (znY w (zaq bs)):=by
 obtain ⟨A,c,rfl,h1,h2⟩:=SlR.open_ hBs
 by_cases h5:(bs.length:Int)<5
 ·have ht:zaq bs=(10,0,[]):=by unfold zaq;rw[if_pos (by omega)]
  have Ht:=zhd ht
  clear ht
  go_enter Tryz.func167,Tryz.ntmps167
  go_wp2_with fail
  go_ret3
  exact ⟨_,by rw[Ht.out];rfl,by rw[Ht.out];exact World.ownsRow_nil _ _ _ _,Ext.refl _⟩
 obtain ⟨_,b,off,rfl,hc⟩:=Bs.at_ hBs (by omega)
 have HC:=zhd hc
 have HBs:=zhd hBs
 have ht5:zaq bs=if beN (bs.take 5)≤1073741824 then (0,beN (bs.take 5),bs.drop 5) else (11,0,[]):=by unfold zaq;rw[if_neg (by omega)]
 have Ht5:=zhd ht5
 have h5c:(5:Int)≤(c:Int):=by omega
 clear hc hBs ht5
 go_enter Tryz.func167,Tryz.ntmps167
 go_wp2_with fail
 go_loop [2,13] (fun nn ii=>∃ k n:Nat,k≤5∧Hid (n=beN (bs.take k))∧n<1099511627776∧Hid (n<256^k)∧nn=.int .i64 n∧ii=.int .i64 k) (fun _ ii=>5-(intOf ii).toNat)
 case atStart=>exact ⟨0,0,by omega,rfl,by omega,by show _<_;decide,rfl,rfl⟩
 case round =>
  obtain ⟨k,n,hk,Hn,hn,Hlt,rfl,rfl⟩:=hrel
  by_cases hlt:k<5
  ·have hkl:k<bs.length:=by omega
   have hci:=HC.out k hkl
   have hq:=bs[k].toNat_lt
   have hsn:beN (bs.take (k+1))=n*256+bs[k].toNat:=by rw[List.take_succ_eq_append_getElem hkl,zrl,Hn.out]
   have hnk:n<4294967296:=Nat.lt_of_lt_of_le Hlt.out (Nat.le_trans (Nat.pow_le_pow_right (by decide) (show k≤4 by omega)) (by decide))
   have hlt2:n*256+bs[k].toNat<256^(k+1):=by rw[Nat.pow_succ];have:=Hlt.out;omega
   have Hsn:=zhd hsn
   have Hlt2:=zhd hlt2
   clear hsn hlt2
   generalize bs[k].toNat=q at *
   have ho:bits .or .i64 ((n:Int)*256) (q:Int)=(n:Int)*256+(q:Int):=bits_join .i64 62 (by decide) zd0 8 _ _ (by omega) (by omega) (by omega) (by omega) (by omega) (by omega)
   go_wp2_with fail
   go_round
   case rel=>exact ⟨k+1,n*256+q,by omega,by show _=_;rw[Hsn.out],by omega,Hlt2.out,by simp,by go_num⟩
   case measure=>simp[intOf];omega
  ·obtain rfl:k=5:=by omega
   have hIs:=SlR.of_own (za2 w [.int .i64 (n:Int)] 3 1 rfl (by simp[maxLen]) (Nat.le_refl _))
   have hIs':Is (w.alloc (.cells #[.int .i64 (n:Int)] 3)) (.slice (some ⟨w.heap.size,0,none⟩) 1 1) [(n:Int)]:=hIs
   have ha:zax [(n:Int)]=decide (n≤1073741824):=by simp[zax,zaC];omega
   have Ha:=zhd ha
   have hE1:Ext w (w.alloc (.cells #[.int .i64 (n:Int)] 3)):=Ext.alloc (Ext.refl _) _
   clear hIs ha
   have hvs:∃ vs:Value,(∀ W,Ext w W→Bs W vs (bs.drop 5))∧vs=.slice (if c=5 then some ⟨b,off,none⟩ else some ⟨b,off+5,none⟩) (bs.length-5) (c-5):=by
    by_cases hck:c=5
    ·exact ⟨_,fun W _=>Bs.cut0 (A:=some ⟨b,off,none⟩) (n:=bs.length) (k:=5) (c:=c-5) (bs:=bs) (by omega) rfl (by omega),by rw[if_pos hck]⟩
    ·exact ⟨_,fun W hE=>Bs.cut (HBs.out.ext hE) 5 (by omega) rfl,by rw[if_neg hck]⟩
   obtain ⟨vs,hvs1,hvs2⟩:=hvs
   have HVS:=zhd hvs1
   have HV:=zhd hvs2
   clear hvs1 hvs2
   by_cases hok:n≤1073741824
   ·have hr:zaq bs=(0,n,bs.drop 5):=by rw[Ht5.out,←Hn.out,if_pos hok]
    have Hr:=zhd hr
    have hdl:(bs.drop 5).length≤2000000:=by rw[List.length_drop];omega
    clear hr
    go_wp2_with (first
     | (go_at_call 161;refine (zhl _ _ _ hIs').mono ?_;rw[Ha.out,decide_eq_true hok];rintro e w1 ⟨rfl,rfl⟩)
     | (go_at_call 138;rw[←HV.out];refine (zfG _ _ _ (HVS.out _ hE1) (by omega)).mono ?_;rintro e w2 ⟨v2,rfl,ho2,hE2⟩))
    go_ret3
    rw[Hr.out]
    exact ⟨_,rfl,zah ho2 hE1.size,Ext.trans hE1 hE2⟩
   ·have hr:zaq bs=(11,0,[]):=by rw[Ht5.out,←Hn.out,if_neg hok]
    have Hr:=zhd hr
    clear hr
    go_wp2_with (go_at_call 161;refine (zhl _ _ _ hIs').mono ?_;rw[Ha.out,decide_eq_false hok];rintro e w1 ⟨rfl,rfl⟩)
    go_ret3
    rw[Hr.out]
    exact ⟨_,rfl,World.ownsRow_nil _ _ _ _,hE1⟩
variable {T:Tab}
def zbm (T:Tab) (b:List UInt8):Option (List UInt8):=if zdb (zb6 T 0 (b.take (b.length-4)))=b.drop (b.length-4) then some (b.take (b.length-4)) else none
theorem zmI (v:Value) (bs:List UInt8) (w:World) (h:Bs w v bs) (hl:5≤bs.length) (hl2:bs.length≤100000) (hT:TabW T w):Calls Tryz.prog 102 #[v] w fun e w' =>
  (match zbm T bs with
  | some p=>∃ A c,e=.returned (.tuple #[.slice A p.length c,.bool true])∧OwnB w' w.heap.size (.slice A p.length c) p
  | none=>e=.returned (.tuple #[.slice none 0 0,.bool false]))∧Ext w w':=by
 obtain ⟨A,c,rfl,h1,h2⟩:=SlR.open_ h
 obtain ⟨_,b,off,rfl,hc⟩:=Bs.at_ h (by omega)
 obtain ⟨n,hn⟩:∃ n,bs.length-4=n:=⟨_,rfl⟩
 have hbn:bs.length=n+4:=by omega
 have hBp:=Bs.take h n (by omega)
 have hBf:=Bs.cut h n (by omega) rfl
 rw[show bs.length-n=4 from by omega] at hBf
 have hn1:1≤n:=by omega
 have hn2:n≤100000:=by omega
 have hpl:(bs.take n).length=n:=by rw[List.length_take];omega
 have hfl:(bs.drop n).length=4:=by rw[List.length_drop];omega
 unfold zbm
 rw[hn]
 obtain ⟨p,hp⟩:∃ p,bs.take n=p:=⟨_,rfl⟩
 obtain ⟨g,hg⟩:∃ g,bs.drop n=g:=⟨_,rfl⟩
 rw[hp] at hBp hpl ⊢
 rw[hg] at hBf hfl ⊢
 have hsl:=zgO (T:=T) 0 p (by decide)
 obtain ⟨sm,hsm⟩:∃ sm,zb6 T 0 p=sm:=⟨_,rfl⟩
 rw[hsm] at hsl ⊢
 have HT:=zhd hT
 have HBp:=zhd hBp
 have HBf:=zhd hBf
 have Hsm:=zhd hsm
 obtain ⟨f0,f1,f2,f3,hf⟩:∃ f0 f1 f2 f3:UInt8,zdb sm=[f0,f1,f2,f3]:=⟨_,_,_,_,rfl⟩
 have Hf:=zhd hf
 rw[hf]
 have Hpl:=zhd hpl
 have Hfl:=zhd hfl
 rw[hbn] at h1 ⊢
 clear hc h hBp hBf hp hg hsm hT hn hl hl2 hfl hbn hf
 subst hpl
 have hnc:(p.length:Int)≤(c:Int):=by omega
 have hcne:¬ (c=p.length):=by omega
 have hpp:(p.length:Int)≤(p.length:Int)+4:=by omega
 have hX:Ext w (w.alloc (.cells #[.slice (some ⟨b,off,none⟩) p.length c] 38)):=Ext.alloc (Ext.refl _) _
 by_cases heq:[f0,f1,f2,f3]=g
 all_goals
  have Heq:=zhd heq
 ·rw[if_pos heq]
  clear heq
  go_enter Tryz.func102,Tryz.ntmps102
  go_wp2_with fail
  refine (zd4 (T:=T) w.heap.size _ c p _ (Boxed.new w _ _).cell (HBp.out.ext hX) (by omega) (HT.out.ext hX)).mono ?_
  rw[Hsm.out]
  rintro e w1 ⟨rfl,hE1⟩
  have X1:=Ext.trans hX hE1
  go_wp2_with fail
  refine (zdF sm hsl _).mono ?_
  rw[Hf.out]
  rintro e w2 ⟨rfl,hE2⟩
  simp only[List.map_cons,List.map_nil,bv]
  have X2:=Ext.trans X1 hE2
  have hb3:Blk (w2.alloc (.cells #[.int .u8 (f0.toNat:Int),.int .u8 (f1.toNat:Int),.int .u8 (f2.toNat:Int),.int .u8 (f3.toNat:Int)] 140)) w2.heap.size 140 ([f0,f1,f2,f3].map bv).toArray:=Blk.new w2 _ _
  have X3:Ext w (w2.alloc (.cells #[.int .u8 (f0.toNat:Int),.int .u8 (f1.toNat:Int),.int .u8 (f2.toNat:Int),.int .u8 (f3.toNat:Int)] 140)):=Ext.alloc X2 _
  have h4:Bs (w2.alloc (.cells #[.int .u8 (f0.toNat:Int),.int .u8 (f1.toNat:Int),.int .u8 (f2.toNat:Int),.int .u8 (f3.toNat:Int)] 140)) (.slice (some ⟨w2.heap.size,0,none⟩) 4 4) [f0,f1,f2,f3]:=zdh hb3 rfl (by simp[maxLen])
  go_wp2_with fail
  refine wp_region_held_drew (S:=fun _=>True) (by kernel_rfl) trivial (fun _=>?_)
  refine tkN 0 rfl ?_
  refine tkN 1 rfl ?_
  refine tkN 2 rfl ?_
  refine tkN 3 rfl ?_
  refine ar1 4 rfl (fun K hK=>?_)
  go_simp
  have hEq:=za6 _ _ _ _ _ (h4.ext (Ext.drew (Ext.refl _))) (HBf.out.ext (Ext.drew X3))
  refine hEq.mono ?_
  rw[decide_eq_true Heq.out]
  rintro e w4 ⟨rfl,rfl⟩
  try (go_wp2_with fail)
  refine shK hK _ _ trivial (fun _=>?_)
  refine tkN 5 rfl ?_
  refine wpAnyH_done (by kernel_rfl) ?_ _
  go_wp2_with fail
  refine (zjg _ p _ (HBp.out.ext (Ext.drew X3)) (by omega) (by omega)).mono ?_
  rintro e w5 ⟨A5,c5,rfl,ho5,hE5⟩
  go_wp2_with fail
  go_ret2
  exact ⟨⟨A5,c5,rfl,zah ho5 (Ext.drew X3).size⟩,Ext.trans (Ext.drew X3) hE5⟩
 ·rw[if_neg heq]
  clear heq
  go_enter Tryz.func102,Tryz.ntmps102
  go_wp2_with fail
  refine (zd4 (T:=T) w.heap.size _ c p _ (Boxed.new w _ _).cell (HBp.out.ext hX) (by omega) (HT.out.ext hX)).mono ?_
  rw[Hsm.out]
  rintro e w1 ⟨rfl,hE1⟩
  have X1:=Ext.trans hX hE1
  go_wp2_with fail
  refine (zdF sm hsl _).mono ?_
  rw[Hf.out]
  rintro e w2 ⟨rfl,hE2⟩
  simp only[List.map_cons,List.map_nil,bv]
  have X2:=Ext.trans X1 hE2
  have hb3:Blk (w2.alloc (.cells #[.int .u8 (f0.toNat:Int),.int .u8 (f1.toNat:Int),.int .u8 (f2.toNat:Int),.int .u8 (f3.toNat:Int)] 140)) w2.heap.size 140 ([f0,f1,f2,f3].map bv).toArray:=Blk.new w2 _ _
  have X3:Ext w (w2.alloc (.cells #[.int .u8 (f0.toNat:Int),.int .u8 (f1.toNat:Int),.int .u8 (f2.toNat:Int),.int .u8 (f3.toNat:Int)] 140)):=Ext.alloc X2 _
  have h4:Bs (w2.alloc (.cells #[.int .u8 (f0.toNat:Int),.int .u8 (f1.toNat:Int),.int .u8 (f2.toNat:Int),.int .u8 (f3.toNat:Int)] 140)) (.slice (some ⟨w2.heap.size,0,none⟩) 4 4) [f0,f1,f2,f3]:=zdh hb3 rfl (by simp[maxLen])
  go_wp2_with fail
  refine wp_region_held_drew (S:=fun _=>True) (by kernel_rfl) trivial (fun _=>?_)
  refine tkN 0 rfl ?_
  refine tkN 1 rfl ?_
  refine tkN 2 rfl ?_
  refine tkN 3 rfl ?_
  refine ar1 4 rfl (fun K hK=>?_)
  go_simp
  have hEq:=za6 _ _ _ _ _ (h4.ext (Ext.drew (Ext.refl _))) (HBf.out.ext (Ext.drew X3))
  refine hEq.mono ?_
  rw[decide_eq_false Heq.out]
  rintro e w4 ⟨rfl,rfl⟩
  try (go_wp2_with fail)
  refine shK hK _ _ trivial (fun _=>?_)
  refine tkN 5 rfl ?_
  refine wpAnyH_done (by kernel_rfl) ?_ _
  go_wp2_with fail
  go_ret2
  exact ⟨rfl,Ext.drew X3⟩
def zcO (T:Tab) (b:List UInt8):Option Ent :=
 match zbm T b with
 | none=>none
 | some p =>
  if (zaq p).1=0 then
   (if (zaq ((zaq p).2.2.drop 1)).1=0 then
     (if okB (zaq p).2.1 (((zaq p).2.2.getD 0 0).toNat:Int) (zaq ((zaq p).2.2.drop 1)).2.1=true then some ⟨(zaq p).2.1,(((zaq p).2.2.getD 0 0).toNat:Int),(zaq ((zaq p).2.2.drop 1)).2.1⟩ else none)
   else none)
  else none
def ztx (w:World) (r:Option Ent) (e:Ending) (w':World):Prop:=(match r with
 | some x=>e=.returned (.tuple #[.agg #[.int .i64 x.t,.int .i64 x.k,.int .i64 x.v],.bool true])
 | none=>e=.returned (.tuple #[.agg #[.int .i64 0,.int .i64 0,.int .i64 0],.bool false]))∧Ext w w'
theorem zlv {b p:List UInt8} (h:zbm T b=some p):p.length=b.length-4:=by
 unfold zbm at h
 split at h
 ·cases h;rw[List.length_take];omega
 ·cases h
attribute [local go_sem] Oper.semAt_some
variable {T:Tab}
theorem zua:Tryz.prog.underlying 79=some (.struct (Tryz.prog.fieldsOf 79)):=by kernel_rfl
theorem zkI (tmps:Array Value) (W:World) (b:Nat) (cs:Array Value) (u:Value) (h2:tmps.getD 2 undef=.pointer (some ⟨b,0,none⟩)) (h3:tmps.getD 3 undef=u) (hb:Blk W b 79 cs) (hs:cs.size=3):(results Tryz.f298 tmps).run Tryz.prog W=.ok (.tuple #[.agg cs,u]) W:=by
 have hl:=hb.load (P:=Tryz.prog) zua rfl (by rw[hs];kernel_rfl)
 have h2':tmps[2]?.getD undef=.pointer (some ⟨b,0,none⟩):=by simpa using h2
 have h3':tmps[3]?.getD undef=u:=by simpa using h3
 simp[results,Tryz.results298,h2',h3',asAddr,hl]
theorem takeLong_rest {p:List UInt8} (h:(zaq p).1=0):(zaq p).2.2=p.drop 5:=by
 unfold zaq at h ⊢
 split at h
 ·cases h
 ·rename_i h5
  rw[if_neg h5]
  split at h
  ·rename_i hb;rw[if_pos hb]
  ·cases h
def TkJ (w:World) (r:Option Ent) (a:Act) (W:World):Prop :=
 a.defers=[]∧a.tmps.size=46∧a.tmps.getD 2 undef=.pointer (some ⟨w.heap.size,0,none⟩)∧(∃ x y z,Blk W w.heap.size 79 #[x,y,z])∧Ext w W∧Hid (r=none)
theorem zpo (v:Value) (bs:List UInt8) (w:World) (hB:Bs w v bs) (hl:bs.length=15) (hT:TabW T w):Calls Tryz.prog 298 #[v] w (ztx w (zcO T bs)):=by
 obtain ⟨A,c,rfl,h1,h2⟩:=SlR.open_ hB
 have hb0:=Blk.new w 79 #[.int .i64 0,.int .i64 0,.int .i64 0]
 have hX:Ext w (w.alloc (.cells #[.int .i64 0,.int .i64 0,.int .i64 0] 79)):=Ext.alloc (Ext.refl _) _
 have hct:=zmI (T:=T) _ bs _ (hB.ext hX) (by omega) (by omega) (hT.ext hX)
 have hlen:∀ p,zbm T bs=some p→p.length=11:=fun p h=>by rw[zlv h,hl]
 have hr0:zcO T bs=zcO T bs:=rfl
 obtain ⟨R,hR⟩:∃ R,zcO T bs=R:=⟨_,rfl⟩
 have hR':=hR
 unfold zcO at hR'
 rw[hR]
 refine (callsIn_wd (ro:=none) (n:=9)).1 ?_
 refine callsIn_of_wp_marks Tryz.func298 rfl trivial ?_ rfl
 simp only[Tryz.ntmps298,List.size_toArray,List.length_cons,List.length_nil,Nat.reduceAdd,Nat.reduceSub,Array.replicate_succ,Array.replicate_zero,List.push_toArray,List.append_toArray,List.nil_append,List.cons_append]
 have Hct:=zhd hct
 have Hlen:=zhd hlen
 have HR:=zhd hR'
 have hw0:w.heap.size<(w.alloc (.cells #[.int .i64 0,.int .i64 0,.int .i64 0] 79)).heap.size:=by simp
 clear hct hlen hr0 hR hR' hB hT hl
 gi_wp2
 refine za9 0 (TkJ w R) (fun a _=>0) rfl (fun l' h=>by cases l' <;> first | exact absurd rfl h | rfl) ?_ ?_
 ·intro hrest
  clear hrest
  cases hcr:zbm T bs with
  | none =>
   rw[hcr] at Hct HR
   have HN:Hid (R=none):=HR.out.symm
   clear HR Hlen hcr
   gi_wp2_with (refine ⟨trivial,?_⟩;gi_at_call 102;refine (callsIn_wd.2 Hct.out).mono ?_;rintro e w1 ⟨rfl,hE1⟩)
   refine wpIn_goto ?_
   simp only[Exit.then]
   refine zaf (by simp) ?_
   exact ⟨rfl,rfl,rfl,⟨_,_,_,hb0.ext hE1⟩,Ext.trans hX hE1,HN.out⟩
  | some p =>
   have hp:=Hlen.out p hcr
   rw[hcr] at Hct HR
   clear Hlen hcr
   have key1:=fun (w':World) (vv:Value) (h:Bs w' vv p)=>zde vv p w' h (by omega)
   have hrest:=@takeLong_rest p
   rcases htl:zaq p with ⟨e1,t,rest⟩
   rw[htl] at key1 hrest
   have HR2:=HR.out
   simp only[htl] at HR2
   have Key1:=zhd key1
   clear HR key1 htl
   by_cases he1:e1=0
   ·subst he1
    have hr6:rest.length=6:=by
     have h:=hrest rfl
     dsimp only at h
     rw[h,List.length_drop,hp]
    simp only[if_true] at HR2
    obtain ⟨kb,hkb⟩:∃ kb,rest.getD 0 0=kb:=⟨_,rfl⟩
    rw[hkb] at HR2
    have hk0:rest[0]?=some kb:=by
     rw[List.getElem?_eq_getElem (by omega),←hkb]
     simp[List.getD_eq_getElem?_getD,List.getElem?_eq_getElem (show 0<rest.length by omega)]
    obtain ⟨hk0l,hk0e⟩:=List.getElem?_eq_some_iff.1 hk0
    have key2:=fun (w':World) (vv:Value) (h:Bs w' vv (rest.drop 1))=>zde vv (rest.drop 1) w' h (by rw[List.length_drop];omega)
    rcases htl2:zaq (rest.drop 1) with ⟨e2,vn,rest2⟩
    rw[htl2] at key2
    simp only[htl2] at HR2
    have Key2:=zhd key2
    have Hk0:=zhd hk0e
    have Hr6:=zhd hr6
    clear key2 htl2 hkb hk0 hrest hk0e hr6
    have hkw:IntKind.i64.wrap (kb.toNat:Int)=(kb.toNat:Int):=by
     have:=kb.toNat_lt
     rw[IntKind.wrap_i64];omega
    have HR3:=zhd HR2
    have Hp:=zhd hp
    clear HR2 hp
    gi_wp2_with (refine ⟨trivial,?_⟩;gi_at_call 102;refine (callsIn_wd.2 Hct.out).mono ?_;rintro e w1 ⟨⟨A1,c1,rfl,ho1⟩,hE1⟩;have hBp:Bs w1 (.slice A1 p.length c1) p:=SlR.of_own ho1;have HBp:=zhd hBp;have HE1:=zhd hE1;have hb1:=hb0.ext hE1;have hw1:w.heap.size<w1.heap.size:=hb1.lt;clear hBp ho1 hE1;obtain ⟨g0,g1,g2,f0,f1,f2⟩:=za4 hb1)
    refine ⟨trivial,?_⟩
    refine (callsIn_wd.2 (Key1.out w1 _ HBp.out)).mono ?_
    rintro e w2 ⟨vr,rfl,hvr,hE2⟩
    have hvr':OwnB w2 w1.heap.size vr rest:=hvr
    obtain ⟨q2,c2,hv2,hq2,hc21,hc22⟩:=zc5 hvr' (by rw[Hr6.out];omega)
    rw[Hr6.out] at hv2 hc21
    subst hv2
    have hb2:=hb1.ext hE2
    have HE2:=zhd hE2
    have Hvr:=zhd hvr'
    clear g0 g1 g2 f0 f1 f2 hvr hvr' hE2 hb1
    obtain ⟨g0,g1,g2,f0,f1,f2⟩:=za4 hb2
    have hne:some q2≠some w.heap.size:=fun h=>by cases h;omega
    have o1:OwnB (w2.setCell ⟨w.heap.size,0,none⟩ (.int .i64 t)) w1.heap.size (.slice (some ⟨q2,0,none⟩) 6 c2) rest:=World.ownsRow.kept Hvr.out (zaa _ _ 0 _) (.inr hne)
    have o2:OwnB ((w2.setCell ⟨w.heap.size,0,none⟩ (.int .i64 t)).setCell ⟨w.heap.size,1,none⟩ (.int .i64 kb.toNat)) w1.heap.size (.slice (some ⟨q2,0,none⟩) 6 c2) rest:=World.ownsRow.kept o1 (zaa _ _ 1 _) (.inr hne)
    have hrc:(w2.setCell ⟨w.heap.size,0,none⟩ (.int .i64 t)).cell? ⟨q2,0,none⟩=some (.int .u8 (kb.toNat:Int)):=by
     obtain ⟨_,b',off',e',hc⟩:=Bs.at_ (SlR.of_own o1) (by rw[Hr6.out];omega)
     cases e'
     have:=hc 0 hk0l
     rw[Hk0.out] at this
     exact this
    have hb3:=(hb2.set 0 (.int .i64 t)).set 1 (.int .i64 kb.toNat)
    have hE3:Ext w ((w2.setCell ⟨w.heap.size,0,none⟩ (.int .i64 t)).setCell ⟨w.heap.size,1,none⟩ (.int .i64 kb.toNat)):=Below.setCell (p:=⟨w.heap.size,1,none⟩) (Below.setCell (p:=⟨w.heap.size,0,none⟩) (Ext.trans hX (Ext.trans HE1.out HE2.out)) (Nat.le_refl _) _) (Nat.le_refl _) _
    have hB5:Bs ((w2.setCell ⟨w.heap.size,0,none⟩ (.int .i64 t)).setCell ⟨w.heap.size,1,none⟩ (.int .i64 kb.toNat)) (.slice (some ⟨q2,0+1,none⟩) (6-1) (c2-1)) (rest.drop 1):=Bs.cut (SlR.of_own o2) 1 (by rw[Hr6.out];omega) Hr6.out.symm
    have HB5:=zhd hB5
    have Hb3:=zhd hb3
    have HE3:=zhd hE3
    clear hB5 hb3 hE3 o1 o2
    have hc20:¬ (c2=1):=by omega
    gi_wp2
    have hB5':Bs ((w2.setCell ⟨w.heap.size,0,none⟩ (.int .i64 t)).setCell ⟨w.heap.size,1,none⟩ (.int .i64 kb.toNat)) (.slice (some ⟨q2,1,none⟩) 5 (c2-1)) (rest.drop 1):=HB5.out
    have hb3':Blk ((w2.setCell ⟨w.heap.size,0,none⟩ (.int .i64 t)).setCell ⟨w.heap.size,1,none⟩ (.int .i64 kb.toNat)) w.heap.size 79 #[.int .i64 t,.int .i64 kb.toNat,.int .i64 0]:=Hb3.out
    have hE3':=HE3.out
    clear HB5 Hb3 HE3 g0 g1 g2 f0 f1 f2 hb2 HE2 hrc Hvr
    generalize (w2.setCell ⟨w.heap.size,0,none⟩ (.int .i64 t)).setCell ⟨w.heap.size,1,none⟩ (.int .i64 kb.toNat)=w3 at *
    have HE3:=zhd hE3'
    have key:=Key2.out w3 _ hB5'
    clear hE3' hB5'
    refine ⟨trivial,?_⟩
    refine (callsIn_wd.2 key).mono ?_
    rintro e w4 ⟨vr2,rfl,-,hE4⟩
    have hb4:=hb3'.ext hE4
    have HE4:=zhd (Ext.trans HE3.out hE4)
    clear key hE4 hb3'
    obtain ⟨g0,g1,g2,f0,f1,f2⟩:=za4 hb4
    have hR:=HR3.out
    clear HR3
    by_cases he2:e2=0
    ·subst he2
     simp only[if_true] at hR
     have hb5:=hb4.set 2 (.int .i64 vn)
     have hb5':Blk (w4.setCell ⟨w.heap.size,2,none⟩ (.int .i64 vn)) w.heap.size 79 #[.int .i64 t,.int .i64 kb.toNat,.int .i64 vn]:=hb5
     have HE5:Hid (Ext w (w4.setCell ⟨w.heap.size,2,none⟩ (.int .i64 vn))):=Below.setCell (p:=⟨w.heap.size,2,none⟩) HE4.out (Nat.le_refl _) _
     have hRt:=zeH t kb.toNat vn (w4.setCell ⟨w.heap.size,2,none⟩ (.int .i64 vn))
     have Hb5:=zhd hb5'
     clear hb5 hb5'
     cases hok:okB t kb.toNat vn with
     | true =>
      rw[hok] at hR hRt
      have HRt:=zhd hRt
      rw[if_pos rfl] at hR
      have HR4:=zhd hR
      clear hR hRt hok
      gi_wp2
      refine ⟨trivial,?_⟩
      refine (callsIn_wd.2 HRt.out).mono ?_
      rintro e w5 ⟨rfl,hE5⟩
      have hE5':Ext (w4.setCell ⟨w.heap.size,2,none⟩ (.int .i64 vn)) w5:=hE5
      have hb6:=Hb5.out.ext hE5'
      have HE6:=zhd (Ext.trans HE5.out hE5')
      clear g0 g1 g2 f0 f1 f2 hE5 hE5' hb4
      obtain ⟨g0,g1,g2,f0,f1,f2⟩:=za4 hb6
      gi_wp2
      refine zap ?_
      refine zcj (.tuple #[.agg #[.int .i64 t,.int .i64 kb.toNat,.int .i64 vn],.bool true]) (zkI _ _ _ _ _ rfl rfl (za5 hb6 _ _ _) rfl) ?_
      rw[←HR4.out]
      refine ⟨rfl,?_⟩
      exact ((Below.setCell HE6.out (p:=⟨w.heap.size,0,none⟩) (Nat.le_refl _) _).setCell (p:=⟨w.heap.size,1,none⟩) (Nat.le_refl _) _).setCell (p:=⟨w.heap.size,2,none⟩) (Nat.le_refl _) _
     | false =>
      rw[hok] at hR hRt
      have HRt:=zhd hRt
      rw[if_neg (by decide)] at hR
      have HN:Hid (R=none):=hR.symm
      clear hR hRt hok
      gi_wp2
      refine ⟨trivial,?_⟩
      refine (callsIn_wd.2 HRt.out).mono ?_
      rintro e w5 ⟨rfl,hE5⟩
      have hE5':Ext (w4.setCell ⟨w.heap.size,2,none⟩ (.int .i64 vn)) w5:=hE5
      have hb6:=Hb5.out.ext hE5'
      have HE6:=zhd (Ext.trans HE5.out hE5')
      clear g0 g1 g2 f0 f1 f2 hE5 hE5' hb4
      gi_wp2
      refine wpIn_goto ?_
      simp only[Exit.then]
      refine zaf (by simp) ?_
      exact ⟨rfl,rfl,rfl,⟨_,_,_,hb6⟩,HE6.out,HN.out⟩
    ·have hne2:((e2:Int) != 0)=true:=by simp[he2]
     rw[if_neg he2] at hR
     have HN:Hid (R=none):=hR.symm
     clear hR
     gi_wp2
     refine ⟨trivial,?_⟩
     gi_wp2
     refine wpIn_goto ?_
     simp only[Exit.then]
     refine zaf (by simp) ?_
     exact ⟨rfl,rfl,rfl,⟨_,_,_,hb4.set 2 _⟩,Below.setCell (p:=⟨w.heap.size,2,none⟩) HE4.out (Nat.le_refl _) _,HN.out⟩
   ·have hne:((e1:Int) != 0)=true:=by simp[he1]
    rw[if_neg he1] at HR2
    have HN:Hid (R=none):=HR2.symm
    have Hp:=zhd hp
    clear HR2 hrest hp
    gi_wp2_with (first
     | (refine ⟨trivial,?_⟩;gi_at_call 102;refine (callsIn_wd.2 Hct.out).mono ?_;rintro e w1 ⟨⟨A1,c1,rfl,ho1⟩,hE1⟩;have hBp:Bs w1 (.slice A1 p.length c1) p:=SlR.of_own ho1;have HBp:=zhd hBp;have HE1:=zhd hE1;have hb1:=hb0.ext hE1;clear hBp ho1 hE1;obtain ⟨g0,g1,g2,f0,f1,f2⟩:=za4 hb1)
     | (refine ⟨trivial,?_⟩;gi_at_call 167;refine (callsIn_wd.2 (Key1.out w1 _ HBp.out)).mono ?_;rintro e w2 ⟨vr,rfl,-,hE2⟩;clear g0 g1 g2 f0 f1 f2;have hb2:=hb1.ext hE2;have HE2:=zhd hE2;clear hE2;obtain ⟨g0,g1,g2,f0,f1,f2⟩:=za4 hb2))
    refine wpIn_goto ?_
    simp only[Exit.then]
    refine zaf (by simp) ?_
    exact ⟨rfl,rfl,rfl,⟨_,_,_,hb2.set 0 _⟩,Below.setCell (p:=⟨w.heap.size,0,none⟩) (Ext.trans hX (Ext.trans HE1.out HE2.out)) (Nat.le_refl _) _,HN.out⟩
 ·rintro ⟨TT,df⟩ W ⟨hd,hsz,h2,⟨x,y,z,hb⟩,hE,HN⟩
  cases hd
  dsimp only at hsz h2
  have hT:=zcX 46 TT hsz
  generalize hU:(fun i=>TT.getD i undef)=U at hT
  have g2:U 2=.pointer (some ⟨w.heap.size,0,none⟩):=by rw[←hU];exact h2
  have hT2:TT = #[U 0,U 1,.pointer (some ⟨w.heap.size,0,none⟩),U 3,U 4,U 5,U 6,U 7,U 8,U 9,U 10,U 11,U 12,U 13,U 14,U 15,U 16,U 17,U 18,U 19,U 20,U 21,U 22,U 23,U 24,U 25,U 26,U 27,U 28,U 29,U 30,U 31,U 32,U 33,U 34,U 35,U 36,U 37,U 38,U 39,U 40,U 41,U 42,U 43,U 44,U 45]:=by rw[hT];show (#[U 0,U 1,U 2,U 3,U 4,U 5,U 6,U 7,U 8,U 9,U 10,U 11,U 12,U 13,U 14,U 15,U 16,U 17,U 18,U 19,U 20,U 21,U 22,U 23,U 24,U 25,U 26,U 27,U 28,U 29,U 30,U 31,U 32,U 33,U 34,U 35,U 36,U 37,U 38,U 39,U 40,U 41,U 42,U 43,U 44,U 45]:Array Value)=_;rw[g2]
  clear hT hU hsz g2 h2
  subst hT2
  obtain ⟨g0,g1,g2,f0,f1,f2⟩:=za4 hb
  gi_wp2
  refine zap ?_
  refine zcj (.tuple #[.agg #[.int .i64 0,.int .i64 0,.int .i64 0],.bool false]) (zkI _ _ _ _ _ rfl rfl (za5 hb _ _ _) rfl) ?_
  rw[HN.out]
  refine ⟨rfl,?_⟩
  exact ((Below.setCell hE (p:=⟨w.heap.size,0,none⟩) (Nat.le_refl _) _).setCell (p:=⟨w.heap.size,1,none⟩) (Nat.le_refl _) _).setCell (p:=⟨w.heap.size,2,none⟩) (Nat.le_refl _) _
attribute [local go_sem] Oper.semAt_some
def za3 (n:Nat) (bs:List UInt8):List (List UInt8) :=
 if h:bs=[]∨n=0 then [] else bs.take n::za3 n (bs.drop n)
termination_by bs.length
decreasing_by
 have:0<bs.length:=List.length_pos_iff.2 (fun e=>h (.inl e))
 have:n≠0:=fun e=>h (.inr e)
 simp;omega
theorem ze4 (n:Nat):za3 n []=[]:=by rw[za3];simp
theorem zeA (n:Nat) (bs:List UInt8) (hn:0<n) (h:0<bs.length):za3 n bs=bs.take n::za3 n (bs.drop n):=by
 rw[za3,dif_neg]
 rintro (e | e)
 ·rw[e] at h;simp at h
 ·omega
theorem zpx (n:Nat) (hn:0<n):∀ (i:Nat) (bs:List UInt8),(i*n<bs.length→(za3 n bs)[i]?=some ((bs.drop (i*n)).take n))∧(bs.length≤i*n→(za3 n bs).length≤i):=by
 intro i
 induction i with
 | zero =>
  intro bs
  refine ⟨fun h=>?_,fun h=>?_⟩
  ·rw[zeA n bs hn (by omega),Nat.zero_mul]
   rfl
  ·have:bs=[]:=List.eq_nil_of_length_eq_zero (by omega)
   rw[this,ze4]
   exact Nat.le_refl _
 | succ i ih =>
  intro bs
  have hm:(i+1)*n=n+i*n:=by rw[Nat.add_mul,Nat.one_mul,Nat.add_comm]
  rcases Nat.eq_zero_or_pos bs.length with h0 | h0
  ·have:bs=[]:=List.eq_nil_of_length_eq_zero h0
   subst this
   exact ⟨fun h=>by simp at h,fun _=>by rw[ze4];simp⟩
  ·obtain ⟨h1,h2⟩:=ih (bs.drop n)
   rw[List.length_drop] at h1 h2
   rw[zeA n bs hn h0,hm]
   refine ⟨fun h=>?_,fun h=>?_⟩
   ·rw[List.getElem?_cons_succ,h1 (by omega),List.drop_drop]
   ·have:=h2 (by omega)
    rw[List.length_cons]
    omega
theorem zd3 {wo:World} {b off m c:Nat} {bs:List UInt8} (h:Bs wo (.slice (some ⟨b,off,none⟩) m c) bs) (k n:Nat) (hk:k+n≤bs.length):Bs wo (.slice (some ⟨b,off+k,none⟩) n n) ((bs.drop k).take n):=by
 obtain ⟨h0,A,c',e,h1,h2,h3⟩:=h
 cases e
 unfold Bs
 have hl:((bs.drop k).take n).length=n:=by rw[List.length_take,List.length_drop];omega
 rw[hl]
 refine ⟨by rw[List.length_map,hl];omega,_,n,rfl,Nat.le_refl _,by omega,fun hn=>?_⟩
 obtain ⟨b',off',e',hc⟩:=h3 (by omega)
 cases e'
 refine ⟨b,off+k,rfl,fun j u hu=>?_⟩
 rw[Nat.add_assoc]
 refine hc (k+j) u ?_
 rw[←hu,List.getElem?_map,List.getElem?_map,List.getElem?_take,List.getElem?_drop]
 have hj:j<n:=by
  have:=(List.getElem?_eq_some_iff.1 hu).1
  rw[List.length_map,hl] at this
  exact this
 rw[if_pos hj]
theorem zgz (n:Nat) (hn0:0<n) (hn8:n≤8) (wo W0:World) (v:Value) (bs:List UInt8) (hbs:Bs wo v bs) (hlen:bs.length≤2000000) (bx bn:Nat) (hB1:Boxed W0 bx 38 v) (hB2:Boxed W0 bn 3 (.int .i64 n)) :
  Seq Tryz.prog 198 #[.pointer (some ⟨bx,0,none⟩),.pointer (some ⟨bn,0,none⟩)]
   (fun (p:List UInt8) av _=>∃ b off,av = #[.slice (some ⟨b,off,none⟩) p.length p.length]∧Bs wo (.slice (some ⟨b,off,none⟩) p.length p.length) p∧0<p.length∧p.length≤n) (fun k o=>(k=bx∧o.ty=some 38)∨(k=bn∧o.ty=some 3)) (fun _ _=>False) (za3 n bs) W0:=by
 intro l J Jx hJ hJx hY h0
 obtain ⟨A,c,rfl,h1,h2⟩:=SlR.open_ hbs
 refine (callsIn_wd (ro:=none) (n:=9)).1 ?_
 refine callsIn_of_wp Tryz.func198 rfl trivial ?_ rfl
 simp only[Tryz.ntmps198,List.size_toArray,List.length_cons,List.length_nil,Nat.reduceAdd,Nat.reduceSub,Array.replicate_succ,Array.replicate_zero,List.push_toArray,List.append_toArray,List.nil_append,List.cons_append]
 have Hes:=zhd hbs
 clear hbs
 gi_wp2
 gi_loopw [4] (fun j W=>∃ (i k:Nat),j=.int .i64 k∧Hid (i*n=k)∧k≤bs.length+n∧Hid (J ((za3 n bs).take i) W)∧Boxed W bx 38 (.slice A bs.length c)∧Boxed W bn 3 (.int .i64 n)∧W0.heap.size≤W.heap.size) (fun j _=>bs.length+16-(intOf j).toNat)
 case atStart=>exact ⟨0,0,rfl,by show 0*n=0;rw[Nat.zero_mul],by omega,h0,hB1,hB2,Nat.le_refl _⟩
 case round =>
  obtain ⟨i,k,rfl,Hk,hkl,HJ,b1,b2,hsz⟩:=hrel
  have c1:=b1.cell
  have c2:=b2.cell
  obtain ⟨hat,hend⟩:=zpx n hn0 i bs
  rw[Hk.out] at hat hend
  by_cases hlt:k<bs.length
  ·have hes':=Hes.out
   obtain ⟨hx,b,off,rfl,hc⟩:=Bs.at_ hes' (by omega)
   clear hc hx
   obtain ⟨m,hm⟩:∃ m,min n (bs.length-k)=m:=⟨_,rfl⟩
   have hmn:m≤n:=by omega
   have hm0:0<m:=by omega
   have hml:k+m≤bs.length:=by omega
   obtain ⟨p,hp⟩:∃ p,(bs.drop k).take n=p:=⟨_,rfl⟩
   have hpl:p.length=m:=by rw[←hp,List.length_take,List.length_drop,hm]
   have hpb:=zd3 hes' k m hml
   have hpe:(bs.drop k).take m=p:=by
    rw[←hp]
    rcases Nat.le_total n (bs.length-k) with h | h
    ·rw[show m=n from by omega]
    ·rw[List.take_of_length_le (by rw[List.length_drop];omega),List.take_of_length_le (by rw[List.length_drop];omega)]
   rw[hpe] at hpb
   have Hp:=zhd hpb
   have hgi:=hat hlt
   rw[hp] at hgi
   obtain ⟨hil,hge⟩:=List.getElem?_eq_some_iff.1 hgi
   have htk:(za3 n bs).take (i+1)=(za3 n bs).take i++[p]:=by rw[List.take_succ_eq_append_getElem hil,hge]
   have Htk:=zhd htk
   have hsp:za3 n bs=(za3 n bs).take i++p::(za3 n bs).drop (i+1):=by rw[←hge,←List.drop_eq_getElem_cons hil,List.take_append_drop]
   have Hsp:=zhd hsp
   have hk1:(i+1)*n=k+n:=by have:=Hk.out;rw[Nat.add_mul,Nat.one_mul,this]
   have Hk1:=zhd hk1
   have Hm:=zhd hm
   clear htk hsp hes' hat hend hgi hil hge hpe hpb hp hk1 hm
   gi_wp2
   gi_region
   have hif:(if bs.length-k<n then ((bs.length-k:Nat):Int) else (n:Int))=(m:Int):=by have:=Hm.out;split <;> omega
   rw[hif]
   clear hif
   have hy:=hY ((za3 n bs).take i) p ((za3 n bs).drop (i+1)) Hsp.out wr.drew #[.slice (some ⟨b,off+k,none⟩) p.length p.length] (hJ _ _ _ HJ.out (Moves.refl.drew)) hsz ⟨b,off+k,rfl,by rw[hpl];exact Hp.out,by omega,by omega⟩
   rw[hpl] at hy
   have Hy:=zhd hy
   have Hpl:=zhd hpl
   have b1':Boxed wr.drew bx 38 (.slice (some ⟨b,off,none⟩) bs.length c):=b1
   have b2':Boxed wr.drew bn 3 (.int .i64 n):=b2
   have hkm:(k:Int)+(m:Int)≤(bs.length:Int):=by omega
   have hmc:(k:Int)+(m:Int)≤(c:Int):=by omega
   clear hy hY hpl c1 c2
   have c1:=b1'.cell
   have c2:=b2'.cell
   gi_wp2
   refine zaZ Hy.out ?_
   rintro e W' ⟨hk',⟨rfl,hj⟩ | ⟨rfl,hj⟩⟩
   ·refine ⟨true,rfl,?_⟩
    have d1:Boxed W' bx 38 (.slice (some ⟨b,off,none⟩) bs.length c):=hk'.boxed b1' (.inl (.inl ⟨rfl,rfl⟩))
    have d2:Boxed W' bn 3 (.int .i64 n):=hk'.boxed b2' (.inl (.inr ⟨rfl,rfl⟩))
    have e2:=d2.cell
    have hs':W0.heap.size≤W'.heap.size:=Nat.le_trans hsz hk'.size
    have HJ3:=zhd hj
    have hkn:(k:Int)+(n:Int)≤4000000:=by omega
    clear hj hk' c1 c2
    gi_wp2
    refine ⟨⟨i+1,k+n,by go_num,Hk1.out,by omega,?_,d1,d2,hs'⟩,by simp[intOf];omega⟩
    show J _ _;rw[Htk.out];exact HJ3.out
   ·refine ⟨false,rfl,?_⟩
    have HJ3:=zhd hj
    clear hj hk' c1 c2
    gi_wp2
    refine bodyPost_ret (results_none rfl _ _ _) rfl ?_
    refine ⟨⟨_,rfl⟩,.inr ⟨(za3 n bs).take (i+1),?_,?_⟩⟩
    ·exact List.take_prefix _ _
    ·rw[Htk.out];exact HJ3.out
  ·have hC:(za3 n bs).take i=za3 n bs:=List.take_of_length_le (hend (by omega))
   have HC2:=zhd hC
   have hki:¬ ((k:Int)<(bs.length:Int)):=by omega
   clear hC hat hend
   gi_wp2
   refine bodyPost_end (results_none rfl _ _ _) rfl ?_
   exact ⟨⟨_,rfl⟩,.inl (by have:=HJ.out;rw[HC2.out] at this;exact this)⟩
theorem zgq (A:Option Addr) (m c n:Nat) (hn:0<n) (w:World):Calls Tryz.prog 168 #[.slice A m c,.int .i64 n] w fun e w' =>
  e=.returned (.func (.func 198) #[] #[.pointer (some ⟨w.heap.size,0,none⟩),.pointer (some ⟨w.heap.size+1,0,none⟩)]) ∧
  (w.alloc (.cells #[.slice A m c] 38)).alloc (.cells #[.int .i64 n] 3)=w':=by
 have hn1:¬ ((n:Int)<1):=by omega
 go_enter Tryz.func168,Tryz.ntmps168
 go_wp2
 go_ret
 exact ⟨rfl,rfl⟩
end Go.Proofs.YtgonhdeochgkoaaGreatDoor
