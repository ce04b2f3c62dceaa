/- Merged: St1 St2 Rd4 AllP -/
import Derived.Test.YtgonhdeochgkoaaGreatDoorZt13
import Derived.Test.YtgonhdeochgkoaaGreatDoorZt17
import Derived.Defers
import Derived.Recover
set_option linter.all false
set_option maxHeartbeats 8000000
set_option maxRecDepth 100000
namespace Go.Proofs.YtgonhdeochgkoaaGreatDoor
open Go.RowKit Go.Mv
theorem mcSt1a0 {P:Prop} (h:P:=by
 have heb:(r.err==0)=true:=by simpa using he
 have hfb:((r.first:Int)==s.first)=true:=by simpa using hf
 have He:=zhd he;have Hf:=zhd hf;clear he hf;go_wp2_with fail
 with_reducible refine (zb6 _ _).mono ?_
 rintro e6 w6 ⟨rfl,rfl⟩
 cases hcb:zbW r.log.length s.count with
 | true =>
  obtain rfl:none=R:=by rw[←HR.out,if_pos (by unfold zb8;simp[hcb])]
  have hne:(((r.log.length:Nat):Int)==s.count)=false:=by
   unfold zbW at hcb;simp only[Bool.or_eq_true,Bool.and_eq_true,decide_eq_true_eq] at hcb
   simp;omega
  by_cases c1:s.count = -1
  ·have c1b:(s.count == -1)=true:=by simpa using c1
   have hn14:r.log.length<1∨4<r.log.length:=by
    unfold zbW at hcb;simp only[Bool.or_eq_true,Bool.and_eq_true,decide_eq_true_eq] at hcb;omega
   clear c1
   by_cases n1:r.log.length<1
   ·have n1z:¬ ((1:Int)≤(r.log.length:Int)):=by omega
    clear n1 hn14;go_wp2_with fail
    try rw[decide_eq_false (show ¬ ((r.log.length:Int)≤4) by omega)]
    with_reducible refine (za0 _ _).mono ?_
    rintro e6 w6 ⟨rfl,rfl⟩
    exact ⟨rfl,rfl,HE.out⟩
   ·have n1z:(1:Int)≤(r.log.length:Int):=by omega
    have n4z:¬ ((r.log.length:Int)≤4):=by omega
    clear n1 hn14;go_wp2_with fail
    try rw[decide_eq_false (show ¬ ((r.log.length:Int)≤4) by omega)]
    with_reducible refine (za0 _ _).mono ?_
    rintro e6 w6 ⟨rfl,rfl⟩
    exact ⟨rfl,rfl,HE.out⟩
  ·have c1b:(s.count == -1)=false:=by simpa using c1
   clear c1;go_wp2_with fail
   with_reducible refine (za0 _ _).mono ?_
   rintro e6 w6 ⟨rfl,rfl⟩
   exact ⟨rfl,rfl,HE.out⟩
 | false =>
  obtain rfl:some r.log=R:=by rw[←HR.out,if_neg (by unfold zb8;simp[He.out,Hf.out,hcb])]
  by_cases ce:(r.log.length:Int)=s.count
  ·have hne:(((r.log.length:Nat):Int)==s.count)=true:=by simpa using ce
   clear ce;go_wp2_with fail
   with_reducible refine (zb6 _ _).mono ?_
   rintro e6 w6 ⟨rfl,rfl⟩;go_wp2_with fail;go_ret
   exact ⟨⟨_,rfl,HO.out⟩,HE.out⟩
  ·have hne:(((r.log.length:Nat):Int)==s.count)=false:=by simpa using ce
   have hh:s.count = -1∧1≤r.log.length∧r.log.length≤4:=by
    unfold zbW at hcb;simp only[Bool.or_eq_false_iff,Bool.and_eq_false_iff,decide_eq_false_iff_not] at hcb;omega
   have c1b:(s.count == -1)=true:=by simpa using hh.1
   have n1z:(1:Int)≤(r.log.length:Int):=by omega
   have n4z:(r.log.length:Int)≤4:=by omega
   clear hh ce;go_wp2_with fail
   with_reducible refine (zb6 _ _).mono ?_
   rintro e6 w6 ⟨rfl,rfl⟩;go_wp2_with fail;go_ret
   exact ⟨⟨_,rfl,HO.out⟩,HE.out⟩):P:=h
def pan (e:Int):Ending:=.panicked [{ v:=.iface 32 (.int .i64 e),recovered:=false }]
theorem zb6 (e:Int) (w:World):Calls Tryz.prog 62 #[.bool true,.int .i64 e] w fun en w'=>en=.returned (.tuple #[])∧w=w':=by
 go_enter Tryz.func62,Tryz.ntmps62
 go_wp2
 go_end0
 exact ⟨rfl,rfl⟩
theorem za0 (e:Int) (w:World):Calls Tryz.prog 62 #[.bool false,.int .i64 e] w fun en w'=>en=pan e∧w=w':=by
 go_enter Tryz.func62,Tryz.ntmps62
 go_wp2
 exact ⟨rfl,rfl,rfl⟩
def zuB (w:World) (r:Option (List UInt8)) (e:Int) (en:Ending) (w':World):Prop:=(match r with
 | some b=>∃ v,en=.returned v∧Bs w' v b
 | none=>en=pan e)∧Ext w w'
theorem zfD (v:Value) (fs:List Fil) (k s f e:Int) (w:World) (hS:StW w) (hF:Fs w v fs) (hl:fs.length≤4000000):Calls Tryz.prog 61 #[v,.agg #[.int .u8 k,.int .i64 s,.int .i64 f],.int .i64 e] w (zuB w (zax fs (zak k s f)) e):=by
 obtain ⟨A,c,rfl,h1,h2⟩:=Fs.open_ hF
 have hX:Ext w (w.alloc (.cells #[.int .u8 k,.int .i64 s,.int .i64 f] 49)):=Ext.alloc (Ext.refl _) _
 have key:=zsX _ fs k s f _ (hS.ext hX) (hF.ext hX) hl;obtain ⟨r,hr⟩:∃ r,zak k s f=r:=⟨_,rfl⟩
 rw[hr] at key ⊢
 obtain ⟨m0,m1,m2⟩:=zds (Blk.new w 49 #[.int .u8 k,.int .i64 s,.int .i64 f]);have Key:=zhd key;have HF:=zhd (hF.ext hX);have HX:=zhd hX;clear key hF hX hS hr;obtain ⟨R,hR⟩:∃ R,zax fs r=R:=⟨_,rfl⟩;rw[hR];unfold zax at hR;have HR:=zhd hR;clear hR
 by_cases hneg:zbS fs r<0
 ·obtain rfl:none=R:=by have:=HR.out;rwa [if_pos hneg] at this
  obtain ⟨x,hx⟩:∃ x,zbS fs r=x:=⟨_,rfl⟩;rw[hx] at Key hneg
  go_enter Tryz.func61,Tryz.ntmps61
  go_wp2_with fail
  refine Key.out.mono ?_
  rintro e1 w1 ⟨rfl,hE1⟩
  have hx0:¬ (0≤x):=by omega
  have HE:=zhd (Ext.trans HX.out hE1);go_wp2_with fail
  rw[decide_eq_false (show ¬ (0≤x) by omega)]
  with_reducible refine (za0 _ _).mono ?_
  rintro e2 w2 ⟨rfl,rfl⟩
  exact ⟨rfl,rfl,HE.out⟩
 ·obtain ⟨i,hi,hil⟩:=zjR fs r hneg
  have hR2:=HR.out;rw[if_neg hneg,hi] at hR2
  rw[show ((i:Int).toNat)=i from by omega,List.getElem?_eq_getElem hil] at hR2
  obtain rfl:some fs[i].2=R:=hR2
  rw[hi] at Key;obtain ⟨y,hy⟩:∃ y,fs[i].2=y:=⟨_,rfl⟩;rw[hy];have Hy:=zhd hy;clear HR hneg hi hy
  go_enter Tryz.func61,Tryz.ntmps61
  go_wp2_with fail
  refine Key.out.mono ?_
  rintro e1 w1 ⟨rfl,hE1⟩
  have hE1:Ext _ w1:=hE1
  have HE:=zhd (Ext.trans HX.out hE1)
  have hx0:(0:Int)≤(i:Int):=by omega
  obtain ⟨_,b,off,rfl,hc⟩:=(HF.out.ext hE1).at_ (by omega);obtain ⟨hc0,B2,d2,hc1,hB2⟩:=hc i hil
  have hlz:(i:Int)<(fs.length:Int):=by omega
  rw[Hy.out] at hB2 hc1;have HB:=zhd hB2;clear hc hB2 hc0 hE1;go_wp2_with fail
  with_reducible refine (zb6 _ _).mono ?_
  rintro e2 w2 ⟨rfl,rfl⟩;go_wp2_with fail;go_ret
  exact ⟨⟨.slice B2 y.length d2,rfl,HB.out⟩,HE.out⟩
def zup (w:World) (r:Option (List Ent)) (en:Ending) (w':World):Prop:=(match r with
 | some x=>∃ v,en=.returned v∧OwnE w' w.heap.size v x
 | none=>en=pan 130)∧Ext w w'
theorem zmc (v:Value) (fs:List Fil) (s:Sg4) (w:World) (hS:StW w) (hF:Fs w v fs) (hl:fs.length≤4000000) (hn:zax fs (zak 3 s.seq s.fmt)=none) :
  Calls Tryz.prog 76 #[v,.agg #[.int .i64 s.seq,.int .i64 s.fmt,.int .i64 s.first,.int .i64 s.count]] w fun en w'=>en=pan 130∧Ext w w':=by
 obtain ⟨A,c,rfl,h1,h2⟩:=Fs.open_ hF
 have hX:Ext w (w.alloc (.cells #[.int .i64 s.seq,.int .i64 s.fmt,.int .i64 s.first,.int .i64 s.count] 74)):=Ext.alloc (Ext.refl _) _
 have hb0:=Blk.new w 74 #[.int .i64 s.seq,.int .i64 s.fmt,.int .i64 s.first,.int .i64 s.count]
 have key:=fun W (h:Ext w W)=>zfD (.slice A fs.length c) fs 3 s.seq s.fmt 130 W (hS.ext h) (hF.ext h) hl
 rw[hn] at key;have Key:=zhd key;have HX:=zhd hX;have Hb0:=zhd hb0;obtain ⟨m0,m1,m2,m3⟩:=zay hb0;clear hX hb0 key hF hS hn
 go_enter Tryz.func76,Tryz.ntmps76
 go_wp2_with fail
 refine wp_region_held_drew (S:=fun W=>W.cell? ⟨w.heap.size,0,none⟩=some (.int .i64 s.seq)∧W.cell? ⟨w.heap.size,1,none⟩=some (.int .i64 s.fmt)) (by kernel_rfl) ⟨m0,m1⟩ (fun _=>?_)
 clear m0 m1 m2 m3;refine tkN 0 rfl ?_;refine tkN 1 rfl ?_;refine tkN 2 rfl ?_;refine tkN 3 rfl ?_;refine tkN 4 rfl ?_;refine tkN 5 rfl ?_;refine tkN 7 rfl ?_;refine tkN 8 rfl ?_
 refine AllReadyH.two (i:=6) (j:=13) rfl rfl (by kernel_rfl) (by rfl) (by rfl) (fun K hK=>?_) (fun K hK=>?_)
 ·go_simp
  refine (Key.out _ (Ext.drew HX.out)).mono ?_
  rintro e w2 ⟨rfl,hE2⟩
  exact ⟨rfl,rfl,Ext.trans HX.out (Ext.trans (Ext.drew (Ext.refl _)) hE2)⟩
 ·go_simp
  have hX2:Ext w ((w.alloc (.cells #[.int .i64 s.seq,.int .i64 s.fmt,.int .i64 s.first,.int .i64 s.count] 74)).alloc (.cells #[.int .i64 0,.slice none 0 0,.int .i64 0] 121)).drew:=Ext.drew (Ext.alloc HX.out _)
  obtain ⟨m0,m1,m2,m3⟩:=zay (Hb0.out.ext (Ext.drew (Ext.alloc (Ext.refl _) (.cells #[.int .i64 0,.slice none 0 0,.int .i64 0] 121))))
  refine shK hK _ _ ⟨m0,m1⟩ (fun _=>?_)
  refine ar1 6 rfl (fun K hK=>?_)
  go_simp
  refine (Key.out _ hX2).mono ?_
  rintro e w2 ⟨rfl,hE2⟩
  exact ⟨rfl,rfl,Ext.trans hX2 hE2⟩
def zb8 (s:Sg4) (r:zgi):Bool:=decide (r.err≠0)||decide (r.first≠s.first)||zbW r.log.length s.count
theorem zjk {fs:List Fil} {s:Sg4} {b:List UInt8} (h:zax fs (zak 3 s.seq s.fmt)=some b):zaz fs s=if zb8 s (zcj rT b s.fmt) then none else some (zcj rT b s.fmt).log:=by
 unfold zaz zb8;rw[h];dsimp only
 by_cases h1:(zcj rT b s.fmt).err≠0
 ·simp[h1]
 ·by_cases h2:(zcj rT b s.fmt).first≠s.first
  ·simp[h1,h2]
  ·cases h3:zbW (zcj rT b s.fmt).log.length s.count <;> simp[h1,h2,h3]
theorem zmd (v:Value) (fs:List Fil) (s:Sg4) (b:List UInt8) (w:World) (hS:StW w) (hF:Fs w v fs) (hl:fs.length≤4000000) (hn:zax fs (zak 3 s.seq s.fmt)=some b) (hbl:b.length≤2000000) :
  Calls Tryz.prog 76 #[v,.agg #[.int .i64 s.seq,.int .i64 s.fmt,.int .i64 s.first,.int .i64 s.count]] w (zup w (zaz fs s)):=by
 rw[zjk hn];obtain ⟨A,c,rfl,h1,h2⟩:=Fs.open_ hF
 have hX:Ext w (w.alloc (.cells #[.int .i64 s.seq,.int .i64 s.fmt,.int .i64 s.first,.int .i64 s.count] 74)):=Ext.alloc (Ext.refl _) _
 have hb0:=Blk.new w 74 #[.int .i64 s.seq,.int .i64 s.fmt,.int .i64 s.first,.int .i64 s.count]
 have key:=fun W (h:Ext w W)=>zfD (.slice A fs.length c) fs 3 s.seq s.fmt 130 W (hS.ext h) (hF.ext h) hl
 rw[hn] at key
 have key2:=fun W (u:Value) (h:Ext w W) (hB:Bs W u b)=>zq6 (T:=rT) u b s.fmt W hB hbl (hS.ext h).tab
 obtain ⟨r,hr⟩:∃ r,zcj rT b s.fmt=r:=⟨_,rfl⟩
 rw[hr] at key2 ⊢
 have Key:=zhd key;have Key2:=zhd key2;have HX:=zhd hX;have Hb0:=zhd hb0;obtain ⟨m0,m1,m2,m3⟩:=zay hb0;obtain ⟨R,hR⟩:∃ R,(if zb8 s r then none else some r.log)=R:=⟨_,rfl⟩;rw[hR];have HR:=zhd hR;clear hX hb0 key key2 hF hS hn hr hbl hR
 go_enter Tryz.func76,Tryz.ntmps76
 go_wp2_with fail
 refine wp_region_held_drew (S:=fun W=>W.cell? ⟨w.heap.size,0,none⟩=some (.int .i64 s.seq)∧W.cell? ⟨w.heap.size,1,none⟩=some (.int .i64 s.fmt)) (by kernel_rfl) ⟨m0,m1⟩ (fun _=>?_)
 clear m0 m1 m2 m3;refine tkN 0 rfl ?_;refine tkN 1 rfl ?_;refine tkN 2 rfl ?_;refine tkN 3 rfl ?_;refine tkN 4 rfl ?_;refine tkN 5 rfl ?_;refine tkN 7 rfl ?_;refine tkN 8 rfl ?_
 refine AllReadyH.two (i:=6) (j:=13) rfl rfl (by kernel_rfl) (by rfl) (by rfl) (fun K hK=>?_) (fun K hK=>?_)
 ·go_simp
  refine (Key.out _ (Ext.drew HX.out)).mono ?_
  rintro e w2 ⟨⟨v2,rfl,hB2⟩,hE2⟩
  have hE2:Ext (w.alloc (.cells #[.int .i64 s.seq,.int .i64 s.fmt,.int .i64 s.first,.int .i64 s.count] 74)) w2:=Ext.trans (Ext.drew (Ext.refl _)) hE2
  have E2:=Ext.trans HX.out hE2;have hb2:=Hb0.out.ext hE2;obtain ⟨m0,m1,m2,m3⟩:=zay hb2
  refine shK hK _ _ ⟨m0,m1⟩ (fun _=>?_)
  refine AllReadyH.two (i:=9) (j:=13) rfl rfl (by kernel_rfl) (by rfl) (by rfl) (fun K hK=>?_) (fun K hK=>?_)
  ·go_simp
   refine (Key2.out _ _ E2 hB2).mono ?_
   rintro e w3 ⟨v3,rfl,ho3,hE3⟩;obtain ⟨A3,c3,rfl,_,_⟩:=SlR.open_ (SlR.of_own ho3);have hb3:=hb2.ext hE3;have E3:=Ext.trans E2 hE3;clear m0 m1 m2 m3;obtain ⟨m0,m1,m2,m3⟩:=zay hb3
   refine shK hK _ _ ⟨m0,m1⟩ (fun _=>?_)
   refine tkN 10 rfl ?_;refine tkN 11 rfl ?_;refine tkN 12 rfl ?_
   refine ar1 13 rfl (fun K hK=>?_)
   go_simp
   have hE4:Ext w3 (w3.alloc (.cells #[.int .i64 0,.slice none 0 0,.int .i64 0] 121)):=Ext.alloc (Ext.refl _) _
   have hb4:=hb3.ext hE4;have hz4:=Blk.new w3 121 #[.int .i64 0,.slice none 0 0,.int .i64 0];have E4:=Ext.trans E3 hE4;have ho4:=zag ho3 hE4
   have hbs:w2.heap.size≤w3.heap.size:=hE3.size
   have hw2:w.heap.size≤w2.heap.size:=E2.size
   clear m0 m1 m2 m3;obtain ⟨m0,m1,m2,m3⟩:=zay hb4
   refine shK hK _ _ ⟨m0,m1⟩ (fun _=>?_)
   obtain ⟨g0,g1,g2,f0,f1,f2⟩:=za7 hz4
   refine ar1 14 rfl (fun K hK=>?_)
   go_simp
   have HBz:Hid (Blk (w3.alloc (.cells #[.int .i64 r.first,.slice A3 r.log.length c3,.int .i64 r.used] 121)) w3.heap.size 121 #[.int .i64 r.first,.slice A3 r.log.length c3,.int .i64 r.used]):=zhd (Blk.new w3 _ _)
   have HBs:=zhd (hb3.ext (Ext.alloc (Ext.refl w3) (.cells #[.int .i64 r.first,.slice A3 r.log.length c3,.int .i64 r.used] 121)));have HE:=zhd (Ext.trans E3 (Ext.alloc (Ext.refl w3) (.cells #[.int .i64 r.first,.slice A3 r.log.length c3,.int .i64 r.used] 121)))
   have HO:Hid (OwnE _ w.heap.size _ r.log):=zhd (zaj (zag ho3 (Ext.alloc (Ext.refl w3) (.cells #[.int .i64 r.first,.slice A3 r.log.length c3,.int .i64 r.used] 121))) hw2)
   clear m0 m1 m2 m3 g0 g1 g2 f0 f1 f2 hb4 hz4 E4 ho4 hE4;obtain ⟨m0,m1,m2,m3⟩:=zay HBs.out
   refine shK hK _ _ ⟨m0,m1⟩ (fun _=>?_)
   refine tkN 15 rfl ?_;refine wpAnyH_done (by kernel_rfl) ?_ _;clear m0 m1 m2 m3;obtain ⟨g0,g1,g2,_,_,_⟩:=za7 HBz.out;obtain ⟨m0,m1,m2,m3⟩:=zay HBs.out
   by_cases he:r.err=0
   case neg =>
    have heb:(r.err==0)=false:=by simpa using he
    obtain rfl:none=R:=by rw[←HR.out,if_pos (by unfold zb8;simp[he])]
    go_wp2_with fail
    with_reducible refine (za0 _ _).mono ?_
    rintro e6 w6 ⟨rfl,rfl⟩
    exact ⟨rfl,rfl,HE.out⟩
   by_cases hf:(r.first:Int)=s.first
   case neg =>
    have heb:(r.err==0)=true:=by simpa using he
    clear he
    have hfb:((r.first:Int)==s.first)=false:=by simpa using hf
    obtain rfl:none=R:=by rw[←HR.out,if_pos (by unfold zb8;simp[hf])]
    go_wp2_with fail
    with_reducible refine (za0 _ _).mono ?_
    rintro e6 w6 ⟨rfl,rfl⟩
    exact ⟨rfl,rfl,HE.out⟩
   exact mcSt1a0
  ·go_simp
   have hX3:Ext w2 (w2.alloc (.cells #[.int .i64 0,.slice none 0 0,.int .i64 0] 121)):=Ext.alloc (Ext.refl _) _
   have hz3:=Blk.new w2 121 #[.int .i64 0,.slice none 0 0,.int .i64 0];have hb3:=hb2.ext hX3;have E3:=Ext.trans E2 hX3
   have hw2:w.heap.size≤(w2.alloc (.cells #[.int .i64 0,.slice none 0 0,.int .i64 0] 121)).heap.size:=E3.size
   have hnz:w.heap.size≠w2.heap.size:=by have:=hb2.lt;omega
   have hbz:w.heap.size≤w2.heap.size:=E2.size
   obtain ⟨m0,m1,m2,m3⟩:=zay hb3
   refine shK hK _ _ ⟨m0,m1⟩ (fun _=>?_)
   clear m0 m1 m2 m3
   refine ar1 9 rfl (fun K hK=>?_)
   go_simp
   refine (Key2.out _ _ E3 (hB2.ext hX3)).mono ?_
   rintro e w3 ⟨v3,rfl,ho3,hE3⟩;obtain ⟨A3,c3,rfl,_,_⟩:=SlR.open_ (SlR.of_own ho3);have hb4:=hb3.ext hE3;have hz4:=hz3.ext hE3;have E4:=Ext.trans E3 hE3;obtain ⟨m0,m1,m2,m3⟩:=zay hb4
   refine shK hK _ _ ⟨m0,m1⟩ (fun _=>?_)
   clear m0 m1 m2 m3;refine tkN 10 rfl ?_;refine tkN 11 rfl ?_;refine tkN 12 rfl ?_;obtain ⟨g0,g1,g2,f0,f1,f2⟩:=za7 hz4
   refine ar1 14 rfl (fun K hK=>?_)
   go_simp
   show K _ (zdt w3 w2.heap.size (.int .i64 r.first) (.slice A3 r.log.length c3) (.int .i64 r.used))
   have HBz:Hid (Blk (zdt w3 w2.heap.size (.int .i64 r.first) (.slice A3 r.log.length c3) (.int .i64 r.used)) w2.heap.size 121 #[.int .i64 r.first,.slice A3 r.log.length c3,.int .i64 r.used]):=zhd (zbo hz4 _ _ _)
   have HBs:Hid (Blk (zdt w3 w2.heap.size (.int .i64 r.first) (.slice A3 r.log.length c3) (.int .i64 r.used)) w.heap.size 74 _):=zhd (((hb4.other hnz 0 _).other hnz 1 _).other hnz 2 _)
   have HE:Hid (Ext w (zdt w3 w2.heap.size (.int .i64 r.first) (.slice A3 r.log.length c3) (.int .i64 r.used))):=zhd (zcC E4 hbz _ _ _)
   have HO:Hid (OwnE (zdt w3 w2.heap.size (.int .i64 r.first) (.slice A3 r.log.length c3) (.int .i64 r.used)) w.heap.size _ r.log):=zhd (zaj (zef hz4 (by decide) ho3 _ _ _) hw2)
   generalize zdt w3 w2.heap.size (.int .i64 r.first) (.slice A3 r.log.length c3) (.int .i64 r.used)=w5 at *
   clear g0 g1 g2 f0 f1 f2;obtain ⟨m0,m1,m2,m3⟩:=zay HBs.out
   refine shK hK _ _ ⟨m0,m1⟩ (fun _=>?_)
   refine tkN 15 rfl ?_;refine wpAnyH_done (by kernel_rfl) ?_ _;clear m0 m1 m2 m3;obtain ⟨g0,g1,g2,_,_,_⟩:=za7 HBz.out;obtain ⟨m0,m1,m2,m3⟩:=zay HBs.out
   by_cases he:r.err=0
   case neg =>
    have heb:(r.err==0)=false:=by simpa using he
    obtain rfl:none=R:=by rw[←HR.out,if_pos (by unfold zb8;simp[he])]
    go_wp2_with fail
    with_reducible refine (za0 _ _).mono ?_
    rintro e6 w6 ⟨rfl,rfl⟩
    exact ⟨rfl,rfl,HE.out⟩
   by_cases hf:(r.first:Int)=s.first
   case neg =>
    have heb:(r.err==0)=true:=by simpa using he
    clear he
    have hfb:((r.first:Int)==s.first)=false:=by simpa using hf
    obtain rfl:none=R:=by rw[←HR.out,if_pos (by unfold zb8;simp[hf])]
    go_wp2_with fail
    with_reducible refine (za0 _ _).mono ?_
    rintro e6 w6 ⟨rfl,rfl⟩
    exact ⟨rfl,rfl,HE.out⟩
   exact mcSt1a0
 ·go_simp
  have hX1:Ext (w.alloc (.cells #[.int .i64 s.seq,.int .i64 s.fmt,.int .i64 s.first,.int .i64 s.count] 74)) ((w.alloc (.cells #[.int .i64 s.seq,.int .i64 s.fmt,.int .i64 s.first,.int .i64 s.count] 74)).alloc (.cells #[.int .i64 0,.slice none 0 0,.int .i64 0] 121)).drew:=Ext.drew (Ext.alloc (Ext.refl _) _)
  have hz1:=(Blk.new (w.alloc (.cells #[.int .i64 s.seq,.int .i64 s.fmt,.int .i64 s.first,.int .i64 s.count] 74)) 121 #[.int .i64 0,.slice none 0 0,.int .i64 0]).ext (Ext.drew (Ext.refl _));rw[World.size_alloc] at hz1;have hb1:=Hb0.out.ext hX1;have E1:=Ext.trans HX.out hX1
  have hnz:w.heap.size≠w.heap.size+1:=by omega
  have hbz:w.heap.size≤w.heap.size+1:=by omega
  obtain ⟨m0,m1,m2,m3⟩:=zay hb1
  refine shK hK _ _ ⟨m0,m1⟩ (fun _=>?_)
  clear m0 m1 m2 m3
  refine ar1 6 rfl (fun K hK=>?_)
  go_simp
  refine (Key.out _ E1).mono ?_
  rintro e w2 ⟨⟨v2,rfl,hB2⟩,hE2⟩;have hb2:=hb1.ext hE2;have hz2:=hz1.ext hE2;have E2:=Ext.trans E1 hE2
  have hw2:w.heap.size≤w2.heap.size:=E2.size
  obtain ⟨m0,m1,m2,m3⟩:=zay hb2
  refine shK hK _ _ ⟨m0,m1⟩ (fun _=>?_)
  clear m0 m1 m2 m3
  refine ar1 9 rfl (fun K hK=>?_)
  go_simp
  refine (Key2.out _ _ E2 hB2).mono ?_
  rintro e w3 ⟨v3,rfl,ho3,hE3⟩;obtain ⟨A3,c3,rfl,_,_⟩:=SlR.open_ (SlR.of_own ho3);have hb4:=hb2.ext hE3;have hz4:=hz2.ext hE3;have E4:=Ext.trans E2 hE3;obtain ⟨m0,m1,m2,m3⟩:=zay hb4
  refine shK hK _ _ ⟨m0,m1⟩ (fun _=>?_)
  clear m0 m1 m2 m3;refine tkN 10 rfl ?_;refine tkN 11 rfl ?_;refine tkN 12 rfl ?_;obtain ⟨g0,g1,g2,f0,f1,f2⟩:=za7 hz4
  refine ar1 14 rfl (fun K hK=>?_)
  go_simp
  show K _ (zdt w3 (w.heap.size+1) (.int .i64 r.first) (.slice A3 r.log.length c3) (.int .i64 r.used))
  have HBz:Hid (Blk (zdt w3 (w.heap.size+1) (.int .i64 r.first) (.slice A3 r.log.length c3) (.int .i64 r.used)) (w.heap.size+1) 121 #[.int .i64 r.first,.slice A3 r.log.length c3,.int .i64 r.used]):=zhd (zbo hz4 _ _ _)
  have HBs:Hid (Blk (zdt w3 (w.heap.size+1) (.int .i64 r.first) (.slice A3 r.log.length c3) (.int .i64 r.used)) w.heap.size 74 _):=zhd (((hb4.other hnz 0 _).other hnz 1 _).other hnz 2 _)
  have HE:Hid (Ext w (zdt w3 (w.heap.size+1) (.int .i64 r.first) (.slice A3 r.log.length c3) (.int .i64 r.used))):=zhd (zcC E4 hbz _ _ _)
  have HO:Hid (OwnE (zdt w3 (w.heap.size+1) (.int .i64 r.first) (.slice A3 r.log.length c3) (.int .i64 r.used)) w.heap.size _ r.log):=zhd (zaj (zef hz4 (by decide) ho3 _ _ _) hw2)
  generalize zdt w3 (w.heap.size+1) (.int .i64 r.first) (.slice A3 r.log.length c3) (.int .i64 r.used)=w5 at *
  clear g0 g1 g2 f0 f1 f2;obtain ⟨m0,m1,m2,m3⟩:=zay HBs.out
  refine shK hK _ _ ⟨m0,m1⟩ (fun _=>?_)
  refine tkN 15 rfl ?_;refine wpAnyH_done (by kernel_rfl) ?_ _;clear m0 m1 m2 m3;obtain ⟨g0,g1,g2,_,_,_⟩:=za7 HBz.out;obtain ⟨m0,m1,m2,m3⟩:=zay HBs.out
  by_cases he:r.err=0
  case neg =>
   have heb:(r.err==0)=false:=by simpa using he
   obtain rfl:none=R:=by rw[←HR.out,if_pos (by unfold zb8;simp[he])]
   go_wp2_with fail
   with_reducible refine (za0 _ _).mono ?_
   rintro e6 w6 ⟨rfl,rfl⟩
   exact ⟨rfl,rfl,HE.out⟩
  by_cases hf:(r.first:Int)=s.first
  case neg =>
   have heb:(r.err==0)=true:=by simpa using he
   have hfb:((r.first:Int)==s.first)=false:=by simpa using hf
   obtain rfl:none=R:=by rw[←HR.out,if_pos (by unfold zb8;simp[hf])]
   go_wp2_with fail
   with_reducible refine (za0 _ _).mono ?_
   rintro e6 w6 ⟨rfl,rfl⟩
   exact ⟨rfl,rfl,HE.out⟩
  exact mcSt1a0
theorem znG (e:Int) (w:World):(Instr.typeAssert (.iface 32 (.int .i64 e)) 20 32 true).run Tryz.prog w=.ok (.tuple #[.int .i64 e,.bool true]) w:=by kernel_rfl
theorem zsJ (w:World):(Instr.typeAssert .nilIface 20 32 true).run Tryz.prog w=.ok (.tuple #[.int .i64 0,.bool false]) w:=by kernel_rfl
theorem zl3 (p:Addr) (y:Value) (e:Int) (older:List PanicEntry) (w:World) (hc:w.cell? p=some y) (hz:w.frozen? p=false) :
  CallsD Tryz.prog 101 #[.pointer (some p)] (.panicking ({ v:=.iface 32 (.int .i64 e),recovered:=false }::older)) w fun en u' w' =>
   en=.returned (.tuple #[])∧u'=.panicking ({ v:=.iface 32 (.int .i64 e),recovered:=true }::older)∧w'=w.setCell p (.int .i64 e):=by
 refine callsD_of_wpS Tryz.func101 rfl fun c₀ cs hu=>?_
 have h1:=znG e
 apply wpS_seq
 apply wpS_region
 simp[wpOpsS,go_sem,recoverD,hu,Tryz.ntmps101,Exit.thenS,h1]
 apply wpS_seq
 apply wpS_region
 simp[wpOpsS,go_sem,Exit.thenS,Array.replicate]
 refine wpS_cond (t:=true) (by simp[Act.eval,Array.replicate]) ?_
 simp only[if_true]
 apply wpS_region
 simp[wpOpsS,go_sem,hc,hz,bodyPostS,results,Tryz.results101,Array.replicate]
theorem zk2 (p:Addr) (w:World) :
  CallsD Tryz.prog 101 #[.pointer (some p)] .returning w fun en u' w'=>en=.returned (.tuple #[])∧u'=.returning∧w'=w:=by
 refine callsD_of_wpS Tryz.func101 rfl fun c₀ cs hu=>?_
 have h1:=zsJ
 apply wpS_seq
 apply wpS_region
 simp[wpOpsS,go_sem,recoverD,hu,Tryz.ntmps101,Exit.thenS,h1]
 apply wpS_seq
 apply wpS_region
 simp[wpOpsS,go_sem,Exit.thenS,Array.replicate]
 refine wpS_cond (t:=false) (by simp[Act.eval,Array.replicate]) ?_
 simp only[Bool.false_eq_true,if_false]
 refine wpS_of_wp ?_
 cases c₀
 simp_all [wp_skip,bodyPostS,results,Tryz.results101]
theorem zig (v:Value) (fs:List Fil) (s:Sg4) (w:World) (hS:StW w) (hF:Fs w v fs) (hl:fs.length≤4000000) (hbl:∀ f∈fs,f.2.length≤2000000) :
  Calls Tryz.prog 76 #[v,.agg #[.int .i64 s.seq,.int .i64 s.fmt,.int .i64 s.first,.int .i64 s.count]] w (zup w (zaz fs s)):=by
 cases hn:zax fs (zak 3 s.seq s.fmt) with
 | none =>
  have:zaz fs s=none:=by unfold zaz;rw[hn]
  rw[this]
  exact (zmc v fs s w hS hF hl hn).mono fun en w' h=>⟨h.1,h.2⟩
 | some b =>
  obtain ⟨f,hf,rfl⟩:=zpK hn
  exact zmd v fs s _ w hS hF hl hn (hbl f hf)
theorem zkD {fs:List Fil} {s:Sg4} {x:List Ent} (h:zaz fs s=some x):(s.count = -1→1≤x.length∧x.length≤4)∧(s.count≠-1→(x.length:Int)=s.count):=by
 unfold zaz at h
 cases hb:zax fs (zak 3 s.seq s.fmt) with
 | none=>rw[hb] at h;cases h
 | some b =>
  rw[hb] at h;dsimp only at h
  split at h
  ·cases h
  ·split at h
   ·cases h
   ·split at h
    ·cases h
    ·rename_i hc
     cases h
     unfold zbW at hc;simp only[Bool.or_eq_true,Bool.and_eq_true,decide_eq_true_eq] at hc
     constructor
     ·intro h1;omega
     ·intro h1;omega
def zc2 (fs:List Fil) (index:Int):List Sg4→Int→List Ent→Option (Int×List Ent)
 | [],last,out=>some (last,out)
 | s::l,last,out=>match zaz fs s with
  | none=>none
  | some x=>zc2 fs index l (if x.length=0 then last else s.first+x.length-1) (out++x.drop (index+1-s.first).toNat)
def zdG (fs:List Fil) (m:Mf) (index:Int):List Ent×Bool:=match zc2 fs index m.segs (index+1) [] with
 | none=>([],false)
 | some (last,out)=>(out,decide (index<last)&&(match m.segs with | []=>true | s::_=>decide (s.first≤index+1)))
def zcw:Int→List Ent→List (Int×Ent)
 | _,[]=>[]
 | n,e::x=>(n,e)::zcw (n+1) x
def zaQ (fs:List Fil):List Sg4→List (Int×Ent)×Bool
 | []=>([],true)
 | s::l=>match zaz fs s with
  | none=>([],false)
  | some x=>(zcw s.first x++(zaQ fs l).1,(zaQ fs l).2)
def zff (index:Int) (st:Int×List Ent) (p:Int×Ent):Int×List Ent:=(p.1,if index<p.1 then st.2++[p.2] else st.2)
theorem znz (index:Int):∀ (x:List Ent) (first last:Int) (out:List Ent),(zcw first x).foldl (zff index) (last,out)=(if x.length=0 then last else first+x.length-1,out++x.drop (index+1-first).toNat)
 | [],first,last,out=>by simp[zcw]
 | e::x,first,last,out=>by
  rw[zcw,List.foldl_cons,show zff index (last,out) (first,e)=(first,if index<first then out++[e] else out) from rfl,znz index x]
  have h1:(if x.length=0 then first else first+1+(x.length:Int)-1)=(if (e::x).length=0 then last else first+((e::x).length:Nat)-1):=by
   rw[if_neg (show ¬ (e::x).length=0 by simp),List.length_cons]
   split <;> omega
  rw[h1]
  congr 1
  by_cases h:index<first
  ·rw[if_pos h,show (index+1-(first+1)).toNat=0 from by omega,show (index+1-first).toNat=0 from by omega,List.append_assoc]
   rfl
  ·rw[if_neg h,show (index+1-first).toNat=(index+1-(first+1)).toNat+1 from by omega,List.drop_succ_cons]
theorem zgz (fs:List Fil) (index:Int):∀ (l:List Sg4) (last:Int) (out:List Ent),zc2 fs index l last out=if (zaQ fs l).2=true then some ((zaQ fs l).1.foldl (zff index) (last,out)) else none
 | [],last,out=>by rw[zc2,zaQ,if_pos rfl];rfl
 | s::l,last,out=>by
  rw[zc2,zaQ]
  cases h:zaz fs s with
  | none=>simp
  | some x =>
   dsimp only;rw[zgz fs index l,List.foldl_append,znz]
theorem zhP:∀ (x:List Ent) (n:Int),(zcw n x).length=x.length
 | [],_=>rfl
 | _::x,n=>by rw[zcw,List.length_cons,zhP x,List.length_cons]
theorem zkb:∀ (x:List Ent) (n:Int) (k:Nat) (h:k<x.length),(zcw n x)[k]?=some (n+k,x[k])
 | e::x,n,0,_=>by simp[zcw]
 | e::x,n,k+1,h=>by
  rw[zcw,List.getElem?_cons_succ,zkb x (n+1) k (by simpa using h)]
  rw[show n+1+(k:Int)=n+((k+1:Nat):Int) by omega]
  rfl
theorem zsu (x:List Ent) (n:Int) (k:Nat) (h:k<x.length):(zcw n x).take (k+1)=(zcw n x).take k++[(n+k,x[k])]:=by
 have h1:=zkb x n k h;rw[List.take_succ,h1];rfl
theorem zjU (index:Int):∀ (l:List (Int×Ent)) (st:Int×List Ent),(l.foldl (zff index) st).2.length≤st.2.length+l.length
 | [],_=>Nat.le_refl _
 | p::l,st=>by
  have:=zjU index l (zff index st p)
  rw[List.foldl_cons,List.length_cons]
  have h2:(zff index st p).2.length≤st.2.length+1:=by
   unfold zff;dsimp only
   split <;> simp
  omega
theorem zrd (fs:List Fil) (l:List Sg4) (k:Nat) (h:k<l.length) (hk:(zaQ fs (l.take k)).2=true):zaQ fs (l.take (k+1))=match zaz fs l[k] with
  | none=>((zaQ fs (l.take k)).1,false)
  | some x=>((zaQ fs (l.take k)).1++zcw l[k].first x,true):=by
 induction l generalizing k with
 | nil=>simp at h
 | cons s l ih =>
  cases k with
  | zero =>
   simp only[List.take_zero,List.take_succ_cons,List.getElem_cons_zero,zaQ]
   cases zaz fs s <;> simp
  | succ k =>
   simp only[List.take_succ_cons,zaQ,List.getElem_cons_succ] at hk ⊢
   cases he:zaz fs s with
   | none=>rw[he] at hk;cases hk
   | some x =>
    rw[he] at hk
    dsimp only at hk ⊢
    rw[ih k (by simpa using h) hk]
    cases zaz fs (l[k]'(by simpa using h)) with
    | none=>rfl
    | some y=>simp[List.append_assoc]
theorem ztb (fs:List Fil) (l:List Sg4) (k:Nat) (h:k<l.length) (hk:(zaQ fs (l.take k)).2=true) (he:zaz fs l[k]=none):zaQ fs l=((zaQ fs (l.take k)).1,false):=by
 induction l generalizing k with
 | nil=>simp at h
 | cons s l ih =>
  cases k with
  | zero =>
   simp only[List.getElem_cons_zero] at he;simp only[List.take_zero,zaQ,he]
  | succ k =>
   rw[List.take_succ_cons] at hk ⊢
   rw[zaQ] at hk ⊢
   rw[zaQ]
   cases hs:zaz fs s with
   | none=>simp[hs] at hk
   | some x =>
    rw[hs] at hk
    dsimp only at hk ⊢
    rw[ih k (by simpa using h) hk he]
theorem ztc (fs:List Fil) (l:List Sg4) (k:Nat) (h:k<l.length) (hk:(zaQ fs (l.take k)).2=true) {x:List Ent} (he:zaz fs l[k]=some x):∃ post,(zaQ fs l).1=(zaQ fs (l.take k)).1++zcw l[k].first x++post:=by
 induction l generalizing k with
 | nil=>simp at h
 | cons s l ih =>
  cases k with
  | zero =>
   simp only[List.getElem_cons_zero] at he
   refine ⟨(zaQ fs l).1,?_⟩
   simp only[List.take_zero,zaQ,he,List.getElem_cons_zero,List.nil_append]
  | succ k =>
   rw[List.take_succ_cons] at hk ⊢
   rw[zaQ] at hk ⊢
   rw[zaQ]
   cases hs:zaz fs s with
   | none=>simp[hs] at hk
   | some y =>
    rw[hs] at hk
    dsimp only at hk ⊢
    obtain ⟨post,hp⟩:=ih k (by simpa using h) hk (by simpa using he)
    refine ⟨post,?_⟩
    rw[hp,List.getElem_cons_succ];simp only[List.append_assoc]
end Go.Proofs.YtgonhdeochgkoaaGreatDoor
