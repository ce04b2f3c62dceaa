/- Merged: Man4 ShP Keep SayP ReadsP Rdl1 -/
import Derived.Test.YtgonhdeochgkoaaGreatDoorZt38
import Derived.Test.YtgonhdeochgkoaaGreatDoorZt43
set_option linter.all false
set_option maxHeartbeats 8000000
set_option maxRecDepth 100000
namespace Go.Proofs.YtgonhdeochgkoaaGreatDoor
open Go.RowKit Go.Mv
theorem OwnI.is {w:World} {base:Nat} {v:Value} {l:List Int} (h:OwnI w base v l):Is w v l:=SlR.of_own h
theorem OwnI.ext {w w':World} {base:Nat} {v:Value} {l:List Int} (h:OwnI w base v l) (he:Ext w w'):OwnI w' base v l:=zag h he
theorem znS {ops:Array Oper} {rest:List Oper} {o:Oper} {a:Act} {w:World} {Q:Exit→Act→World→Prop} (hgd:o.guard=none) (s x:Operand)
  (ho:o.op=.call { callee:=.builtin .append,args:=#[s,x],argTypes:=#[96,96] })
  (base:Nat) (v:Value) (bs:List Int) (hs:a.eval s=v) (hown:OwnI w base v bs) (vx:Value) (cs:List Int) (hx:a.eval x=vx) (hr:Is w vx cs)
  (hlen:bs.length+cs.length≤40000000) (hbase:base≤w.heap.size)
  (h:∀ A c w',OwnI w' base (.slice A (bs.length+cs.length) c) (bs++cs)→ze7 base w w'→wpList Tryz.prog ops Q rest (a.put o.dst (.slice A (bs.length+cs.length) c)) w'):wpList Tryz.prog ops Q (o::rest) a w:=by
 obtain ⟨i0,hi,hz0,hz1,hz2⟩:=info_parts zhu
 refine zbJ _ hgd s x 96 ho base 3 i0 (.int .i64 0) 1 8 Tryz.underlying96 hi hz0 hz1 hz2 rfl (by decide) v bs.length (bs.map iv) hs hown vx cs.length (cs.map iv) hx hr (zr5 _) (by unfold maxLen;omega) (by omega) hbase ?_
 intro v' w' h1 h2;obtain ⟨A,c,rfl,_,_⟩:=SlR.open_ (SlR.of_own h1)
 refine h A c w' ?_ (fun W0 hE hb=>Ext.grownOwn hE (zaj hown hb) h2)
 unfold OwnI;rw[List.length_append,List.map_append]
 exact h1
theorem zmC (m:Mf) (v:Value) (w:World) (hS:Sgs w v m.segs) :
  Calls Tryz.prog 14 #[.agg #[.int .i64 m.next,.int .i64 m.term,.int .i64 m.vote,.int .i64 m.sq,.int .i64 m.sf,v]] w (zun w (zbm m)):=by
 obtain ⟨A,c,rfl,hc1,hc2⟩:=hS.open_;have hb0:=Blk.new w 30 #[.int .i64 m.next,.int .i64 m.term,.int .i64 m.vote,.int .i64 m.sq,.int .i64 m.sf,.slice A m.segs.length c]
 have hX:Ext w (w.alloc (.cells #[.int .i64 m.next,.int .i64 m.term,.int .i64 m.vote,.int .i64 m.sq,.int .i64 m.sf,.slice A m.segs.length c] 30)):=Ext.alloc (Ext.refl _) _
 obtain ⟨m0,m1,m2,m3,m4,m5⟩:=zap hb0;have HS:=zhd hS;have arm:=zlw m (.slice A m.segs.length c) _ (hS.ext hX);have Arm:=zhd arm;clear arm hS
 go_enter Tryz.func14,Tryz.ntmps14
 go_wp2_with fail
 refine Arm.out.mono ?_
 rintro e w1 ⟨rfl,hE1⟩;have E1:=Ext.trans hX hE1;have HE1:=zhd E1;have Hb:=zhd (hb0.ext hE1);clear hb0 hX hE1 m0 m1 m2 m3 m4 m5 Arm
 cases hck:zav m with
 | false =>
  have hr:zbm m=none:=by unfold zbm;rw[hck];rfl
  go_wp2_with fail
  go_ret2
  rw[hr]
  exact ⟨⟨_,rfl,World.ownsRow_nil _ _ _ _⟩,HE1.out⟩
 | true =>
 have hr:zbm m=some (zaK rT (77::zal (zbE m))):=by unfold zbm;rw[hck];rfl
 have Hr:=zhd hr;have Hck:=zhd hck;obtain ⟨_,_,_,hl60,_,_⟩:=zdg hck;obtain ⟨m0,m1,m2,m3,m4,m5⟩:=zap Hb.out;clear hr hck E1;go_wp2_with fail;have hfin:=zhh Hck.out;have Hfin:=zhd hfin;have hO:=zbj w1 ([m.next,m.term,m.vote,m.sq,m.sf,(m.segs.length:Int)].map iv) 3 6 rfl (by simp[maxLen]) (Nat.le_refl _);have HO:=zhd hO
 have hEn:Ext w1 (w1.alloc (.cells #[.int .i64 m.next,.int .i64 m.term,.int .i64 m.vote,.int .i64 m.sq,.int .i64 m.sf,.int .i64 (m.segs.length:Int)] 3)):=Ext.alloc (Ext.refl _) _
 have HEn:=zhd hEn;obtain ⟨H0,hH0⟩:∃ H0,[m.next,m.term,m.vote,m.sq,m.sf,(m.segs.length:Int)]=H0:=⟨_,rfl⟩
 have hH6:H0.length=6:=by rw[←hH0];rfl
 have hmi:zbE m=H0++zaY m.segs:=by rw[←hH0];rfl
 have HH0:=zhd hH0;have Hmi:=zhd hmi;clear hO hEn hmi hH0 hfin m0 m1 m2 m3 m4 m5
 go_loopw [4,5] (fun vl x W=>∃ (j:Nat) (a':Option Addr) (c':Nat),j≤m.segs.length∧x=.int .i64 j∧vl=.slice a' (6+4*j) c'∧Hid (OwnI W w1.heap.size (.slice a' (6+4*j) c') (H0++zaY (m.segs.take j)))∧Ext w1 W) (fun _ x _=>m.segs.length-(intOf x).toNat)
 case atStart =>
  refine ⟨0,_,_,by omega,rfl,rfl,zhd ?_,HEn.out⟩
  have:=HO.out
  unfold OwnI
  rw[List.take_zero,show zaY []=[] from rfl,List.append_nil,hH6,←HH0.out]
  exact this
 case round =>
  obtain ⟨j,a',c',hj,rfl,rfl,Hown,hEr⟩:=hrel;have HEr:=zhd hEr;have HE:=zhd (Ext.trans HE1.out hEr);obtain ⟨_,_,_,_,_,M5⟩:=zap (Hb.out.ext hEr);clear hEr
  have hbase:w1.heap.size≤wr.heap.size:=HEr.out.size
  by_cases hlt:j<m.segs.length
  ·obtain ⟨_,b,off,rfl,hcell⟩:=(HS.out.ext HE.out).at_ (by omega)
   obtain ⟨s0,s1,s2,s3⟩:=hcell j hlt;have htk:=zjz m.segs j hlt;have hso:=(zdg Hck.out).2.2.2.2.2 j hlt
   generalize m.segs[j]=s at *
   have hcnt:IntKind.i64.wrap (s.count+1)=s.count+1:=by
    obtain ⟨_,_,_,_,h5⟩:=zgY hso
    rw[IntKind.wrap_i64];omega
   have Htk:=zhd htk;clear hcell htk hso
   have hjz:(j:Int)<(m.segs.length:Int):=by omega
   have hbs:=Blk.new wr 74 #[.int .i64 s.seq,.int .i64 s.fmt,.int .i64 s.first,.int .i64 s.count]
   have hXs:Ext wr (wr.alloc (.cells #[.int .i64 s.seq,.int .i64 s.fmt,.int .i64 s.first,.int .i64 s.count] 74)):=Ext.alloc (Ext.refl _) _
   obtain ⟨k0,k1,k2,k3⟩:=zay hbs
   have hI:Is ((wr.alloc (.cells #[.int .i64 s.seq,.int .i64 s.fmt,.int .i64 s.first,.int .i64 s.count] 74)).alloc (.cells #[.int .i64 s.seq,.int .i64 s.fmt,.int .i64 s.first,.int .i64 (s.count+1)] 3)) (.slice (some ⟨wr.heap.size+1,0,none⟩) 4 4) [s.seq,s.fmt,s.first,s.count+1]:=by
    have:=zbj (wr.alloc (.cells #[.int .i64 s.seq,.int .i64 s.fmt,.int .i64 s.first,.int .i64 s.count] 74)) ([s.seq,s.fmt,s.first,s.count+1].map iv) 3 4 rfl (by simp[maxLen]) (Nat.le_refl _)
    rw[World.size_alloc] at this
    exact SlR.of_own this
   have HI:=zhd hI
   have hX2:Ext wr ((wr.alloc (.cells #[.int .i64 s.seq,.int .i64 s.fmt,.int .i64 s.first,.int .i64 s.count] 74)).alloc (.cells #[.int .i64 s.seq,.int .i64 s.fmt,.int .i64 s.first,.int .i64 (s.count+1)] 3)):=Ext.alloc hXs _
   have HX2:=zhd hX2;obtain ⟨P,hP⟩:∃ P,H0++zaY (m.segs.take j)=P:=⟨_,rfl⟩
   have hPl:P.length=6+4*j:=by rw[←hP,List.length_append,hH6,zdZ,List.length_take];omega
   rw[hP] at Hown;have HP:=zhd hP;clear hbs hI hX2 hP
   go_wp2_with (at_builtin;refine znS rfl (.tmp 40) (.tmp 50) rfl w1.heap.size _ P rfl (Hown.out.ext HX2.out) _ [s.seq,s.fmt,s.first,s.count+1] rfl HI.out (by rw[hPl];simp;omega) (Nat.le_trans hbase HX2.out.size) ?_;intro A3 c3 w3 ho3 hG3;rw[hPl] at ho3 ⊢;have hE3:=hG3 w1 (Ext.trans HEr.out HX2.out) (Nat.le_refl _))
   go_roundw
   case rel =>
    refine ⟨j+1,_,_,by omega,by go_num,rfl,zhd ?_,hE3⟩
    rw[Htk.out,←List.append_assoc,HP.out]
    exact ho3
   case measure=>simp[intOf];omega
  ·obtain rfl:j=m.segs.length:=by omega
   have hO2:=Hown.out;rw[List.take_length,←Hmi.out] at hO2;have HO2:=zhd hO2
   have hml:(zbE m).length≤2000000:=by rw[Hmi.out,List.length_append,hH6,zdZ];omega
   have arm:=zoK _ _ _ hO2.is Hfin.out hml;have Arm:=zhd arm;have hsl:=zcx (zbE m)
   have hml2:(zbE m).length≤246:=by rw[Hmi.out,List.length_append,hH6,zdZ];omega
   clear hO2 arm Hown HO HEn Hmi HS;go_wp2_with fail
   refine Arm.out.mono ?_
   rintro e w3 ⟨v3,rfl,ho3,hE3⟩
   have hb3:Bs w3 v3 (zal (zbE m)):=SlR.of_own ho3
   obtain ⟨A3,c3,rfl,_,_⟩:=SlR.open_ hb3;have HB3:=zhd hb3;have X3:=zhd (Ext.trans HE.out hE3);obtain ⟨L,hL⟩:∃ L,zal (zbE m)=L:=⟨_,rfl⟩
   have hLl:L.length≤2000:=by rw[←hL];omega
   have HL:=zhd hL;rw[hL] at HB3
   have hll2:(zal (zbE m)).length=L.length:=by rw[hL]
   rw[hll2] at *
   clear hb3 ho3 hL hsl hll2 Arm
   go_wp2_with (at_builtin;refine zdN rfl (.tmp 57) (.tmp 58) rfl w3.heap.size _ [77] rfl (zbj w3 [.int .u8 77] 5 1 rfl (by simp[maxLen]) (Nat.le_refl _)) _ L rfl (HB3.out.ext (Ext.alloc (Ext.refl _) _)) (by simp;omega) (by simp) ?_;intro A4 c4 w4 ho4 hG4;have hE4:Ext w3 w4:=hG4 w3 (Ext.alloc (Ext.refl _) _) (Nat.le_refl _))
   refine (zqn _ _ _ ho4.bs (by simp;omega)).mono ?_
   rintro e w5 ⟨A5,c5,rfl,ho5,hE5⟩
   have hr:zbm m=some (zaK rT ([77]++L)):=by rw[Hr.out,HL.out];rfl
   go_wp2_with fail
   go_ret2
   rw[hr]
   exact ⟨⟨_,rfl,zaj ho5 (Ext.trans X3.out hE4).size⟩,Ext.trans X3.out (Ext.trans hE4 hE5)⟩
/-! Names -/
theorem zgp {k s f:Int} {n:List UInt8} (hk:k=3∨k=4) (hn:zak k s f=some n):n≠[77]:=by
 unfold zak at hn
 split at hn
 ·cases hn
  unfold zfd;rw[if_neg (by omega),if_neg (by omega)];intro h
  injection h with h _
  rcases hk with rfl | rfl <;> simp at h
 ·cases hn
theorem zfu:zak 1 0 0=some [77]:=rfl
/-! Files -/
/-! Manifests -/
/-! Segments -/
/-! A step -/
inductive zjE (m:Mf):Int→Int→Int→Prop
 | snap:m.sq≠0→zjE m 4 m.sq m.sf
 | seg (j:Nat) (h:j<m.segs.length):zjE m 3 m.segs[j].seq m.segs[j].fmt
theorem zfV {m:Mf} {k s f:Int} (hm:zav m=true) (h:zjE m k s f):(k=3∨k=4)∧(1≤s∧s≤1073741824)∧(f=1∨f=2):=by
 obtain ⟨h1,_,_,_,h5,h6⟩:=zdg hm
 cases h with
 | snap hq =>
  rcases h5 with ⟨h7,_⟩ | ⟨h7,h8,h9⟩
  ·exact absurd h7 hq
  ·exact ⟨.inr rfl,⟨h7,by omega⟩,h9⟩
 | seg j hj =>
  obtain ⟨h7,h8,h9⟩:=zeT (zgY (h6 j hj)).1
  exact ⟨.inl rfl,⟨h7,by omega⟩,h9⟩
/-! What a shadow says -/
open Go.RowKit Go.Mv Go.Shelf
theorem mcKeepc0 {P:Prop} (h:P:=by
 rw[hlen] at HOk;obtain ⟨_,bs,of,rfl,hcells⟩:=Sgs.at_ HS.out (by omega);obtain ⟨d0,d1,_,_⟩:=hcells k hlt;have c0:=HXk.out.cell d0;have c1:=HXk.out.cell d1;have D0:=zhd d0;have D1:=zhd d1;clear hcells d0 d1;go_wp2_with fail
 refine wp_region_held_drew (S:=fun W=>W.cell? ⟨w.heap.size,5,none⟩=some (.slice (some ⟨bs,of,none⟩) sg.length c)∧W.cell? ⟨bs,of+k*4,none⟩=some (.int .i64 sg[k].seq)∧W.cell? ⟨bs,of+k*4+1,none⟩=some (.int .i64 sg[k].fmt)) (by kernel_rfl) ⟨m5,c0,c1⟩ (fun _=>?_)
 refine tkN 0 rfl ?_;refine tkN 1 rfl ?_;refine tkN 2 rfl ?_;refine tkN 3 rfl ?_;refine tkN 4 rfl ?_;refine tkN 5 rfl ?_;refine tkN 6 rfl ?_;refine tkN 7 rfl ?_;refine tkN 8 rfl ?_;refine tkN 9 rfl ?_;refine tkN 10 rfl ?_;refine tkN 11 rfl ?_;refine tkN 12 rfl ?_;refine tkN 13 rfl ?_
 refine ar1 14 rfl (fun K hK=>?_)
 go_simp
 have X1:Ext wr (wr.alloc (.cells #[.int .u8 3,.int .i64 sg[k].seq,.int .i64 sg[k].fmt] 49)).drew:=Ext.drew (Ext.alloc (Ext.refl _) _)
 have hr6:SlR (wr.alloc (.cells #[.int .u8 3,.int .i64 sg[k].seq,.int .i64 sg[k].fmt] 49)).drew 3 (.slice (some ⟨wr.heap.size,0,none⟩) 1 1) 1 (idCells [zaX sg[k]]):=SlR.ext (SlR.of_own (zfv wr (zaX sg[k]))) (Ext.drew (Ext.refl _))
 have X2:=Ext.trans HXk.out X1;have ho6:=zag HOk.out X1;have hb6:=HBk.out.ext X1
 refine shK hK _ _ ⟨X1.cell m5,X1.cell c0,X1.cell c1⟩ (fun _=>?_)
 obtain ⟨i0,hi,hz0,hz1,hz2⟩:=info_parts zlj
 refine ar1 15 rfl (fun K hK=>?_)
 refine zda _ (.tmp 28) (.tmp 42) 43 (by rfl) w.heap.size 49 i0 _ 3 24 Tryz.underlying43 hi hz0 hz1 hz2 rfl (by decide) _ _ _ (by rfl) ho6 _ 1 (idCells [zaX sg[k]]) (by rfl) hr6 (zng _) (by rw[hlen];unfold maxLen;omega) (by rw[hlen];omega) X2.size ?_
 intro v7 w7 ho7 hg7
 have E7:Ext w w7:=Ext.grownOwn X2 ho6 hg7
 have hb7:=hb6.kept hg7 (hb6.not_row (by decide) ho6)
 refine shK hK _ _ ⟨hb7.cell 5 rfl,E7.cell D0.out,E7.cell D1.out⟩ (fun _=>?_)
 obtain ⟨A7,c7,rfl,_,_⟩:=SlR.open_ (SlR.of_own ho7);refine tkN 16 rfl ?_;refine wpAnyH_done (by kernel_rfl) ?_ _;have HE7:=zhd E7;have HB7:=zhd hb7;have HO7:=zhd ho7;clear E7 hb7 ho7 hg7 ho6 hb6 X2 X1 hr6;go_wp2_with fail
 go_roundw
 case rel =>
  refine ⟨k+1,by omega,by go_num,?_,HB7,HE7⟩
  have:=HO7.out
  rw[hlen] at this;unfold Hid zdr
  rw[List.take_succ_eq_append_getElem hlt,List.map_append,List.map_cons,List.map_nil,←List.append_assoc,List.length_append,hlen,show ∀ a b:List (Int×Int×Int),idCells (a++b)=idCells a++idCells b from fun a b=>by simp[idCells]]
  exact this
 case measure=>simp[intOf];omega):P:=h
theorem zlG (m:Mf):(zfc m).length≤2:=by unfold zfc;split <;> simp
theorem zmz (m:Mf) (v:Value) (w:World) (hS:Sgs w v m.segs) (hl:m.segs.length≤1000000) :
  Calls Tryz.prog 16 #[.agg #[.int .i64 m.next,.int .i64 m.term,.int .i64 m.vote,.int .i64 m.sq,.int .i64 m.sf,v]] w fun e w'=>∃ v',e=.returned v'∧zdr w' w.heap.size v' (zau m)∧Ext w w':=by
 obtain ⟨A,c,rfl,_,_⟩:=hS.open_;have HS:=zhd hS;clear hS;obtain ⟨nx,tm,vt,sq,sf,sg⟩:=m
 dsimp only at *
 have hb:=Blk.new w 30 #[.int .i64 nx,.int .i64 tm,.int .i64 vt,.int .i64 sq,.int .i64 sf,.slice A sg.length c]
 have hX:Ext w ((w.alloc (.cells #[.int .i64 nx,.int .i64 tm,.int .i64 vt,.int .i64 sq,.int .i64 sf,.slice A sg.length c] 30)).alloc (.cells #[.int .u8 1,.int .i64 0,.int .i64 0] 49)):=Ext.alloc (Ext.alloc (Ext.refl _) _) _
 have hbX:Blk ((w.alloc (.cells #[.int .i64 nx,.int .i64 tm,.int .i64 vt,.int .i64 sq,.int .i64 sf,.slice A sg.length c] 30)).alloc (.cells #[.int .u8 1,.int .i64 0,.int .i64 0] 49)) w.heap.size 30 #[.int .i64 nx,.int .i64 tm,.int .i64 vt,.int .i64 sq,.int .i64 sf,.slice A sg.length c]:=hb.alloc _
 have hoX:zdr ((w.alloc (.cells #[.int .i64 nx,.int .i64 tm,.int .i64 vt,.int .i64 sq,.int .i64 sf,.slice A sg.length c] 30)).alloc (.cells #[.int .u8 1,.int .i64 0,.int .i64 0] 49)) w.heap.size (.slice (some ⟨w.heap.size+1,0,none⟩) 1 1) [(1,0,0)]:=by
  have:=zfv (w.alloc (.cells #[.int .i64 nx,.int .i64 tm,.int .i64 vt,.int .i64 sq,.int .i64 sf,.slice A sg.length c] 30)) (1,0,0)
  rw[World.size_alloc] at this
  exact zaj this (Nat.le_succ _)
 by_cases hq:sq=0
 ·subst hq
  have hk0:zau ⟨nx,tm,vt,0,sf,sg⟩=[(1,0,0)]++sg.map zaX:=by unfold zau zfc;rw[if_pos rfl]
  rw[hk0];obtain ⟨m0,m1,m2,m3,m4,m5⟩:=zap hbX;have HX:=zhd hX;have HB:=zhd hbX;have HO:=zhd hoX;clear hb hX hbX hoX hk0
  go_enter Tryz.func16,Tryz.ntmps16
  go_wp2_with fail;clear m0 m1 m2 m3 m4 m5
  go_loopw [3,4] (fun v3 v4 wr=>∃ k:Nat,k≤sg.length∧v4=.int .i64 k∧Hid (zdr wr w.heap.size v3 ([(1,0,0)]++(sg.take k).map zaX))∧Hid (Blk wr w.heap.size 30 #[.int .i64 nx,.int .i64 tm,.int .i64 vt,.int .i64 0,.int .i64 sf,.slice A sg.length c])∧Hid (Ext w wr)) (fun _ v4 _=>sg.length-(intOf v4).toNat)
  case atStart=>exact ⟨0,Nat.zero_le _,rfl,HO,HB,HX⟩
  case round =>
   obtain ⟨k,hk,rfl,HOk,HBk,HXk⟩:=hrel;obtain ⟨m0,m1,m2,m3,m4,m5⟩:=zap HBk.out;obtain ⟨Ao,co,rfl,_,_⟩:=SlR.open_ (SlR.of_own HOk.out)
   by_cases hlt:k<sg.length
   ·have hlen:([(1,0,0)]++(sg.take k).map zaX).length=k+1:=by simp;omega
    exact mcKeepc0
   ·obtain rfl:k=sg.length:=by omega
    have ek:[(1,0,0)]++(sg.take sg.length).map zaX=[(1,0,0)]++sg.map zaX:=by rw[List.take_length]
    have EK:=zhd ek;clear ek;go_wp2_with fail;go_ret
    refine ⟨_,rfl,?_,HXk.out⟩
    show zdr _ _ _ ([(1,0,0)]++sg.map zaX)
    rw[←EK.out]
    exact HOk.out
 ·have hk0:zau ⟨nx,tm,vt,sq,sf,sg⟩=[(1,0,0),(4,sq,sf)]++sg.map zaX:=by unfold zau zfc;rw[if_neg hq]
  rw[hk0];have hn:=zfv ((w.alloc (.cells #[.int .i64 nx,.int .i64 tm,.int .i64 vt,.int .i64 sq,.int .i64 sf,.slice A sg.length c] 30)).alloc (.cells #[.int .u8 1,.int .i64 0,.int .i64 0] 49)) (4,sq,sf)
  have X1:Ext ((w.alloc (.cells #[.int .i64 nx,.int .i64 tm,.int .i64 vt,.int .i64 sq,.int .i64 sf,.slice A sg.length c] 30)).alloc (.cells #[.int .u8 1,.int .i64 0,.int .i64 0] 49)) (((w.alloc (.cells #[.int .i64 nx,.int .i64 tm,.int .i64 vt,.int .i64 sq,.int .i64 sf,.slice A sg.length c] 30)).alloc (.cells #[.int .u8 1,.int .i64 0,.int .i64 0] 49)).alloc (.cells #[.int .u8 4,.int .i64 sq,.int .i64 sf] 49)):=Ext.alloc (Ext.refl _) _
  have hb1:=hbX.ext X1;have ho1:=zag hoX X1;obtain ⟨m0,m1,m2,m3,m4,m5⟩:=zap hbX;have HX:=zhd (Ext.trans hX X1);have HB:=zhd hb1;have HO:=zhd ho1;rw[World.size_alloc,World.size_alloc] at hn;have HN:=zhd (SlR.of_own hn);have Hq:=zhd hq;clear hb hX hbX hoX hk0 hn X1 hb1 ho1
  go_enter Tryz.func16,Tryz.ntmps16
  go_wp2_with (at_builtin;refine zea rfl (.tmp 11) (.tmp 19) rfl w.heap.size _ [(1,0,0)] rfl HO.out _ (4,sq,sf) rfl HN.out (by decide) HX.out.size ?_;intro A1 c1 w1 ho1 hg1)
  replace HB:=zhd (HB.out.kept hg1 (HB.out.not_row (by decide) HO.out))
  replace HX:=zhd (Ext.grownOwn HX.out HO.out hg1)
  replace HO:=zhd ho1
  clear m0 m1 m2 m3 m4 m5 ho1 hg1 HN
  go_loopw [3,4] (fun v3 v4 wr=>∃ k:Nat,k≤sg.length∧v4=.int .i64 k∧Hid (zdr wr w.heap.size v3 ([(1,0,0),(4,sq,sf)]++(sg.take k).map zaX))∧Hid (Blk wr w.heap.size 30 #[.int .i64 nx,.int .i64 tm,.int .i64 vt,.int .i64 sq,.int .i64 sf,.slice A sg.length c])∧Hid (Ext w wr)) (fun _ v4 _=>sg.length-(intOf v4).toNat)
  case atStart=>exact ⟨0,Nat.zero_le _,rfl,HO,HB,HX⟩
  case round =>
   obtain ⟨k,hk,rfl,HOk,HBk,HXk⟩:=hrel;obtain ⟨m0,m1,m2,m3,m4,m5⟩:=zap HBk.out;obtain ⟨Ao,co,rfl,_,_⟩:=SlR.open_ (SlR.of_own HOk.out)
   by_cases hlt:k<sg.length
   ·have hlen:([(1,0,0),(4,sq,sf)]++(sg.take k).map zaX).length=k+2:=by simp;omega
    exact mcKeepc0
   ·obtain rfl:k=sg.length:=by omega
    have ek:[(1,0,0),(4,sq,sf)]++(sg.take sg.length).map zaX=[(1,0,0),(4,sq,sf)]++sg.map zaX:=by rw[List.take_length]
    have EK:=zhd ek;clear ek;go_wp2_with fail;go_ret
    refine ⟨_,rfl,?_,HXk.out⟩
    show zdr _ _ _ ([(1,0,0),(4,sq,sf)]++sg.map zaX)
    rw[←EK.out]
    exact HOk.out
def znJ (m:Mf):List (Int×Int×Int):=(if m.sq=0 then [] else [(4,m.sq,m.sf)])++m.segs.map zaX
theorem zoq (m:Mf):zau m=(1,0,0)::znJ m:=rfl
theorem zug {m:Mf} {x:Int×Int×Int} (h:x∈znJ m):zjE m x.1 x.2.1 x.2.2:=by
 unfold znJ at h
 rcases List.mem_append.1 h with h | h
 ·split at h
  ·cases h
  ·rename_i hq
   rw[List.mem_singleton] at h;subst h
   exact .snap hq
 ·obtain ⟨s,hs,rfl⟩:=List.mem_map.1 h
  obtain ⟨j,hj,rfl⟩:=List.mem_iff_getElem.1 hs
  exact .seg j hj
theorem zex {m:Mf} {j:Nat} {k s f:Int} (h:(zau m)[j]?=some (k,s,f)):(j=0∧(k,s,f)=(1,0,0))∨(0<j∧zjE m k s f):=by
 rw[zoq] at h
 cases j with
 | zero=>left;simp at h;exact ⟨rfl,by rw[←h.1,←h.2.1,←h.2.2]⟩
 | succ j =>
  right
  rw[List.getElem?_cons_succ] at h
  have:=zug (List.mem_of_getElem? h)
  exact ⟨Nat.succ_pos j,this⟩
theorem idCells_get:∀ {l:List (Int×Int×Int)} {j:Nat} {k s f:Int},l[j]?=some (k,s,f)→(idCells l)[j*3]?=some (.int .u8 k)∧(idCells l)[j*3+1]?=some (.int .i64 s)∧(idCells l)[j*3+2]?=some (.int .i64 f)
 | [],j,_,_,_,h=>by simp at h
 | x::l,0,_,_,_,h=>by
  obtain rfl:x=_:=by simpa using h
  exact ⟨rfl,rfl,rfl⟩
 | x::l,j+1,k,s,f,h=>by
  obtain ⟨h1,h2,h3⟩:=@idCells_get l j k s f (by simpa using h)
  have e:idCells (x::l)=idC x++idCells l:=by unfold idCells;rw[List.flatMap_cons]
  have hl:(idC x).length=3:=rfl
  rw[e,List.getElem?_append_right (by omega),List.getElem?_append_right (by omega),List.getElem?_append_right (by omega),hl]
  rw[show (j+1)*3-3=j*3 by omega,show (j+1)*3+1-3=j*3+1 by omega,show (j+1)*3+2-3=j*3+2 by omega]
  exact ⟨h1,h2,h3⟩
theorem zm6 (m:Mf):0<(zau m).length:=by unfold zau zfc;simp
end Go.Proofs.YtgonhdeochgkoaaGreatDoor
