/- Merged -/
import Derived.Test.YteggfecbjgbndaaGreatDoorZw21
import Derived.Test.YteggfecbjgbndaaGreatDoorZw23
set_option linter.all false
set_option maxHeartbeats 8000000
set_option maxRecDepth 100000
open Go.Value renaming int→C,pointer→H,slice→I,bool→J
open Go.IntKind renaming i64→D,u8→M
open Option renaming some→E,none→F
open Go.Mv renaming zhd→L
namespace Go.Proofs.YteggfecbjgbndaaGreatDoor
open Go.RowKit Go.Mv Go.Shelf
def KB (b:Nat) (W W':World):Prop:=Kept (fun k _=>k≠b) W W'
theorem KB.ext {b:Nat} {W W':World} (h:Ext W W'):KB b W W':=Kept.refl.below h (xN _)
theorem KB.set {b:Nat} {W W':World} (h:KB b W W') (k:Nat) (v:Value):KB b W (W'.setCell ⟨b,k,F⟩ v):=Kept.setCell h (a:=⟨b,k,F⟩) (fun _ _ _ h=>h rfl) v
theorem KB.trans {b:Nat} {W X Y:World} (h:KB b W X) (k:KB b X Y):KB b W Y:=Kept.trans h k
theorem KB.cell {b:Nat} {W W':World} (h:KB b W W') {p:Addr} {u:Value} (hc:W.cell? p=E u) (hn:p.block≠b):W'.cell? p=E u:=Kept.cell h hc fun _ _=>hn
theorem KB.blk {b:Nat} {W W':World} (h:KB b W W') {k:Nat} {t:TypeId} {cs:Array Value} (hb:Blk W k t cs) (hn:k≠b):Blk W' k t cs:=h.same _ _ hb hn
theorem KB.own {b:Nat} {W W':World} (h:KB b W W') {base:Nat} {e:TypeId} {size n:Nat} {v:Value} {xs:List Value} (hr:W.ownsRow base e size v n xs) (hb:b<base):W'.ownsRow base e size v n xs:=by
 refine ⟨hr.1,?_⟩
 rcases hr.2 with h1 | ⟨g,cap,cur,h1,h2,h3,h4⟩
 ·exact .inl h1
 ·exact .inr ⟨g,cap,cur,h1,h2,h.same _ _ h3 (by omega),h4⟩
theorem KB.bs {b:Nat} {W W':World} (h:KB b W W') {u:Value} {l:List UInt8} (hB:Bs W u l) (ha:zaZ b u):Bs W' u l:=Bs.away hB ha fun _ _ hc hn=>h.cell hc hn
theorem Bs.away2 {W:World} {u:Value} {bs:List UInt8} (h:Bs W u bs) (h2:2≤bs.length) {b:Nat} {t:TypeId} {cs:Array Value} (hB:Blk W b t cs) (Hh:∀ (k:Nat) (n m:Int),cs[k]?=E (C M n)→cs[k+1]?=E (C M m)→False):zaZ b u:=by
 intro b' HZ n c hn hu he;subst he;obtain ⟨hl,A,c',rfl,h3,h4,h5⟩:=h
 cases hu
 obtain ⟨b2,HW,e,hc⟩:=h5 hn
 cases e
 have HR:(bs.map bv).length=bs.length:=List.length_map _
 have q0:=zfp hB (hc 0 _ (List.getElem?_eq_getElem (by omega)));have q1:=zfp hB (hc 1 _ (List.getElem?_eq_getElem (by omega)));rw[List.getElem_map] at q0 q1
 exact Hh _ _ _ q0 q1
theorem zof {W W':World} {base b:Nat} {u:Value} {d:Dk} (h:OwnD W base u d) (hb:b<base) {t:TypeId} {cs:Array Value} (hB:Blk W b t cs) (Hh:∀ (k:Nat) (n m:Int),cs[k]?=E (C M n)→cs[k+1]?=E (C M m)→False) (hq:d.q=[]) (hf:∀ f∈d.fs,2≤f.2.length) (hk:KB b W W'):DkV W' u d:=by
 obtain ⟨A,c,B,e,rfl,⟨xs,h1,h2,_⟩,h3⟩:=h
 have ha:∀ u∈xs,zaZ b u:=by
  intro u hu;obtain ⟨k,i,hk,hi,hx⟩:=zfH h2.1 hu;obtain ⟨g0,v,g1,g2⟩:=h2.2 k hk
  match i,hi with
  | 0,_ =>
   have g0:xs[k*2+0]?=E (sv d.fs[k].1):=g0
   rw[g0] at hx;cases hx;exact zaB _ _
  | 1,_ =>
   have g1:xs[k*2+1]?=E v:=g1
   rw[g1] at hx;cases hx;exact Bs.away2 g2 (hf _ (List.getElem_mem hk)) hB Hh
 refine ⟨_,_,rfl,fs_row.2 ⟨xs,xW (hk.own h1 hb),h2.keep zbq ha fun _ _ hc hn=>hk.cell hc hn⟩,?_⟩
 obtain ⟨ys,HG,HU,_⟩:=h3
 rw[hq] at HG HU ⊢
 obtain ⟨B',e',e2,HP,HQ⟩:=xO (xW HG)
 cases e2
 exact ⟨[],⟨rfl,_,_,rfl,HP,HQ,fun h=>absurd h (Nat.lt_irrefl _)⟩,RowOf.nil⟩
def wkC (D0 D1 D2 D3 D4:Value) (A:Option Addr) (c:Nat) (m:Mf) (vs:Value) (k s f:Int) (vf:Value):Array Value:=#[D0,D1,D2,D3,D4,C D 0,C D 0,C D 0,C D 1,J false,I A 0 c,C D 0,C D 0,C D m.next,C D m.term,C D m.vote,C D m.sq,C D m.sf,vs,C M k,C D s,C D f,vf]
theorem zdz {W:World} {b:Nat} {t:TypeId} {x0 x1 x2 x3 x4 x5 x6 x7 x8 x9 x10 x11 x12 x13 x14 x15 x16 x17 x18 x19 x20 x21 x22:Value} (h:Blk W b t #[x0,x1,x2,x3,x4,x5,x6,x7,x8,x9,x10,x11,x12,x13,x14,x15,x16,x17,x18,x19,x20,x21,x22]):W.cell? ⟨b,0,F⟩=E x0∧W.cell? ⟨b,1,F⟩=E x1∧W.cell? ⟨b,2,F⟩=E x2∧W.cell? ⟨b,3,F⟩=E x3∧W.cell? ⟨b,4,F⟩=E x4∧W.cell? ⟨b,5,F⟩=E x5∧W.cell? ⟨b,6,F⟩=E x6∧W.cell? ⟨b,7,F⟩=E x7∧W.cell? ⟨b,8,F⟩=E x8∧W.cell? ⟨b,9,F⟩=E x9∧W.cell? ⟨b,10,F⟩=E x10∧W.cell? ⟨b,11,F⟩=E x11∧W.cell? ⟨b,12,F⟩=E x12∧W.cell? ⟨b,13,F⟩=E x13∧W.cell? ⟨b,14,F⟩=E x14∧W.cell? ⟨b,15,F⟩=E x15∧W.cell? ⟨b,16,F⟩=E x16∧W.cell? ⟨b,17,F⟩=E x17∧W.cell? ⟨b,18,F⟩=E x18∧W.cell? ⟨b,19,F⟩=E x19∧W.cell? ⟨b,20,F⟩=E x20∧W.cell? ⟨b,21,F⟩=E x21∧W.cell? ⟨b,22,F⟩=E x22 :=
 ⟨h.cell 0 rfl,h.cell 1 rfl,h.cell 2 rfl,h.cell 3 rfl,h.cell 4 rfl,h.cell 5 rfl,h.cell 6 rfl,h.cell 7 rfl,h.cell 8 rfl,h.cell 9 rfl,h.cell 10 rfl,h.cell 11 rfl,h.cell 12 rfl,h.cell 13 rfl,h.cell 14 rfl,h.cell 15 rfl,h.cell 16 rfl,h.cell 17 rfl,h.cell 18 rfl,h.cell 19 rfl,h.cell 20 rfl,h.cell 21 rfl,h.cell 22 rfl⟩
structure ToP (done:Bool) (b:Nat) (D0 D1 D2 D3 D4:Value) (m:Mf) (k s f:Int) (fb:List UInt8) (W:World) (en:Ending) (W':World):Prop where
 en:en=.returned (.tuple #[.bool done,C D 0])
 wk:∃ A c vs vf,c≤9223372036854775807∧Blk W' b 168 (wkC D0 D1 D2 D3 D4 A c m vs k s f vf)∧Sgs W' vs m.segs∧Bs W' vf fb
 gr:zcz b W W'
 kb:KB b W W'
def m15:Mf:=⟨1,0,0,0,0,[]⟩
theorem zfI (W:World) (A:Option Addr) {c:Nat} (hc:c≤9223372036854775807):Sgs W (I A 0 c) []:=⟨rfl,A,c,rfl,Nat.zero_le _,hc,fun h=>absurd h (Nat.lt_irrefl _)⟩
theorem zod (W:World) (A:Option Addr) {c:Nat} (hc:c≤9223372036854775807):Bs W (I A 0 c) []:=⟨rfl,A,c,rfl,Nat.zero_le _,hc,fun h=>absurd h (Nat.lt_irrefl _)⟩
theorem zku {P:Program} {x:Code} {a:Act} {w:World} {K:Act→World→Prop} {Q:Exit→Act→World→Prop} (G:Act→World→Prop) (h1:x.wp P (Exit.then G Q) a w) (h2:∀ a' w',G a' w'→K a' w'):x.wp P (Exit.then K Q) a w:=by
 refine wp_mono h1 ?_
 intro e a' w' h
 cases e <;> first | exact h2 _ _ h | exact h
theorem zo6 (D0 D1 D2 D3 D4:Value) (A:Option Addr) (c:Nat) (hc:c≤9223372036854775807) (A':Option Addr) (c':Nat) (Hg:c'≤9223372036854775807) (b bt bv:Nat) (w:World) (hb:Blk w b 168 (wkC D0 D1 D2 D3 D4 A c m15 (I A' 0 c') 0 0 0 (I none 0 0))) (ht:Blk w bt 3 #[C D 3]) (hv:Blk w bv 3 #[C D 2]) (hn:bt≠b) (HF:bv≠b) :
  Calls Tryz.prog 129 #[H (E ⟨b,0,F⟩),H (E ⟨bt,0,F⟩),H (E ⟨bv,0,F⟩)] w (ToP false b D0 D1 D2 D3 D4 ⟨1,3,2,0,0,[]⟩ 0 0 0 [] w):=by
 unfold wkC at hb;obtain ⟨q0,q1,q2,q3,q4,q5,q6,q7,q8,q9,H7,H8,H9,Hi,Hj,Hk,Hl,Hm,Hn,Ho,Hp,Hq,Hr⟩:=zdz hb;have p0:=ht.cell 0 rfl;have p1:=hv.cell 0 rfl;have HB:=L hb;have HT:=L ht;have HV:=L hv;clear hb ht hv q0 q1 q2 q3 q4 Hi Hj Hk Hl Hm Hn Ho Hp Hq Hr
 have H3:∀ W,Ext w W→W.cell? ⟨bt,0,F⟩=E (C D 3)∧W.cell? ⟨bv,0,F⟩=E (C D 2)∧W.cell? ⟨b,5,F⟩=E (C D 0)∧W.cell? ⟨b,6,F⟩=E (C D 0)∧W.cell? ⟨b,7,F⟩=E (C D 0)∧W.cell? ⟨b,8,F⟩=E (C D 1)∧W.cell? ⟨b,9,F⟩=E (J false)∧W.cell? ⟨b,10,F⟩=E (I A 0 c)∧W.cell? ⟨b,11,F⟩=E (C D 0)∧W.cell? ⟨b,12,F⟩=E (C D 0):=fun W h=>⟨h.cell p0,h.cell p1,h.cell q5,h.cell q6,h.cell q7,h.cell q8,h.cell q9,h.cell H7,h.cell H8,h.cell H9⟩
 have H0:=L H3;clear H3
 go_enter Tryz.func129,Tryz.ntmps129
 go_wp2_with fail
 refine zku (fun a' w'=>a'.defers=[]∧a'.tmps.size=29∧a'.tmps.getD 0 undef=H (E ⟨b,0,F⟩)∧a'.tmps.getD 1 undef=H (E ⟨bt,0,F⟩)∧a'.tmps.getD 2 undef=H (E ⟨bv,0,F⟩)∧a'.tmps.getD 4 undef=.bool false∧a'.tmps.getD 5 undef=C D 0∧a'.tmps.getD 7 undef=C D 0∧Ext w w') ?_ ?_
 ·refine wp_region_held_drew (S:=fun W=>W.cell? ⟨bt,0,F⟩=E (C D 3)∧W.cell? ⟨bv,0,F⟩=E (C D 2)∧W.cell? ⟨b,5,F⟩=E (C D 0)∧W.cell? ⟨b,6,F⟩=E (C D 0)∧W.cell? ⟨b,7,F⟩=E (C D 0)∧W.cell? ⟨b,8,F⟩=E (C D 1)∧W.cell? ⟨b,9,F⟩=E (J false)∧W.cell? ⟨b,10,F⟩=E (I A 0 c)∧W.cell? ⟨b,11,F⟩=E (C D 0)∧W.cell? ⟨b,12,F⟩=E (C D 0)) (by kernel_rfl) (H0.out _ (xD (xR _))) (fun _=>?_)
  clear p0 p1 q5 q6 q7 q8 q9 H7 H8 H9;refine tkN 0 ?_;refine tkN 1 ?_;refine tkN 2 ?_;refine tkN 3 ?_;refine tkN 4 ?_;refine tkN 5 ?_
  refine AllReadyH.two (i:=6) (j:=10) rfl rfl (by kernel_rfl) (by rfl) (by rfl) (fun K hK=>?_) (fun K hK=>?_)
  ·go_simp
   refine (zkA A c hc _).mono ?_
   rintro e w1 ⟨A1,c1,rfl,H2⟩;have H1:=L (xT (xD (xR w)) H2)
   refine shK hK _ _ (H0.out _ H1.out) (fun _=>?_)
   refine tkN 7 ?_;refine tkN 8 ?_;refine tkN 9 ?_
   refine ar1 10 (fun K hK=>?_)
   go_simp
   have H4:=Blk.new w1 44 #[C D 0,C D 0,C D 0,C D 0,J false,I none 0 0,C D 0,C D 0]
   refine shK hK _ _ (H0.out _ (xA H1.out _)) (fun _=>?_)
   obtain ⟨f0,f1,f2,f3,f4,f5,f6,f7⟩:=za9 H4
   refine ar1 11 (fun K hK=>?_)
   go_simp
   refine shK hK _ _ (H0.out _ (xA H1.out _)) (fun _=>?_)
   refine tkN 12 ?_;refine wdD ?_
   exact ⟨rfl,rfl,rfl,rfl,rfl,rfl,rfl,rfl,xA H1.out _⟩
  ·go_simp
   have H4:=Blk.new w.drew 44 #[C D 0,C D 0,C D 0,C D 0,J false,I none 0 0,C D 0,C D 0]
   have H5:Ext w (w.drew.alloc (.cells #[C D 0,C D 0,C D 0,C D 0,J false,I none 0 0,C D 0,C D 0] 44)):=xA (xD (xR _)) _
   refine shK hK _ _ (H0.out _ H5) (fun _=>?_)
   refine ar1 6 (fun K hK=>?_)
   go_simp
   refine (zkA A c hc _).mono ?_
   rintro e w1 ⟨A1,c1,rfl,H2⟩;have H1:=L (xT H5 H2)
   have Hb:Hid (Blk w1 w.heap.size 44 #[C D 0,C D 0,C D 0,C D 0,J false,I none 0 0,C D 0,C D 0]):=L (H4.ext H2)
   clear H4 H5 H2
   refine shK hK _ _ (H0.out _ H1.out) (fun _=>?_)
   refine tkN 7 ?_;refine tkN 8 ?_;refine tkN 9 ?_;obtain ⟨f0,f1,f2,f3,f4,f5,f6,f7⟩:=za9 Hb.out;obtain ⟨r0,r1,r2,r3,r4,r5,r6,r7⟩:=zaQ Hb.out
   refine ar1 11 (fun K hK=>?_)
   go_simp
   have Ha:=L (zbA H1.out (xN w.heap.size) (C D 0) (C D 0) (C D 0) (C D 1) (J false) (I A1 0 c1) (C D 3) (C D 2))
   refine shK hK _ _ (H0.out _ Ha.out) (fun _=>?_)
   refine tkN 12 ?_;refine wdD ?_
   exact ⟨rfl,rfl,rfl,rfl,rfl,rfl,rfl,rfl,Ha.out⟩
 ·rintro ⟨T,df⟩ w1 ⟨hd,H6,h0,h1,h2,h4,h5,h7,H2⟩
  dsimp only at hd H6 h0 h1 h2 h4 h5 h7;subst hd;have hT:=zdo 29 T H6
  generalize hU:(fun i=>T.getD i undef)=U at hT
  have g0:U 0=H (E ⟨b,0,F⟩):=by rw[←hU];exact h0
  have g1:U 1=H (E ⟨bt,0,F⟩):=by rw[←hU];exact h1
  have g2:U 2=H (E ⟨bv,0,F⟩):=by rw[←hU];exact h2
  have g4:U 4=.bool false:=by rw[←hU];exact h4
  have g5:U 5=C D 0:=by rw[←hU];exact h5
  have g7:U 7=C D 0:=by rw[←hU];exact h7
  have He:T = #[H (E ⟨b,0,F⟩),H (E ⟨bt,0,F⟩),H (E ⟨bv,0,F⟩),U 3,J false,C D 0,U 6,C D 0,U 8,U 9,U 10,U 11,U 12,U 13,U 14,U 15,U 16,U 17,U 18,U 19,U 20,U 21,U 22,U 23,U 24,U 25,U 26,U 27,U 28]:=by rw[hT];show (#[U 0,U 1,U 2,U 3,U 4,U 5,U 6,U 7,U 8,U 9,U 10,U 11,U 12,U 13,U 14,U 15,U 16,U 17,U 18,U 19,U 20,U 21,U 22,U 23,U 24,U 25,U 26,U 27,U 28]:Array Value)=_;rw[g0,g1,g2,g4,g5,g7]
  clear hT hU H6 g0 h0 g1 h1 g2 h2 g4 h4 g5 h5 g7 h7;subst He;have Hc:=L (HB.out.ext H2);have Hu:=L (HT.out.ext H2);have Hw:=L (HV.out.ext H2);have H1:=L H2;have g0:=Hu.out.cell 0 rfl;have g1:=Hw.out.cell 0 rfl;have HO:=Hc.out.frozen 14;have HX:=Hc.out.cell 14 rfl;clear H2 p0 p1 q5 q6 q7 q8 q9 H7 H8 H9 H0;go_wp2_with fail
  refine wp_region_held_drew (S:=fun W=>W.cell? ⟨bt,0,F⟩=E (C D 3)∧W.cell? ⟨bv,0,F⟩=E (C D 2)) (by kernel_rfl) ⟨g0,g1⟩ (fun _=>?_)
  refine tkN 0 ?_;refine tkN 1 ?_;refine tkN 2 ?_;refine tkN 3 ?_;refine tkN 4 ?_;refine tkN 5 ?_;refine tkN 6 ?_
  refine ar1 7 (fun K hK=>?_)
  go_simp
  have Hd:Hid (Blk (World.drew (w1.setCell ⟨b,14,F⟩ (C D 3))) b 168 #[D0,D1,D2,D3,D4,C D 0,C D 0,C D 0,C D 1,J false,I A 0 c,C D 0,C D 0,C D 1,C D 3,C D 0,C D 0,C D 0,I A' 0 c',C M 0,C D 0,C D 0,I none 0 0]):=L (Blk.ext (Hc.out.set 14 (C D 3)) (xD (xR _)))
  have Hv:=L (Blk.ext (Hu.out.other hn 14 (C D 3)) (xD (xR _)));have Hx:=L (Blk.ext (Hw.out.other HF 14 (C D 3)) (xD (xR _)))
  have HJ:Hid (zcz b w (World.drew (w1.setCell ⟨b,14,F⟩ (C D 3)))):=L fun W0 h0 hl=>xD (zhS (b:=b) H1.out 14 (C D 3) W0 h0 hl)
  have HK:Hid (KB b w (World.drew (w1.setCell ⟨b,14,F⟩ (C D 3)))):=L (Kept.drew ((KB.ext (b:=b) H1.out).set 14 (C D 3)))
  refine shK hK _ _ ⟨Hv.out.cell 0 rfl,Hx.out.cell 0 rfl⟩ (fun _=>?_)
  generalize World.drew (w1.setCell ⟨b,14,F⟩ (C D 3))=w2 at *
  clear HO HX;have HY:=Hd.out.frozen 15;have K0:=Hd.out.cell 15 rfl;refine tkN 8 ?_;refine tkN 9 ?_;refine tkN 10 ?_
  refine ar1 11 (fun K hK=>?_)
  go_simp
  have HI:Hid (Blk (w2.setCell ⟨b,15,F⟩ (C D 2)) b 168 #[D0,D1,D2,D3,D4,C D 0,C D 0,C D 0,C D 1,J false,I A 0 c,C D 0,C D 0,C D 1,C D 3,C D 2,C D 0,C D 0,I A' 0 c',C M 0,C D 0,C D 0,I none 0 0]):=L (Hd.out.set 15 (C D 2))
  have HL:=L (Hv.out.other hn 15 (C D 2));have HM:=L (Hx.out.other HF 15 (C D 2))
  refine shK hK _ _ ⟨HL.out.cell 0 rfl,HM.out.cell 0 rfl⟩ (fun _=>?_)
  refine wdD ?_;go_wp2_with fail
  go_ret2
  exact ⟨rfl,⟨A,c,I A' 0 c',I none 0 0,hc,HI.out,zfI _ _ Hg,zod _ _ (by decide)⟩,fun W0 h0 hl=>Below.setCell (p:=⟨b,15,F⟩) (HJ.out W0 h0 hl) hl _,HK.out.set 15 _⟩
theorem zqI (D0 D1 D2 D3 D4:Value) (A:Option Addr) (c:Nat) (hc:c≤9223372036854775807) (A':Option Addr) (c':Nat) (Hg:c'≤9223372036854775807) (b bf bm:Nat) (w:World) (hb:Blk w b 168 (wkC D0 D1 D2 D3 D4 A c m15 (I A' 0 c') 0 0 0 (I none 0 0))) (hf:Blk w bf 3 #[C D 1]) (hm:Blk w bm 3 #[C D 1]) :
  Calls Tryz.prog 124 #[H (E ⟨b,0,F⟩),H (E ⟨bf,0,F⟩),H (E ⟨bm,0,F⟩)] w (ToP true b D0 D1 D2 D3 D4 m15 0 0 0 [] w):=by
 have HN:=L hb;unfold wkC at hb;obtain ⟨q0,q1,q2,q3,q4,q5,q6,q7,q8,q9,H7,H8,H9,Hi,Hj,Hk,Hl,Hm,Hn,Ho,Hp,Hq,Hr⟩:=zdz hb;have p0:=hf.cell 0 rfl;have p1:=hm.cell 0 rfl
 have H3:∀ W,Ext w W→W.cell? ⟨bf,0,F⟩=E (C D 1)∧W.cell? ⟨bm,0,F⟩=E (C D 1)∧W.cell? ⟨b,5,F⟩=E (C D 0)∧W.cell? ⟨b,6,F⟩=E (C D 0)∧W.cell? ⟨b,7,F⟩=E (C D 0)∧W.cell? ⟨b,8,F⟩=E (C D 1)∧W.cell? ⟨b,9,F⟩=E (J false)∧W.cell? ⟨b,10,F⟩=E (I A 0 c)∧W.cell? ⟨b,11,F⟩=E (C D 0)∧W.cell? ⟨b,12,F⟩=E (C D 0):=fun W h=>⟨h.cell p0,h.cell p1,h.cell q5,h.cell q6,h.cell q7,h.cell q8,h.cell q9,h.cell H7,h.cell H8,h.cell H9⟩
 have H0:=L H3
 have Hf:Ext w (w.alloc (.cells #[H (E ⟨b,0,F⟩)] 164)):=xA (xR _) _
 have Hy:=L Hf;have Hs:=L (Blk.new w 164 #[H (E ⟨b,0,F⟩)]);clear H3 hb hf hm p0 p1 q0 q1 q2 q3 q4 q5 q6 q7 q8 q9 H7 H8 H9 Hi Hj Hk Hl Hm Hn Ho Hp Hq Hr
 have hS:∀ W,Ext (w.alloc (.cells #[H (E ⟨b,0,F⟩)] 164)) W→W.cell? ⟨w.heap.size,0,F⟩=E (H (E ⟨b,0,F⟩))∧W.cell? ⟨bf,0,F⟩=E (C D 1)∧W.cell? ⟨bm,0,F⟩=E (C D 1)∧W.cell? ⟨b,5,F⟩=E (C D 0)∧W.cell? ⟨b,6,F⟩=E (C D 0)∧W.cell? ⟨b,7,F⟩=E (C D 0)∧W.cell? ⟨b,8,F⟩=E (C D 1)∧W.cell? ⟨b,9,F⟩=E (J false)∧W.cell? ⟨b,10,F⟩=E (I A 0 c)∧W.cell? ⟨b,11,F⟩=E (C D 0)∧W.cell? ⟨b,12,F⟩=E (C D 0):=fun W h=>⟨(Hs.out.ext h).cell 0 rfl,H0.out W (xT Hf h)⟩
 have HS:=L hS;clear hS Hf H0 Hs
 go_enter Tryz.func124,Tryz.ntmps124
 go_wp2_with fail;obtain ⟨w0,HH⟩:∃ x,w.alloc (.cells #[H (E ⟨b,0,F⟩)] 164)=x:=⟨_,rfl⟩
 rw[HH] at HS Hy ⊢
 clear HH
 refine zku (fun a' w'=>a'.defers=[]∧a'.tmps.size=148∧a'.tmps.getD 1 undef=H (E ⟨bf,0,F⟩)∧a'.tmps.getD 2 undef=H (E ⟨bm,0,F⟩)∧a'.tmps.getD 3 undef=H (E ⟨w.heap.size,0,F⟩)∧a'.tmps.getD 4 undef=.bool false∧a'.tmps.getD 5 undef=C D 0∧a'.tmps.getD 7 undef=C D 0∧Ext w0 w') ?_ ?_
 ·refine wp_region_held_drew (S:=fun W=>W.cell? ⟨w.heap.size,0,F⟩=E (H (E ⟨b,0,F⟩))∧W.cell? ⟨bf,0,F⟩=E (C D 1)∧W.cell? ⟨bm,0,F⟩=E (C D 1)∧W.cell? ⟨b,5,F⟩=E (C D 0)∧W.cell? ⟨b,6,F⟩=E (C D 0)∧W.cell? ⟨b,7,F⟩=E (C D 0)∧W.cell? ⟨b,8,F⟩=E (C D 1)∧W.cell? ⟨b,9,F⟩=E (J false)∧W.cell? ⟨b,10,F⟩=E (I A 0 c)∧W.cell? ⟨b,11,F⟩=E (C D 0)∧W.cell? ⟨b,12,F⟩=E (C D 0)) (by kernel_rfl) (HS.out _ (xD (xR _))) (fun _=>?_)
  refine tkN 0 ?_;refine tkN 1 ?_;refine tkN 2 ?_;refine tkN 3 ?_;refine tkN 4 ?_
  refine AllReadyH.two (i:=5) (j:=9) rfl rfl (by kernel_rfl) (by rfl) (by rfl) (fun K hK=>?_) (fun K hK=>?_)
  ·go_simp
   refine (zlS A c hc _).mono ?_
   rintro e w1 ⟨A1,c1,rfl,H2⟩;have H1:=L (xT (xD (xR w0)) H2)
   refine shK hK _ _ (HS.out _ H1.out) (fun _=>?_)
   refine tkN 6 ?_;refine tkN 7 ?_;refine tkN 8 ?_
   refine ar1 9 (fun K hK=>?_)
   go_simp
   have H4:=Blk.new w1 44 #[C D 0,C D 0,C D 0,C D 0,J false,I none 0 0,C D 0,C D 0]
   refine shK hK _ _ (HS.out _ (xA H1.out _)) (fun _=>?_)
   obtain ⟨f0,f1,f2,f3,f4,f5,f6,f7⟩:=za9 H4
   refine ar1 10 (fun K hK=>?_)
   go_simp
   refine shK hK _ _ (HS.out _ (xA H1.out _)) (fun _=>?_)
   refine tkN 11 ?_;refine wdD ?_
   exact ⟨rfl,rfl,rfl,rfl,rfl,rfl,rfl,rfl,xA H1.out _⟩
  ·go_simp
   have H4:=Blk.new w0.drew 44 #[C D 0,C D 0,C D 0,C D 0,J false,I none 0 0,C D 0,C D 0]
   have H5:Ext w0 (w0.drew.alloc (.cells #[C D 0,C D 0,C D 0,C D 0,J false,I none 0 0,C D 0,C D 0] 44)):=xA (xD (xR _)) _
   refine shK hK _ _ (HS.out _ H5) (fun _=>?_)
   refine ar1 5 (fun K hK=>?_)
   go_simp
   refine (zlS A c hc _).mono ?_
   rintro e w1 ⟨A1,c1,rfl,H2⟩;have H1:=L (xT H5 H2)
   have Hb:Hid (Blk w1 w0.heap.size 44 #[C D 0,C D 0,C D 0,C D 0,J false,I none 0 0,C D 0,C D 0]):=L (H4.ext H2)
   clear H4 H5 H2
   refine shK hK _ _ (HS.out _ H1.out) (fun _=>?_)
   refine tkN 6 ?_;refine tkN 7 ?_;refine tkN 8 ?_;obtain ⟨f0,f1,f2,f3,f4,f5,f6,f7⟩:=za9 Hb.out;obtain ⟨r0,r1,r2,r3,r4,r5,r6,r7⟩:=zaQ Hb.out
   refine ar1 10 (fun K hK=>?_)
   go_simp
   have Ha:=L (zbA H1.out (xN w0.heap.size) (C D 0) (C D 0) (C D 0) (C D 1) (J false) (I A1 0 c1) (C D 0) (C D 0))
   refine shK hK _ _ (HS.out _ Ha.out) (fun _=>?_)
   refine tkN 11 ?_;refine wdD ?_
   exact ⟨rfl,rfl,rfl,rfl,rfl,rfl,rfl,rfl,Ha.out⟩
 ·rintro ⟨T,df⟩ w1 ⟨hd,H6,h1,h2,h3,h4,h5,h7,H2⟩
  dsimp only at hd H6 h1 h2 h3 h4 h5 h7;subst hd;have hT:=zdo 148 T H6
  generalize hU:(fun i=>T.getD i undef)=U at hT
  have g1:U 1=H (E ⟨bf,0,F⟩):=by rw[←hU];exact h1
  have g2:U 2=H (E ⟨bm,0,F⟩):=by rw[←hU];exact h2
  have g3:U 3=H (E ⟨w.heap.size,0,F⟩):=by rw[←hU];exact h3
  have g4:U 4=.bool false:=by rw[←hU];exact h4
  have g5:U 5=C D 0:=by rw[←hU];exact h5
  have g7:U 7=C D 0:=by rw[←hU];exact h7
  have He:T = #[U 0,H (E ⟨bf,0,F⟩),H (E ⟨bm,0,F⟩),H (E ⟨w.heap.size,0,F⟩),J false,C D 0,U 6,C D 0,U 8,U 9,U 10,U 11,U 12,U 13,U 14,U 15,U 16,U 17,U 18,U 19,U 20,U 21,U 22,U 23,U 24,U 25,U 26,U 27,U 28,U 29,U 30,U 31,U 32,U 33,U 34,U 35,U 36,U 37,U 38,U 39,U 40,U 41,U 42,U 43,U 44,U 45,U 46,U 47,U 48,U 49,U 50,U 51,U 52,U 53,U 54,U 55,U 56,U 57,U 58,U 59,U 60,U 61,U 62,U 63,U 64,U 65,U 66,U 67,U 68,U 69,U 70,U 71,U 72,U 73,U 74,U 75,U 76,U 77,U 78,U 79,U 80,U 81,U 82,U 83,U 84,U 85,U 86,U 87,U 88,U 89,U 90,U 91,U 92,U 93,U 94,U 95,U 96,U 97,U 98,U 99,U 100,U 101,U 102,U 103,U 104,U 105,U 106,U 107,U 108,U 109,U 110,U 111,U 112,U 113,U 114,U 115,U 116,U 117,U 118,U 119,U 120,U 121,U 122,U 123,U 124,U 125,U 126,U 127,U 128,U 129,U 130,U 131,U 132,U 133,U 134,U 135,U 136,U 137,U 138,U 139,U 140,U 141,U 142,U 143,U 144,U 145,U 146,U 147]:=by rw[hT];show (#[U 0,U 1,U 2,U 3,U 4,U 5,U 6,U 7,U 8,U 9,U 10,U 11,U 12,U 13,U 14,U 15,U 16,U 17,U 18,U 19,U 20,U 21,U 22,U 23,U 24,U 25,U 26,U 27,U 28,U 29,U 30,U 31,U 32,U 33,U 34,U 35,U 36,U 37,U 38,U 39,U 40,U 41,U 42,U 43,U 44,U 45,U 46,U 47,U 48,U 49,U 50,U 51,U 52,U 53,U 54,U 55,U 56,U 57,U 58,U 59,U 60,U 61,U 62,U 63,U 64,U 65,U 66,U 67,U 68,U 69,U 70,U 71,U 72,U 73,U 74,U 75,U 76,U 77,U 78,U 79,U 80,U 81,U 82,U 83,U 84,U 85,U 86,U 87,U 88,U 89,U 90,U 91,U 92,U 93,U 94,U 95,U 96,U 97,U 98,U 99,U 100,U 101,U 102,U 103,U 104,U 105,U 106,U 107,U 108,U 109,U 110,U 111,U 112,U 113,U 114,U 115,U 116,U 117,U 118,U 119,U 120,U 121,U 122,U 123,U 124,U 125,U 126,U 127,U 128,U 129,U 130,U 131,U 132,U 133,U 134,U 135,U 136,U 137,U 138,U 139,U 140,U 141,U 142,U 143,U 144,U 145,U 146,U 147]:Array Value)=_;rw[g1,g2,g3,g4,g5,g7]
  clear hT hU H6 g1 h1 g2 h2 g3 h3 g4 h4 g5 h5 g7 h7;subst He;have H1:=L H2;clear H2;obtain ⟨g0,g1,g2,g5,g6,g7,g8,g9,Hz,HA,HD⟩:=HS.out _ H1.out;go_wp2_with fail
  refine (zfR A c 0 0 _).mono ?_
  rintro e w2 ⟨rfl,HE⟩;have Ht:=L (xT H1.out HE);clear HE g0 g1 g2 g5 g6 g7 g8 g9 Hz HA HD;obtain ⟨g0,g1,g2,g5,g6,g7,g8,g9,Hz,HA,HD⟩:=HS.out _ Ht.out;go_wp2_with fail
  go_ret2
  have hE:=xT Hy.out Ht.out
  exact ⟨rfl,⟨A,c,I A' 0 c',I none 0 0,hc,HN.out.ext hE,zfI _ _ Hg,zod _ _ (by decide)⟩,fun W0 h0 _=>xT h0 hE,KB.ext hE⟩
end Go.Proofs.YteggfecbjgbndaaGreatDoor
