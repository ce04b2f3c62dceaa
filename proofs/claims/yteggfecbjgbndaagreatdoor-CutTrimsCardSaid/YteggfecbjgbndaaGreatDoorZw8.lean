/- Merged -/
import Derived.Test.YteggfecbjgbndaaGreatDoorZw6
import Derived.Test.YteggfecbjgbndaaGreatDoorZw7
import Derived.StillTailTactics
import Derived.Deep.QuietTactic
import Derived.BigQuiet
set_option linter.all false
set_option maxHeartbeats 8000000
set_option maxRecDepth 100000
open Go.Value renaming int→B,bool→H,slice→I,agg→M
open Go.IntKind renaming i64→C,u8→G
open Option renaming none→D,some→E
open Go.Proofs.Tryz renaming prog→F
open Go.Obj renaming cells→J
open Go.Mv renaming zhd→L
open Go.RowKit.Below renaming setCell→P0
open Go.Region renaming ready→P1,wanted→P2,noSelect→P3,free→P4
open Go.World renaming ownsRow_nil→P5
open List renaming length_drop→P6,take_of_length_le→P7,append_nil→P8,length_take→P9,eq_nil_of_length_eq_zero→Pa,drop_of_length_le→Pb,length_pos_iff→Pc,take_left'→Pd,map_append→Pe,length_nil→Pf
open Go.Oper renaming semAt_some→Pg,wp→Ph
open UInt8 renaming ofNat→Pi
open Bool renaming eq_iff_iff→Pj,and_eq_true→Pk
open Nat renaming zero_add→Pl,zero_le→Pm,eq_zero_or_pos→Pn,strongRecOn→Po
namespace Go.Proofs.YteggfecbjgbndaaGreatDoor
open Go.RowKit Go.Mv Go.Shelf
attribute [local go_sem] Pg
theorem zeq:(Tryz.prog.info? 54).map (fun i=>(i.zero,i.size,i.bytes))=E (some (M #[B C 0,B C 0,B C 0]),3,24):=by kernel_rfl
theorem zkY (l:List Int):l.length≤(zao l).length:=by
 induction l with
 | nil=>exact xN _
 | cons n l ih =>
  have h:=(zjV n.toNat).1
  rw[show zao (n::l)=zbC n.toNat++zao l from rfl,xL,xC]
  omega
def zoH (w:World) (r:zih) (e:Ending) (w':World):Prop :=
 ∃ vl vz,e=.returned (.tuple #[M #[B C r.first,vl,B C r.used],vz,B C r.err])∧w'.ownsRow w.heap.size 54 3 vl r.log.length (zat r.log)∧PtV vz r.pt∧Ext w w'
theorem zf0 {bs:List UInt8} (h:zdi bs=none):zdE bs=⟨11,0,[],0,(0,0)⟩:=by unfold zdE;rw[h]
theorem zrm {bs:List UInt8} {first:Nat} {r:List UInt8} (h:zdi bs=E (first,r)):zdE bs=⟨0,first,[]++(zcd (zas (0,0) (zcP (first:Int)).2) r).1,bs.length-(zcd (zas (0,0) (zcP (first:Int)).2) r).2.2.length,(zcd (zas (0,0) (zcP (first:Int)).2) r).2.1⟩:=by unfold zdE;rw[h];rfl
theorem zim {w:World} {r:zih} (h:r=⟨11,0,[],0,(0,0)⟩) {W:World} (hE:Ext w W):zoH w r (.returned (.tuple #[M #[B C 0,I none 0 0,B C 0],.complex .f64 0 0,B C 11])) W:=by
 subst h
 exact ⟨_,_,rfl,P5 _ _ _ _,PtV.zero,hE⟩
theorem znn (es:List Ent):1+es.length≤(zaL es).length:=by
 have h:es.length≤(es.flatMap zdf).length:=by
  induction es with
  | nil=>exact xN _
  | cons e es ih =>
   have h1:=zkY [e.t,e.k,e.v]
   have h2:3≤(zdf e).length:=h1
   rw[List.flatMap_cons,xL,xC];omega
 unfold zaL;rw[xC];omega
theorem zfz (es:List Ent):∀ u∈zat es,u.oneCell'=true:=by
 intro u hu;obtain ⟨e,_,h⟩:=List.mem_flatMap.1 hu
 simp[Ent.cells] at h
 rcases h with rfl | rfl | rfl <;> rfl
open Go.RowKit Go.Mv
def zii (w:World) (r:zih) (e:Ending) (w':World):Prop :=
 ∃ vl,e=.returned (.tuple #[M #[B C r.first,vl,B C r.used],B C r.err])∧w'.ownsRow w.heap.size 54 3 vl r.log.length (zat r.log)∧Ext w w'
def OwnB (w:World) (base:Nat) (v:Value) (bs:List UInt8):Prop:=w.ownsRow base 5 1 v bs.length (bs.map bv)
def OwnE (w:World) (base:Nat) (v:Value) (es:List Ent):Prop:=w.ownsRow base 54 3 v es.length (zat es)
def zcz (base:Nat) (w w':World):Prop:=∀ W0,Ext W0 w→W0.heap.size≤base→Ext W0 w'
theorem OwnB.bs {w:World} {base:Nat} {v:Value} {l:List UInt8} (h:OwnB w base v l):Bs w v l:=xW h
theorem OwnE.es {w:World} {base:Nat} {v:Value} {l:List Ent} (h:OwnE w base v l):Es w v l:=xW h
theorem OwnB.ext {w w':World} {base:Nat} {v:Value} {l:List UInt8} (h:OwnB w base v l) (he:Ext w w'):OwnB w' base v l:=zab h he
theorem OwnE.ext {w w':World} {base:Nat} {v:Value} {l:List Ent} (h:OwnE w base v l) (he:Ext w w'):OwnE w' base v l:=zab h he
theorem zci (W:World):OwnB (W.alloc (J #[] 5)) W.heap.size (I (E ⟨W.heap.size,0,D⟩) 0 0) []:=zaG W [] 5 0 rfl (by simp[maxLen]) (xN _)
theorem zaX {ops:Array Oper} {rest:List Oper} {o:Oper} {a:Act} {w:World} {Q:Exit→Act→World→Prop} (He:o.guard=none) (s x:Operand)
  (ho:o.op=.call { callee:=.builtin .append,args:=#[s,x],argTypes:=#[33,33] })
  (base:Nat) (v:Value) (bs:List UInt8) (hs:a.eval s=v) (H1:OwnB w base v bs) (vx:Value) (cs:List UInt8) (hx:a.eval x=vx) (hr:Bs w vx cs)
  (H8:bs.length+cs.length≤40000000) (H3:base≤w.heap.size)
  (h:∀ A c w',OwnB w' base (I A (bs.length+cs.length) c) (bs++cs)→zcz base w w'→wpList F ops Q rest (a.put o.dst (I A (bs.length+cs.length) c)) w'):wpList F ops Q (o::rest) a w:=by
 obtain ⟨i0,hi,Hu,Hv,Hw⟩:=info_parts zb0
 refine zaC _ He s x 33 ho base 5 i0 (B G 0) 1 1 Tryz.underlying33 hi Hu Hv Hw rfl (by decide) v bs.length (bs.map bv) hs H1 vx cs.length (cs.map bv) hx hr (zbI _) (by unfold maxLen;omega) (by omega) H3 ?_
 intro v' w' h1 h2;obtain ⟨A,c,rfl,_,_⟩:=xO (xW h1)
 refine h A c w' ?_ (fun W0 hE hb=>Ext.grownOwn hE (zaf H1 hb) h2)
 unfold OwnB;rw[xL,Pe]
 exact h1
theorem zm6 {ops:Array Oper} {rest:List Oper} {o:Oper} {a:Act} {w:World} {Q:Exit→Act→World→Prop} (He:o.guard=none) (s x:Operand)
  (ho:o.op=.call { callee:=.builtin .append,args:=#[s,x],argTypes:=#[42,42] })
  (base:Nat) (v:Value) (bs:List Ent) (hs:a.eval s=v) (H1:OwnE w base v bs) (vx:Value) (cs:List Ent) (hx:a.eval x=vx) (hr:Es w vx cs)
  (H8:bs.length+cs.length≤2000000) (H3:base≤w.heap.size)
  (h:∀ A c w',OwnE w' base (I A (bs.length+cs.length) c) (bs++cs)→zcz base w w'→wpList F ops Q rest (a.put o.dst (I A (bs.length+cs.length) c)) w'):wpList F ops Q (o::rest) a w:=by
 obtain ⟨i0,hi,Hu,Hv,Hw⟩:=info_parts zeq
 refine zaC _ He s x 42 ho base 54 i0 _ 3 24 Tryz.underlying42 hi Hu Hv Hw rfl (by decide) v bs.length (zat bs) hs H1 vx cs.length (zat cs) hx hr (zfz _) (by unfold maxLen;omega) (by omega) H3 ?_
 intro v' w' h1 h2;obtain ⟨A,c,rfl,_,_⟩:=xO (xW h1)
 refine h A c w' ?_ (fun W0 hE hb=>Ext.grownOwn hE (zaf H1 hb) h2)
 unfold OwnE
 rw[xL,show zat (bs++cs)=zat bs++zat cs from by simp[zat]]
 exact h1
section
variable {P:Program} {ops:Array Oper} {Q:Exit→Act→World→Prop} {md:Region.Mode} {S:World→Prop}
theorem zej {i:Nat} {oi:Oper} {v:Value} {fuel:Nat} {listed:Array Bool} {a:Act} {w:World} (hi:ops.toList[i]?=E oi)
  (hs:P3 ops=true) (hf:P4 md ops listed i=true) (hr:(P1 md ops listed).contains i=true)
  (hQ:∀ c a w,Q (.panic c) (a.put oi.dst v) w→Q (.panic c) a w) (hw:P2 oi (yielded ops a.tmps)=true) (hS:S w) (hy:∀ w,S w→(execOp a.eval oi).run P w=.ok (.value v) w)
  (h:wpAnyH P md ops Q S fuel (listed.setIfInBounds i true) (a.put oi.dst v) w):wpAnyH P md ops Q S (fuel+1) listed a w :=
 wpAnyH_take (by simpa using hi) hs hf hr hQ (.inl ⟨hw,hy⟩) hS h
theorem tkL (i:Nat) {oi:Oper} {v:Value} {fuel:Nat} {listed:Array Bool} {a:Act} {w:World}
  (h:wpAnyH P md ops Q S fuel (listed.setIfInBounds i true) (a.put oi.dst v) w) (hi:ops.toList[i]?=some oi:=by exact rfl) (hy:∀ w,S w→(execOp a.eval oi).run P w=.ok (.value v) w:=by (intro w hw;(try dsimp only at hw);go_simp;try with_reducible rfl)) (hs:Region.noSelect ops=true:=by kernel_rfl) (hf:Region.free md ops listed i=true:=by kernel_rfl) (hr:(Region.ready md ops listed).contains i=true:=by kernel_rfl)
  (hQ:∀ c a w,Q (.panic c) (a.put oi.dst v) w→Q (.panic c) a w:=by exact fun _ _ _ h=>h) (hw:Region.wanted oi (yielded ops a.tmps)=true:=by rfl) (hS:S w:=by assumption):wpAnyH P md ops Q S (fuel+1) listed a w :=
 zej hi hs hf hr hQ hw hS hy h
theorem tkH (i:Nat) {oi:Oper} {v:Value} {fuel:Nat} {listed:Array Bool} {a:Act} {w:World} (hy:∀ w,S w→(execOp a.eval oi).run P w=.ok (.value v) w)
  (h:wpAnyH P md ops Q S fuel (listed.setIfInBounds i true) (a.put oi.dst v) w) (hi:ops.toList[i]?=some oi:=by exact rfl) (hs:Region.noSelect ops=true:=by kernel_rfl) (hf:Region.free md ops listed i=true:=by kernel_rfl) (hr:(Region.ready md ops listed).contains i=true:=by kernel_rfl)
  (hQ:∀ c a w,Q (.panic c) (a.put oi.dst v) w→Q (.panic c) a w:=by exact fun _ _ _ h=>h) (hw:Region.wanted oi (yielded ops a.tmps)=true:=by rfl) (hS:S w:=by assumption):wpAnyH P md ops Q S (fuel+1) listed a w :=
 zej hi hs hf hr hQ hw hS hy h
theorem tkN (i:Nat) {oi:Oper} {v:Value} {fuel:Nat} {listed:Array Bool} {a a':Act} {w:World}
  (h:wpAnyH P md ops Q S fuel (listed.setIfInBounds i true) a' w) (hi:ops.toList[i]?=some oi:=by exact rfl) (hy:∀ w,S w→(execOp a.eval oi).run P w=.ok (.value v) w:=by (intro w hw;(try dsimp only at hw);go_simp;try with_reducible rfl)) (hp:a.put oi.dst v=a':=by (first | (simp only[Act.put,sA,sZ,sS];done) | (simp only[Act.put,sA,sZ,sS];rfl) | rfl)) (hs:Region.noSelect ops=true:=by kernel_rfl) (hf:Region.free md ops listed i=true:=by kernel_rfl) (hr:(Region.ready md ops listed).contains i=true:=by kernel_rfl)
  (hQ:∀ c a w,Q (.panic c) (a.put oi.dst v) w→Q (.panic c) a w:=by exact fun _ _ _ h=>h) (hw:Region.wanted oi (yielded ops a.tmps)=true:=by rfl) (hS:S w:=by assumption):wpAnyH P md ops Q S (fuel+1) listed a w:=by
 subst hp
 exact zej hi hs hf hr hQ hw hS hy h
theorem zm2 {i:Nat} {oi:Oper} {fuel:Nat} {listed:Array Bool} {a:Act} {w:World} (hi:ops.toList[i]?=E oi)
  (hs:P3 ops=true) (hf:P4 md ops listed i=true) (hr:(P1 md ops listed).contains i=true)
  (hQ:∀ c a w,Q (.panic c) (a.put oi.dst undef) w→Q (.panic c) a w) (hw:P2 oi (yielded ops a.tmps)=false) (hS:S w)
  (h:wpAnyH P md ops Q S fuel (listed.setIfInBounds i true) (a.put oi.dst undef) w):wpAnyH P md ops Q S (fuel+1) listed a w :=
 wpAnyH_take (by simpa using hi) hs hf hr hQ (.inr ⟨hw,rfl⟩) hS h
theorem tkS (i:Nat) {oi:Oper} {fuel:Nat} {listed:Array Bool} {a a':Act} {w:World}
  (h:wpAnyH P md ops Q S fuel (listed.setIfInBounds i true) a' w) (hi:ops.toList[i]?=some oi:=by exact rfl) (hp:a.put oi.dst undef=a':=by (first | (simp only[Act.put,sA,sZ,sS];done) | (simp only[Act.put,sA,sZ,sS];rfl) | rfl)) (hs:Region.noSelect ops=true:=by kernel_rfl) (hf:Region.free md ops listed i=true:=by kernel_rfl) (hr:(Region.ready md ops listed).contains i=true:=by kernel_rfl)
  (hQ:∀ c a w,Q (.panic c) (a.put oi.dst undef) w→Q (.panic c) a w:=by exact fun _ _ _ h=>h) (hw:Region.wanted oi (yielded ops a.tmps)=false:=by rfl) (hS:S w:=by assumption):wpAnyH P md ops Q S (fuel+1) listed a w:=by
 subst hp
 exact zm2 hi hs hf hr hQ hw hS h
theorem AllReadyH.one {fuel:Nat} {listed:Array Bool} {a:Act} {w:World} {i:Nat} {o:Oper} (ho:ops.toList[i]?=E o) (hr:P1 md ops listed=[i]) (hw:P2 o (yielded ops a.tmps)=true)
  (h:∀ K':Act→World→Prop,Shut (∀ a w,S w→(S w→wpAnyH P md ops Q S fuel (listed.setIfInBounds i true) a w)→K' a w)→Ph P o a w K' Q):wpAnyH P md ops Q S (fuel+1) listed a w :=
 wpAnyH_ready hr (by simp) (AllReadyH.cons (by simpa using ho) (fun K hK=>by rw[if_pos hw];exact h K hK) AllReadyH.nil)
theorem shK {K:Act→World→Prop} {fuel:Nat} {listed:Array Bool} (hK:Shut (∀ a w,S w→(S w→wpAnyH P md ops Q S fuel listed a w)→K a w)) (a:Act) (w:World) {a':Act} (hS:S w) (h:S w→wpAnyH P md ops Q S fuel listed a' w) (hp:a=a':=by (first | (simp only[Act.put,sA,sZ,sS];done) | (simp only[Act.put,sA,sZ,sS];rfl) | rfl)):K a w:=by
 subst hp
 exact hK.out _ _ hS h
theorem ar1 (i:Nat) {fuel:Nat} {listed:Array Bool} {a:Act} {w:World} {o:Oper} (h:∀ K':Act→World→Prop,Shut (∀ a w,S w→(S w→wpAnyH P md ops Q S fuel (listed.setIfInBounds i true) a w)→K' a w)→Oper.wp P o a w K' Q) (ho:ops.toList[i]?=some o:=by exact rfl) (hr:Region.ready md ops listed=[i]:=by kernel_rfl) (hw:Region.wanted o (yielded ops a.tmps)=true:=by rfl):wpAnyH P md ops Q S (fuel+1) listed a w:=AllReadyH.one ho hr hw h
theorem wdD {listed:Array Bool} {a:Act} {w:World} {fuel:Nat} (h:Q .normal a w) (hr:Region.ready md ops listed=[]:=by kernel_rfl):wpAnyH P md ops Q S fuel listed a w:=wpAnyH_done hr h fuel
end
def zuN (W:World) (b:Nat) (a v u:Value):World:=((W.setCell ⟨b,0,D⟩ a).setCell ⟨b,1,D⟩ v).setCell ⟨b,2,D⟩ u
theorem zfC {W:World} {b:Nat} {t:TypeId} {a v u:Value} (hB:Blk W b t #[a,v,u]) {e:TypeId} (HK:t≠e) {base size k:Nat} {y:Value} {xs:List Value} (hr:W.ownsRow base e size y k xs) (a' v' u':Value):(zuN W b a' v' u').ownsRow base e size y k xs:=by
 have r1:=hr.kept (zad _ b 0 a') (.inr (hB.not_row HK hr).symm);have b1:=hB.set 0 a';have r2:=r1.kept (zad _ b 1 v') (.inr (b1.not_row HK r1).symm);have b2:=b1.set 1 v'
 exact r2.kept (zad _ b 2 u') (.inr (b2.not_row HK r2).symm)
theorem zbM {w W:World} (h:Ext w W) {b:Nat} (HJ:w.heap.size≤b) (a v u:Value):Ext w (zuN W b a v u) :=
 P0 (p:=⟨b,2,D⟩) (P0 (p:=⟨b,1,D⟩) (P0 (p:=⟨b,0,D⟩) h HJ _) HJ _) HJ _
open Go.RowKit Go.Mv
variable {T:Tab}
theorem zjb (s:Nat) (bs:List UInt8) (h:s<4294967296):zcb T s bs<4294967296:=ze5 _ (zi7 _ _ (ze5 _ h))
theorem zgU (p:Nat) (A:Option Addr) (c:Nat) (bs:List UInt8) (w:World) (hc:w.cell? ⟨p,0,D⟩=E (I A bs.length c)) (h:Bs w (I A bs.length c) bs) (H8:bs.length≤2000000) (hT:TabW T w) :
  Calls F 145 #[I (E ⟨p,0,D⟩) 1 1] w fun e w'=>e=.returned (.int .u32 (zcb T 0 bs))∧Ext w w':=by
 have HP:=L h;have HT:=L hT;clear h hT
 go_enter Tryz.func145,Tryz.ntmps145
 go_wp2_with fail
 go_loopw [2,7] (fun s i wr=>∃ k sn:Nat,k≤1∧s=.int .u32 sn∧i=B C k∧Hid (sn=if k=0 then 0 else zcb T 0 bs)∧Ext w wr) (fun _ i _=>1-(intOf i).toNat)
 case atStart=>exact ⟨0,0,by omega,rfl,rfl,rfl,xR _⟩
 case round =>
  obtain ⟨k,sn,hk,rfl,rfl,Hs,hE⟩:=hrel;have Kn:=hE.cell hc
  by_cases hlt:k<1
  ·obtain rfl:k=0:=by omega
   obtain rfl:sn=0:=Hs.out
   go_wp2_with (go_at_call 202;refine (znu 0 (by decide) _ bs wr (HP.out.ext hE) H8 (HT.out.ext hE)).mono ?_;rintro e w1 ⟨rfl,H0⟩)
   go_roundw
   case rel=>exact ⟨1,zcb T 0 bs,by omega,rfl,rfl,rfl,xT hE H0⟩
   case measure=>simp[intOf]
  ·obtain rfl:k=1:=by omega
   obtain rfl:sn=zcb T 0 bs:=Hs.out
   go_wp2_with fail;go_ret
   exact ⟨rfl,hE⟩
def zdh (s:Nat):List UInt8:=[Pi s,Pi (s / 256),Pi (s / 65536),Pi (s / 16777216)]
def zpk (s k:Nat):Array Value:=#[if 0<k then B G ((s:Int) % 256) else B G 0,if 1<k then B G ((s:Int) / 256 % 256) else B G 0,if 2<k then B G ((s:Int) / 65536 % 256) else B G 0,if 3<k then B G ((s:Int) / 16777216 % 256) else B G 0]
theorem zpl (s:Nat):zpk s 4=((zdh s).map bv).toArray:=by simp[zpk,zdh,bv]
theorem zgg (s:Nat) (hs:s<4294967296) (w:World):Calls F 144 #[.int .u32 s] w fun e w'=>e=.returned (.agg ((zdh s).map bv).toArray)∧Ext w w':=by
 go_enter Tryz.func144,Tryz.ntmps144
 go_wp2_with fail
 go_loopw [4] (fun i wr=>∃ k:Nat,k≤4∧i=B C k∧Blk wr w.heap.size 188 (zpk s k)∧Ext w wr) (fun i _=>4-(intOf i).toNat)
 case atStart=>exact ⟨0,by omega,rfl,Blk.new w _ _,xA (xR _) _⟩
 case round =>
  obtain ⟨k,hk,rfl,hB,hE⟩:=hrel
  rcases (by omega:k=0∨k=1∨k=2∨k=3∨k=4) with rfl | rfl | rfl | rfl | rfl
  ·have H2:Blk wr w.heap.size 188 #[B G 0,B G 0,B G 0,B G 0]:=hB
   obtain ⟨c0,c1,c2,c3,f0,f1,f2,f3⟩:=blk4 H2;go_wp2_with fail
   go_roundw
   case rel=>exact ⟨1,by omega,rfl,H2.set 0 _,P0 (p:=⟨w.heap.size,0,D⟩) hE (xN _) _⟩
   case measure=>simp[intOf]
  ·have H2:Blk wr w.heap.size 188 #[B G ((s:Int) % 256),B G 0,B G 0,B G 0]:=hB
   obtain ⟨c0,c1,c2,c3,f0,f1,f2,f3⟩:=blk4 H2;go_wp2_with fail
   go_roundw
   case rel=>exact ⟨2,by omega,rfl,H2.set 1 _,P0 (p:=⟨w.heap.size,1,D⟩) hE (xN _) _⟩
   case measure=>simp[intOf]
  ·have H2:Blk wr w.heap.size 188 #[B G ((s:Int) % 256),B G ((s:Int) / 256 % 256),B G 0,B G 0]:=hB
   obtain ⟨c0,c1,c2,c3,f0,f1,f2,f3⟩:=blk4 H2;go_wp2_with fail
   go_roundw
   case rel=>exact ⟨3,by omega,rfl,H2.set 2 _,P0 (p:=⟨w.heap.size,2,D⟩) hE (xN _) _⟩
   case measure=>simp[intOf]
  ·have H2:Blk wr w.heap.size 188 #[B G ((s:Int) % 256),B G ((s:Int) / 256 % 256),B G ((s:Int) / 65536 % 256),B G 0]:=hB
   obtain ⟨c0,c1,c2,c3,f0,f1,f2,f3⟩:=blk4 H2;go_wp2_with fail
   go_roundw
   case rel =>
    have e:(s:Int) / 16777216 % 256=(s:Int) / 16777216:=by omega
    have Kh:=H2.set 3 (B G ((s:Int) / 16777216))
    refine ⟨4,by omega,rfl,?_,P0 (p:=⟨w.heap.size,3,D⟩) hE (xN _) _⟩
    show Blk _ _ _ #[B G ((s:Int) % 256),B G ((s:Int) / 256 % 256),B G ((s:Int) / 65536 % 256),B G ((s:Int) / 16777216 % 256)]
    rw[e]
    exact Kh
   case measure=>simp[intOf]
  ·have H2:Blk wr w.heap.size 188 #[B G ((s:Int) % 256),B G ((s:Int) / 256 % 256),B G ((s:Int) / 65536 % 256),B G ((s:Int) / 16777216 % 256)]:=hB
   obtain ⟨c0,c1,c2,c3,f0,f1,f2,f3⟩:=blk4 H2;go_wp2_with fail;have K6:=(((H2.set 0 (B G ((s:Int) % 256))).set 1 (B G ((s:Int) / 256 % 256))).set 2 (B G ((s:Int) / 65536 % 256))).set 3 (B G ((s:Int) / 16777216 % 256))
   refine bodyPost_ret (results_cell_row rfl _ _ _ 188 _ _ _ rfl K6 Tryz.underlying188 rfl (by kernel_rfl)) rfl ?_
   refine ⟨by rw[←zpl];rfl,?_⟩
   exact P0 (p:=⟨w.heap.size,3,D⟩) (P0 (p:=⟨w.heap.size,2,D⟩) (P0 (p:=⟨w.heap.size,1,D⟩) (P0 (p:=⟨w.heap.size,0,D⟩) hE (xN _) _) (xN _) _) (xN _) _) (xN _) _
theorem zo2 (v:Value) (bs:List UInt8) (w:World) (h:Bs w v bs) (h0:0<bs.length) (hl:bs.length≤2000000):Calls F 146 #[v] w fun e w'=>∃ A c,e=.returned (I A bs.length c)∧OwnB w' w.heap.size (I A bs.length c) bs∧Ext w w':=by
 obtain ⟨A,c,rfl,h1,h2⟩:=xO h;obtain ⟨_,b,Hx,rfl,_⟩:=Bs.at_ h h0
 have Ke:=fun (W:World)=>Lib.run_eql_slice_nil (P:=F) W
 have HB:=L h
 go_enter Tryz.func146,Tryz.ntmps146
 go_wp2_with (at_builtin;refine zaX rfl (.tmp 5) (.tmp 6) rfl w.heap.size _ [] rfl (zci w) _ bs rfl (HB.out.ext (xA (xR _) _)) (by simp;omega) (by simp) ?_;intro A1 c1 w1 HU K9;have H0:Ext w w1:=K9 w (xA (xR _) _) (xN _);simp only[Pf,Pl,xI] at HU ⊢)
 go_ret
 exact ⟨_,_,rfl,HU,H0⟩
def zaY (T:Tab) (bs:List UInt8):List UInt8:=bs++zdh (zcb T 0 bs)
theorem zfX (s:Nat):(zdh s).length=4:=rfl
theorem zpb (v:Value) (bs:List UInt8) (w:World) (h:Bs w v bs) (h0:0<bs.length) (hl:bs.length≤100000) (hT:TabW T w):Calls F 120 #[v] w fun e w'=>∃ A c,e=.returned (I A (zaY T bs).length c)∧OwnB w' w.heap.size (I A (zaY T bs).length c) (zaY T bs)∧Ext w w':=by
 obtain ⟨A,c,rfl,h1,h2⟩:=xO h;have HB:=L h;have HT:=L hT;have Ho:=zjb (T:=T) 0 bs (by decide);obtain ⟨sm,HA⟩:∃ sm,zcb T 0 bs=sm:=⟨_,rfl⟩;rw[HA] at Ho
 have hps:zaY T bs=bs++zdh sm:=by unfold zaY;rw[HA]
 have K2:=L hps;have K4:=L HA;obtain ⟨i0,hi,Hu,Hv,Hw⟩:=info_parts zb0;obtain ⟨f0,f1,f2,f3,hf⟩:∃ f0 f1 f2 f3:UInt8,zdh sm=[f0,f1,f2,f3]:=⟨_,_,_,_,rfl⟩;have Hf:=L hf;clear h hT hps HA hf
 go_enter Tryz.func120,Tryz.ntmps120
 go_wp2_with fail
 have HF:Ext w (w.alloc (J #[I A bs.length c] 33)):=xA (xR _) _
 refine (zgU w.heap.size A c bs _ (Boxed.new w _ _).cell (HB.out.ext HF) (by omega) (HT.out.ext HF)).mono ?_
 rw[K4.out];rintro e w1 ⟨rfl,H0⟩;go_wp2_with fail
 refine (zgg sm Ho _).mono ?_
 rw[Hf.out];rintro e w2 ⟨rfl,K7⟩;simp only[List.map_cons,List.map_nil,bv];go_wp2_with fail
 have H6:Ext w (w2.alloc (J #[B G (f0.toNat:Int),B G (f1.toNat:Int),B G (f2.toNat:Int),B G (f3.toNat:Int)] 188)):=xA (xT HF (xT H0 K7)) _
 have hb3:=Blk.new w2 188 #[B G (f0.toNat:Int),B G (f1.toNat:Int),B G (f2.toNat:Int),B G (f3.toNat:Int)]
 refine wp_region_held_drew (S:=fun _=>True) (by kernel_rfl) trivial (fun _=>?_)
 refine tkN 0 ?_;refine tkN 2 ?_
 refine ar1 1 (fun K hK=>?_)
 go_simp
 refine (zo2 _ bs _ (HB.out.ext (xD H6)) h0 (by omega)).mono ?_
 rintro e w4 ⟨A4,c4,rfl,Kg,K8⟩
 try (go_wp2_with fail)
 refine shK hK _ _ trivial (fun _=>?_)
 have Hb:Ext (w2.alloc (J #[B G (f0.toNat:Int),B G (f1.toNat:Int),B G (f2.toNat:Int),B G (f3.toNat:Int)] 188)) w4:=xT (xD (xR _)) K8
 have Ka:=hb3.ext Hb
 have H9:Ext w w4:=xT H6 Hb
 have Hj:w4.ownsRow w.heap.size 5 1 (I A4 bs.length c4) bs.length (bs.map bv):=zaf Kg (xD H6).size
 refine ar1 3 (fun K hK=>?_)
 refine wp_append_lies _ (.tmp 9) (.tmp 10) 33 (by rfl) w.heap.size 5 i0 (B G 0) 1 1 Tryz.underlying33 hi Hu Hv Hw rfl (by decide) _ bs.length (bs.map bv) (by rfl) Hj ⟨w2.heap.size,0,D⟩ 4 4 [B G (f0.toNat:Int),B G (f1.toNat:Int),B G (f2.toNat:Int),B G (f3.toNat:Int)] (by rfl) rfl (World.news_of_block Ka) (by simp[Value.oneCell']) (by omega) (by unfold maxLen;omega) (by omega) H9.size _ rfl ?_
 intro g' Kj w5 Hk Hg _ _
 refine shK hK _ _ trivial (fun _=>?_)
 refine tkN 4 ?_;refine wdD ?_;go_wp2_with fail;go_ret
 have HS:(zaY T bs).length=bs.length+4:=by unfold zaY;rw[xL,zfX]
 rw[HS]
 refine ⟨_,_,rfl,?_,Ext.grownOwn H9 Hj Hg⟩
 show w5.ownsRow w.heap.size 5 1 _ (zaY T bs).length ((zaY T bs).map bv)
 rw[HS,K2.out,Hf.out,Pe]
 exact Hk
variable {T:Tab}
def za6 (T:Tab) (b:List UInt8):Option (List UInt8):=if zdh (zcb T 0 (b.take (b.length-4)))=b.drop (b.length-4) then some (b.take (b.length-4)) else none
def zfL (T:Tab) (b:List UInt8):Option Ent :=
 match za6 T b with
 | none=>none
 | some p =>
  if (zah p).1=0 then
   (if (zah ((zah p).2.2.drop 1)).1=0 then
     (if okB (zah p).2.1 (((zah p).2.2.getD 0 0).toNat:Int) (zah ((zah p).2.2.drop 1)).2.1=true then some ⟨(zah p).2.1,(((zah p).2.2.getD 0 0).toNat:Int),(zah ((zah p).2.2.drop 1)).2.1⟩ else none)
   else none)
  else none
def zvm (w:World) (r:Option Ent) (e:Ending) (w':World):Prop:=(match r with
 | some x=>e=.returned (.tuple #[M #[B C x.t,B C x.k,B C x.v],H true])
 | none=>e=.returned (.tuple #[M #[B C 0,B C 0,B C 0],H false]))∧Ext w w'
theorem zhI {b p:List UInt8} (h:za6 T b=E p):p.length=b.length-4:=by
 unfold za6 at h
 split at h
 ·cases h;rw[P9];omega
 ·cases h
open Go.RowKit Go.Mv Go.Shelf
attribute [local go_sem] Pg
variable {T:Tab}
theorem zvd:Tryz.prog.underlying 54=E (.struct (Tryz.prog.fieldsOf 54)):=by kernel_rfl
theorem zdT {p:List UInt8} (h:(zah p).1=0):(zah p).2.2=p.drop 5:=by
 unfold zah at h ⊢
 split at h
 ·cases h
 ·rename_i h5
  rw[if_neg h5]
  split at h
  ·rename_i hb;rw[if_pos hb]
  ·cases h
theorem ziX {p:List UInt8}:(zah p).2.1≤1073741824:=by
 unfold zah
 split
 ·exact Pm _
 ·split
  ·assumption
  ·exact Pm _
attribute [local go_sem] Pg
variable {T:Tab}
def zc6 (T:Tab) (b:List UInt8) (p:Nat):List (Nat×Ent) :=
 if h:b.length<15 then [] else
  match zfL T (b.take 15) with
  | none=>[]
  | some e=>(p+15,e)::zc6 T (b.drop 15) (p+15)
termination_by b.length
decreasing_by
 simp;omega
theorem znR {b:List UInt8} {p:Nat} (h:b.length<15):zc6 T b p=[]:=by rw[zc6,dif_pos h]
theorem zpO {b:List UInt8} {p:Nat} (h:¬ b.length<15) (hn:zfL T (b.take 15)=none):zc6 T b p=[]:=by rw[zc6,dif_neg h,hn]
theorem zpP {b:List UInt8} {p:Nat} {e:Ent} (h:¬ b.length<15) (hn:zfL T (b.take 15)=E e):zc6 T b p=(p+15,e)::zc6 T (b.drop 15) (p+15):=by rw[zc6,dif_neg h,hn]
attribute [local go_sem] Pg
variable {T:Tab}
def zjN:Nat→List (Nat×Ent)→Nat
 | d,[]=>d
 | _,x::l=>zjN x.1 l
theorem zpB (l:List (Nat×Ent)) (x:Nat×Ent):∀ d,zjN d (l++[x])=x.1:=by
 induction l with
 | nil=>intro d;rfl
 | cons y l ih=>intro d;exact ih _
def zch (T:Tab) (b:List UInt8):zih :=
 if b.length<6∨b.getD 0 0≠1 then ⟨11,0,[],0,(0,0)⟩
 else if (zah ((b.drop 1).take 5)).1=0∧(zah ((b.drop 1).take 5)).2.1≠0 then ⟨0,(zah ((b.drop 1).take 5)).2.1,(zc6 T (b.drop 6) 6).map (·.2),zjN 6 (zc6 T (b.drop 6) 6),(0,0)⟩
 else ⟨11,0,[],0,(0,0)⟩
theorem zty:Tryz.prog.underlying 90=E (.struct (Tryz.prog.fieldsOf 90)):=by kernel_rfl
theorem zqZ (W:World) (x:Ent):Es (W.alloc (J #[B C x.t,B C x.k,B C x.v] 54)) (I (E ⟨W.heap.size,0,D⟩) 1 1) [x]:=by
 refine ⟨by simp[zat,Ent.cells],_,1,rfl,xN _,by simp[maxLen],fun _=>⟨W.heap.size,0,rfl,fun j u hu=>?_⟩⟩
 rw[Pl]
 exact (Blk.new W 54 #[B C x.t,B C x.k,B C x.v]).cell j (by simpa [zat,Ent.cells] using hu)
variable {T:Tab}
def zdj (T:Tab) (b:List UInt8) (f:Int):zih:=if f=1 then zch T b else if f=2 then zdE b else ⟨2,0,[],0,(0,0)⟩
structure Sta where
 idx:Int
 term:Int
 sum:Int
 lvl:Int
 fin:Bool
def Sta.ok (s:Sta):Bool :=
 if s.idx=0 then decide (s.term=0∧s.sum=0∧s.lvl=1∧s.fin=false)
 else (if s.fin=true then decide (s.lvl=2) else decide (s.lvl=1∨s.lvl=2))&&zaD s.idx&&decide (0<s.term)&&zaD s.term&&zaD s.sum
def Sta.finI (s:Sta):Int:=if s.fin=true then 1 else 0
def Sta.ints (s:Sta):List Int:=[s.idx,s.term,s.sum,s.lvl,s.finI]
theorem Sta.okP {s:Sta} (h:s.ok=true):zaD s.idx=true∧zaD s.term=true∧zaD s.sum=true∧(s.lvl=1∨s.lvl=2):=by
 unfold Sta.ok at h
 split at h
 ·rename_i h0
  have:=of_decide_eq_true h
  obtain ⟨h1,h2,h3,h4⟩:=this;rw[h0,h1,h2,h3]
  exact ⟨by decide,by decide,by decide,.inl rfl⟩
 ·simp only[Pk] at h
  obtain ⟨⟨⟨⟨h1,h2⟩,h3⟩,h4⟩,h5⟩:=h
  refine ⟨h2,h4,h5,?_⟩
  split at h1
  ·exact .inr (of_decide_eq_true h1)
  ·exact of_decide_eq_true h1
theorem Sta.finP (s:Sta):s.finI=0∨s.finI=1:=by unfold Sta.finI;split <;> simp
theorem Sta.nums {s:Sta} (h:s.ok=true):zau s.ints=true:=by
 obtain ⟨h1,h2,h3,h4⟩:=Sta.okP h
 have h5:zaD s.lvl=true:=by rcases h4 with e | e <;> rw[e] <;> decide
 have h6:zaD s.finI=true:=by rcases s.finP with e | e <;> rw[e] <;> decide
 simp[zau,Sta.ints,h1,h2,h3,h5,h6]
def zaH (z:Nat×Nat) (t:List UInt8):List UInt8 :=
 if h:t=[] then [] else t.take 4++(zaT (zas z (t.take 4))++zaH (zas z (t.take 4)) (t.drop 4))
termination_by t.length
decreasing_by
 have:0<t.length:=Pc.2 h
 simp;omega
theorem zdM (z:Nat×Nat):zaH z []=[]:=by rw[zaH];simp
theorem zdv (z:Nat×Nat) (t:List UInt8) (h:0<t.length):zaH z t=t.take 4++(zaT (zas z (t.take 4))++zaH (zas z (t.take 4)) (t.drop 4)):=by
 rw[zaH,dif_neg (fun e=>by rw[e] at h;simp at h)]
theorem zeD (z:Nat×Nat) (t:List UInt8):(zaH z t).length=t.length+(t.length+3) / 4*4:=by
 generalize hn:t.length=n
 induction n using Po generalizing z t with
 | _ n ih =>
  rcases Pn t.length with h | h
  ·have:t=[]:=Pa h
   subst this;rw[zdM]
   simp at hn
   subst hn;rfl
  ·have h1:=ih (t.drop 4).length (by simp;omega) (zas z (t.take 4)) (t.drop 4) rfl
   rw[zdv z t h,xL,xL,h1,zdn,P9,P6];omega
def zgs (b:List UInt8):List UInt8 :=
 if h:b=[] then [] else (b.take 8).take ((b.take 8).length-4)++zgs (b.drop 8)
termination_by b.length
decreasing_by
 have:0<b.length:=Pc.2 h
 simp;omega
theorem zjk:zgs []=[]:=by rw[zgs];simp
theorem zic (b:List UInt8) (h:0<b.length):zgs b=(b.take 8).take ((b.take 8).length-4)++zgs (b.drop 8):=by
 rw[zgs,dif_neg (fun e=>by rw[e] at h;simp at h)]
theorem zq4 (p:Nat×Nat):∃ a b c d,zaT p=[a,b,c,d]:=⟨_,_,_,_,rfl⟩
theorem zmu (z:Nat×Nat) (t X:List UInt8) (h:4≤t.length):zgs (zaH z t++X)=t.take 4++zgs (zaH (zas z (t.take 4)) (t.drop 4)++X):=by
 have h4:(t.take 4).length=4:=by rw[P9];omega
 have h8:(t.take 4++zaT (zas z (t.take 4))).length=8:=by rw[xL,h4,zdn]
 have e:zaH z t++X=(t.take 4++zaT (zas z (t.take 4)))++(zaH (zas z (t.take 4)) (t.drop 4)++X):=by
  rw[zdv z t (by omega)];simp only[List.append_assoc]
 rw[e,zic _ (by rw[xL,h8];omega),Pd h8,List.drop_left' h8,h8,show 8-4=4 from rfl,Pd h4]
theorem zj3 (z:Nat×Nat) (t:List UInt8):zgs (zaH z t)=t:=by
 generalize hn:t.length=n
 induction n using Po generalizing z t with
 | _ n ih =>
  by_cases h4:4≤t.length
  ·have h:=zmu z t [] h4
   rw[P8,P8] at h
   rw[h,ih (t.drop 4).length (by rw[P6];omega) _ (t.drop 4) rfl,List.take_append_drop]
  ·rcases Pn t.length with h | h
   ·have:t=[]:=Pa h
    subst this;rw[zdM,zjk]
   ·have ht:t.take 4=t:=P7 (by omega)
    have hd:t.drop 4=[]:=Pb (by omega)
    rw[zdv z t h,ht,hd,zdM,P8]
    have hl:(t++zaT (zas z t)).length=t.length+4:=by rw[xL,zdn]
    rw[zic _ (by omega),P7 (l:=t++zaT (zas z t)) (i:=8) (by omega),hl,Nat.add_sub_cancel,List.take_left,Pb (by omega),zjk,P8]
theorem mcStatea0 {P:Prop} (h:P:=by
 refine tkN 0 ?_;refine tkN 1 ?_;refine tkN 2 ?_;refine tkN 3 ?_;refine tkS 4 ?_;refine tkS 5 ?_;refine tkS 6 ?_;refine tkN 7 ?_;refine tkN 8 ?_;refine wdD ?_;go_wp2_with fail;go_ret
 refine ⟨ret_bool ?_,xT hX (xD (xR _))⟩
 rw[Hf.out]
 simp_all
 try (intro h;omega)):P:=h
theorem mcStatea1 {P:Prop} (h:P:=by
 try (go_wp2_with fail)
 refine shK hK _ _ (zaa (hb.ext H5)) (fun _=>?_)
 refine tkN 6 ?_;refine tkN 7 ?_;refine tkN 8 ?_;refine wdD ?_;go_wp2_with fail;go_ret
 refine ⟨ret_bool ?_,xT hX H5⟩
 rw[Hf.out]
 simp_all
 try (intro h;omega)):P:=h
theorem mcStatea2 {P:Prop} (h:P:=by
 have HE:=L H4;clear H4 h0
 go_enter Tryz.func154,Tryz.ntmps154
 go_wp2_with (go_at_call 207;refine (zg9 _ _).mono ?_;rintro e w1 ⟨rfl,rfl⟩)
 all_goals
  go_ret
  refine ⟨ret_bool ?_,xA (xR _) _⟩
  rw[HE.out]
  simp_all
  try (intro h;omega)):P:=h
theorem zdx:Tryz.prog.underlying 41=E (.struct (Tryz.prog.fieldsOf 41)):=by kernel_rfl
theorem zt9:Tryz.prog.stoodInHeld 41=false:=by kernel_rfl
theorem zmS:Tryz.prog.eqGuardType Tryz.prog.depth 41=false:=by kernel_rfl
def ze9 (a b:Sta):Bool:=a.idx==b.idx&&a.term==b.term&&a.sum==b.sum&&a.lvl==b.lvl&&a.fin==b.fin
theorem zu7 (a b:Sta):ze9 a b=true↔a=b:=by
 cases a;cases b
 simp[ze9,and_assoc]
theorem zk0 (a b:Sta) (W:World):(Op.equalIn 10000 41 (M #[B C a.idx,B C a.term,B C a.sum,B C a.lvl,H a.fin]) (M #[B C b.idx,B C b.term,B C b.sum,B C b.lvl,H b.fin])).run F W=.ok (ze9 a b) W:=by
 rw[run_equalIn_struct W 9999 41 _ _ zdx zt9];unfold ze9
 cases h0:(a.idx==b.idx) <;> cases h1:(a.term==b.term) <;> cases h2:(a.sum==b.sum) <;> cases h3:(a.lvl==b.lvl) <;> cases h4:(a.fin==b.fin) <;> simp[go_sem,h0,h1,h2,h3,h4]
theorem znH (n:Int) (w:World):Calls F 161 #[B C n] w fun e w'=>e=.returned (H (zaD n))∧w=w':=by
 by_cases h0:n<0
 ·go_enter Tryz.func161,Tryz.ntmps161
  go_wp2
  go_ret
  exact ⟨ret_bool (by simp[zaD];omega),rfl⟩
 ·have Kk:0≤n:=by omega
  go_enter Tryz.func161,Tryz.ntmps161
  go_wp2
  go_ret
  exact ⟨ret_bool (by simp[zaD];omega),rfl⟩
theorem zkv (w:World):Calls F 83 #[] w fun e w'=>e=.returned (M #[B C 0,B C 0,B C 0,B C 1,H false])∧Ext w w':=by
 go_enter Tryz.func83,Tryz.ntmps83
 go_wp2
 refine bodyPost_ret (results_cell_row rfl _ _ _ 41 _ _ _ rfl (heap_alloc_new _ _) zdx rfl (by kernel_rfl)) rfl ⟨rfl,xA (xR _) _⟩
theorem zeW (w:World):Calls F 92 #[] w fun e w'=>e=.returned (M #[B C 0,B C 0,B C 0,B C 1,H false])∧Ext w w':=by
 go_enter Tryz.func92,Tryz.ntmps92
 go_wp2
 refine bodyPost_ret (results_cell_row rfl _ _ _ 41 _ _ _ rfl (heap_alloc_new _ _) zdx rfl (by kernel_rfl)) rfl ⟨rfl,xA (xR _) _⟩
theorem zq3 (s:Sta) (w:World):Calls F 240 #[M #[B C s.idx,B C s.term,B C s.sum,B C s.lvl,H s.fin]] w fun e w'=>e=.returned (B C s.finI)∧Ext w w':=by
 cases hf:s.fin
 ·have h:s.finI=0:=by unfold Sta.finI;rw[hf];rfl
  go_enter Tryz.func240,Tryz.ntmps240
  go_wp2
  go_ret
  exact ⟨by rw[h];rfl,xA (xR _) _⟩
 ·have h:s.finI=1:=by unfold Sta.finI;rw[hf];rfl
  go_enter Tryz.func240,Tryz.ntmps240
  go_wp2
  go_ret
  exact ⟨by rw[h];rfl,xA (xR _) _⟩
theorem zaa {W:World} {b:Nat} {t:TypeId} {a v u x y:Value} (h:Blk W b t #[a,v,u,x,y]):W.cell? ⟨b,0,D⟩=E a∧W.cell? ⟨b,1,D⟩=E v∧W.cell? ⟨b,2,D⟩=E u∧W.cell? ⟨b,3,D⟩=E x∧W.cell? ⟨b,4,D⟩=E y :=
 ⟨h.cell 0 rfl,h.cell 1 rfl,h.cell 2 rfl,h.cell 3 rfl,h.cell 4 rfl⟩
theorem zdV (s:Sta) (w:World):Calls F 154 #[M #[B C s.idx,B C s.term,B C s.sum,B C s.lvl,H s.fin]] w fun e w'=>e=.returned (H s.ok)∧Ext w w':=by
 have hX:Ext w (w.alloc (J #[B C s.idx,B C s.term,B C s.sum,B C s.lvl,H s.fin] 41)):=xA (xR _) _
 have hb:=Blk.new w 41 #[B C s.idx,B C s.term,B C s.sum,B C s.lvl,H s.fin]
 by_cases h0:s.idx=0
 ·have e0:(s.idx==0)=true:=by rw[h0];rfl
  have HI:=zk0 s ⟨0,0,0,1,false⟩;have He:=zmS
  have H4:s.ok=ze9 s ⟨0,0,0,1,false⟩:=by
   unfold Sta.ok ze9;rw[if_pos h0,h0];rw[Pj]
   simp[and_assoc]
  have HE:=L H4;clear H4 h0;dsimp only at HI
  go_enter Tryz.func154,Tryz.ntmps154
  go_wp2_with fail
  go_region_held3 (fun w'=>w'.cell? ⟨w.heap.size,0,D⟩=E (B C s.idx)∧w'.cell? ⟨w.heap.size,1,D⟩=E (B C s.term)∧w'.cell? ⟨w.heap.size,2,D⟩=E (B C s.sum)∧w'.cell? ⟨w.heap.size,3,D⟩=E (B C s.lvl)∧w'.cell? ⟨w.heap.size,4,D⟩=E (H s.fin)) (first | go_keep | (refine ⟨?_,?_,?_,?_,?_⟩ <;> assumption))
   (first | (go_at_call 83;refine (zkv _).mono ?_;rintro e w1 ⟨rfl,H0⟩;have H5:Ext (w.alloc (J #[B C s.idx,B C s.term,B C s.sum,B C s.lvl,H s.fin] 41)) w1:=xT (xD (xR _)) H0;obtain ⟨g0,g1,g2,g3,g4⟩:=zaa (hb.ext H5)))
  go_wp2_with fail;go_ret
  exact ⟨by rw[HE.out];rfl,xT hX H5⟩
 ·have e0:(s.idx==0)=false:=by rw[beq_eq_false_iff_ne];exact h0
  cases hf:s.fin with
  | true =>
   have H4:s.ok=((s.lvl==2)&&zaD s.idx&&decide (0<s.term)&&zaD s.term&&zaD s.sum):=by
    unfold Sta.ok;rw[if_neg h0,if_pos hf]
    congr 4
   exact mcStatea2
  | false =>
   have H4:s.ok=(decide (s.lvl=1∨s.lvl=2)&&zaD s.idx&&decide (0<s.term)&&zaD s.term&&zaD s.sum):=by
    unfold Sta.ok
    rw[if_neg h0,if_neg (by rw[hf];simp)]
   exact mcStatea2
def zlC (s:Sta):Bool:=zaD s.idx&&zaD s.term&&zaD s.sum&&((s.term==0)==(s.idx==0))&&(s.lvl==1||s.lvl==2)&&(!s.fin||s.lvl==2)&&(decide (0<s.idx)||ze9 s ⟨0,0,0,1,false⟩)
theorem zsH (s:Sta):zlC s=s.ok:=by
 obtain ⟨i,t,u,l,b⟩:=s;unfold zlC Sta.ok ze9;dsimp only
 by_cases hi:i=0
 ·subst hi
  rw[if_pos rfl,Pj];simp only[Pk,Bool.or_eq_true,beq_iff_eq,decide_eq_true_eq,Bool.not_eq_true',zaD]
  constructor
  ·rintro ⟨_,h⟩
   rcases h with h | ⟨⟨⟨⟨_,h1⟩,h2⟩,h3⟩,h4⟩
   ·omega
   ·exact ⟨h1,h2,h3,h4⟩
  ·rintro ⟨rfl,rfl,rfl,rfl⟩
   simp
 ·rw[if_neg hi]
  have e1:(i==0)=false:=by simpa using hi
  have Kc:zaD i=true→decide (0<i)=true:=fun h=>decide_eq_true (by have:=numB_true.1 h;omega)
  cases hn:zaD i with
  | false=>simp
  | true =>
   cases ht:zaD t with
   | false=>simp
   | true =>
    have h0:=numB_true.1 ht
    by_cases t0:t=0
    ·subst t0
     simp[e1]
    ·have e2:(t==0)=false:=by simpa using t0
     have e3:decide (0<t)=true:=decide_eq_true (by omega)
     rw[e1,e2,e3,Kc hn]
     cases hu:zaD u with
     | false=>simp
     | true =>
      cases b
      ·simp
       rw[Pj]
       simp
      ·by_cases l2:l=2
       ·simp[l2]
       ·simp[l2]
theorem zqq (i t u l:Int) (b:Bool) (w:World):Calls F 94 #[M #[B C i,B C t,B C u,B C l,H b]] w fun e w'=>e=.returned (H (zlC ⟨i,t,u,l,b⟩))∧Ext w w':=by
 have hX:Ext w (w.alloc (J #[B C i,B C t,B C u,B C l,H b] 41)):=xA (xR _) _
 have hb:=Blk.new w 41 #[B C i,B C t,B C u,B C l,H b]
 have Hf:Hid (zlC ⟨i,t,u,l,b⟩=(zaD i&&zaD t&&zaD u&&((t==0)==(i==0))&&(l==1||l==2)&&(!b||l==2)&&(decide (0<i)||ze9 ⟨i,t,u,l,b⟩ ⟨0,0,0,1,false⟩))):=rfl
 have HI:=zk0 ⟨i,t,u,l,b⟩ ⟨0,0,0,1,false⟩;have He:=zmS;dsimp only at HI
 go_enter Tryz.func94,Tryz.ntmps94
 go_wp2_with (go_at_call 161;refine (znH _ _).mono ?_;rintro e w1 ⟨rfl,rfl⟩)
 all_goals try (go_ret;refine ⟨ret_bool ?_,xA (xR _) _⟩;rw[Hf.out];simp_all;done)
 ·subst l
  obtain rfl:b=false:=by simp_all
  by_cases hi:0<i
  ·skip
   refine wp_region_held_drew (S:=(fun w'=>w'.cell? ⟨w.heap.size,0,D⟩=E (B C i)∧w'.cell? ⟨w.heap.size,1,D⟩=E (B C t)∧w'.cell? ⟨w.heap.size,2,D⟩=E (B C u)∧w'.cell? ⟨w.heap.size,3,D⟩=E (B C 1)∧w'.cell? ⟨w.heap.size,4,D⟩=E (H false))) (by kernel_rfl) (zaa (hb.ext (xD (xR _)))) (fun _=>?_)
   exact mcStatea0
  ·skip
   refine wp_region_held_drew (S:=(fun w'=>w'.cell? ⟨w.heap.size,0,D⟩=E (B C i)∧w'.cell? ⟨w.heap.size,1,D⟩=E (B C t)∧w'.cell? ⟨w.heap.size,2,D⟩=E (B C u)∧w'.cell? ⟨w.heap.size,3,D⟩=E (B C 1)∧w'.cell? ⟨w.heap.size,4,D⟩=E (H false))) (by kernel_rfl) (zaa (hb.ext (xD (xR _)))) (fun _=>?_)
   refine tkN 0 ?_;refine tkN 1 ?_;refine tkN 2 ?_;refine tkN 3 ?_;refine tkN 4 ?_
   refine ar1 5 (fun K hK=>?_)
   go_simp
   refine (zeW _).mono ?_
   rintro e w1 ⟨rfl,H0⟩
   have H5:Ext (w.alloc (J #[B C i,B C t,B C u,B C 1,H false] 41)) w1:=xT (xD (xR _)) H0
   exact mcStatea1
 ·try subst l
  try subst b
  by_cases hi:0<i
  ·skip
   refine wp_region_held_drew (S:=(fun w'=>w'.cell? ⟨w.heap.size,0,D⟩=E (B C i)∧w'.cell? ⟨w.heap.size,1,D⟩=E (B C t)∧w'.cell? ⟨w.heap.size,2,D⟩=E (B C u)∧w'.cell? ⟨w.heap.size,3,D⟩=E (B C 2)∧w'.cell? ⟨w.heap.size,4,D⟩=E (H true))) (by kernel_rfl) (zaa (hb.ext (xD (xR _)))) (fun _=>?_)
   exact mcStatea0
  ·skip
   refine wp_region_held_drew (S:=(fun w'=>w'.cell? ⟨w.heap.size,0,D⟩=E (B C i)∧w'.cell? ⟨w.heap.size,1,D⟩=E (B C t)∧w'.cell? ⟨w.heap.size,2,D⟩=E (B C u)∧w'.cell? ⟨w.heap.size,3,D⟩=E (B C 2)∧w'.cell? ⟨w.heap.size,4,D⟩=E (H true))) (by kernel_rfl) (zaa (hb.ext (xD (xR _)))) (fun _=>?_)
   refine tkN 0 ?_;refine tkN 1 ?_;refine tkN 2 ?_;refine tkN 3 ?_;refine tkN 4 ?_
   refine ar1 5 (fun K hK=>?_)
   go_simp
   refine (zeW _).mono ?_
   rintro e w1 ⟨rfl,H0⟩
   have H5:Ext (w.alloc (J #[B C i,B C t,B C u,B C 2,H true] 41)) w1:=xT (xD (xR _)) H0
   exact mcStatea1
 ·subst l
  obtain rfl:b=false:=by simp_all
  by_cases hi:0<i
  ·skip
   refine wp_region_held_drew (S:=(fun w'=>w'.cell? ⟨w.heap.size,0,D⟩=E (B C i)∧w'.cell? ⟨w.heap.size,1,D⟩=E (B C t)∧w'.cell? ⟨w.heap.size,2,D⟩=E (B C u)∧w'.cell? ⟨w.heap.size,3,D⟩=E (B C 2)∧w'.cell? ⟨w.heap.size,4,D⟩=E (H false))) (by kernel_rfl) (zaa (hb.ext (xD (xR _)))) (fun _=>?_)
   exact mcStatea0
  ·skip
   refine wp_region_held_drew (S:=(fun w'=>w'.cell? ⟨w.heap.size,0,D⟩=E (B C i)∧w'.cell? ⟨w.heap.size,1,D⟩=E (B C t)∧w'.cell? ⟨w.heap.size,2,D⟩=E (B C u)∧w'.cell? ⟨w.heap.size,3,D⟩=E (B C 2)∧w'.cell? ⟨w.heap.size,4,D⟩=E (H false))) (by kernel_rfl) (zaa (hb.ext (xD (xR _)))) (fun _=>?_)
   refine tkN 0 ?_;refine tkN 1 ?_;refine tkN 2 ?_;refine tkN 3 ?_;refine tkN 4 ?_
   refine ar1 5 (fun K hK=>?_)
   go_simp
   refine (zeW _).mono ?_
   rintro e w1 ⟨rfl,H0⟩
   have H5:Ext (w.alloc (J #[B C i,B C t,B C u,B C 2,H false] 41)) w1:=xT (xD (xR _)) H0
   exact mcStatea1
theorem zhz (s:Sta) (w:World):Calls F 94 #[M #[B C s.idx,B C s.term,B C s.sum,B C s.lvl,H s.fin]] w fun e w'=>e=.returned (H s.ok)∧Ext w w':=by
 rw[←zsH s]
 exact zqq s.idx s.term s.sum s.lvl s.fin w
theorem zbN (v:Value) (bs:List UInt8) (w:World) (Hy:Bs w v bs) (hl:bs.length≤2000000):Calls F 167 #[v] w (zij w (zah bs)):=by
 obtain ⟨A,c,rfl,h1,h2⟩:=xO Hy
 by_cases h5:(bs.length:Int)<5
 ·have ht:zah bs=(10,0,[]):=by unfold zah;rw[if_pos (by omega)]
  have Ht:=L ht;clear ht
  go_enter Tryz.func167,Tryz.ntmps167
  go_wp2_with fail
  go_ret3
  exact ⟨_,by rw[Ht.out];rfl,by rw[Ht.out];exact P5 _ _ _ _,xR _⟩
 obtain ⟨_,b,Hx,rfl,hc⟩:=Bs.at_ Hy (by omega);have HC:=L hc;have HZ:=L Hy
 have HY:zah bs=if beN (bs.take 5)≤1073741824 then (0,beN (bs.take 5),bs.drop 5) else (11,0,[]):=by unfold zah;rw[if_neg (by omega)]
 have HN:=L HY
 have Kl:(5:Int)≤(c:Int):=by omega
 have Km:(5:Int)≤(bs.length:Int):=by omega
 clear hc Hy HY
 go_enter Tryz.func167,Tryz.ntmps167
 go_wp2_with fail
 go_loop [5,6] (fun nn ii=>∃ k n:Nat,k≤5∧Hid (n=beN (bs.take k))∧n<1099511627776∧Hid (n<256^k)∧nn=B C n∧ii=B C k) (fun _ ii=>5-(intOf ii).toNat)
 case atStart=>exact ⟨0,0,by omega,rfl,by omega,by show _<_;decide,rfl,rfl⟩
 case round =>
  obtain ⟨k,n,hk,Hn,hn,HL,rfl,rfl⟩:=hrel
  by_cases hlt:k<5
  ·have HR:k<bs.length:=by omega
   have Ko:=HC.out k HR;have hq:=bs[k].toNat_lt
   have HW:beN (bs.take (k+1))=n*256+bs[k].toNat:=by rw[List.take_succ_eq_append_getElem HR,zsn,Hn.out]
   have Kr:n<4294967296:=Nat.lt_of_lt_of_le HL.out (Nat.le_trans (Nat.pow_le_pow_right (by decide) (show k≤4 by omega)) (by decide))
   have Hh:n*256+bs[k].toNat<256^(k+1):=by rw[Nat.pow_succ];have:=HL.out;omega
   have K5:=L HW;have HD:=L Hh;clear HW Hh
   generalize bs[k].toNat=q at *
   go_wp2_with fail
   go_round
   case rel=>exact ⟨k+1,n*256+q,by omega,by show _=_;rw[K5.out],by omega,HD.out,by go_num,by go_num⟩
   case measure=>simp[intOf];omega
  ·obtain rfl:k=5:=by omega
   have HO:=xW (zaG w [B C (n:Int)] 3 1 rfl (by simp[maxLen]) (xN _))
   have Hc:Is (w.alloc (J #[B C (n:Int)] 3)) (I (E ⟨w.heap.size,0,D⟩) 1 1) [(n:Int)]:=HO
   have ha:zau [(n:Int)]=decide (n≤1073741824):=by simp[zau,zaD];omega
   have Ha:=L ha
   have H0:Ext w (w.alloc (J #[B C (n:Int)] 3)):=xA (xR _) _
   clear HO ha
   have Ki:∃ vs:Value,(∀ W,Ext w W→Bs W vs (bs.drop 5))∧vs=I (if c=5 then some ⟨b,Hx,D⟩ else some ⟨b,Hx+5,D⟩) (bs.length-5) (c-5):=by
    by_cases hck:c=5
    ·exact ⟨_,fun W _=>Bs.cut0 (A:=E ⟨b,Hx,D⟩) (n:=bs.length) (k:=5) (c:=c-5) (bs:=bs) (by omega) rfl (by omega),by rw[if_pos hck]⟩
    ·exact ⟨_,fun W hE=>Bs.cut (HZ.out.ext hE) 5 (by omega) rfl,by rw[if_neg hck]⟩
   obtain ⟨vs,Hp,Hq⟩:=Ki;have K0:=L Hp;have HV:=L Hq;clear Hp Hq
   by_cases H4:n≤1073741824
   ·have hr:zah bs=(0,n,bs.drop 5):=by rw[HN.out,←Hn.out,if_pos H4]
    have Hr:=L hr
    have Kp:(bs.drop 5).length≤2000000:=by rw[P6];omega
    have H7:=zci (w.alloc (J #[B C (n:Int)] 3));rw[xS] at H7;have Hd:=zaf (base':=w.heap.size) H7 (by omega);clear H7;clear hr
    go_wp2_with (first
     | (go_at_call 183;refine (zd4 _ _ _ Hc).mono ?_;rw[Ha.out,decide_eq_true H4];rintro e w1 ⟨rfl,rfl⟩)
     | (at_builtin;refine zaX rfl (.tmp 27) (.tmp 29) rfl w.heap.size _ [] rfl Hd _ (bs.drop 5) rfl (HV.out ▸ K0.out _ (xA H0 _)) (by simp;omega) (xA H0 _).size ?_;intro A5 c5 w5 Hz HH;have HG:Ext w w5:=HH w (xA H0 _) (xN _);simp only[Pf,Pl,xI,P6] at Hz ⊢))
    all_goals (go_ret3;rw[Hr.out];exact ⟨_,rfl,Hz,HG⟩)
   ·have hr:zah bs=(11,0,[]):=by rw[HN.out,←Hn.out,if_neg H4]
    have Hr:=L hr;clear hr
    go_wp2_with (go_at_call 183;refine (zd4 _ _ _ Hc).mono ?_;rw[Ha.out,decide_eq_false H4];rintro e w1 ⟨rfl,rfl⟩)
    go_ret3
    rw[Hr.out]
    exact ⟨_,rfl,P5 _ _ _ _,H0⟩
theorem zjO (n:Nat) (h:n≤1073741824):(zcH n).map bv=[B G ((n:Int) / 4294967296),B G ((n:Int) / 16777216 % 256),B G ((n:Int) / 65536 % 256),B G ((n:Int) / 256 % 256),B G ((n:Int) % 256)]:=by
 simp[zcH,zaP,bv]
 omega
theorem zpR (v:Value) (l:List Int) (w:World) (h:Is w v l) (hn:zau l=true) (hl:l.length≤2000):Calls F 212 #[v] w (zuq w l):=by
 obtain ⟨A,c,rfl,h1,h2⟩:=xO h;have Hn:=L hn;have Hi:=L h;clear hn
 go_enter Tryz.func212,Tryz.ntmps212
 go_wp2_with (go_at_call 183;refine (zd4 _ _ _ h).mono ?_;rw[Hn.out];rintro e w1 ⟨rfl,rfl⟩)
 clear h
 go_loopw [4,5,6] (fun vb i u wr=>∃ k:Nat,k≤l.length∧i=B C k∧wr.ownsRow w.heap.size 5 1 vb (zbr (l.take k)).length ((zbr (l.take k)).map bv)∧Ext w wr) (fun _ i _ _=>l.length-(intOf i).toNat)
 case atStart=>exact ⟨0,Pm _,rfl,P5 _ _ _ _,xR _⟩
 case round =>
  obtain ⟨k,hk,rfl,H1,hB⟩:=hrel
  by_cases hlt:k<l.length
  ·obtain ⟨_,b,Hx,rfl,hc⟩:=Is.at_ (Hi.out.ext hB) (by omega)
   have Kb:=hc k hlt;obtain ⟨Kq,Kd⟩:=ze6 Hn.out hlt;have Ho:=zhV (l.take k)
   have Ks:(l.take k).length≤k:=List.length_take_le _ _
   have HX:zbr (l.take (k+1))=zbr (l.take k)++zcH l[k].toNat:=zpD hlt
   have HM:=L HX;clear hc HX
   obtain ⟨m,hm⟩:∃ m:Nat,l[k]=m:=⟨l[k].toNat,by omega⟩
   have Hm:Hid (l[k].toNat=m):=by rw[Hid,hm];simp
   rw[hm] at Kb Kd;clear hm
   have Kf:Bs (wr.alloc (J #[B G ((m:Int) / 4294967296),B G ((m:Int) / 16777216 % 256),B G ((m:Int) / 65536 % 256),B G ((m:Int) / 256 % 256),B G ((m:Int) % 256)] 5)) (I (E ⟨wr.heap.size,0,D⟩) 5 5) (zcH m):=by
    have h5:=xW (zaG wr ((zcH m).map bv) 5 5 (by rw[List.length_map,zcZ]) (by simp[maxLen]) (xN _));rw[zjO m (by omega)] at h5;unfold Bs;rw[zcZ,zjO m (by omega)]
    exact h5
   have H0:Ext w (wr.alloc (J #[B G ((m:Int) / 4294967296),B G ((m:Int) / 16777216 % 256),B G ((m:Int) / 65536 % 256),B G ((m:Int) / 256 % 256),B G ((m:Int) % 256)] 5)):=xA hB _
   have Hl:=zab H1 (xA (xR wr) (J #[B G ((m:Int) / 4294967296),B G ((m:Int) / 16777216 % 256),B G ((m:Int) / 65536 % 256),B G ((m:Int) / 256 % 256),B G ((m:Int) % 256)] 5));rw[Hm.out] at HM;have K1:=L (zcZ m);have K3:=L Ho;clear Ho
   go_wp2_with (at_builtin;refine zaX rfl (.tmp 20) (.tmp 39) rfl w.heap.size _ (zbr (l.take k)) rfl Hl _ (zcH m) rfl Kf (by rw[K3.out,K1.out];omega) H0.size ?_;intro A5 c5 w5 Hz HH;have HG:Ext w w5:=HH w H0 (xN _))
   go_roundw
   case rel=>exact ⟨k+1,by omega,by go_num,by rw[HM.out];exact Hz,HG⟩
   case measure=>simp[intOf];omega
  ·have HQ:l.take k=l:=P7 (by omega)
   rw[HQ] at H1;clear HQ;go_wp2_with fail
   go_ret2
   exact ⟨_,rfl,H1,hB⟩
end Go.Proofs.YteggfecbjgbndaaGreatDoor
