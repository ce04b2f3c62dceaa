/- Merged -/
import Derived.Test.YteggfecbjgbndaaGreatDoorZw9
import Derived.Test.YteggfecbjgbndaaGreatDoorZw12
import Derived.Test.YteggfecbjgbndaaGreatDoorZw22
set_option linter.all false
set_option maxHeartbeats 8000000
set_option maxRecDepth 100000
open Go.Value renaming slice→C,int→D,string→J,bool→R,pointer→U,agg→V
open Option renaming none→F,some→H
open Go.Proofs.Tryz renaming prog→I
open Go.IntKind renaming i64→L,u8→O
open Go.Mv renaming zhd→M
open Go.Obj renaming cells→N
open Go.RowKit.Below renaming setCell→P0
open Option.some renaming inj→P1
open List renaming getElem?_eq_getElem→P2,take_succ_eq_append_getElem→P3,length_nil→P4,take_length→P5,not_mem_nil→P6,length_take→P7,getElem_mem→P8,mem_append→P9,length_map→Pa,mem_cons→Pb
open Go.World renaming block_lt_of_cell?→Pc,cell?_of_block→Pd,cell?→Pe
open Go.Mv.Blk renaming new→Pf
open Nat renaming zero_add→Pg,add_assoc→Ph,mul_le_mul_right→Pi,le_succ→Pj,le_trans→Pk,zero_le→Pl,add_mul→Pm
open Go.Value renaming slice→Pn
namespace Go.Proofs.YteggfecbjgbndaaGreatDoor
open Go.RowKit Go.Mv
def zaZ (g:Nat) (u:Value):Prop:=∀ b H3 n c,0<n→u=C (H ⟨b,H3,F⟩) n c→b≠g
theorem zaB (g:Nat) (l:List UInt8):zaZ g (sv l):=fun _ _ _ _ _ h=>by cases h
theorem zc2 (g:Nat) (k:IntKind) (n:Int):zaZ g (.int k n):=fun _ _ _ _ _ h=>by cases h
theorem Bs.away {W W':World} {g:Nat} {u:Value} {b:List UInt8} (h:Bs W u b) (ha:zaZ g u) (hk:∀ p x,W.cell? p=H x→p.block≠g→W'.cell? p=H x):Bs W' u b:=by
 obtain ⟨hl,A,c,rfl,h1,h2,h3⟩:=h
 refine ⟨hl,A,c,rfl,h1,h2,fun hn=>?_⟩
 obtain ⟨b',H3,rfl,hc⟩:=h3 hn
 exact ⟨b',H3,rfl,fun j x hx=>hk _ _ (hc j x hx) (ha b' H3 _ _ hn rfl)⟩
theorem Bs.fresh {W:World} {u:Value} {b:List UInt8} (h:Bs W u b) {g:Nat} (hg:W.heap.size≤g):zaZ g u:=by
 intro b' H3 n c hn hu;obtain ⟨hl,A,c',rfl,h1,h2,h3⟩:=h
 cases hu
 obtain ⟨b2,K4,e,hc⟩:=h3 hn
 cases e
 have hb:0<(b.map bv).length:=by rw[Pa];exact hn
 have:=Pc _ _ (hc 0 _ (P2 hb))
 simp at this
 omega
theorem OwnB.away {W:World} {base:Nat} {u:Value} {b:List UInt8} (h:OwnB W base u b) {g:Nat} (hg:g<base):zaZ g u:=by
 intro b' H3 n c _ hu;subst hu
 rcases h.2 with ⟨hn,_⟩ | ⟨g',cap,cur,e,hb,_⟩
 ·cases hn
 ·cases e
  omega
def RowOf {α:Type} (sz:Nat) (E:World→(Nat→Option Value)→α→Prop) (W:World) (xs:List Value) (l:List α):Prop :=
 xs.length=l.length*sz∧∀ (k:Nat) (hk:k<l.length),E W (fun i=>if i<sz then xs[k*sz+i]? else none) l[k]
theorem RowOf.nil {α:Type} {sz:Nat} {E:World→(Nat→Option Value)→α→Prop} {W:World}:RowOf sz E W [] []:=⟨by simp,fun k hk=>by simp at hk⟩
theorem RowOf.append {α:Type} {sz:Nat} {E:World→(Nat→Option Value)→α→Prop} {W:World} {xs ys:List Value} {l m:List α} (h1:RowOf sz E W xs l) (h2:RowOf sz E W ys m):RowOf sz E W (xs++ys) (l++m):=by
 refine ⟨by rw[xL,xL,h1.1,h2.1,Pm],fun k hk=>?_⟩
 rw[xL] at hk;have hl:=h1.1
 by_cases h:k<l.length
 ·have:=h1.2 k h
  rw[List.getElem_append_left h]
  have e:(fun i=>if i<sz then (xs++ys)[k*sz+i]? else none)=fun i=>if i<sz then xs[k*sz+i]? else none:=by
   funext i
   split
   ·rename_i hi
    have:k*sz+i<xs.length:=by
     rw[hl]
     calc k*sz+i<k*sz+sz:=by omega
      _=(k+1)*sz:=by rw[Pm,Nat.one_mul]
      _≤l.length*sz:=Pi _ h
    rw[List.getElem?_append_left this]
   ·rfl
  rw[e]
  exact this
 ·have h':l.length≤k:=by omega
  have:=h2.2 (k-l.length) (by omega)
  rw[List.getElem_append_right h']
  have e:(fun i=>if i<sz then (xs++ys)[k*sz+i]? else none)=fun i=>if i<sz then ys[(k-l.length)*sz+i]? else none:=by
   funext i
   split
   ·have h2:l.length*sz≤k*sz:=Pi _ h'
    rw[List.getElem?_append_right (by rw[hl];omega),hl,Nat.sub_mul]
    congr 1
    omega
   ·rfl
  rw[e]
  exact this
structure zdA {α:Type} (sz:Nat) (E:World→(Nat→Option Value)→α→Prop):Prop where
 keep:∀ {W W':World} {g:Nat} {c:Nat→Option Value} {p:α},E W c p→(∀ i u,c i=H u→zaZ g u)→(∀ p x,W.cell? p=H x→p.block≠g→W'.cell? p=H x)→E W' c p
 fresh:∀ {W:World} {c:Nat→Option Value} {p:α},E W c p→∀ i u,i<sz→c i=H u→zaZ W.heap.size u
 one:∀ {W:World} {c:Nat→Option Value} {p:α},E W c p→∀ i u,i<sz→c i=H u→u.oneCell'=true
section
variable {α:Type} {sz:Nat} {E:World→(Nat→Option Value)→α→Prop}
theorem zfH {xs:List Value} {l:List α} (hl:xs.length=l.length*sz) {u:Value} (hu:u∈xs):∃ (k i:Nat),k<l.length∧i<sz∧xs[k*sz+i]?=H u:=by
 obtain ⟨j,hj,rfl⟩:=List.mem_iff_getElem.1 hu
 have hs:0<sz:=by
  rcases Nat.eq_zero_or_pos sz with h | h
  ·rw[h,Nat.mul_zero] at hl;omega
  ·exact h
 refine ⟨j / sz,j % sz,?_,Nat.mod_lt _ hs,?_⟩
 ·rw[Nat.div_lt_iff_lt_mul hs];omega
 ·rw[Nat.div_add_mod' j sz,P2 hj]
theorem RowOf.keep (hE:zdA sz E) {W W':World} {g:Nat} {xs:List Value} {l:List α} (h:RowOf sz E W xs l) (ha:∀ u∈xs,zaZ g u) (hk:∀ p x,W.cell? p=H x→p.block≠g→W'.cell? p=H x):RowOf sz E W' xs l:=by
 refine ⟨h.1,fun k Ko=>hE.keep (h.2 k Ko) (fun i u hu=>?_) hk⟩
 split at hu
 ·exact ha u (List.mem_of_getElem? hu)
 ·cases hu
theorem RowOf.fresh (hE:zdA sz E) {W:World} {xs:List Value} {l:List α} (h:RowOf sz E W xs l):∀ u∈xs,zaZ W.heap.size u:=by
 intro u hu;obtain ⟨k,i,hk,hi,hx⟩:=zfH h.1 hu
 exact hE.fresh (h.2 k hk) i u hi (by rw[if_pos hi];exact hx)
theorem RowOf.one (hE:zdA sz E) {W:World} {xs:List Value} {l:List α} (h:RowOf sz E W xs l):∀ u∈xs,u.oneCell'=true:=by
 intro u hu;obtain ⟨k,i,hk,hi,hx⟩:=zfH h.1 hu
 exact hE.one (h.2 k hk) i u hi (by rw[if_pos hi];exact hx)
theorem RowOf.ext (hE:zdA sz E) {W W':World} {xs:List Value} {l:List α} (h:RowOf sz E W xs l) (hX:Ext W W'):RowOf sz E W' xs l :=
 h.keep hE (h.fresh hE) fun _ _ hc _=>hX.cell hc
def OwnX (sz:Nat) (E:World→(Nat→Option Value)→α→Prop) (t:TypeId) (w:World) (base:Nat) (v:Value) (l:List α):Prop :=
 ∃ xs,w.ownsRow base t sz v l.length xs∧RowOf sz E w xs l∧∀ g,v.ownBlock=H g→∀ u∈xs,zaZ g u
theorem OwnX.nil (t:TypeId) (w:World) (base:Nat):OwnX sz E t w base (C none 0 0) []:=⟨[],⟨by simp,.inl ⟨rfl,rfl⟩⟩,RowOf.nil,fun g h=>by cases h⟩
theorem OwnX.ext (hE:zdA sz E) {t:TypeId} {w w':World} {base:Nat} {v:Value} {l:List α} (h:OwnX sz E t w base v l) (hX:Ext w w'):OwnX sz E t w' base v l:=by
 obtain ⟨xs,h1,h2,h3⟩:=h
 exact ⟨xs,zab h1 hX,h2.ext hE hX,h3⟩
theorem OwnX.base {t:TypeId} {w:World} {base base':Nat} {v:Value} {l:List α} (h:OwnX sz E t w base v l) (hb:base'≤base):OwnX sz E t w base' v l:=by
 obtain ⟨xs,h1,h2,h3⟩:=h
 exact ⟨xs,zaf h1 hb,h2,h3⟩
theorem OwnX.open_ {t:TypeId} {w:World} {base:Nat} {v:Value} {l:List α} (h:OwnX sz E t w base v l):∃ A c,v=C A l.length c:=by
 obtain ⟨xs,h1,_⟩:=h;obtain ⟨A,c,rfl,_,_⟩:=xO (xW h1)
 exact ⟨A,c,rfl⟩
theorem zcx (hE:zdA sz E) {ops:Array Oper} {rest:List Oper} {o:Oper} {a:Act} {w:World} {Q:Exit→Act→World→Prop} (Km:o.guard=none) (s x:Operand) (T:TypeId)
  (ho:o.op=.call { callee:=.builtin .append,args:=#[s,x],argTypes:=#[T,T] }) (t:TypeId) (i0:TypeInfo) (z:Value) (bytes:Nat) (hT:Tryz.prog.underlying T=H (.slice t)) (hi:Tryz.prog.info? t=H i0) (Hk:i0.zero=H z) (Hl:i0.size=sz) (Hm:i0.bytes=bytes) (Kt:z.cells.size=sz) (Ks:0<sz) (Kj:bytes≤1000)
  (base:Nat) (v:Value) (l:List α) (hs:a.eval s=v) (K2:OwnX sz E t w base v l) (vx:Value) (m:List α) (ys:List Value) (hx:a.eval x=vx) (hr:SlR w sz vx m.length ys) (HD:RowOf sz E w ys m) (Hf:0<m.length)
  (K5:∀ g,v.ownBlock=H g→∀ u∈ys,zaZ g u) (H4:l.length+m.length≤4000000) (Ht:base≤w.heap.size)
  (h:∀ A c w',OwnX sz E t w' base (C A (l.length+m.length) c) (l++m)→zcz base w w'→w.grownBy w' v.ownBlock→wpList I ops Q rest (a.put o.dst (C A (l.length+m.length) c)) w'):wpList I ops Q (o::rest) a w:=by
 obtain ⟨xs,h1,h2,h3⟩:=K2
 have K6:(l.length+m.length)*bytes≤140737488355328:=Pk (Nat.mul_le_mul H4 Kj) (by decide)
 obtain ⟨v',w',Hy,g1,g2⟩:=zbD (P:=I) w base T o.type t i0 _ sz bytes hT hi Hk Hl Hm Kt Ks v l.length xs h1 vx m.length ys hr (HD.one hE) (by unfold maxLen;omega) K6 Ht
 have HZ:v'.ownBlock=v.ownBlock∨v'.ownBlock=H w.heap.size:=by
  obtain ⟨hl,A,c,rfl,_,_,hc⟩:=hr;obtain ⟨b,H3,rfl,Hw⟩:=hc Hf
  have HY:∀ j,(⟨b,H3,F⟩:Addr).add j=⟨b,H3+j,F⟩:=by intro j;unfold Addr.add;split <;> simp_all
  exact zd7 (P:=I) w base T o.type t i0 _ sz bytes hT hi Hk Hl Hm v l.length xs h1 ⟨b,H3,F⟩ m.length c ys hl Hf (fun j u hu=>by rw[HY];exact Hw j u hu) (HD.one hE) (by unfold maxLen;omega) K6 Hy
 have Hg:∀ {zs:List Value} {k:List α},RowOf sz E w zs k→(∀ g,v.ownBlock=H g→∀ u∈zs,zaZ g u)→RowOf sz E w' zs k:=by
  intro zs k K3 Ki
  cases hg:v.ownBlock with
  | none =>
   refine K3.keep hE (K3.fresh hE) fun p y hc _=>?_
   exact (Pd (g2.block _ (Pc _ _ hc) (by rw[hg];simp))).trans hc
  | some g =>
   refine K3.keep hE (Ki g hg) fun p y hc Kq=>?_
   exact (Pd (g2.block _ (Pc _ _ hc) (by rw[hg];simpa using Kq))).trans hc
 refine wpList_plain Km fun K hK=>?_
 unfold Oper.wp execOp;simp only[ho,resolve,invoke,builtin,Sem.run_bind,Sem.run_pure,Result.andThen_ok,List.map_toArray,List.map_cons,List.map_nil,hs,hx,Hy]
 refine hK _ _ ?_
 obtain ⟨A,c,rfl,_,_⟩:=xO (xW g1)
 refine h A c w' ⟨xs++ys,?_,(Hg h2 h3).append (Hg HD K5),fun g hg u hu=>?_⟩ (fun W0 hX hb=>Ext.grownOwn hX (zaf h1 hb) g2) g2
 ·rw[xL]
  exact g1
 ·rcases HZ with hb | hb
  ·rw[hb] at hg
   rcases P9.1 hu with hu | hu
   ·exact h3 g hg u hu
   ·exact K5 g hg u hu
  ·rw[hb] at hg
   cases hg
   rcases P9.1 hu with hu | hu
   ·exact h2.fresh hE u hu
   ·exact HD.fresh hE u hu
end
/-! Files -/
def zj6 (W:World) (c:Nat→Option Value) (p:Fil):Prop:=c 0=H (sv p.1)∧∃ u,c 1=H u∧Bs W u p.2
theorem zbq:zdA 2 zj6 where
 keep h ha hk:=by
  obtain ⟨h1,u,h2,h3⟩:=h
  exact ⟨h1,u,h2,Bs.away h3 (ha 1 u h2) hk⟩
 fresh h i u hi hu:=by
  obtain ⟨h1,v,h2,h3⟩:=h
  match i,hi with
  | 0,_=>rw[h1] at hu;cases hu;exact zaB _ _
  | 1,_=>rw[h2] at hu;cases hu;exact Bs.fresh h3 (xN _)
 one h i u hi hu:=by
  obtain ⟨h1,v,h2,h3⟩:=h
  match i,hi with
  | 0,_=>rw[h1] at hu;cases hu;rfl
  | 1,_ =>
   rw[h2] at hu
   cases hu
   obtain ⟨A,c,rfl,_,_⟩:=xO h3;rfl
abbrev OwnF (w:World) (base:Nat) (v:Value) (l:List Fil):Prop:=OwnX 2 zj6 68 w base v l
theorem fs_row {W:World} {v:Value} {l:List Fil}:Fs W v l↔∃ xs,SlR W 2 v l.length xs∧RowOf 2 zj6 W xs l:=by
 constructor
 ·rintro ⟨xs,h1,h2⟩
  exact ⟨xs,h1,h1.1,fun k hk=>by
   obtain ⟨h3,u,h4,h5⟩:=h2 k hk
   exact ⟨h3,u,h4,h5⟩⟩
 ·rintro ⟨xs,h1,h2⟩
  exact ⟨xs,h1,fun k hk=>by
   obtain ⟨h3,u,h4,h5⟩:=h2.2 k hk
   exact ⟨h3,u,h4,h5⟩⟩
theorem OwnF.fs {w:World} {base:Nat} {v:Value} {l:List Fil} (h:OwnF w base v l):Fs w v l:=by
 obtain ⟨xs,h1,h2,_⟩:=h
 exact fs_row.2 ⟨xs,xW h1,h2⟩
/-! Operations -/
def OqE (W:World) (c:Nat→Option Value) (o:Oq):Prop:=c 0=H (D O o.k)∧c 1=H (sv o.n)∧c 2=H (sv o.t)∧∃ u,c 3=H u∧Bs W u o.b
theorem zbt:zdA 4 OqE where
 keep h ha hk:=by
  obtain ⟨h0,h1,h2,u,h3,h4⟩:=h
  exact ⟨h0,h1,h2,u,h3,Bs.away h4 (ha 3 u h3) hk⟩
 fresh h i u hi hu:=by
  obtain ⟨h0,h1,h2,v,h3,h4⟩:=h
  match i,hi with
  | 0,_=>rw[h0] at hu;cases hu;exact zc2 _ _ _
  | 1,_=>rw[h1] at hu;cases hu;exact zaB _ _
  | 2,_=>rw[h2] at hu;cases hu;exact zaB _ _
  | 3,_=>rw[h3] at hu;cases hu;exact Bs.fresh h4 (xN _)
 one h i u hi hu:=by
  obtain ⟨h0,h1,h2,v,h3,h4⟩:=h
  match i,hi with
  | 0,_=>rw[h0] at hu;cases hu;rfl
  | 1,_=>rw[h1] at hu;cases hu;rfl
  | 2,_=>rw[h2] at hu;cases hu;rfl
  | 3,_ =>
   rw[h3] at hu
   cases hu
   obtain ⟨A,c,rfl,_,_⟩:=xO h4;rfl
abbrev OwnQ (w:World) (base:Nat) (v:Value) (l:List Oq):Prop:=OwnX 4 OqE 98 w base v l
def Qs (W:World) (v:Value) (l:List Oq):Prop:=∃ xs,SlR W 4 v l.length xs∧RowOf 4 OqE W xs l
theorem Qs.ext {W W':World} {v:Value} {l:List Oq} (h:Qs W v l) (hX:Ext W W'):Qs W' v l:=by
 obtain ⟨xs,h1,h2⟩:=h
 exact ⟨xs,h1.ext hX,h2.ext zbt hX⟩
theorem OwnQ.qs {w:World} {base:Nat} {v:Value} {l:List Oq} (h:OwnQ w base v l):Qs w v l:=by
 obtain ⟨xs,h1,h2,_⟩:=h
 exact ⟨xs,xW h1,h2⟩
theorem Qs.open_ {W:World} {v:Value} {l:List Oq} (h:Qs W v l):∃ A c,v=C A l.length c∧l.length≤c∧c≤9223372036854775807:=by
 obtain ⟨xs,h1,_⟩:=h
 exact xO h1
theorem Qs.at_ {W:World} {A:Option Addr} {m c:Nat} {l:List Oq} (h:Qs W (C A m c) l) (hn:0<l.length):m=l.length∧∃ b H3,A=H ⟨b,H3,F⟩∧∀ (k:Nat) (hk:k<l.length),
  W.cell? ⟨b,H3+k*4,F⟩=H (D O l[k].k)∧W.cell? ⟨b,H3+k*4+1,F⟩=H (sv l[k].n)∧W.cell? ⟨b,H3+k*4+2,F⟩=H (sv l[k].t)∧∃ B d,W.cell? ⟨b,H3+k*4+3,F⟩=H (C B l[k].b.length d)∧Bs W (C B l[k].b.length d) l[k].b:=by
 obtain ⟨xs,h1,h2⟩:=h;obtain ⟨rfl,b,H3,rfl,hc⟩:=SlR.at_ h1 hn
 refine ⟨rfl,b,H3,rfl,fun k hk=>?_⟩
 obtain ⟨g0,g1,g2,u,g3,g4⟩:=h2.2 k hk
 have g0:xs[k*4+0]?=H (D O l[k].k):=g0
 have g1:xs[k*4+1]?=H (sv l[k].n):=g1
 have g2:xs[k*4+2]?=H (sv l[k].t):=g2
 have g3:xs[k*4+3]?=H u:=g3
 obtain ⟨B,d,rfl,_,_⟩:=xO g4
 exact ⟨hc _ _ g0,by rw[Ph];exact hc _ _ g1,by rw[Ph];exact hc _ _ g2,B,d,by rw[Ph];exact hc _ _ g3,g4⟩
/-! Disks -/
def DkV (W:World) (v:Value) (d:Dk):Prop:=∃ vf vq,v=V #[vf,vq,D L d.quota,D L d.fuse,R d.dead]∧Fs W vf d.fs∧Qs W vq d.q
theorem DkV.ext {W W':World} {v:Value} {d:Dk} (h:DkV W v d) (hX:Ext W W'):DkV W' v d:=by
 obtain ⟨vf,vq,rfl,h1,h2⟩:=h
 exact ⟨vf,vq,rfl,h1.ext hX,h2.ext hX⟩
open Go.RowKit Go.Mv Go.Shelf
theorem zil (v:Value) (bs:List UInt8) (w:World) (h:Bs w v bs) (hl:bs.length≤2000000):Calls I 146 #[v] w fun e w'=>∃ A c,e=.returned (C A bs.length c)∧OwnB w' w.heap.size (C A bs.length c) bs∧Ext w w':=by
 obtain ⟨A,c,rfl,h1,h2⟩:=xO h
 have Kr:=fun (W:World)=>Lib.run_eql_slice_nil (P:=I) W
 cases A with
 | none =>
  have hb:bs=[]:=by
   cases Hj:bs with
   | nil=>rfl
   | cons b l =>
    have:=(SlR.at_ h (by rw[Hj];simp)).2
    obtain ⟨_,_,e,_⟩:=this
    cases e
  subst hb
  go_enter Tryz.func146,Tryz.ntmps146
  go_wp2
  go_ret
  exact ⟨_,_,rfl,World.ownsRow_nil _ _ _ _,xR _⟩
 | some a =>
  have HB:=M h
  go_enter Tryz.func146,Tryz.ntmps146
  go_wp2_with (at_builtin;refine zaX rfl (.tmp 5) (.tmp 6) rfl w.heap.size _ [] rfl (zci w) _ bs rfl (HB.out.ext (xA (xR _) _)) (by simp;omega) (by simp) ?_;intro A1 c1 w1 H8 Kh;have H2:Ext w w1:=Kh w (xA (xR _) _) (xN _);simp only[P4,Pg,xI] at H8 ⊢)
  go_ret
  exact ⟨_,_,rfl,H8,H2⟩
theorem zhF {W:World} {b:Nat} {t:TypeId} {a v:Value} (h:Blk W b t #[a,v]):W.cell? ⟨b,0,F⟩=H a∧W.cell? ⟨b,1,F⟩=H v:=⟨h.cell 0 rfl,h.cell 1 rfl⟩
theorem blk4 {W:World} {b:Nat} {t:TypeId} {a v u x:Value} (h:Blk W b t #[a,v,u,x]):W.cell? ⟨b,0,F⟩=H a∧W.cell? ⟨b,1,F⟩=H v∧W.cell? ⟨b,2,F⟩=H u∧W.cell? ⟨b,3,F⟩=H x:=⟨h.cell 0 rfl,h.cell 1 rfl,h.cell 2 rfl,h.cell 3 rfl⟩
theorem zsp {W:World} {b:Nat} {t:TypeId} {a v:Value} (h:Blk W b t #[a,v]) (a' v':Value):Blk ((W.setCell ⟨b,0,F⟩ a').setCell ⟨b,1,F⟩ v') b t #[a',v']:=(h.set 0 a').set 1 v'
theorem zsq {W:World} {b:Nat} {t:TypeId} {a v u x:Value} (h:Blk W b t #[a,v,u,x]) (a' v' u' x':Value):Blk ((((W.setCell ⟨b,0,F⟩ a').setCell ⟨b,1,F⟩ v').setCell ⟨b,2,F⟩ u').setCell ⟨b,3,F⟩ x') b t #[a',v',u',x']:=(((h.set 0 a').set 1 v').set 2 u').set 3 x'
theorem zl5 {w W:World} (h:Ext w W) {b:Nat} (hb:w.heap.size≤b) (a v:Value):Ext w ((W.setCell ⟨b,0,F⟩ a).setCell ⟨b,1,F⟩ v):=P0 (p:=⟨b,1,F⟩) (P0 (p:=⟨b,0,F⟩) h hb _) hb _
theorem zl6 {w W:World} (h:Ext w W) {b:Nat} (hb:w.heap.size≤b) (a v u x:Value):Ext w ((((W.setCell ⟨b,0,F⟩ a).setCell ⟨b,1,F⟩ v).setCell ⟨b,2,F⟩ u).setCell ⟨b,3,F⟩ x) :=
 P0 (p:=⟨b,3,F⟩) (P0 (p:=⟨b,2,F⟩) (zl5 h hb a v) hb _) hb _
theorem zs0 {W:World} {b:Nat} {t:TypeId} {a v:Value} (hB:Blk W b t #[a,v]) {e:TypeId} (Hd:t≠e) {base size k:Nat} {y:Value} {xs:List Value} (hr:W.ownsRow base e size y k xs) (a' v':Value):((W.setCell ⟨b,0,F⟩ a').setCell ⟨b,1,F⟩ v').ownsRow base e size y k xs:=by
 have r1:=hr.kept (zad _ b 0 a') (.inr (hB.not_row Hd hr).symm)
 exact r1.kept (zad _ b 1 v') (.inr ((hB.set 0 a').not_row Hd r1).symm)
theorem zs1 {W:World} {b:Nat} {t:TypeId} {a v u x:Value} (hB:Blk W b t #[a,v,u,x]) {e:TypeId} (Hd:t≠e) {base size k:Nat} {y:Value} {xs:List Value} (hr:W.ownsRow base e size y k xs) (a' v' u' x':Value):((((W.setCell ⟨b,0,F⟩ a').setCell ⟨b,1,F⟩ v').setCell ⟨b,2,F⟩ u').setCell ⟨b,3,F⟩ x').ownsRow base e size y k xs:=by
 have r1:=hr.kept (zad _ b 0 a') (.inr (hB.not_row Hd hr).symm);have b1:=hB.set 0 a';have r2:=r1.kept (zad _ b 1 v') (.inr (b1.not_row Hd r1).symm);have b2:=b1.set 1 v';have r3:=r2.kept (zad _ b 2 u') (.inr (b2.not_row Hd r2).symm);have b3:=b2.set 2 u'
 exact r3.kept (zad _ b 3 x') (.inr (b3.not_row Hd r3).symm)
theorem zb3 {W:World} {b:Nat} {t:TypeId} {cs:Array Value} (hB:Blk W b t cs) {e:TypeId} (Hd:t≠e) {base size k j:Nat} {y:Value} {xs:List Value} (hr:W.ownsRow base e size y k xs) (a':Value):(W.setCell ⟨b,j,F⟩ a').ownsRow base e size y k xs :=
 hr.kept (zad _ b j a') (.inr (hB.not_row Hd hr).symm)
theorem zve:Tryz.prog.underlying 68=H (.struct (Tryz.prog.fieldsOf 68)):=by kernel_rfl
theorem opU:Tryz.prog.underlying 98=H (.struct (Tryz.prog.fieldsOf 98)):=by kernel_rfl
theorem zc3:Tryz.prog.underlying 25=H (.struct (Tryz.prog.fieldsOf 25)):=by kernel_rfl
theorem zsG (tmps:Array Value) (W:World) (b:Nat) (cs:Array Value) (h4:tmps.getD 2 undef=U (H ⟨b,0,F⟩)) (hb:Blk W b 68 cs) (hs:cs.size=2):(results Tryz.f105 tmps).run I W=.ok (.agg cs) W:=by
 have hl:=hb.load (P:=I) zve rfl (by rw[hs];kernel_rfl)
 have Hp:tmps[2]?.getD undef=U (H ⟨b,0,F⟩):=by simpa using h4
 simp[results,Tryz.results105,Hp,asAddr,hl]
theorem zuI (tmps:Array Value) (W:World) (b:Nat) (cs:Array Value) (h4:tmps.getD 2 undef=U (H ⟨b,0,F⟩)) (hb:Blk W b 98 cs) (hs:cs.size=4):(results Tryz.f107 tmps).run I W=.ok (.agg cs) W:=by
 have hl:=hb.load (P:=I) opU rfl (by rw[hs];kernel_rfl)
 have Hp:tmps[2]?.getD undef=U (H ⟨b,0,F⟩):=by simpa using h4
 simp[results,Tryz.results107,Hp,asAddr,hl]
theorem zsF (n:List UInt8) (v:Value) (b:List UInt8) (w:World) (hB:Bs w v b) (hl:b.length≤2000000):Calls I 105 #[V #[sv n,v]] w fun e w'=>∃ A c,e=.returned (V #[sv n,C A b.length c])∧OwnB w' w.heap.size (C A b.length c) b∧Ext w w':=by
 obtain ⟨A,c,rfl,_,_⟩:=xO hB;have Hr:=(Pf w 68 #[sv n,C A b.length c]).alloc (N #[sv [],C none 0 0] 68);have Hb:=Pf (w.alloc (N #[sv n,C A b.length c] 68)) 68 #[sv [],C none 0 0];rw[xS] at Hb
 have hE:Ext w ((w.alloc (N #[sv n,C A b.length c] 68)).alloc (N #[sv [],C none 0 0] 68)):=xA (xA (xR _) _) _
 have HB:=M (hB.ext hE);have HE:=M hE;have H0:=M Hr;have H1:=M Hb;clear Hr Hb hE hB
 unfold sv at *
 obtain ⟨g0,g1⟩:=zhF H0.out
 go_enter Tryz.func105,Tryz.ntmps105
 go_wp2_with fail
 refine wp_region_held_drew (S:=fun W=>W.cell? ⟨w.heap.size,0,F⟩=H (J ⟨n.toArray⟩)∧W.cell? ⟨w.heap.size,1,F⟩=H (C A b.length c)) (by kernel_rfl) ⟨g0,g1⟩ (fun _=>?_)
 refine tkN 0 ?_;refine tkN 1 ?_;refine tkN 2 ?_;refine tkN 3 ?_
 refine ar1 4 (fun K hK=>?_)
 go_simp
 refine (zil _ b _ (Bs.ext HB.out (xD (xR _))) hl).mono ?_
 rintro e w1 ⟨A1,c1,rfl,H8,HT⟩;have H2:=xT (xD (xR _)) HT;clear g0 g1;obtain ⟨g0,g1⟩:=zhF (H0.out.ext H2);obtain ⟨d0,d1⟩:=zhF (H1.out.ext H2);have f0:=(H1.out.ext H2).frozen 0;have f1:=(H1.out.ext H2).frozen 1
 refine shK hK _ _ ⟨g0,g1⟩ (fun _=>?_)
 refine tkN 5 ?_
 refine ar1 6 (fun K hK=>?_)
 go_simp
 have q2:=zsp (H1.out.ext H2) (J ⟨n.toArray⟩) (C A1 b.length c1);have q0:=((H0.out.ext H2).other (by omega:w.heap.size≠w.heap.size+1) 0 (J ⟨n.toArray⟩)).other (by omega:w.heap.size≠w.heap.size+1) 1 (C A1 b.length c1)
 refine shK hK _ _ (zhF q0) (fun _=>?_)
 refine wdD ?_;go_wp2_with fail
 refine bodyPost_ret (zsG _ _ _ _ rfl q2 rfl) rfl ?_
 have hz:w.heap.size≤w1.heap.size:=(xT HE.out H2).size
 refine ⟨_,_,rfl,zaf (zs0 (H1.out.ext H2) (by decide) H8 _ _) (by have:=HE.out.size;exact this),zl5 (xT HE.out H2) (Pj _) _ _⟩
theorem zmp (o:Oq) (v:Value) (w:World) (hB:Bs w v o.b) (hl:o.b.length≤2000000):Calls I 107 #[V #[D O o.k,sv o.n,sv o.t,v]] w fun e w'=>∃ A c,e=.returned (V #[D O o.k,sv o.n,sv o.t,C A o.b.length c])∧OwnB w' w.heap.size (C A o.b.length c) o.b∧Ext w w':=by
 obtain ⟨A,c,rfl,_,_⟩:=xO hB;obtain ⟨k,n,t,b⟩:=o
 dsimp only at *
 have Hr:=(Pf w 98 #[D O k,sv n,sv t,C A b.length c]).alloc (N #[D O 0,sv [],sv [],C none 0 0] 98);have Hb:=Pf (w.alloc (N #[D O k,sv n,sv t,C A b.length c] 98)) 98 #[D O 0,sv [],sv [],C none 0 0];rw[xS] at Hb
 have hE:Ext w ((w.alloc (N #[D O k,sv n,sv t,C A b.length c] 98)).alloc (N #[D O 0,sv [],sv [],C none 0 0] 98)):=xA (xA (xR _) _) _
 have HB:=M (hB.ext hE);have HE:=M hE;have H0:=M Hr;have H1:=M Hb;clear Hr Hb hE hB
 unfold sv at *
 obtain ⟨g0,g1,g2,g3⟩:=blk4 H0.out
 go_enter Tryz.func107,Tryz.ntmps107
 go_wp2_with fail
 refine (zil _ b _ HB.out hl).mono ?_
 rintro e w1 ⟨A1,c1,rfl,H8,H2⟩;clear g0 g1 g2 g3;have h0:=H0.out.ext H2;have h1:=H1.out.ext H2;obtain ⟨g0,g1,g2,g3⟩:=blk4 h0;obtain ⟨d0,d1,d2,d3⟩:=blk4 h1;have e0:=h0.frozen 3;have f0:=h1.frozen 0;have f1:=h1.frozen 1;have f2:=h1.frozen 2;have f3:=h1.frozen 3;have q0:=M h0;have q1:=M h1;have HO:=M H8;have Kc:=M H2;clear h0 h1 H8 H2;go_wp2_with fail
 have k1:=q1.out.other (show w.heap.size+1≠w.heap.size by omega) 3 (C A1 b.length c1)
 have k2:=zsq k1 (D O k) (J ⟨n.toArray⟩) (J ⟨t.toArray⟩) (C A1 b.length c1)
 refine bodyPost_ret (zuI _ _ _ _ rfl k2 rfl) rfl ?_
 refine ⟨_,_,rfl,zaf (zs1 k1 (by decide) (zb3 q0.out (by decide) HO.out _) _ _ _ _) (by have:=HE.out.size;exact this),zl6 (P0 (p:=⟨w.heap.size,3,F⟩) (xT HE.out Kc.out) (xN _) _) (Pj _) _ _ _ _⟩
theorem zke:(Tryz.prog.info? 68).map (fun i=>(i.zero,i.size,i.bytes))=H (some (V #[J ⟨#[]⟩,C none 0 0]),2,40):=by kernel_rfl
theorem zer:(Tryz.prog.info? 98).map (fun i=>(i.zero,i.size,i.bytes))=H (some (V #[D O 0,J ⟨#[]⟩,J ⟨#[]⟩,C none 0 0]),4,64):=by kernel_rfl
theorem zmr {α:Type} {sz:Nat} {E:World→(Nat→Option Value)→α→Prop} {t:TypeId} {w:World} {base:Nat} {v:Value} {l:List α} (h:OwnX sz E t w base v l) {g:Nat} (hg:v.ownBlock=H g):g<w.heap.size:=by
 obtain ⟨xs,h1,_⟩:=h
 rcases h1.2 with ⟨rfl,_⟩ | ⟨g',cap,cur,rfl,_,hh,_⟩
 ·cases hg
 ·cases hg
  exact (Array.getElem?_eq_some_iff.1 hh).1
theorem zjh {W:World} {n b:List UInt8} {u:Value} (h:Bs W u b):RowOf 2 zj6 W [sv n,u] [(n,b)]:=by
 refine ⟨rfl,fun k hk=>?_⟩
 obtain rfl:k=0:=by simpa using hk
 exact ⟨rfl,u,rfl,h⟩
theorem zdO {W:World} {o:Oq} {u:Value} (h:Bs W u o.b):RowOf 4 OqE W [D O o.k,sv o.n,sv o.t,u] [o]:=by
 refine ⟨rfl,fun k hk=>?_⟩
 obtain rfl:k=0:=by simpa using hk
 exact ⟨rfl,rfl,rfl,u,rfl,h⟩
theorem zda (W:World) (cs:List Value) (t:TypeId) (sz:Nat) (hs:cs.length=1*sz) {n:Nat} (hn:W.heap.size=n):SlR (W.alloc (N cs.toArray t)) sz (C (H ⟨n,0,F⟩) 1 1) 1 cs:=by
 subst hn
 refine ⟨hs,_,_,rfl,xN _,by simp[maxLen],fun _=>⟨_,_,rfl,fun j u hu=>?_⟩⟩
 rw[Pg]
 exact (Pf W t cs.toArray).cell j (by simpa using hu)
theorem zjc (v:Value) (fs:List Fil) (w:World) (hF:Fs w v fs) (hl:fs.length≤2000000) (Hu:∀ f∈fs,f.2.length≤2000000):Calls I 104 #[v,.func (.func 105) #[] #[]] w fun e w'=>∃ A c,e=.returned (C A fs.length c)∧OwnF w' w.heap.size (C A fs.length c) fs∧Ext w w':=by
 obtain ⟨A,c,rfl,_,_⟩:=Fs.open_ hF;have HF:=M hF;have HH:=M Hu;clear hF Hu;obtain ⟨i0,hi,Hk,Hl,Hm⟩:=info_parts zke
 go_enter Tryz.func104,Tryz.ntmps104
 go_wp2_with fail
 go_loopw [4,9] (fun vo i wr=>∃ k:Nat,k≤fs.length∧i=D L k∧(∃ A' c',vo=C A' k c')∧Hid (OwnF wr w.heap.size vo (fs.take k))∧Ext w wr) (fun _ i _=>fs.length-(intOf i).toNat)
 case atStart=>exact ⟨0,Pl _,rfl,⟨_,_,rfl⟩,OwnX.nil _ _ _,xR _⟩
 case round =>
  obtain ⟨k,hk,rfl,⟨A',c',rfl⟩,HO,hX⟩:=hrel
  by_cases hlt:k<fs.length
  ·obtain ⟨_,b,H3,rfl,hc⟩:=(HF.out.ext hX).at_ (by omega)
   obtain ⟨Hf,B2,d2,Kk,Hj⟩:=hc k hlt;have Hs:=HH.out _ (P8 hlt)
   have Hz:fs.take (k+1)=fs.take k++[fs[k]]:=P3 hlt
   have HP:=M Hz
   have H4:(fs.take k).length=k:=by rw[P7];omega
   have H6:=M H4;have HI:=M Hj;clear hc Hz H4 Hj
   generalize fs[k]=x at *
   obtain ⟨n,bb⟩:=x
   dsimp only at *
   have Hi:Ext wr (wr.alloc (N #[sv n,C B2 bb.length d2] 68)):=xA (xR _) _
   have Hv:=Pf wr 68 #[sv n,C B2 bb.length d2];have Hx:=zsF n _ bb _ (Bs.ext HI.out Hi) Hs;have HC:=M Hx;have HR:=M Hi;obtain ⟨x0,x1⟩:=zhF Hv;clear Hx Hi Hv
   simp only[sv] at Hf x0 x1 HC ⊢
   go_wp2_with fail
   refine HC.out.mono ?_
   rintro e w1 ⟨A1,c1,rfl,H8,H2⟩;have Hn:=M H8;have Ha:=xT HR.out H2
   have H7:Ext wr (w1.alloc (N #[J ⟨n.toArray⟩,C A1 bb.length c1] 68)):=xA Ha _
   have HN:=M (OwnX.ext zbq HO.out H7)
   have Hq:∀ g,(Pn A' k c').ownBlock=H g→∀ u∈[J ⟨n.toArray⟩,C A1 bb.length c1],zaZ g u:=by
    intro g hg u hu;have Kn:=zmr HO.out hg;simp only[Pb,P6,or_false] at hu
    rcases hu with rfl | rfl
    ·exact zaB _ n
    ·exact Hn.out.away (by simp;omega)
   have HG:=M Hq;have H9:=M H7;clear Hq H8 H2 Ha H7 x0 x1  Hf
   go_wp2_with (at_builtin;refine zcx zbq rfl (.tmp 13) (.tmp 17) 22 rfl 68 i0 _ 40 Tryz.underlying22 hi Hk Hl Hm rfl (by decide) (by decide) w.heap.size _ (fs.take k) rfl HN.out _ [(n,bb)] [J ⟨n.toArray⟩,C A1 bb.length c1] rfl (zda w1 [J ⟨n.toArray⟩,C A1 bb.length c1] 68 2 rfl rfl) (zjh (n:=n) (Bs.ext Hn.out.bs (xA (xR _) _))) (by simp) HG.out (by rw[H6.out];simp;omega) (xT hX H9.out).size ?_;intro A3 c3 w3 H5 HV Kl;rw[←HP.out,H6.out] at H5;simp only[H6.out,xC,P4,Pg] at H5 ⊢;have HW:=HV w (xT hX H9.out) (xN _))
   go_roundw
   case rel=>exact ⟨k+1,by omega,by go_num,⟨_,_,rfl⟩,H5,HW⟩
   case measure=>simp[intOf];omega
  ·go_wp2_with fail
   go_ret
   obtain rfl:k=fs.length:=by omega
   have:=HO.out
   rw[P5] at this
   exact ⟨_,_,rfl,this,hX⟩
theorem zsZ (v:Value) (fs:List Oq) (w:World) (hF:Qs w v fs) (hl:fs.length≤2000000) (Hu:∀ f∈fs,f.b.length≤2000000):Calls I 106 #[v,.func (.func 107) #[] #[]] w fun e w'=>∃ A c,e=.returned (C A fs.length c)∧OwnQ w' w.heap.size (C A fs.length c) fs∧Ext w w':=by
 obtain ⟨A,c,rfl,_,_⟩:=Qs.open_ hF;have HF:=M hF;have HH:=M Hu;clear hF Hu;obtain ⟨i0,hi,Hk,Hl,Hm⟩:=info_parts zer
 go_enter Tryz.func106,Tryz.ntmps106
 go_wp2_with fail
 go_loopw [4,9] (fun vo i wr=>∃ k:Nat,k≤fs.length∧i=D L k∧(∃ A' c',vo=C A' k c')∧Hid (OwnQ wr w.heap.size vo (fs.take k))∧Ext w wr) (fun _ i _=>fs.length-(intOf i).toNat)
 case atStart=>exact ⟨0,Pl _,rfl,⟨_,_,rfl⟩,OwnX.nil _ _ _,xR _⟩
 case round =>
  obtain ⟨k,hk,rfl,⟨A',c',rfl⟩,HO,hX⟩:=hrel
  by_cases hlt:k<fs.length
  ·obtain ⟨_,b,H3,rfl,hc⟩:=(HF.out.ext hX).at_ (by omega)
   obtain ⟨Hf,K7,K8,B2,d2,Kk,Hj⟩:=hc k hlt;have Hs:=HH.out _ (P8 hlt)
   have Hz:fs.take (k+1)=fs.take k++[fs[k]]:=P3 hlt
   have HP:=M Hz
   have H4:(fs.take k).length=k:=by rw[P7];omega
   have H6:=M H4;have HI:=M Hj;clear hc Hz H4 Hj
   generalize fs[k]=x at *
   obtain ⟨ok,n,t,bb⟩:=x
   dsimp only at *
   have Hi:Ext wr (wr.alloc (N #[D O ok,sv n,sv t,C B2 bb.length d2] 98)):=xA (xR _) _
   have Hv:=Pf wr 98 #[D O ok,sv n,sv t,C B2 bb.length d2];have Hx:=zmp ⟨ok,n,t,bb⟩ _ _ (Bs.ext HI.out Hi) Hs;have HC:=M Hx;have HR:=M Hi;obtain ⟨x0,x1,x2,x3⟩:=blk4 Hv;clear Hx Hi Hv
   simp only[sv] at Hf K7 K8 x0 x1 x2 x3 HC ⊢
   go_wp2_with fail
   refine HC.out.mono ?_
   rintro e w1 ⟨A1,c1,rfl,H8,H2⟩;have Hn:=M H8;have Ha:=xT HR.out H2
   have H7:Ext wr (w1.alloc (N #[D O ok,J ⟨n.toArray⟩,J ⟨t.toArray⟩,C A1 bb.length c1] 98)):=xA Ha _
   have HN:=M (OwnX.ext zbt HO.out H7)
   have Hq:∀ g,(Pn A' k c').ownBlock=H g→∀ u∈[D O ok,J ⟨n.toArray⟩,J ⟨t.toArray⟩,C A1 bb.length c1],zaZ g u:=by
    intro g hg u hu;have Kn:=zmr HO.out hg;simp only[Pb,P6,or_false] at hu
    rcases hu with rfl | rfl | rfl | rfl
    ·exact zc2 _ _ _
    ·exact zaB _ n
    ·exact zaB _ t
    ·exact Hn.out.away (by simp;omega)
   have HG:=M Hq;have H9:=M H7;clear Hq H8 H2 Ha H7 x0 x1 x2 x3 Hf K7 K8
   go_wp2_with (at_builtin;refine zcx zbt rfl (.tmp 13) (.tmp 17) 23 rfl 98 i0 _ 64 Tryz.underlying23 hi Hk Hl Hm rfl (by decide) (by decide) w.heap.size _ (fs.take k) rfl HN.out _ [⟨ok,n,t,bb⟩] [D O ok,J ⟨n.toArray⟩,J ⟨t.toArray⟩,C A1 bb.length c1] rfl (zda w1 [D O ok,J ⟨n.toArray⟩,J ⟨t.toArray⟩,C A1 bb.length c1] 98 4 rfl rfl) (zdO (o:=⟨ok,n,t,bb⟩) (Bs.ext Hn.out.bs (xA (xR _) _))) (by simp) HG.out (by rw[H6.out];simp;omega) (xT hX H9.out).size ?_;intro A3 c3 w3 H5 HV Kl;rw[←HP.out,H6.out] at H5;simp only[H6.out,xC,P4,Pg] at H5 ⊢;have HW:=HV w (xT hX H9.out) (xN _))
   go_roundw
   case rel=>exact ⟨k+1,by omega,by go_num,⟨_,_,rfl⟩,H5,HW⟩
   case measure=>simp[intOf];omega
  ·go_wp2_with fail
   go_ret
   obtain rfl:k=fs.length:=by omega
   have:=HO.out
   rw[P5] at this
   exact ⟨_,_,rfl,this,hX⟩
theorem ztO (tmps:Array Value) (W:World) (b:Nat) (cs:Array Value) (h4:tmps.getD 2 undef=U (H ⟨b,0,F⟩)) (hb:Blk W b 25 cs) (hs:cs.size=5):(results Tryz.f51 tmps).run I W=.ok (.agg cs) W:=by
 have hl:=hb.load (P:=I) zc3 rfl (by rw[hs];kernel_rfl)
 have Hp:tmps[2]?.getD undef=U (H ⟨b,0,F⟩):=by simpa using h4
 simp[results,Tryz.results51,Hp,asAddr,hl]
theorem zam {W:World} {b:Nat} {t:TypeId} {cs:Array Value} (h:Blk W b t cs):W.frozen? ⟨b,0,F⟩=false∧W.frozen? ⟨b,1,F⟩=false∧W.frozen? ⟨b,2,F⟩=false∧W.frozen? ⟨b,3,F⟩=false∧W.frozen? ⟨b,4,F⟩=false:=⟨h.frozen 0,h.frozen 1,h.frozen 2,h.frozen 3,h.frozen 4⟩
abbrev zaR (W:World) (b:Nat) (a v u x y:Value):World:=((((W.setCell ⟨b,0,F⟩ a).setCell ⟨b,1,F⟩ v).setCell ⟨b,2,F⟩ u).setCell ⟨b,3,F⟩ x).setCell ⟨b,4,F⟩ y
theorem zal {W:World} {b:Nat} {t:TypeId} {a v u x y:Value} (h:Blk W b t #[a,v,u,x,y]) (a' v' u' x' y':Value):Blk (((((W.setCell ⟨b,0,F⟩ a').setCell ⟨b,1,F⟩ v').setCell ⟨b,2,F⟩ u').setCell ⟨b,3,F⟩ x').setCell ⟨b,4,F⟩ y') b t #[a',v',u',x',y']:=((((h.set 0 a').set 1 v').set 2 u').set 3 x').set 4 y'
theorem zae {w W:World} (h:Ext w W) {b:Nat} (hb:w.heap.size≤b) (a v u x y:Value):Ext w (zaR W b a v u x y):=P0 (p:=⟨b,4,F⟩) (zl6 h hb a v u x) hb _
theorem zfp {W:World} {b:Nat} {t:TypeId} {cs:Array Value} (h:Blk W b t cs) {k:Nat} {u:Value} (hc:W.cell? ⟨b,k,F⟩=H u):cs[k]?=H u:=by
 simpa [Pe,show W.heap[b]?=_ from h] using hc
theorem Bs.awayBlk {W:World} {u:Value} {bs:List UInt8} (h:Bs W u bs) {b:Nat} {t:TypeId} {cs:Array Value} (hB:Blk W b t cs) (Hc:∀ (k:Nat) (n:Int),cs[k]?≠some (D O n)):zaZ b u:=by
 intro b' H3 n c hn hu he;subst he;obtain ⟨hl,A,c',rfl,h1,h2,h3⟩:=h
 cases hu
 obtain ⟨b2,K4,e,hc⟩:=h3 hn
 cases e
 have H4:0<(bs.map bv).length:=by rw[Pa];exact hn
 have h0:=hc 0 _ (P2 H4);have h1:=zfp hB h0;rw[List.getElem_map] at h1
 exact Hc _ _ h1
theorem zkS {W:World} {xs:List Value} {l:List Fil} (h:RowOf 2 zj6 W xs l) {b:Nat} {t:TypeId} {cs:Array Value} (hB:Blk W b t cs) (Hc:∀ (k:Nat) (n:Int),cs[k]?≠some (D O n)):∀ u∈xs,zaZ b u:=by
 intro u hu;obtain ⟨k,i,hk,hi,hx⟩:=zfH h.1 hu;obtain ⟨g0,v,g1,g2⟩:=h.2 k hk
 match i,hi with
 | 0,_ =>
  have g0:xs[k*2+0]?=H (sv l[k].1):=g0
  rw[g0] at hx;cases hx;exact zaB _ _
 | 1,_ =>
  have g1:xs[k*2+1]?=H v:=g1
  rw[g1] at hx;cases hx;exact Bs.awayBlk g2 hB Hc
theorem zkT {W:World} {xs:List Value} {l:List Oq} (h:RowOf 4 OqE W xs l) {b:Nat} {t:TypeId} {cs:Array Value} (hB:Blk W b t cs) (Hc:∀ (k:Nat) (n:Int),cs[k]?≠some (D O n)):∀ u∈xs,zaZ b u:=by
 intro u hu;obtain ⟨k,i,hk,hi,hx⟩:=zfH h.1 hu;obtain ⟨g0,g1,g2,v,g3,g4⟩:=h.2 k hk
 match i,hi with
 | 0,_ =>
  have g0:xs[k*4+0]?=H (D O l[k].k):=g0
  rw[g0] at hx;cases hx;exact zc2 _ _ _
 | 1,_ =>
  have g1:xs[k*4+1]?=H (sv l[k].n):=g1
  rw[g1] at hx;cases hx;exact zaB _ _
 | 2,_ =>
  have g2:xs[k*4+2]?=H (sv l[k].t):=g2
  rw[g2] at hx;cases hx;exact zaB _ _
 | 3,_ =>
  have g3:xs[k*4+3]?=H v:=g3
  rw[g3] at hx;cases hx;exact Bs.awayBlk g4 hB Hc
theorem zbS {W:World} {b j:Nat} {u:Value} {p:Addr} {x:Value} (h:W.cell? p=H x) (hp:p.block≠b):(W.setCell ⟨b,j,F⟩ u).cell? p=H x:=by
 have hh:=Below.heap_setCell W ⟨b,j,F⟩ u _ hp
 unfold Pe at h ⊢
 rw[hh]
 exact h
theorem OwnF.setD {W:World} {base b j:Nat} {v u:Value} {l:List Fil} {t:TypeId} {cs:Array Value} (h:OwnF W base v l) (ht:t≠68) (hB:Blk W b t cs) (Hc:∀ (k:Nat) (n:Int),cs[k]?≠some (D O n)):OwnF (W.setCell ⟨b,j,F⟩ u) base v l:=by
 obtain ⟨xs,h1,h2,h3⟩:=h
 exact ⟨xs,zb3 hB ht h1 u,h2.keep zbq (zkS h2 hB Hc) fun p x hc hp=>zbS hc hp,h3⟩
theorem OwnQ.setD {W:World} {base b j:Nat} {v u:Value} {l:List Oq} {t:TypeId} {cs:Array Value} (h:OwnQ W base v l) (ht:t≠98) (hB:Blk W b t cs) (Hc:∀ (k:Nat) (n:Int),cs[k]?≠some (D O n)):OwnQ (W.setCell ⟨b,j,F⟩ u) base v l:=by
 obtain ⟨xs,h1,h2,h3⟩:=h
 exact ⟨xs,zb3 hB ht h1 u,h2.keep zbt (zkT h2 hB Hc) fun p x hc hp=>zbS hc hp,h3⟩
theorem no5 {a v u x y:Value} (ha:∀ n,a≠D O n) (hv:∀ n,v≠D O n) (hu:∀ n,u≠D O n) (hx:∀ n,x≠D O n) (hy:∀ n,y≠D O n):∀ (k:Nat) (n:Int),(#[a,v,u,x,y]:Array Value)[k]?≠some (D O n):=by
 intro k n h
 match k,h with
 | 0,h=>exact ha n (P1 h)
 | 1,h=>exact hv n (P1 h)
 | 2,h=>exact hu n (P1 h)
 | 3,h=>exact hx n (P1 h)
 | 4,h=>exact hy n (P1 h)
 | k+5,h=>simp at h
def zan (A:Option Addr) (n c:Nat) (B:Option Addr) (m e:Nat) (q f:Int) (d:Bool):Array Value:=#[C A n c,C B m e,D L q,D L f,R d]
theorem zay {A:Option Addr} {n c:Nat} {B:Option Addr} {m e:Nat} {q f:Int} {d:Bool}:∀ (k:Nat) (z:Int),(zan A n c B m e q f d)[k]?≠some (D O z):=no5 (fun _ h=>by cases h) (fun _ h=>by cases h) (fun _ h=>by cases h) (fun _ h=>by cases h) (fun _ h=>by cases h)
theorem OwnF.box1 {W:World} {base b:Nat} {v:Value} {l:List Fil} {A A':Option Addr} {n c n' c':Nat} {B B':Option Addr} {m e m' e':Nat} {q f q' f':Int} {d d':Bool} (h:OwnF W base v l) (hB:Blk W b 25 (zan A n c B m e q f d)) :
  OwnF (zaR W b (C A' n' c') (C B' m' e') (D L q') (D L f') (R d')) base v l:=by
 have b0:Blk _ b 25 (zan A' n' c' B m e q f d):=hB.set 0 (C A' n' c')
 have b1:Blk _ b 25 (zan A' n' c' B' m' e' q f d):=b0.set 1 (C B' m' e')
 have b2:Blk _ b 25 (zan A' n' c' B' m' e' q' f d):=b1.set 2 (D L q')
 have b3:Blk _ b 25 (zan A' n' c' B' m' e' q' f' d):=b2.set 3 (D L f')
 exact OwnF.setD (OwnF.setD (OwnF.setD (OwnF.setD (OwnF.setD h (by decide) hB zay) (by decide) b0 zay) (by decide) b1 zay) (by decide) b2 zay) (by decide) b3 zay
theorem OwnQ.box1 {W:World} {base b:Nat} {v:Value} {l:List Oq} {A A':Option Addr} {n c n' c':Nat} {B B':Option Addr} {m e m' e':Nat} {q f q' f':Int} {d d':Bool} (h:OwnQ W base v l) (hB:Blk W b 25 (zan A n c B m e q f d)) :
  OwnQ (zaR W b (C A' n' c') (C B' m' e') (D L q') (D L f') (R d')) base v l:=by
 have b0:Blk _ b 25 (zan A' n' c' B m e q f d):=hB.set 0 (C A' n' c')
 have b1:Blk _ b 25 (zan A' n' c' B' m' e' q f d):=b0.set 1 (C B' m' e')
 have b2:Blk _ b 25 (zan A' n' c' B' m' e' q' f d):=b1.set 2 (D L q')
 have b3:Blk _ b 25 (zan A' n' c' B' m' e' q' f' d):=b2.set 3 (D L f')
 exact OwnQ.setD (OwnQ.setD (OwnQ.setD (OwnQ.setD (OwnQ.setD h (by decide) hB zay) (by decide) b0 zay) (by decide) b1 zay) (by decide) b2 zay) (by decide) b3 zay
def OwnD (w:World) (base:Nat) (v:Value) (d:Dk):Prop:=∃ A c B e,v=V #[C A d.fs.length c,C B d.q.length e,D L d.quota,D L d.fuse,R d.dead]∧OwnF w base (C A d.fs.length c) d.fs∧OwnQ w base (C B d.q.length e) d.q
theorem zaS {α:Type} {sz:Nat} {E:World→(Nat→Option Value)→α→Prop} {t:TypeId} {w:World} {base:Nat} {v:Value} {l:List α} (h:OwnX sz E t w base v l) {g:Nat} (hg:v.ownBlock=H g):base≤g∧∃ cs,w.heap[g]?=H (N cs t (0,0)):=by
 obtain ⟨xs,h1,_⟩:=h
 rcases h1.2 with ⟨rfl,_⟩ | ⟨g',cap,cur,rfl,hb,hh,_⟩
 ·cases hg
 ·cases hg
  exact ⟨hb,_,hh⟩
theorem RowOf.freshG {α:Type} {sz:Nat} {E:World→(Nat→Option Value)→α→Prop} (hE:zdA sz E) {xs:List Value} {l:List α}:∀ (n:Nat) {W:World},RowOf sz E W xs l→∀ u∈xs,zaZ (W.heap.size+n) u
 | 0,W,h=>h.fresh hE
 | n+1,W,h=>by
  have:=RowOf.freshG hE n (h.ext hE (xA (xR W) (N #[] 5)))
  rw[xS] at this
  rwa [show W.heap.size+(n+1)=W.heap.size+1+n by omega]
def OwnFA (W:World) (base:Nat) (v:Value) (l:List Fil) (G:Nat→Prop):Prop :=
 ∃ xs,W.ownsRow base 68 2 v l.length xs∧RowOf 2 zj6 W xs l∧(∀ g,v.ownBlock=H g→∀ u∈xs,zaZ g u)∧∀ g,G g→∀ u∈xs,zaZ g u
theorem OwnFA.f {W:World} {base:Nat} {v:Value} {l:List Fil} {G:Nat→Prop} (h:OwnFA W base v l G):OwnF W base v l:=by
 obtain ⟨xs,h1,h2,h3,_⟩:=h
 exact ⟨xs,h1,h2,h3⟩
theorem OwnFA.of {W:World} {base:Nat} {v:Value} {l:List Fil} {G:Nat→Prop} (h:OwnF W base v l) (hG:∀ g,G g→W.heap.size≤g):OwnFA W base v l G:=by
 obtain ⟨xs,h1,h2,h3⟩:=h
 refine ⟨xs,h1,h2,h3,fun g hg=>?_⟩
 have:=h2.freshG zbq (g-W.heap.size)
 rwa [show W.heap.size+(g-W.heap.size)=g by have:=hG g hg;omega] at this
theorem OwnFA.ext {W W':World} {base:Nat} {v:Value} {l:List Fil} {G:Nat→Prop} (h:OwnFA W base v l G) (hX:Ext W W'):OwnFA W' base v l G:=by
 obtain ⟨xs,h1,h2,h3,h4⟩:=h
 exact ⟨xs,zab h1 hX,h2.ext zbq hX,h3,h4⟩
theorem OwnFA.base {W:World} {base base':Nat} {v:Value} {l:List Fil} {G:Nat→Prop} (h:OwnFA W base v l G) (hb:base'≤base):OwnFA W base' v l G:=by
 obtain ⟨xs,h1,h2,h3,h4⟩:=h
 exact ⟨xs,zaf h1 hb,h2,h3,h4⟩
theorem OwnFA.setD {W:World} {base b j:Nat} {v u:Value} {l:List Fil} {G:Nat→Prop} {t:TypeId} {cs:Array Value} (h:OwnFA W base v l G) (ht:t≠68) (hB:Blk W b t cs) (Hc:∀ (k:Nat) (n:Int),cs[k]?≠some (D O n)):OwnFA (W.setCell ⟨b,j,F⟩ u) base v l G:=by
 obtain ⟨xs,h1,h2,h3,h4⟩:=h
 exact ⟨xs,zb3 hB ht h1 u,h2.keep zbq (zkS h2 hB Hc) fun p x hc hp=>zbS hc hp,h3,h4⟩
theorem OwnFA.box1 {W:World} {base b:Nat} {v:Value} {l:List Fil} {G:Nat→Prop} {A A':Option Addr} {n c n' c':Nat} {B B':Option Addr} {m e m' e':Nat} {q f q' f':Int} {d d':Bool} (h:OwnFA W base v l G) (hB:Blk W b 25 (zan A n c B m e q f d)) :
  OwnFA (zaR W b (C A' n' c') (C B' m' e') (D L q') (D L f') (R d')) base v l G:=by
 have b0:Blk _ b 25 (zan A' n' c' B m e q f d):=hB.set 0 (C A' n' c')
 have b1:Blk _ b 25 (zan A' n' c' B' m' e' q f d):=b0.set 1 (C B' m' e')
 have b2:Blk _ b 25 (zan A' n' c' B' m' e' q' f d):=b1.set 2 (D L q')
 have b3:Blk _ b 25 (zan A' n' c' B' m' e' q' f' d):=b2.set 3 (D L f')
 exact OwnFA.setD (OwnFA.setD (OwnFA.setD (OwnFA.setD (OwnFA.setD h (by decide) hB zay) (by decide) b0 zay) (by decide) b1 zay) (by decide) b2 zay) (by decide) b3 zay
def OwnDs (w:World) (base:Nat) (v:Value) (d:Dk):Prop:=∃ A c B e,v=V #[C A d.fs.length c,C B d.q.length e,D L d.quota,D L d.fuse,R d.dead]∧OwnFA w base (C A d.fs.length c) d.fs (fun g=>(Pn B d.q.length e).ownBlock=H g)∧OwnQ w base (C B d.q.length e) d.q
theorem OwnDs.d {w:World} {base:Nat} {v:Value} {d:Dk} (h:OwnDs w base v d):OwnD w base v d:=by
 obtain ⟨A,c,B,e,hv,h1,h2⟩:=h
 exact ⟨A,c,B,e,hv,h1.f,h2⟩
theorem OwnD.dk {w:World} {base:Nat} {v:Value} {d:Dk} (h:OwnD w base v d):DkV w v d:=by
 obtain ⟨A,c,B,e,rfl,h1,h2⟩:=h
 exact ⟨_,_,rfl,h1.fs,h2.qs⟩
theorem zr8 (v:Value) (d:Dk) (w:World) (hD:DkV w v d) (K0:d.fs.length≤2000000) (Kp:d.q.length≤2000000) (Hb:∀ f∈d.fs,f.2.length≤2000000) (Hs:∀ o∈d.q,o.b.length≤2000000) :
  Calls I 51 #[v] w fun e w'=>∃ u,e=.returned u∧OwnDs w' w.heap.size u d∧Ext w w':=by
 obtain ⟨vf,vq,rfl,hF,hQ⟩:=hD;obtain ⟨A,c,rfl,_,_⟩:=Fs.open_ hF;obtain ⟨B,e2,rfl,_,_⟩:=Qs.open_ hQ
 have Hh:=M (show Ext w ((w.alloc (N #[C A d.fs.length c,C B d.q.length e2,D L d.quota,D L d.fuse,R d.dead] 25)).alloc (N #[C none 0 0,C none 0 0,D L 0,D L 0,R false] 25)) from xA (xA (xR _) _) _)
 have H0:=M (show Blk ((w.alloc (N #[C A d.fs.length c,C B d.q.length e2,D L d.quota,D L d.fuse,R d.dead] 25)).alloc (N #[C none 0 0,C none 0 0,D L 0,D L 0,R false] 25)) w.heap.size 25 (zan A d.fs.length c B d.q.length e2 d.quota d.fuse d.dead) from (Pf w _ _).alloc _)
 have h1:Blk ((w.alloc (N #[C A d.fs.length c,C B d.q.length e2,D L d.quota,D L d.fuse,R d.dead] 25)).alloc (N #[C none 0 0,C none 0 0,D L 0,D L 0,R false] 25)) (w.heap.size+1) 25 (zan none 0 0 none 0 0 0 0 false):=by
  have:=Pf (w.alloc (N #[C A d.fs.length c,C B d.q.length e2,D L d.quota,D L d.fuse,R d.dead] 25)) 25 #[C none 0 0,C none 0 0,D L 0,D L 0,R false]
  rwa [xS] at this
 have H1:=M h1;have HF:=M (hF.ext Hh.out);have HQ:=M (hQ.ext Hh.out);clear h1 hF hQ;obtain ⟨g0,g1,g2,g3,g4⟩:=zaa (H0.out.ext (xD (xR _)))
 go_enter Tryz.func51,Tryz.ntmps51
 go_wp2_with fail
 refine wp_region_held_drew (S:=fun _=>True) (by kernel_rfl) trivial (fun _=>?_)
 refine tkN 0 ?_;refine tkN 3 ?_;clear g2 g3 g4
 refine AllReadyH.two (i:=1) (j:=4) rfl rfl (by kernel_rfl) (by rfl) (by rfl) (fun K hK=>?_) (fun K hK=>?_)
 go_simp
 refine shK hK _ _ trivial (fun _=>?_)
 refine AllReadyH.two (i:=2) (j:=4) rfl rfl (by kernel_rfl) (by rfl) (by rfl) (fun K hK=>?_) (fun K hK=>?_)
 go_simp
 refine (zjc _ d.fs _ (Fs.ext HF.out (xD (xR _))) K0 Hb).mono ?_
 rintro e w3 ⟨A3,c3,rfl,H5,He⟩;have HX:=M (xT (xD (xR _)) He)
 have HJ:=M (OwnX.base H5 (show w.heap.size≤_ from Hh.out.size))
 clear H5 He g0 g1;obtain ⟨g0,g1,_,_,_⟩:=zaa (H0.out.ext HX.out)
 refine shK hK _ _ trivial (fun _=>?_)
 refine ar1 4 (fun K hK=>?_)
 go_simp
 refine shK hK _ _ trivial (fun _=>?_)
 rotate_left
 go_simp
 refine shK hK _ _ trivial (fun _=>?_)
 refine ar1 2 (fun K hK=>?_)
 go_simp
 refine (zjc _ d.fs _ (Fs.ext HF.out (xD (xR _))) K0 Hb).mono ?_
 rintro e w3 ⟨A3,c3,rfl,H5,He⟩;have HX:=M (xT (xD (xR _)) He)
 have HJ:=M (OwnX.base H5 (show w.heap.size≤_ from Hh.out.size))
 clear H5 He g0 g1;obtain ⟨g0,g1,_,_,_⟩:=zaa (H0.out.ext HX.out)
 refine shK hK _ _ trivial (fun _=>?_)
 rotate_left
 go_simp
 refine shK hK _ _ trivial (fun _=>?_)
 refine ar1 1 (fun K hK=>?_)
 go_simp
 refine shK hK _ _ trivial (fun _=>?_)
 refine ar1 2 (fun K hK=>?_)
 go_simp
 refine (zjc _ d.fs _ (Fs.ext HF.out (xD (xR _))) K0 Hb).mono ?_
 rintro e w3 ⟨A3,c3,rfl,H5,He⟩;have HX:=M (xT (xD (xR _)) He)
 have HJ:=M (OwnX.base H5 (show w.heap.size≤_ from Hh.out.size))
 clear H5 He g0 g1;obtain ⟨g0,g1,_,_,_⟩:=zaa (H0.out.ext HX.out)
 refine shK hK _ _ trivial (fun _=>?_)
 all_goals
  refine tkN 6 ?_
  refine ar1 5 (fun K hK=>?_)
  go_simp
  refine (zsZ _ d.q _ (HQ.out.ext HX.out) Kp Hs).mono ?_
  rintro e w4 ⟨Q3,k3,rfl,K1,HU⟩;have HS:=M (xT HX.out HU)
  have HL:=M (OwnFA.ext (OwnFA.of HJ.out (G:=fun g=>(Pn Q3 d.q.length k3).ownBlock=H g) (fun g hg=>Pk (by simp) (zaS K1 hg).1)) HU)
  have Ke:=M (OwnX.base K1 (xT Hh.out HX.out).size);have Ku:=M HX.out.size;clear K1 HU g0 g1;have h0:=H0.out.ext HS.out;have e0:=h0.frozen 0;have e1:=h0.frozen 1;have h1:=H1.out.ext HS.out;have HA:=M h0;have Kb:=M h1;obtain ⟨g0,g1,g2,g3,g4⟩:=zaa h0;clear h0 h1
  refine shK hK _ _ trivial (fun _=>?_)
  refine ar1 7 (fun K hK=>?_)
  go_simp
  refine shK hK _ _ trivial (fun _=>?_)
  refine tkN 8 ?_
  have Kg:(w4.setCell ⟨w.heap.size,0,F⟩ (C A3 d.fs.length c3)).frozen? ⟨w.heap.size,1,F⟩=false:=(HA.out.set 0 _).frozen 1
  refine ar1 9 (fun K hK=>?_)
  go_simp
  refine shK hK _ _ trivial (fun _=>?_)
  refine wdD ?_
  have k0:Blk _ w.heap.size 25 (zan A3 d.fs.length c3 B d.q.length e2 d.quota d.fuse d.dead):=HA.out.set 0 (C A3 d.fs.length c3)
  have k1:Blk _ w.heap.size 25 (zan A3 d.fs.length c3 Q3 d.q.length k3 d.quota d.fuse d.dead):=k0.set 1 (C Q3 d.q.length k3)
  have z1:Blk _ (w.heap.size+1) 25 (zan none 0 0 none 0 0 0 0 false):=(Kb.out.other (show w.heap.size+1≠w.heap.size by omega) 0 (C A3 d.fs.length c3)).other (show w.heap.size+1≠w.heap.size by omega) 1 (C Q3 d.q.length k3)
  have K9:=OwnFA.setD (j:=1) (u:=C Q3 d.q.length k3) (OwnFA.setD (j:=0) (u:=C A3 d.fs.length c3) HL.out (by decide) HA.out zay) (by decide) k0 zay;have Ka:=OwnQ.setD (j:=1) (u:=C Q3 d.q.length k3) (OwnQ.setD (j:=0) (u:=C A3 d.fs.length c3) Ke.out (by decide) HA.out zay) (by decide) k0 zay;have Kd:=M k1;have Ho:=M z1;have HK:=M K9;have HM:=M Ka;have Kf:=M (P0 (p:=⟨w.heap.size,1,F⟩) (P0 (p:=⟨w.heap.size,0,F⟩) (xT Hh.out HS.out) (xN _) (C A3 d.fs.length c3)) (xN _) (C Q3 d.q.length k3));clear g0 g1 g2 g3 g4 e0 e1 Kg k0 k1 z1 K9 Ka;obtain ⟨g0,g1,g2,g3,g4⟩:=zaa Kd.out;obtain ⟨f0,f1,f2,f3,f4⟩:=zam Ho.out;obtain ⟨d0,d1,d2,d3,d4⟩:=zaa Ho.out;go_wp2_with fail
  refine bodyPost_ret (ztO _ _ _ _ rfl (zal Ho.out _ _ _ _ _) rfl) rfl ?_
  refine ⟨_,rfl,⟨_,_,_,_,rfl,OwnFA.box1 HK.out Ho.out,OwnQ.box1 HM.out Ho.out⟩,zae Kf.out (Pj _) _ _ _ _ _⟩
end Go.Proofs.YteggfecbjgbndaaGreatDoor
