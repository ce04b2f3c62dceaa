/- Merged -/
import Derived.Test.YteggfecbjgbndaaGreatDoorZw24
import Derived.Test.YteggfecbjgbndaaGreatDoorZw25
import Derived.Test.YteggfecbjgbndaaGreatDoorZw29
set_option linter.all false
set_option maxHeartbeats 8000000
set_option maxRecDepth 100000
open Go.Value renaming int→B,slice→E,pointer→H,bool→O,agg→Q
open Go.IntKind renaming i64→C,u8→R
open Option renaming none→F,some→G
open Go.Mv renaming zhd→I
open Go.Obj renaming cells→L
open Go.Proofs.Tryz renaming prog→N
open Go.RowKit.Below renaming heap_setCell→P0,setCell→P1
open Nat renaming reduceAdd→P2,le_trans→P3,reduceSub→P4
open Go.Mv.Blk renaming new→P5,ext→P6
open List renaming setIfInBounds_toArray→P7,append_toArray→P8,size_toArray→P9,push_toArray→Pa,cons_append→Pb,length_nil→Pc
open Array renaming replicate_zero→Pd,replicate_succ→Pe
namespace Go.Proofs.YteggfecbjgbndaaGreatDoor
open Go.RowKit Go.Mv Go.Shelf
def zcD (s:Sg4) (last:Int):Int:=if s.count = -1 then last else s.first+s.count-1
def zaz (l:List Sg4) (i last:Int):List Sg4:=l.filter fun s=>decide (i<zcD s last)
def zcR (m:Mf) (i last:Int):Mf:={ m with segs:=zaz m.segs i last }
theorem zk8 (l:List Sg4) (i last:Int):(zaz l i last).length≤l.length:=List.length_filter_le _ _
theorem zj2 (l:List Sg4) (x:Sg4) (i last:Int):zaz (l++[x]) i last=zaz l i last++(if i<zcD x last then [x] else []):=by
 unfold zaz;rw[List.filter_append]
 congr 1
 by_cases h:i<zcD x last <;> simp[h]
theorem ztf (A:Option Addr) (n c:Nat) (last:Int) (w:World):Calls N 70 #[E A n c,B C last] w fun e w'=>e=.returned (.func (.func 134) #[] #[H (G ⟨w.heap.size,0,F⟩),H (G ⟨w.heap.size+1,0,F⟩)])∧(w.alloc (L #[E A n c] 28)).alloc (L #[B C last] 3)=w':=by
 have Jt:∀ (fn:Fn) (first cap:Array Value) (w:World),(Instr.makeFunc fn first cap).run N w=.ok (.func fn first cap) w:=fun _ _ _ _=>rfl
 go_enter Tryz.func70,Tryz.ntmps70
 go_wp2
 go_ret
 exact ⟨rfl,rfl⟩
def SgK (bo n0:Nat) (k:Nat) (o:Obj):Prop:=o.isCells=true∧k≠bo∧(k<n0∨o.ty≠some 36)
attribute [local go_sem] Oper.semAt_some in
theorem zrE (wo W0:World) (v:Value) (l:List Sg4) (last:Int) (hG:Sgs wo v l) (Hv:l.length≤1000000) (Ha:∀ s∈l,0≤s.first∧s.first≤1073741824∧-1≤s.count∧s.count≤4) (hH:Hold wo W0) (bs bn bo n0:Nat) (K4:Boxed W0 bs 28 v) (Kq:Boxed W0 bn 3 (B C last)) (h1:bs≠bo) (h2:bn≠bo) (h3:wo.heap.size≤n0) (h4:wo.heap.size≤bo) :
  Seq N 134 #[H (G ⟨bs,0,F⟩),H (G ⟨bn,0,F⟩)] (fun (s:Sg4) av _=>av = #[Q #[B C s.seq,B C s.fmt,B C s.first,B C s.count],B C (zcD s last)]) (SgK bo n0) (fun _ _=>False) l W0:=by
 intro lp J Jx hJ J3 hY h0;obtain ⟨A,c,rfl,Jp,Jq⟩:=hG.open_
 refine (callsIn_wd (ro:=none) (n:=9)).1 ?_
 refine callsIn_of_wp Tryz.func134 rfl trivial ?_ rfl
 simp only[Tryz.ntmps134,P9,xC,Pc,P2,P4,Pe,Pd,Pa,P8,xI,Pb];have HG:=I hG;have HS:=I Ha;clear Ha;have c1:=K4.cell
 gi_wp2
 clear c1
 gi_loopw [9] (fun j W=>∃ k:Nat,j=B C k∧k≤l.length∧Hid (J (l.take k) W)∧Hold wo W∧Hid (Boxed W bs 28 (E A l.length c))∧Boxed W bn 3 (B C last)∧W0.heap.size≤W.heap.size) (fun j _=>l.length+1-(intOf j).toNat)
 case atStart=>exact ⟨0,rfl,by omega,h0,hH,K4,Kq,xN _⟩
 case round =>
  obtain ⟨k,rfl,Js,HJ,HH,HB,b2,Hi⟩:=hrel
  by_cases Hb:k<l.length
  ·obtain ⟨_,b,Jk,rfl,hc⟩:=Sgs.at_ (HG.out.keep HH) (by omega)
   obtain ⟨k0,k1,k2,k3⟩:=hc k Hb
   have KE:l.take (k+1)=l.take k++[l[k]]:=List.take_succ_eq_append_getElem Hb
   have KD:l=l.take k++l[k]::l.drop (k+1):=by rw[←List.drop_eq_getElem_cons Hb,List.take_append_drop]
   have J7:=HS.out _ (List.getElem_mem Hb);have KY:=I hY;have KW:=I KE;have Kj:=I KD;clear hc hY KE KD
   generalize l[k]=x at *
   have Hr:Ext wr (wr.alloc (L #[B C x.seq,B C x.fmt,B C x.first,B C x.count] 36)):=xA (xR _) _
   have Kt:=hJ _ wr (wr.alloc (L #[B C x.seq,B C x.fmt,B C x.first,B C x.count] 36)) HJ.out (Moves.refl.alloc _);have Hx:=P3 Hi Hr.size
   have Ks:Hold wo (wr.alloc (L #[B C x.seq,B C x.fmt,B C x.first,B C x.count] 36)):=fun q u hq=>Ext.cell Hr (HH q u hq)
   have hy:=KY.out _ x _ Kj.out _ #[Q #[B C x.seq,B C x.fmt,B C x.first,B C x.count],B C (zcD x last)] Kt Hx rfl
   have H2:=I (show Boxed _ bs 28 _ from P6 HB.out Hr)
   have Kf:=I (show Boxed _ bn 3 (B C last) from P6 b2 Hr)
   have cb:=Kf.out.cell;have KP:=I Ks;have Kz:=P5 wr 36 #[B C x.seq,B C x.fmt,B C x.first,B C x.count];obtain ⟨g0,g1,g2,g3⟩:=zaK Kz
   have hw:wrap64 (wrap64 (x.first+x.count)-1)=x.first+x.count-1:=by unfold wrap64;omega
   have HW:=I hw;have Hy:=I hy;clear hy Kt Ks Hr Kz hw b2
   have Ht:∀ W',Kept (zac (SgK bo n0) W0.heap.size) (wr.alloc (L #[B C x.seq,B C x.fmt,B C x.first,B C x.count] 36)) W'→Hold wo W'∧Boxed W' bs 28 (E (G ⟨b,Jk,F⟩) l.length c)∧Boxed W' bn 3 (B C last)∧W0.heap.size≤W'.heap.size:=fun W' He =>
    ⟨Hold.keptK KP.out (fun _ _ hk ho=>⟨ho,by omega,.inl (by omega)⟩) He,He.boxed H2.out (.inl ⟨rfl,h1,.inr (by simp[Obj.ty])⟩),He.boxed Kf.out (.inl ⟨rfl,h2,.inr (by simp[Obj.ty])⟩),P3 Hx He.size⟩
   have HR:=I Ht;clear Ht K4 Kq hH h0 J3 hJ
   by_cases hcn:x.count = -1
   case' pos =>
    have he:zcD x last=last:=by unfold zcD;rw[if_pos hcn]
    rw[he] at Hy;obtain ⟨sq,sf,s1,cn⟩:=x
    dsimp only at *
    subst hcn
   case' neg =>
    have he:zcD x last=wrap64 (wrap64 (x.first+x.count)-1):=by unfold zcD;rw[if_neg hcn,HW.out]
    rw[he] at Hy
   all_goals
    clear he HW J7 HB HJ HH
    gi_wp2
    refine zbh Hy.out ?_
    rintro e W' ⟨He,⟨rfl,hj⟩ | ⟨rfl,hj⟩⟩
    ·refine ⟨true,rfl,?_⟩
     obtain ⟨i1,i2,i3,i4⟩:=HR.out W' He;have HX:=I hj;have I2:=I i2;clear hj He g0 g1 g2 g3 cb k0 k1 k2 k3 i2
     gi_wp2
     exact ⟨⟨k+1,by go_num,by omega,by rw[KW.out];exact HX.out,i1,I2,i3,i4⟩,by simp[intOf];omega⟩
    ·refine ⟨false,rfl,?_⟩
     have HX:=I hj;clear hj He g0 g1 g2 g3 cb k0 k1 k2 k3
     gi_wp2
     refine bodyPost_ret (results_none rfl _ _ _) rfl ?_
     refine ⟨⟨_,rfl⟩,.inr ⟨_,⟨l.drop (k+1),?_⟩,HX.out⟩⟩
     rw[List.append_assoc]
     exact Kj.out.symm
  ·obtain rfl:k=l.length:=by omega
   have hj:=HJ.out;rw[List.take_length] at hj;have HJ:=I hj;clear hY hj
   gi_wp2
   refine bodyPost_end (results_none rfl _ _ _) rfl ?_
   exact ⟨⟨_,rfl⟩,.inl HJ.out⟩
theorem zpt {W:World} {b k:Nat} (h:k≠b) (a v u x y z:Value):((((((W.setCell ⟨b,0,F⟩ a).setCell ⟨b,1,F⟩ v).setCell ⟨b,2,F⟩ u).setCell ⟨b,3,F⟩ x).setCell ⟨b,4,F⟩ y).setCell ⟨b,5,F⟩ z).heap[k]?=W.heap[k]?:=by
 rw[P0 _ _ _ _ h,P0 _ _ _ _ h,P0 _ _ _ _ h,P0 _ _ _ _ h,P0 _ _ _ _ h,P0 _ _ _ _ h]
theorem ztl (tmps:Array Value) (W:World) (b:Nat) (cs:Array Value) (h4:tmps.getD 6 undef=H (G ⟨b,0,F⟩)) (hb:Blk W b 30 cs) (hs:cs.size=6):(results Tryz.f26 tmps).run N W=.ok (.agg cs) W:=by
 have hl:=hb.load (P:=N) zd2 rfl (by rw[hs];kernel_rfl)
 have K3:tmps[6]?.getD undef=H (G ⟨b,0,F⟩):=by simpa using h4
 simp[results,Tryz.results26,K3,asAddr,hl]
structure TrmI (w:World) (n0:Nat) (m:Mf) (vs:Value) (i last:Int) (H1:List Sg4) (X:World):Prop where
 bm:Blk X w.heap.size 30 (mfC m vs)
 bi:Boxed X (w.heap.size+1) 3 (B C i)
 br:Blk X (w.heap.size+1+1) 30 #[B C 0,B C 0,B C 0,B C 0,B C 0,E none 0 0]
 bl:∃ v,Boxed X (w.heap.size+1+1+1) 28 v∧OwnS X n0 v (zaz H1 i last)
 e:Ext w X
theorem TrmI.ext {w:World} {n0:Nat} {m:Mf} {vs:Value} {i last:Int} {H1:List Sg4} {X Y:World} (h:TrmI w n0 m vs i last H1 X) (hE:Ext X Y):TrmI w n0 m vs i last H1 Y:=by
 obtain ⟨h1,h2,h3,⟨v,h4,h5⟩,h6⟩:=h
 exact ⟨h1.ext hE,P6 h2 hE,h3.ext hE,⟨v,P6 h4 hE,zab h5 hE⟩,xT h6 hE⟩
theorem TrmI.moves {w:World} {n0 n:Nat} {m:Mf} {vs:Value} {i last:Int} {H1:List Sg4} {X Y:World} (h:TrmI w n0 m vs i last H1 X) (hn:w.heap.size≤n) (hm:Moves (zac (fun _ _=>False) n) X Y):TrmI w n0 m vs i last H1 Y:=by
 obtain ⟨h1,h2,h3,⟨v,h4,h5⟩,h6⟩:=h
 refine ⟨hm.blkF h1,hm.blkF h2,hm.blkF h3,⟨v,hm.blkF h4,hm.ownsRow h5 ?_⟩,hm.belowF h6 hn⟩
 rintro k KZ _ (h | h)
 ·exact h
 ·cases h.2
def zuS (w:World) (m:Mf) (e:Ending) (w':World):Prop:=∃ v,e=.returned (Q #[B C m.next,B C m.term,B C m.vote,B C m.sq,B C m.sf,v])∧OwnS w' w.heap.size v m.segs∧Ext w w'
attribute [local go_sem] Oper.semAt_some in
theorem zgP (m:Mf) (vs:Value) (i last:Int) (w:World) (hG:Sgs w vs m.segs) (Hv:m.segs.length≤1000000) (Ha:∀ s∈m.segs,0≤s.first∧s.first≤1073741824∧-1≤s.count∧s.count≤4) :
  Calls N 26 #[Q #[B C m.next,B C m.term,B C m.vote,B C m.sq,B C m.sf,vs],B C i,B C last] w (zuS w (zcR m i last)):=by
 obtain ⟨A,c,rfl,_,_⟩:=hG.open_;obtain ⟨i0,hi,Jh,Ji,Jj⟩:=info_parts zmb
 refine (callsIn_wd (ro:=none) (n:=9)).1 ?_
 refine callsIn_of_wp_marks Tryz.func26 rfl trivial ?_ rfl
 simp only[Tryz.ntmps26,P9,xC,Pc,P2,P4,Pe,Pd,Pa,P8,xI,Pb];obtain ⟨W0,Hh⟩:∃ W0,(((w.alloc (L #[B C m.next,B C m.term,B C m.vote,B C m.sq,B C m.sf,E A m.segs.length c] 30)).alloc (L #[B C i] 3)).alloc (L #[B C 0,B C 0,B C 0,B C 0,B C 0,E none 0 0] 30)).alloc (L #[E none 0 0] 28)=W0:=⟨_,rfl⟩
 have K5:Ext w W0:=by rw[←Hh];exact xA (xA (xA (xA (xR _) _) _) _) _
 have Hw:W0.heap.size=w.heap.size+1+1+1+1:=by rw[←Hh];simp
 have h0:Blk W0 w.heap.size 30 #[B C m.next,B C m.term,B C m.vote,B C m.sq,B C m.sf,E A m.segs.length c]:=by rw[←Hh];exact (((P5 w _ _).alloc _).alloc _).alloc _
 have h1:Blk W0 (w.heap.size+1) 3 #[B C i]:=by
  rw[←Hh]
  have:=((P5 (w.alloc (L #[B C m.next,B C m.term,B C m.vote,B C m.sq,B C m.sf,E A m.segs.length c] 30)) 3 #[B C i]).alloc (L #[B C 0,B C 0,B C 0,B C 0,B C 0,E none 0 0] 30)).alloc (L #[E none 0 0] 28)
  rwa [xS] at this
 have h2:Blk W0 (w.heap.size+1+1) 30 #[B C 0,B C 0,B C 0,B C 0,B C 0,E none 0 0]:=by
  rw[←Hh]
  have:=(P5 ((w.alloc (L #[B C m.next,B C m.term,B C m.vote,B C m.sq,B C m.sf,E A m.segs.length c] 30)).alloc (L #[B C i] 3)) 30 #[B C 0,B C 0,B C 0,B C 0,B C 0,E none 0 0]).alloc (L #[E none 0 0] 28)
  rwa [xS,xS] at this
 have h3:Blk W0 (w.heap.size+1+1+1) 28 #[E none 0 0]:=by
  rw[←Hh]
  have:=P5 (((w.alloc (L #[B C m.next,B C m.term,B C m.vote,B C m.sq,B C m.sf,E A m.segs.length c] 30)).alloc (L #[B C i] 3)).alloc (L #[B C 0,B C 0,B C 0,B C 0,B C 0,E none 0 0] 30)) 28 #[E none 0 0]
  rwa [xS,xS,xS] at this
 have q5:=h0.cell 5 rfl
 have HT:=I (show TrmI w (w.heap.size+1+1+1+1) m (E A m.segs.length c) i last [] W0 from ⟨h0,h1,h2,⟨_,h3,World.ownsRow_nil _ _ _ _⟩,K5⟩)
 have KV:=I Hw;have HG:=I hG;have H3:=I h3;have KN:=I K5;have HS:=I Ha;clear h0 h1 h2 h3 K5 Hw hG Ha
 gi_wp2_with (refine ⟨trivial,?_⟩;gi_at_call 70;refine (callsIn_wd.2 (ztf _ _ _ last _)).mono ?_;rintro e w4 ⟨rfl,Hz⟩)
 have K6:Ext W0 w4:=by rw[←Hz];exact xA (xA (xR _) _) _
 have Kw:Blk w4 W0.heap.size 28 #[E A m.segs.length c]:=by rw[←Hz];exact (P5 W0 _ _).alloc _
 have Kx:Blk w4 (W0.heap.size+1) 3 #[B C last]:=by
  rw[←Hz]
  have:=P5 (W0.alloc (L #[E A m.segs.length c] 28)) 3 #[B C last]
  rwa [xS] at this
 have KF:w4.heap.size=W0.heap.size+1+1:=by rw[←Hz];simp
 have h0:TrmI w w4.heap.size m (E A m.segs.length c) i last [] w4:=by
  obtain ⟨h1,h2,h3,⟨v,h4,h5⟩,h6⟩:=HT.out.ext K6
  have K3:Boxed w4 (w.heap.size+1+1+1) 28 (E none 0 0):=P6 H3.out K6
  exact ⟨h1,h2,h3,⟨_,K3,World.ownsRow_nil _ _ _ _⟩,h6⟩
 have HZ:=I KF;have H5:=I Kw;have Hd:=I Kx
 have K8:w.heap.size+1+1+1<W0.heap.size:=by have:=KV.out;omega
 clear Hz Kw Kx KF q5 Hh
 refine zcy (n:=9) (Rp:=fun (s:Sg4) av _=>av = #[Q #[B C s.seq,B C s.fmt,B C s.first,B C s.count],B C (zcD s last)]) (K:=SgK (w.heap.size+1+1+1) w4.heap.size) (M:=fun _ _=>False) (xs:=m.segs) (gf:=134) (lb:=#[H (G ⟨W0.heap.size,0,F⟩),H (G ⟨W0.heap.size+1,0,F⟩)]) (a:=⟨_,_⟩) rfl (enters_of Tryz.func134 (by kernel_rfl) rfl)
  ?hseq (fun k o h=>h.elim) (fun k o h=>h.1) (fun x av W h=>by rw[h];rfl) (TrmI w w4.heap.size m (E A m.segs.length c) i last) (fun _ _ _=>False) ?hI (fun _ _ _ _ h _=>h) h0
  (fun x a' W=>∃ nb,Blk W nb 36 #[B C x.seq,B C x.fmt,B C x.first,B C x.count]∧a'=⟨#[Q #[B C m.next,B C m.term,B C m.vote,B C m.sq,B C m.sf,E A m.segs.length c],B C i,B C last,H (G ⟨w.heap.size,0,F⟩),H (G ⟨w.heap.size+1,0,F⟩),undef,H (G ⟨w.heap.size+1+1,0,F⟩),H (G ⟨w.heap.size+1+1+1,0,F⟩),H (G ⟨nb,0,F⟩),B C (zcD x last),H (G ⟨w.heap.size,5,F⟩),E A m.segs.length c,B C last,.func (.func 134) #[] #[H (G ⟨W0.heap.size,0,F⟩),H (G ⟨W0.heap.size+1,0,F⟩)],Q #[B C x.seq,B C x.fmt,B C x.first,B C x.count],B C (zcD x last),undef,undef,undef,undef,undef,undef,undef,undef,undef,undef],[]⟩)
  ?hAx ?assign ?body ?done (fun D c H1 W _ _ h _=>h.elim)
 case hseq =>
  intro W1 hb hs
  exact zrE w W1 _ m.segs last HG.out Hv HS.out (fun q u hq=>Ext.cell (xT (xT KN.out K6) hb) hq) _ _ _ _ (H5.out.ext hb) (Hd.out.ext hb) (by omega) (by omega) (by have:=HZ.out;omega) (by omega)
 case hI =>
  rintro s X Y h hm
  exact h.moves (by have:=HZ.out;omega) hm
 case hAx =>
  rintro x a' X Y ⟨nb,hb,rfl⟩ hm
  exact ⟨nb,hm.blkF hb,rfl⟩
 case assign =>
  rintro l' H1 x Ka W av K' hx h Hi rfl hK;clear hx;have hb:=P5 W 36 #[B C x.seq,B C x.fmt,B C x.first,B C x.count];have HB:=I hb;have HI:=I (h.ext (xA (xR W) (L #[B C x.seq,B C x.fmt,B C x.first,B C x.count] 36)));clear hb h h0
  gi_wp2
  exact hK _ _ (Kept.refl.alloc _) HI.out ⟨_,HB.out,rfl⟩
 case body =>
  rintro l' H1 x Ka a' W hx Jc hr ⟨h1,h2,h3,⟨v,h4,h5⟩,h6⟩ Hi ⟨nb,hb,rfl⟩
  have Jf:H1.length≤1000000:=by have:=congrArg List.length hx;simp at this;omega
  have Ju:(zaz H1 i last).length≤1000000:=P3 (zk8 _ _ _) Jf
  have Hp:=zj2 H1 x i last
  have HI:=I (show TrmI w w4.heap.size m (E A m.segs.length c) i last H1 W from ⟨h1,h2,h3,⟨v,h4,h5⟩,h6⟩)
  have cb:=Blk.cell h2 0 rfl;have cl:=h4.cell;clear hx Jc hr h0
  by_cases Hb:i<zcD x last
  case neg =>
   rw[if_neg Hb,List.append_nil] at Hp;have K1:=I Hp;clear Hp hb
   gi_wp2
   obtain ⟨h1,h2,h3,⟨v,h4,h5⟩,h6⟩:=HI.out
   exact ⟨Kept.refl,h1,h2,h3,⟨v,h4,by rw[K1.out];exact h5⟩,h6⟩
  case pos =>
   rw[if_pos Hb] at Hp;have K1:=I Hp;obtain ⟨A1,c1,rfl,_,_⟩:=(OwnS.sgs h5).open_;obtain ⟨x0,x1,x2,x3⟩:=zaK hb;have K9:=h4.not_row (e:=36) (by decide) h5;have hX:=(P5 W 36 #[B C x.seq,B C x.fmt,B C x.first,B C x.count]);clear Hp hb h1 h2 h3 h6 HG HS
   gi_wp2_with (gi_at_builtin;refine zb9 _ rfl (.tmp 19) (.tmp 21) 28 rfl w4.heap.size 36 i0 _ 4 32 Tryz.underlying28 hi Jh Ji Jj rfl (by decide) (E A1 (zaz H1 i last).length c1) (zaz H1 i last).length _ rfl (zab h5 (xA (xR _) _)) _ 1 (za1 [x]) rfl (ziu W _ 36 4 1 rfl (by omega) rfl) (zot _) (by unfold maxLen;omega) (by omega) (by simp;omega) ?_;intro v' w5 H9 H7;obtain ⟨A3,K2,rfl,_,_⟩:=xO (xW H9);have HO:Boxed w5 (w.heap.size+1+1+1) 28 (E A1 (zaz H1 i last).length c1):=Blk.kept (Blk.alloc h4 _) H7 K9;have fv:=HO.frozen;have cv:=HO.cell)
   have hk:Kept (zac (SgK (w.heap.size+1+1+1) w4.heap.size) w4.heap.size) W (w5.setCell ⟨w.heap.size+1+1+1,0,F⟩ (E A3 ((zaz H1 i last).length+1) K2)):=by
    refine Kept.appended _ h4 h5 H7 ?_ ?_
    ·rintro (⟨_,h,_⟩ | ⟨_,h⟩)
     ·exact h rfl
     ·cases h
    ·rintro k KZ hk (⟨_,_,h | h⟩ | ⟨_,h⟩)
     ·have:=(h5.lt k hk).1;omega
     ·exact h rfl
     ·cases h
   refine ⟨hk,?_⟩
   obtain ⟨h1,h2,h3,_,h6⟩:=HI.out
   have hh:∀ (b:Nat) (t:TypeId) (cs:Array Value),b<w4.heap.size→b≠w.heap.size+1+1+1→Blk W b t cs→Blk (w5.setCell ⟨w.heap.size+1+1+1,0,F⟩ (E A3 ((zaz H1 i last).length+1) K2)) b t cs:=fun b t cs Hb K9 hb=>hk.same _ _ hb (.inl ⟨rfl,K9,.inl Hb⟩)
   refine ⟨hh _ _ _ (by have:=HZ.out;omega) (by omega) h1,hh _ _ _ (by have:=HZ.out;omega) (by omega) h2,hh _ _ _ (by have:=HZ.out;omega) (by omega) h3,⟨_,HO.set _,?_⟩,?_⟩
   ·have h:=H9.kept (grownBy_setCell' w5 (w.heap.size+1+1+1) (E A3 ((zaz H1 i last).length+1) K2)) (.inr (HO.not_row (by decide) H9).symm)
    rw[K1.out];unfold OwnS
    rw[xL,show za1 (zaz H1 i last++[x])=za1 (zaz H1 i last)++za1 [x] from by simp[za1]]
    exact h
   ·refine (Below.grown (xA h6 _) H7 (by have:=h6.size;simp;omega) (fun k ek=>?_)).setCell (p:=⟨w.heap.size+1+1+1,0,F⟩) (by show w.heap.size≤w.heap.size+1+1+1;omega) _
    have:=(h5.lt k ek).1
    have:=HZ.out
    omega
 case done =>
  rintro D W hD ⟨h1,h2,h3,⟨v,h4,h5⟩,h6⟩ hK;clear h0;obtain ⟨A1,c1,rfl,_,_⟩:=(OwnS.sgs h5).open_;have cl:=h4.cell;have f5:=h1.frozen 5;have g5:=h1.cell 5 rfl
  have Kp:Blk (W.setCell ⟨w.heap.size,5,F⟩ (E A1 (zaz m.segs i last).length c1)) w.heap.size 30 #[B C m.next,B C m.term,B C m.vote,B C m.sq,B C m.sf,E A1 (zaz m.segs i last).length c1]:=h1.set 5 _
  have HF:=h3.other (show w.heap.size+1+1≠w.heap.size by omega) 5 (E A1 (zaz m.segs i last).length c1)
  have Ku:(W.setCell ⟨w.heap.size,5,F⟩ (E A1 (zaz m.segs i last).length c1)).heap[D]?=G (.deferred (some [])):=(P0 _ _ _ _ (by have:=HZ.out;show D≠w.heap.size;omega)).trans hK
  have KC:=h5.kept (zad _ w.heap.size 5 (E A1 (zaz m.segs i last).length c1)) (.inr (h1.not_row (by decide) h5).symm);have hE:=P1 (p:=⟨w.heap.size,5,F⟩) h6 (xN _) (E A1 (zaz m.segs i last).length c1);obtain ⟨p0,p1,p2,p3,p4,p5⟩:=zag Kp;obtain ⟨r0,r1,r2,r3,r4,r5⟩:=zag HF;obtain ⟨j0,j1,j2,j3,j4,j5⟩:=zdQ HF;have Ke:=I HF;have KR:=I Ku;have KT:=I KC;have HE:=I hE;clear h1 h2 h3 h4 h5 h6 Kp HF hK Ku KC hE HG HS
  gi_wp2
  have J5:=zbl Ke.out (B C m.next) (B C m.term) (B C m.vote) (B C m.sq) (B C m.sf) (E A1 (zaz m.segs i last).length c1);have Je:=zms Ke.out (by decide) KT.out (B C m.next) (B C m.term) (B C m.vote) (B C m.sq) (B C m.sf) (E A1 (zaz m.segs i last).length c1);have J8:=zbm HE.out (by omega:w.heap.size≤w.heap.size+1+1) (B C m.next) (B C m.term) (B C m.vote) (B C m.sq) (B C m.sf) (E A1 (zaz m.segs i last).length c1);have Hu:=(zpt (W:=W.setCell ⟨w.heap.size,5,F⟩ (E A1 (zaz m.segs i last).length c1)) (by have:=HZ.out;omega:D≠w.heap.size+1+1) (B C m.next) (B C m.term) (B C m.vote) (B C m.sq) (B C m.sf) (E A1 (zaz m.segs i last).length c1)).trans KR.out
  generalize ((((((W.setCell ⟨w.heap.size,5,F⟩ (E A1 (zaz m.segs i last).length c1)).setCell ⟨w.heap.size+1+1,0,F⟩ (B C m.next)).setCell ⟨w.heap.size+1+1,1,F⟩ (B C m.term)).setCell ⟨w.heap.size+1+1,2,F⟩ (B C m.vote)).setCell ⟨w.heap.size+1+1,3,F⟩ (B C m.sq)).setCell ⟨w.heap.size+1+1,4,F⟩ (B C m.sf)).setCell ⟨w.heap.size+1+1,5,F⟩ (E A1 (zaz m.segs i last).length c1)=W6 at *
  have J6:Blk (W6.putObj D (.deferred none)) (w.heap.size+1+1) 30 #[B C m.next,B C m.term,B C m.vote,B C m.sq,B C m.sf,E A1 (zaz m.segs i last).length c1]:=(World.putObj_heap_other (show w.heap.size+1+1≠D by have:=HZ.out;omega)).trans J5
  refine zbO Hu _ (ztl _ _ _ _ rfl J6 rfl) ?_
  exact ⟨_,rfl,zaf (ownsRow_putObj Je (.deferred none) Hu rfl) (by have:=HZ.out;omega),zaN J8 (by have:=HZ.out;omega) _⟩
theorem zq5 (D0 D1 D2 D3 D4:Value) (A:Option Addr) (c:Nat) (A':Option Addr) (c':Nat) (A3:Option Addr) (n3 c3 b:Nat) (w:World) (hb:Blk w b 168 #[D0,D1,D2,D3,D4,B C 0,B C 0,B C 0,B C 1,O false,E A 0 c,B C 0,B C 0,B C 1,B C 0,B C 0,B C 0,B C 0,E A' 0 c',B R 0,B C 0,B C 0,E none 0 0]) :
  Calls N 128 #[H (G ⟨b,0,F⟩),B R 4,B C 2,E A3 n3 c3] w fun e w'=>e=.returned (B C 1)∧w'=(zcf w b 19 [B R 4,B C 1,B C 2,E A3 n3 c3]).setCell ⟨b,13,F⟩ (B C 2):=by
 have Hf:=hb.cell 13 rfl;have KH:=hb.cell 19 rfl;have KI:=hb.cell 20 rfl;have KJ:=hb.cell 21 rfl;have KK:=hb.cell 22 rfl;have Km:=hb.frozen 13;have Jl:=hb.frozen 19;have Jm:=hb.frozen 20;have Jn:=hb.frozen 21;have Jo:=hb.frozen 22;clear hb
 go_enter Tryz.func128,Tryz.ntmps128
 go_wp2
 go_ret
 exact ⟨rfl,rfl⟩
theorem zoY (A':Option Addr) (c':Nat) (Hs:c'≤9223372036854775807) (w:World):Calls N 26 #[Q #[B C 1,B C 0,B C 0,B C 0,B C 0,E A' 0 c'],B C 0,B C 0] w fun e w'=>∃ A3 c3,e=.returned (Q #[B C 1,B C 0,B C 0,B C 0,B C 0,E A3 0 c3])∧c3≤9223372036854775807∧Ext w w':=by
 refine (zgP m15 (E A' 0 c') 0 0 w (zfI _ _ Hs) (by decide) (fun s hs=>by cases hs)).mono ?_
 rintro e w3 ⟨v3,rfl,Jd,HL⟩;obtain ⟨A3,c3,rfl,_,HN⟩:=(OwnS.sgs Jd).open_
 exact ⟨A3,c3,rfl,HN,HL⟩
theorem zes {b:Nat}:∀ (l:List Value) {W X:World} {k:Nat},KB b W X→KB b W (zcf X b k l)
 | [],_,_,_,h=>h
 | v::l,_,_,k,h=>zes l (h.set k v)
theorem zrD (D0 D1 D2 D3 D4:Value) (A:Option Addr) (c:Nat) (hc:c≤9223372036854775807) (A':Option Addr) (c':Nat) (Hs:c'≤9223372036854775807) (b:Nat) (w:World) (Hq:StW w) (hb:Blk w b 168 (wkC D0 D1 D2 D3 D4 A c m15 (E A' 0 c') 0 0 0 (E none 0 0))) :
  Calls N 133 #[H (G ⟨b,0,F⟩),Q #[B C 0,B C 0,B C 0,B C 1,O false],B C 2,O false] w fun e w'=>e=.returned (B C 0)∧ToP false b D0 D1 D2 D3 D4 ⟨2,0,0,1,2,[]⟩ 4 1 2 (zbb sW) w (.returned (.tuple #[.bool false,B C 0])) w':=by
 have K8:b<w.heap.size:=hb.lt
 have HQ:=I K8
 have HD:Hid (Ext w (w.alloc (L #[B C 0,B C 0,B C 0,B C 1,O false] 41))):=I (xA (xR _) _)
 have hs:=P5 w 41 #[B C 0,B C 0,B C 0,B C 1,O false];have Ki:=I hs;have HB:=I hb;have HT:=I Hq;obtain ⟨p0,p1,p2,p3,p4⟩:=zaa hs;clear hs hb Hq K8
 go_enter Tryz.func133,Tryz.ntmps133
 go_wp2_with fail
 refine (ztD sW _ (by decide) (HT.out.ext HD.out).tab).mono ?_
 rintro e w1 ⟨A1,c1,rfl,KA,H6⟩;have H4:=I (xT HD.out H6)
 have H2:Hid (Blk w1 b 168 #[D0,D1,D2,D3,D4,B C 0,B C 0,B C 0,B C 1,O false,E A 0 c,B C 0,B C 0,B C 1,B C 0,B C 0,B C 0,B C 0,E A' 0 c',B R 0,B C 0,B C 0,E none 0 0]):=I (HB.out.ext H4.out)
 have Kh:=I (Ki.out.ext H6);have HY:=I KA;clear p0 p1 p2 p3 p4 KA H6 HB Ki
 have H8:∀ W,Ext w1 W→W.cell? ⟨w.heap.size,0,F⟩=G (B C 0)∧W.cell? ⟨b,5,F⟩=G (B C 0)∧W.cell? ⟨b,6,F⟩=G (B C 0)∧W.cell? ⟨b,7,F⟩=G (B C 0)∧W.cell? ⟨b,8,F⟩=G (B C 1)∧W.cell? ⟨b,9,F⟩=G (O false)∧W.cell? ⟨b,10,F⟩=G (E A 0 c)∧W.cell? ⟨b,11,F⟩=G (B C 0)∧W.cell? ⟨b,12,F⟩=G (B C 0):=fun W h=>⟨h.cell (Kh.out.cell 0 rfl),h.cell (H2.out.cell 5 rfl),h.cell (H2.out.cell 6 rfl),h.cell (H2.out.cell 7 rfl),h.cell (H2.out.cell 8 rfl),h.cell (H2.out.cell 9 rfl),h.cell (H2.out.cell 10 rfl),h.cell (H2.out.cell 11 rfl),h.cell (H2.out.cell 12 rfl)⟩
 have H0:=I H8
 have hm:∀ W,Ext w1 W→W.cell? ⟨b,13,F⟩=G (B C 1)∧W.cell? ⟨b,14,F⟩=G (B C 0)∧W.cell? ⟨b,15,F⟩=G (B C 0)∧W.cell? ⟨b,16,F⟩=G (B C 0)∧W.cell? ⟨b,17,F⟩=G (B C 0)∧W.cell? ⟨b,18,F⟩=G (E A' 0 c'):=fun W h=>⟨h.cell (H2.out.cell 13 rfl),h.cell (H2.out.cell 14 rfl),h.cell (H2.out.cell 15 rfl),h.cell (H2.out.cell 16 rfl),h.cell (H2.out.cell 17 rfl),h.cell (H2.out.cell 18 rfl)⟩
 have HM:=I hm;clear H8 hm;go_wp2_with fail
 refine wp_region_held_drew (S:=fun W=>W.cell? ⟨w.heap.size,0,F⟩=G (B C 0)∧W.cell? ⟨b,5,F⟩=G (B C 0)∧W.cell? ⟨b,6,F⟩=G (B C 0)∧W.cell? ⟨b,7,F⟩=G (B C 0)∧W.cell? ⟨b,8,F⟩=G (B C 1)∧W.cell? ⟨b,9,F⟩=G (O false)∧W.cell? ⟨b,10,F⟩=G (E A 0 c)∧W.cell? ⟨b,11,F⟩=G (B C 0)∧W.cell? ⟨b,12,F⟩=G (B C 0)) (by kernel_rfl) (H0.out _ (xD (xR _))) (fun _=>?_)
 refine tkN 0 ?_;refine tkN 1 ?_;refine tkN 2 ?_;refine tkN 3 ?_;refine tkN 5 ?_;refine tkN 6 ?_;refine tkN 7 ?_;refine tkN 8 ?_;refine tkN 9 ?_;refine tkN 10 ?_
 refine AllReadyH.two (i:=4) (j:=11) rfl rfl (by kernel_rfl) (by rfl) (by rfl) (fun K hK=>?x1) (fun K hK=>?x2)
 case' x1 =>
  obtain ⟨Hf,Hj,Hk,Hl,Hm,Hn⟩:=HM.out _ (xD (xR w1))
  go_simp
  refine shK hK _ _ (H0.out _ (xD (xR _))) (fun _=>?_)
  clear Hf Hj Hk Hl Hm Hn
  refine ar1 11 (fun K hK=>?_)
  go_simp
  refine (zfR A c 0 0 _).mono ?_
  rintro e w2 ⟨rfl,HK⟩;have Ho:=I (xT (xD (xR w1)) HK)
  refine shK hK _ _ (H0.out _ Ho.out) (fun _=>?_)
 case' x2 =>
  go_simp
  refine (zfR A c 0 0 _).mono ?_
  rintro e w2 ⟨rfl,HK⟩;have Ho:=I (xT (xD (xR w1)) HK)
  refine shK hK _ _ (H0.out _ Ho.out) (fun _=>?_)
  obtain ⟨Hf,Hj,Hk,Hl,Hm,Hn⟩:=HM.out _ Ho.out
  refine ar1 4 (fun K hK=>?_)
  go_simp
  refine shK hK _ _ (H0.out _ Ho.out) (fun _=>?_)
  clear Hf Hj Hk Hl Hm Hn
 all_goals
  clear HK
  refine ar1 12 (fun K hK=>?_)
  go_simp
  refine (zoY A' c' Hs w2).mono ?_
  rintro e w3 ⟨A3,c3,rfl,HN,HL⟩;have Hg:=I (xT Ho.out HL);have KM:=I HN;clear HL HN
  refine shK hK _ _ (H0.out _ Hg.out) (fun _=>?_)
  refine tkN 13 ?_;refine tkN 14 ?_;have Hc:=I (H2.out.ext Hg.out);have Km:=Hc.out.frozen 13;have J0:=Hc.out.frozen 14;have J1:=Hc.out.frozen 15;have Kn:=Hc.out.frozen 16;have Ko:=Hc.out.frozen 17;have J2:=Hc.out.frozen 18;obtain ⟨Hf,Hj,Hk,Hl,Hm,Hn⟩:=HM.out _ Hg.out
  refine ar1 15 (fun K hK=>?_)
  go_simp
  have H5:=I (zdW [B C 1,B C 0,B C 0,B C 0,B C 0,E A3 0 c3] (k:=13) Hc.out);have K0:=I (zb2 [B C 1,B C 0,B C 0,B C 0,B C 0,E A3 0 c3] (c:=b) (k:=13) (Kh.out.ext Hg.out) (by have:=HQ.out;omega))
  have HU:Hid (zcz b w (zcf w3 b 13 [B C 1,B C 0,B C 0,B C 0,B C 0,E A3 0 c3])):=I fun W0 h0 hl=>zc4 [B C 1,B C 0,B C 0,B C 0,B C 0,E A3 0 c3] (k:=13) (xT h0 (xT H4.out Hg.out)) hl
  have HA:Hid (KB b w3 (zcf w3 b 13 [B C 1,B C 0,B C 0,B C 0,B C 0,E A3 0 c3])):=I (zes _ (KB.ext (xR _)))
  simp only[zcf,zkl,P7,List.set_cons_succ,List.set_cons_zero,P2] at H5 K0 HU HA
  refine shK hK _ _ ⟨K0.out.cell 0 rfl,H5.out.cell 5 rfl,H5.out.cell 6 rfl,H5.out.cell 7 rfl,H5.out.cell 8 rfl,H5.out.cell 9 rfl,H5.out.cell 10 rfl,H5.out.cell 11 rfl,H5.out.cell 12 rfl⟩ (fun _=>?_)
  refine wdD ?_;clear Km J0 J1 Kn Ko J2 Hf Hj Hk Hl Hm Hn H0 HM;have Kv:=I (KB.bs HA.out (xW (zab HY.out Hg.out)) (HY.out.away (by have:=HD.out.size;have:=HQ.out;omega)));have Kg:=I (KB.trans (KB.ext (b:=b) (xT H4.out Hg.out)) HA.out);have KL:=I (OwnB.away HY.out (by have:=HD.out.size;have:=HQ.out;omega:b<_));obtain ⟨X,hX⟩:∃ X,zcf w3 b 13 [B C 1,B C 0,B C 0,B C 0,B C 0,E A3 0 c3]=X:=⟨_,rfl⟩;simp only[zcf,P2] at hX
  rw[hX] at H5 HU Kg Kv ⊢
  clear hX HA K0 Hc;go_wp2_with fail
  refine (zq5 D0 D1 D2 D3 D4 A c A3 c3 A1 (zbb sW).length c1 b X H5.out).mono ?_
  rintro e w5 ⟨rfl,rfl⟩;have Hd:=I (Blk.set (zdW [B R 4,B C 1,B C 2,E A1 (zbb sW).length c1] (k:=19) H5.out) 13 (B C 2))
  have KO:Hid (zcz b w ((zcf X b 19 [B R 4,B C 1,B C 2,E A1 (zbb sW).length c1]).setCell ⟨b,13,F⟩ (B C 2))):=I fun W0 h0 hl=>P1 (p:=⟨b,13,F⟩) (zc4 [B R 4,B C 1,B C 2,E A1 (zbb sW).length c1] (k:=19) (HU.out W0 h0 hl) hl) hl _
  have KQ:Hid (KB b X ((zcf X b 19 [B R 4,B C 1,B C 2,E A1 (zbb sW).length c1]).setCell ⟨b,13,F⟩ (B C 2))):=I ((zes [B R 4,B C 1,B C 2,E A1 (zbb sW).length c1] (k:=19) (KB.ext (xR X))).set 13 _)
  simp only[zkl,P7,List.set_cons_succ,List.set_cons_zero,P2] at Hd
  generalize (zcf X b 19 [B R 4,B C 1,B C 2,E A1 (zbb sW).length c1]).setCell ⟨b,13,F⟩ (B C 2)=Y at *
  have Kn:=Hd.out.frozen 16;have Ko:=Hd.out.frozen 17;have Jv:=Hd.out.cell 16 rfl;have Jw:=Hd.out.cell 17 rfl;go_wp2_with fail;go_ret;have Kr:=zdW [B C 1,B C 2] (k:=16) Hd.out;simp only[zkl,P7,List.set_cons_succ,List.set_cons_zero,P2] at Kr;have Hu:=zes [B C 1,B C 2] (k:=16) KQ.out
  have J9:zcz b w (zcf Y b 16 [B C 1,B C 2]):=fun W0 h0 hl=>zc4 [B C 1,B C 2] (k:=16) (KO.out W0 h0 hl) hl
  exact ⟨rfl,⟨rfl,⟨A,c,E A3 0 c3,E A1 (zbb sW).length c1,hc,Kr,zfI _ _ KM.out,KB.bs Hu Kv.out KL.out⟩,J9,KB.trans Kg.out Hu⟩⟩
theorem zo7 (D0 D1 D2 D3 D4:Value) (A:Option Addr) (c:Nat) (hc:c≤9223372036854775807) (A':Option Addr) (c':Nat) (Hs:c'≤9223372036854775807) (b bt bv:Nat) (w:World) (Hq:StW w) (hb:Blk w b 168 (wkC D0 D1 D2 D3 D4 A c m15 (E A' 0 c') 0 0 0 (E none 0 0))) (ht:Blk w bt 41 #[B C 0,B C 0,B C 0,B C 1,O false]) (hv:Blk w bv 3 #[B C 2]) :
  Calls N 131 #[H (G ⟨b,0,F⟩),H (G ⟨bt,0,F⟩),H (G ⟨bv,0,F⟩)] w (ToP false b D0 D1 D2 D3 D4 ⟨2,0,0,1,2,[]⟩ 4 1 2 (zbb sW) w):=by
 have Ky:=hb;unfold wkC at hb;obtain ⟨q0,q1,q2,q3,q4,q5,q6,q7,q8,q9,Kb,Kc,Kd,Hf,Hj,Hk,Hl,Hm,Hn,KH,KI,KJ,KK⟩:=zdz hb;obtain ⟨s0,s1,s2,s3,s4⟩:=zaa ht;have p1:=hv.cell 0 rfl;have KX:=I Ky;have KU:=I Hq;have HB:=I hb;have HT:=I ht;have HV:=I hv;clear hb Ky ht hv Hq q0 q1 q2 q3 q4 Hf Hj Hk Hl Hm Hn KH KI KJ KK
 have H8:∀ W,Ext w W→W.cell? ⟨bt,0,F⟩=G (B C 0)∧W.cell? ⟨bt,1,F⟩=G (B C 0)∧W.cell? ⟨bt,2,F⟩=G (B C 0)∧W.cell? ⟨bt,3,F⟩=G (B C 1)∧W.cell? ⟨bt,4,F⟩=G (O false)∧W.cell? ⟨bv,0,F⟩=G (B C 2)∧W.cell? ⟨b,5,F⟩=G (B C 0)∧W.cell? ⟨b,6,F⟩=G (B C 0)∧W.cell? ⟨b,7,F⟩=G (B C 0)∧W.cell? ⟨b,8,F⟩=G (B C 1)∧W.cell? ⟨b,9,F⟩=G (O false)∧W.cell? ⟨b,10,F⟩=G (E A 0 c)∧W.cell? ⟨b,11,F⟩=G (B C 0)∧W.cell? ⟨b,12,F⟩=G (B C 0):=fun W h=>⟨h.cell s0,h.cell s1,h.cell s2,h.cell s3,h.cell s4,h.cell p1,h.cell q5,h.cell q6,h.cell q7,h.cell q8,h.cell q9,h.cell Kb,h.cell Kc,h.cell Kd⟩
 have H0:=I H8;clear H8
 go_enter Tryz.func131,Tryz.ntmps131
 go_wp2_with fail
 refine zku (fun a' w'=>a'.defers=[]∧a'.tmps.size=24∧a'.tmps.getD 0 undef=H (G ⟨b,0,F⟩)∧a'.tmps.getD 1 undef=H (G ⟨bt,0,F⟩)∧a'.tmps.getD 2 undef=H (G ⟨bv,0,F⟩)∧a'.tmps.getD 4 undef=.bool false∧a'.tmps.getD 5 undef=B C 0∧a'.tmps.getD 7 undef=B C 0∧Ext w w') ?_ ?_
 ·refine wp_region_held_drew (S:=fun W=>W.cell? ⟨bt,0,F⟩=G (B C 0)∧W.cell? ⟨bt,1,F⟩=G (B C 0)∧W.cell? ⟨bt,2,F⟩=G (B C 0)∧W.cell? ⟨bt,3,F⟩=G (B C 1)∧W.cell? ⟨bt,4,F⟩=G (O false)∧W.cell? ⟨bv,0,F⟩=G (B C 2)∧W.cell? ⟨b,5,F⟩=G (B C 0)∧W.cell? ⟨b,6,F⟩=G (B C 0)∧W.cell? ⟨b,7,F⟩=G (B C 0)∧W.cell? ⟨b,8,F⟩=G (B C 1)∧W.cell? ⟨b,9,F⟩=G (O false)∧W.cell? ⟨b,10,F⟩=G (E A 0 c)∧W.cell? ⟨b,11,F⟩=G (B C 0)∧W.cell? ⟨b,12,F⟩=G (B C 0)) (by kernel_rfl) (H0.out _ (xD (xR _))) (fun _=>?_)
  clear s0 s1 s2 s3 s4 p1 q5 q6 q7 q8 q9 Kb Kc Kd;refine tkN 0 ?_;refine tkN 1 ?_;refine tkN 2 ?_;refine tkN 3 ?_;refine tkN 4 ?_
  refine AllReadyH.two (i:=5) (j:=9) rfl rfl (by kernel_rfl) (by rfl) (by rfl) (fun K hK=>?_) (fun K hK=>?_)
  ·go_simp
   refine (zkB A c hc _).mono ?_
   rintro e w1 ⟨A1,c1,rfl,H6⟩;have H4:=I (xT (xD (xR w)) H6)
   refine shK hK _ _ (H0.out _ H4.out) (fun _=>?_)
   refine tkN 6 ?_;refine tkN 7 ?_;refine tkN 8 ?_
   refine ar1 9 (fun K hK=>?_)
   go_simp
   have HP:=P5 w1 44 #[B C 0,B C 0,B C 0,B C 0,O false,E none 0 0,B C 0,B C 0]
   refine shK hK _ _ (H0.out _ (xA H4.out _)) (fun _=>?_)
   obtain ⟨f0,f1,f2,f3,f4,f5,f6,f7⟩:=za9 HP
   refine ar1 10 (fun K hK=>?_)
   go_simp
   refine shK hK _ _ (H0.out _ (xA H4.out _)) (fun _=>?_)
   refine tkN 11 ?_;refine wdD ?_
   exact ⟨rfl,rfl,rfl,rfl,rfl,rfl,rfl,rfl,xA H4.out _⟩
  ·go_simp
   have HP:=P5 w.drew 44 #[B C 0,B C 0,B C 0,B C 0,O false,E none 0 0,B C 0,B C 0]
   have K7:Ext w (w.drew.alloc (L #[B C 0,B C 0,B C 0,B C 0,O false,E none 0 0,B C 0,B C 0] 44)):=xA (xD (xR _)) _
   refine shK hK _ _ (H0.out _ K7) (fun _=>?_)
   refine ar1 5 (fun K hK=>?_)
   go_simp
   refine (zkB A c hc _).mono ?_
   rintro e w1 ⟨A1,c1,rfl,H6⟩;have H4:=I (xT K7 H6)
   have Kl:Hid (Blk w1 w.heap.size 44 #[B C 0,B C 0,B C 0,B C 0,O false,E none 0 0,B C 0,B C 0]):=I (HP.ext H6)
   clear HP K7 H6
   refine shK hK _ _ (H0.out _ H4.out) (fun _=>?_)
   refine tkN 6 ?_;refine tkN 7 ?_;refine tkN 8 ?_;obtain ⟨f0,f1,f2,f3,f4,f5,f6,f7⟩:=za9 Kl.out;obtain ⟨r0,r1,r2,r3,r4,r5,r6,r7⟩:=zaQ Kl.out
   refine ar1 10 (fun K hK=>?_)
   go_simp
   have Kk:=I (zbA H4.out (xN w.heap.size) (B C 0) (B C 0) (B C 0) (B C 1) (O false) (E A1 0 c1) (B C 0) (B C 0))
   refine shK hK _ _ (H0.out _ Kk.out) (fun _=>?_)
   refine tkN 11 ?_;refine wdD ?_
   exact ⟨rfl,rfl,rfl,rfl,rfl,rfl,rfl,rfl,Kk.out⟩
 ·rintro ⟨T,df⟩ w1 ⟨hd,Hi,h0,h1,h2,h4,h5,h7,H6⟩
  dsimp only at hd Hi h0 h1 h2 h4 h5 h7;subst hd;have hT:=zdo 24 T Hi
  generalize hU:(fun i=>T.getD i undef)=U at hT
  have g0:U 0=H (G ⟨b,0,F⟩):=by rw[←hU];exact h0
  have g1:U 1=H (G ⟨bt,0,F⟩):=by rw[←hU];exact h1
  have g2:U 2=H (G ⟨bv,0,F⟩):=by rw[←hU];exact h2
  have g4:U 4=.bool false:=by rw[←hU];exact h4
  have g5:U 5=B C 0:=by rw[←hU];exact h5
  have g7:U 7=B C 0:=by rw[←hU];exact h7
  have J4:T = #[H (G ⟨b,0,F⟩),H (G ⟨bt,0,F⟩),H (G ⟨bv,0,F⟩),U 3,O false,B C 0,U 6,B C 0,U 8,U 9,U 10,U 11,U 12,U 13,U 14,U 15,U 16,U 17,U 18,U 19,U 20,U 21,U 22,U 23]:=by rw[hT];show (#[U 0,U 1,U 2,U 3,U 4,U 5,U 6,U 7,U 8,U 9,U 10,U 11,U 12,U 13,U 14,U 15,U 16,U 17,U 18,U 19,U 20,U 21,U 22,U 23]:Array Value)=_;rw[g0,g1,g2,g4,g5,g7]
  clear hT hU Hi g0 h0 g1 h1 g2 h2 g4 h4 g5 h5 g7 h7;subst J4;have H4:=I H6;obtain ⟨g0,g1,g2,g3,g4,g5,_⟩:=H0.out _ H6;clear H6 s0 s1 s2 s3 s4 p1 q5 q6 q7 q8 q9 Kb Kc Kd H0;go_wp2_with fail
  refine (zrD D0 D1 D2 D3 D4 A c hc A' c' Hs b w1 (KU.out.ext H4.out) (KX.out.ext H4.out)).mono ?_
  rintro e w2 ⟨rfl,Jr,Jg,Ja,Jb⟩;clear g0 g1 g2 g3 g4 g5;go_wp2_with fail
  go_ret2
  exact ⟨rfl,Jg,fun W0 h0 hl=>Ja W0 (xT h0 H4.out) hl,KB.trans (KB.ext H4.out) Jb⟩
end Go.Proofs.YteggfecbjgbndaaGreatDoor
