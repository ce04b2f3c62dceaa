/- Merged -/
import Derived.Test.YteggfecbjgbndaaGreatDoorZx20
import Derived.Test.YteggfecbjgbndaaGreatDoorZx25
import Derived.Maps.OwnIn
set_option linter.all false
set_option maxHeartbeats 8000000
set_option maxRecDepth 100000
open Go.Proofs.Tryz
open Go.Value renaming slice->H,int->I
open Go.Obj renaming cells->M
open Option renaming some->N,none->U
open Go.Proofs.Tryz renaming prog->O
open Go.Mv renaming aN->R
open Go.IntKind renaming i64->V,u8->Z
open Go.Result renaming andThen->P0
open Option.some renaming inj->P1
open List renaming getElem?_eq_getElem->P2,length_nil->P3,take_succ_eq_append_getElem->P4,push_toArray->P5,cons_append->P6,getD_eq_getElem?_getD->P7,append_toArray->P8,size_toArray->P9,append_assoc->Pa,take_length->Pb,foldl_cons->Pc,map_cons->Pd
open Go.Oper renaming semAt_plain->Pe,about->Pf,wpIn->Pg,semAt_some->Ph,wp->Pi
open Nat renaming le_trans->Pj,reduceAdd->Pk,lt_of_lt_of_le->Pl,reduceSub->Pm,le_of_eq->Pn
open Go.Mv.Blk renaming new->Po
open Option renaming getD_some->Pp,isSome_some->Pq
open Go.World renaming cell?->Pr,block_lt_of_cell?->Ps
open Array renaming replicate_zero->Pu,replicate_succ->Pv
namespace Go.Proofs.YteggfecbjgbndaaGreatDoor
open Go.RowKit Go.Mv Go.Shelf
variable {cs:Array Value} {d':Bool} {f' q q':Int} {l:List Fil} {xs:List Value} {b c c' e e' j m m' n n' r:Nat} {G:Nat->Prop} {A' B':Option Addr} {t:TypeId} {u v x:Value} {A B W w w':World}
theorem NV(v:Value)(fs:List Oq)(w:World)(J:Qs w v fs)(hl:fs.length<=2000000)(L:∀f∈fs,f.b.length<=2000000):Calls O 106 #[v,.func (.func 107) #[] #[]] w λe w'=>∃A c,e=.returned (H A fs.length c)/\OwnQ w' w.heap.size (H A fs.length c) fs/\Ext w w':=by
 obtain⟨A,c,rfl,_,_⟩:=Qs.open_ J;have HF:=R J;have Kv:=R L;clear J L;obtain⟨i0,hi,KX,Kn,Ko⟩:=info_parts mR;go_enter func106,ntmps106
 go_wp2_with fail
 go_loopw [4,9] (λJ i wr=>∃k:Nat,k<=fs.length/\i=I V k/\(∃A' c',J=H A' k c')/\Hid (OwnQ wr w.heap.size J (fs.take k))/\Ext w wr) (λ_ i _=>fs.length-(intOf i).toNat)
 case atStart=>exact⟨0,Nat.zero_le _,rfl,⟨_,_,rfl⟩,OwnX.nil _ _ _,xR _⟩
 case round=>
  obtain⟨k,hk,rfl,⟨A',c',rfl⟩,y,s⟩:=hrel;by_cases z:k<fs.length
  ·obtain⟨_,b,J,rfl,hc⟩:=(HF.ext s).at_ (by omega);obtain⟨U,Kc,Kd,J,d2,L,L⟩:=hc k z;have Hx:=Kv _ (List.getElem_mem z);have Km:fs.take (k+1)=fs.take k++[fs[k]]:=P4 z;have KD:=R Km;have z:(fs.take k).length=k:=by rw[List.length_take];omega
   have C:=R z;have HD:=R L;clear hc Km z L;generalize fs[k]=x at *;obtain⟨ok,n,t,d⟩:=x;dsimp only at *;have z:Ext wr (wr.alloc (M #[I Z ok,sv n,sv t,H J d.length d2] 98)):=xA (xR _) _;have L:=Po wr 98 #[I Z ok,sv n,sv t,H J d.length d2];have J:=su ⟨ok,n,t,d⟩ _ _ (Bs.ext HD z) Hx;have HC:=R J;have KE:=R z;obtain⟨x0,x1,x2,x3⟩:=blk4 L;clear J z L;simp only[sv]at U Kc Kd x0 x1 x2 x3 HC⊢;go_wp2_with fail
   refine HC.mono ?_;rintro e w1⟨h,p,rfl,Kj,Y⟩;have X:=R Kj;have S:=xT KE Y;have D:Ext wr (w1.alloc (M #[I Z ok,.string ⟨n.toArray⟩,.string ⟨t.toArray⟩,H h d.length p] 98)):=xA S _;have KA:=R (OwnX.ext dy y D);have K9:∀g,(Value.slice A' k c').ownBlock=N g->∀u∈[I Z ok,.string ⟨n.toArray⟩,.string ⟨t.toArray⟩,H h d.length p],bF g u:=by
    intro g hg u z;have J:=sw y hg;simp only[List.mem_cons,List.not_mem_nil,or_false]at z;rcases z with rfl | rfl | rfl | rfl
    ·exact iP _ _ _
    ·exact da _ n
    ·exact da _ t
    exact X.away (by simp;omega)
   have J:=R K9;have z:=R D;clear K9 Kj Y S D x0 x1 x2 x3 U Kc Kd;go_wp2_with (at_builtin;refine me dy rfl (.tmp 13) (.tmp 17) 23 rfl 98 i0 _ 64 underlying23 hi KX Kn Ko rfl (by decide) (by decide) w.heap.size _ (fs.take k) rfl KA _ [⟨ok,n,t,d⟩] [I Z ok,.string ⟨n.toArray⟩,.string ⟨t.toArray⟩,H h d.length p] rfl (fu w1 [I Z ok,.string ⟨n.toArray⟩,.string ⟨t.toArray⟩,H h d.length p] 98 4 rfl) (ip (o:=⟨ok,n,t,d⟩) (Bs.ext X.bs (xA (xR _) _))) (by simp) J (by rw[C.out];simp;omega) (xT s z).size ?_;intro d d d d h p;rw[<-KD.out,C.out]at d;simp only[C.out,xC,P3,Nat.zero_add]at d⊢;have p:=h w (xT s z) (xN _))
   go_roundw
   case rel=>exact⟨k+1,by omega,by go_num,⟨_,_,rfl⟩,d,p⟩
   case measure=>simp[intOf];omega
  ·go_wp2_with fail
   go_ret;obtain rfl:k=fs.length:=by omega
   have:=y.out;rw[Pb]at this;exact⟨_,_,rfl,this,s⟩
theorem OL(tmps:Array Value)(W:World)(b:Nat)(cs:Array Value)(h4:tmps.getD 2 undef=.pointer (N ⟨b,0,U⟩))(hb:Blk W b 25 cs)(hs:cs.size=5):(results Tryz.f51 tmps).run O W=.ok (.agg cs) W:=by
 have hl:=hb.load (P:=O) em rfl (by rw[hs];kernel_rfl);have d:tmps[2]?.getD undef=.pointer (N ⟨b,0,U⟩):=by simpa using h4
 simp[results,results51,d,asAddr,hl]
theorem aH(h:Blk W b t cs):W.frozen? ⟨b,0,U⟩=false/\W.frozen? ⟨b,1,U⟩=false/\W.frozen? ⟨b,2,U⟩=false/\W.frozen? ⟨b,3,U⟩=false/\W.frozen? ⟨b,4,U⟩=false:=⟨h.frozen 0,h.frozen 1,h.frozen 2,h.frozen 3,h.frozen 4⟩
abbrev aK(W:World)(b:Nat)(a v u x y:Value):World:=((((W.setCell ⟨b,0,U⟩ a).setCell ⟨b,1,U⟩ v).setCell ⟨b,2,U⟩ u).setCell ⟨b,3,U⟩ x).setCell ⟨b,4,U⟩ y
theorem aT{a y:Value}(h:Blk W b t #[a,v,u,x,y])(d g f i k:Value):Blk (((((W.setCell ⟨b,0,U⟩ d).setCell ⟨b,1,U⟩ g).setCell ⟨b,2,U⟩ f).setCell ⟨b,3,U⟩ i).setCell ⟨b,4,U⟩ k) b t #[d,g,f,i,k]:=((((h.set 0 d).set 1 g).set 2 f).set 3 i).set 4 k
theorem aS(h:Ext w W)(hb:w.heap.size<=b)(a v u x y:Value):Ext w (aK W b a v u x y):=Below.setCell (p:=⟨b,4,U⟩) (AC h hb a v u x) hb _
theorem rI(h:Blk W b t cs){k:Nat}(hc:W.cell? ⟨b,k,U⟩=N u):cs[k]?=N u:=by
 simpa[Pr,show W.heap[b]?=_ from h]using hc
theorem Bs.awayBlk{bs:List UInt8}(h:Bs W u bs)(i:Blk W b t cs)(f:∀(k:Nat) (n:Int),cs[k]?≠some (I Z n)):bF b u:=by
 intro g g n c hn d he;subst he;obtain⟨hl,A,c',rfl,h1,h2,h3⟩:=h;cases d;obtain⟨d,d,e,hc⟩:=h3 hn;cases e;have d:0<(bs.map bv).length:=by rw[List.length_map];exact hn
 have g:=hc 0 _ (P2 d);have h1:=rI i g;rw[List.getElem_map]at h1;exact f _ _ h1
theorem zY(h:RowOf 2 iE W xs l)(s:Blk W b t cs)(g:∀(k:Nat) (n:Int),cs[k]?≠some (I Z n)):∀u∈xs,bF b u:=by
 intro u d;obtain⟨k,i,hk,hi,hx⟩:=oM h.1 d;obtain⟨d,v,f,p⟩:=h.2 k hk;match i,hi with
 |0,_=>
  have d:xs[k*2+0]?=N (sv l[k].1):=d;rw[d]at hx;cases hx;exact da _ _
 |1,_=>
  have f:xs[k*2+1]?=N v:=f;rw[f]at hx;cases hx;exact Bs.awayBlk p s g
theorem zZ{l:List Oq}(h:RowOf 4 OqE W xs l)(z:Blk W b t cs)(s:∀(k:Nat) (n:Int),cs[k]?≠some (I Z n)):∀u∈xs,bF b u:=by
 intro u d;obtain⟨k,i,hk,hi,hx⟩:=oM h.1 d;obtain⟨d,f,g,v,p,y⟩:=h.2 k hk;match i,hi with
 |0,_=>
  have d:xs[k*4+0]?=N (I Z l[k].k):=d;rw[d]at hx;cases hx;exact iP _ _ _
 |1,_=>
  have f:xs[k*4+1]?=N (sv l[k].n):=f;rw[f]at hx;cases hx;exact da _ _
 |2,_=>
  have g:xs[k*4+2]?=N (sv l[k].t):=g;rw[g]at hx;cases hx;exact da _ _
 |3,_=>
  have p:xs[k*4+3]?=N v:=p;rw[p]at hx;cases hx;exact Bs.awayBlk y z s
theorem eG{p:Addr}(h:W.cell? p=N x)(f:p.block≠b):(W.setCell ⟨b,j,U⟩ u).cell? p=N x:=by
 have d:=Below.heap_setCell W ⟨b,j,U⟩ u _ f;unfold Pr at h⊢;rw[d];exact h
theorem OwnF.setD{base:Nat}(h:OwnF W base v l)(g:t≠68)(d:Blk W b t cs)(f:∀(k:Nat) (n:Int),cs[k]?≠some (I Z n)):OwnF (W.setCell ⟨b,j,U⟩ u) base v l:=by
 obtain⟨xs,h1,h2,h3⟩:=h;exact⟨xs,ey d g h1 u,h2.keep dz (zY h2 d f) λp x hc d=>eG hc d,h3⟩
theorem OwnQ.setD{base:Nat}{l:List Oq}(h:OwnQ W base v l)(g:t≠98)(d:Blk W b t cs)(f:∀(k:Nat) (n:Int),cs[k]?≠some (I Z n)):OwnQ (W.setCell ⟨b,j,U⟩ u) base v l:=by
 obtain⟨xs,h1,h2,h3⟩:=h;exact⟨xs,ey d g h1 u,h2.keep dy (zZ h2 d f) λp x hc d=>eG hc d,h3⟩
theorem no5{a y:Value}(d:∀n,a≠I Z n)(g:∀n,v≠I Z n)(f:∀n,u≠I Z n)(hx:∀n,x≠I Z n)(i:∀n,y≠I Z n):∀(k:Nat) (n:Int),(#[a,v,u,x,y]:Array Value)[k]?≠some (I Z n):=by
 intro k n h;match k,h with
 |0,h=>exact d n (P1 h)
 |1,h=>exact g n (P1 h)
 |2,h=>exact f n (P1 h)
 |3,h=>exact hx n (P1 h)
 |4,h=>exact i n (P1 h)
 |k+5,h=>simp at h
def ap(A:Option Addr)(n c:Nat)(B:Option Addr)(m e:Nat)(q f:Int)(d:Bool):Array Value:=#[H A n c,H B m e,I V q,I V f,.bool d]
theorem aQ{A:Option Addr}{B:Option Addr}{f:Int}{d:Bool}:∀(k:Nat) (z:Int),(ap A n c B m e q f d)[k]?≠some (I Z z):=no5 (λ_ h=>by cases h) (λ_ h=>by cases h) (λ_ h=>by cases h) (λ_ h=>by cases h) (λ_ h=>by cases h)
theorem OwnF.box1{base:Nat}{A:Option Addr}{B:Option Addr}{f:Int}{d:Bool}(h:OwnF W base v l)(p:Blk W b 25 (ap A n c B m e q f d)):
  OwnF (aK W b (H A' n' c') (H B' m' e') (I V q') (I V f') (.bool d')) base v l:=by
 have g:Blk _ b 25 (ap A' n' c' B m e q f d):=p.set 0 (H A' n' c');have i:Blk _ b 25 (ap A' n' c' B' m' e' q f d):=g.set 1 (H B' m' e');have k:Blk _ b 25 (ap A' n' c' B' m' e' q' f d):=i.set 2 (I V q');have s:Blk _ b 25 (ap A' n' c' B' m' e' q' f' d):=k.set 3 (I V f');exact OwnF.setD (OwnF.setD (OwnF.setD (OwnF.setD (OwnF.setD h (by decide) p aQ) (by decide) g aQ) (by decide) i aQ) (by decide) k aQ) (by decide) s aQ
theorem OwnQ.box1{base:Nat}{l:List Oq}{A:Option Addr}{B:Option Addr}{f:Int}{d:Bool}(h:OwnQ W base v l)(p:Blk W b 25 (ap A n c B m e q f d)):
  OwnQ (aK W b (H A' n' c') (H B' m' e') (I V q') (I V f') (.bool d')) base v l:=by
 have g:Blk _ b 25 (ap A' n' c' B m e q f d):=p.set 0 (H A' n' c');have i:Blk _ b 25 (ap A' n' c' B' m' e' q f d):=g.set 1 (H B' m' e');have k:Blk _ b 25 (ap A' n' c' B' m' e' q' f d):=i.set 2 (I V q');have s:Blk _ b 25 (ap A' n' c' B' m' e' q' f' d):=k.set 3 (I V f');exact OwnQ.setD (OwnQ.setD (OwnQ.setD (OwnQ.setD (OwnQ.setD h (by decide) p aQ) (by decide) g aQ) (by decide) i aQ) (by decide) k aQ) (by decide) s aQ
def OwnD(w:World)(base:Nat)(v:Value)(d:Dk):Prop:=∃A c B e,v=.agg #[H A d.fs.length c,H B d.q.length e,I V d.quota,I V d.fuse,.bool d.dead]/\OwnF w base (H A d.fs.length c) d.fs/\OwnQ w base (H B d.q.length e) d.q
theorem ee{α:Type}{d:Nat}{E:World->(Nat->Option Value)->α->Prop}{base:Nat}{l:List α}(h:OwnX d E t w base v l){g:Nat}(hg:v.ownBlock=N g):base<=g/\∃cs,w.heap[g]?=N (M cs t (0,0)):=by
 obtain⟨xs,h1,_⟩:=h;rcases h1.2 with⟨rfl,_⟩|⟨d,cap,d,rfl,hb,f,_⟩
 ·cases hg
 ·cases hg;exact⟨hb,_,f⟩
theorem RowOf.freshG{α:Type}{f:Nat}{E:World->(Nat->Option Value)->α->Prop}(d:zec f E){l:List α}:∀(n:Nat) {W:World},RowOf f E W xs l->∀u∈xs,bF (W.heap.size+n) u
 |0,W,h=>h.fresh d
 | n+1,W,h=>by
  have:=RowOf.freshG d n (h.ext d (xA (xR W) (M #[] 5)));rw[xS]at this;rwa[show W.heap.size+(n+1)=W.heap.size+1+n by omega]
def OwnFA(W:World)(base:Nat)(v:Value)(l:List Fil)(G:Nat->Prop):Prop:=
 ∃xs,W.ownsRow base 68 2 v l.length xs/\RowOf 2 iE W xs l/\(∀g,v.ownBlock=N g->∀u∈xs,bF g u)/\∀g,G g->∀u∈xs,bF g u
theorem OwnFA.f{base:Nat}(h:OwnFA W base v l G):OwnF W base v l:=by
 obtain⟨xs,h1,h2,h3,_⟩:=h;exact⟨xs,h1,h2,h3⟩
theorem OwnFA.of{base:Nat}(h:OwnF W base v l)(d:∀g,G g->W.heap.size<=g):OwnFA W base v l G:=by
 obtain⟨xs,h1,h2,h3⟩:=h;refine⟨xs,h1,h2,h3,λg hg=>?_⟩;have:=h2.freshG dz (g-W.heap.size);rwa[show W.heap.size+(g-W.heap.size)=g by have:=d g hg;omega]at this
theorem OwnFA.ext{W':World}{base:Nat}(h:OwnFA W base v l G)(d:Ext W W'):OwnFA W' base v l G:=by
 obtain⟨xs,h1,h2,h3,h4⟩:=h;exact⟨xs,ai h1 d,h2.ext dz d,h3,h4⟩
theorem OwnFA.base{base base':Nat}(h:OwnFA W base v l G)(hb:base'<=base):OwnFA W base' v l G:=by
 obtain⟨xs,h1,h2,h3,h4⟩:=h;exact⟨xs,ay h1 hb,h2,h3,h4⟩
theorem OwnFA.setD{base:Nat}(h:OwnFA W base v l G)(g:t≠68)(d:Blk W b t cs)(f:∀(k:Nat) (n:Int),cs[k]?≠some (I Z n)):OwnFA (W.setCell ⟨b,j,U⟩ u) base v l G:=by
 obtain⟨xs,h1,h2,h3,h4⟩:=h;exact⟨xs,ey d g h1 u,h2.keep dz (zY h2 d f) λp x hc d=>eG hc d,h3,h4⟩
theorem OwnFA.box1{base:Nat}{A:Option Addr}{B:Option Addr}{f:Int}{d:Bool}(h:OwnFA W base v l G)(p:Blk W b 25 (ap A n c B m e q f d)):
  OwnFA (aK W b (H A' n' c') (H B' m' e') (I V q') (I V f') (.bool d')) base v l G:=by
 have g:Blk _ b 25 (ap A' n' c' B m e q f d):=p.set 0 (H A' n' c');have i:Blk _ b 25 (ap A' n' c' B' m' e' q f d):=g.set 1 (H B' m' e');have k:Blk _ b 25 (ap A' n' c' B' m' e' q' f d):=i.set 2 (I V q');have s:Blk _ b 25 (ap A' n' c' B' m' e' q' f' d):=k.set 3 (I V f');exact OwnFA.setD (OwnFA.setD (OwnFA.setD (OwnFA.setD (OwnFA.setD h (by decide) p aQ) (by decide) g aQ) (by decide) i aQ) (by decide) k aQ) (by decide) s aQ
def OwnDs(w:World)(base:Nat)(v:Value)(d:Dk):Prop:=∃A c B e,v=.agg #[H A d.fs.length c,H B d.q.length e,I V d.quota,I V d.fuse,.bool d.dead]/\OwnFA w base (H A d.fs.length c) d.fs (λg=>(Value.slice B d.q.length e).ownBlock=N g)/\OwnQ w base (H B d.q.length e) d.q
theorem OwnDs.d{base:Nat}{d:Dk}(h:OwnDs w base v d):OwnD w base v d:=by
 obtain⟨A,c,B,e,g,h1,h2⟩:=h;exact⟨A,c,B,e,g,h1.f,h2⟩
theorem OwnD.dk{base:Nat}{d:Dk}(h:OwnD w base v d):DkV w v d:=by
 obtain⟨A,c,B,e,rfl,h1,h2⟩:=h;exact⟨_,_,rfl,h1.fs,h2.qs⟩
theorem Me(v:Value)(d:Dk)(w:World)(hD:DkV w v d)(HY:d.fs.length<=2000000)(KT:d.q.length<=2000000)(H5:∀f∈d.fs,f.2.length<=2000000)(Hx:∀o∈d.q,o.b.length<=2000000):
  Calls O 51 #[v] w λe w'=>∃u,e=.returned u/\OwnDs w' w.heap.size u d/\Ext w w':=by
 obtain⟨vf,vq,rfl,hF,hQ⟩:=hD;obtain⟨A,c,rfl,_,_⟩:=Fs.open_ hF;obtain⟨B,L,rfl,_,_⟩:=Qs.open_ hQ;have C:=R (show Ext w ((w.alloc (M #[H A d.fs.length c,H B d.q.length L,I V d.quota,I V d.fuse,.bool d.dead] 25)).alloc (M #[H none 0 0,H none 0 0,I V 0,I V 0,.bool false] 25))from xA (xA (xR _) _) _);have H0:=R (show Blk ((w.alloc (M #[H A d.fs.length c,H B d.q.length L,I V d.quota,I V d.fuse,.bool d.dead] 25)).alloc (M #[H none 0 0,H none 0 0,I V 0,I V 0,.bool false] 25)) w.heap.size 25 (ap A d.fs.length c B d.q.length L d.quota d.fuse d.dead)from(Po w _ _).alloc _);have h1:Blk ((w.alloc (M #[H A d.fs.length c,H B d.q.length L,I V d.quota,I V d.fuse,.bool d.dead] 25)).alloc (M #[H none 0 0,H none 0 0,I V 0,I V 0,.bool false] 25)) (w.heap.size+1) 25 (ap none 0 0 none 0 0 0 0 false):=by
  have:=Po (w.alloc (M #[H A d.fs.length c,H B d.q.length L,I V d.quota,I V d.fuse,.bool d.dead] 25)) 25 #[H none 0 0,H none 0 0,I V 0,I V 0,.bool false];rwa[xS]at this
 have H1:=R h1;have HF:=R (hF.ext C);have HQ:=R (hQ.ext C);obtain⟨Z,g1,g2,g3,g4⟩:=ae (H0.ext (xD (xR _)));go_enter func51,ntmps51
 go_wp2_with fail
 refine wp_region_held_drew (S:=λ_=>True) (by kernel_rfl) trivial (λ_=>?_);refine ab 0 ?_;refine ab 3 ?_;refine AllReadyH.two (i:=1) (j:=4) rfl rfl (by kernel_rfl) (by rfl) (by rfl) (λK k=>?_) (λK k=>?_);go_simp;refine af k _ _ trivial (λ_=>?_);refine AllReadyH.two (i:=2) (j:=4) rfl rfl (by kernel_rfl) (by rfl) (by rfl) (λK k=>?_) (λK k=>?_);go_simp;refine(rV _ d.fs _ (Fs.ext HF (xD (xR _))) HY H5).mono ?_;rintro e w3⟨s,y,rfl,X,Y⟩;have z:=R (xT (xD (xR _)) Y);have HI:=R (OwnX.base X (show w.heap.size<=_ from C.size));obtain⟨Z,g1,_,_,_⟩:=ae (H0.ext z);refine af k _ _ trivial (λ_=>?_);refine ah 4 (λK k=>?_);go_simp;refine af k _ _ trivial (λ_=>?_);rotate_left
 go_simp;refine af k _ _ trivial (λ_=>?_);refine ah 2 (λK k=>?_);go_simp;refine(rV _ d.fs _ (Fs.ext HF (xD (xR _))) HY H5).mono ?_;rintro e w3⟨s,y,rfl,X,Y⟩;have z:=R (xT (xD (xR _)) Y);have HI:=R (OwnX.base X (show w.heap.size<=_ from C.size));obtain⟨Z,g1,_,_,_⟩:=ae (H0.ext z);refine af k _ _ trivial (λ_=>?_);rotate_left
 go_simp;refine af k _ _ trivial (λ_=>?_);refine ah 1 (λK k=>?_);go_simp;refine af k _ _ trivial (λ_=>?_);refine ah 2 (λK k=>?_);go_simp;refine(rV _ d.fs _ (Fs.ext HF (xD (xR _))) HY H5).mono ?_;rintro e w3⟨s,y,rfl,X,Y⟩;have z:=R (xT (xD (xR _)) Y);have HI:=R (OwnX.base X (show w.heap.size<=_ from C.size));obtain⟨Z,g1,_,_,_⟩:=ae (H0.ext z);refine af k _ _ trivial (λ_=>?_)
 all_goals
  refine ab 6 ?_;refine ah 5 (λK k=>?_);go_simp;refine(NV _ d.q _ (HQ.ext z) KT Hx).mono ?_;rintro e w4⟨D,J,rfl,K0,X⟩;have Y:=R (xT z X);have HN:=R (OwnFA.ext (OwnFA.of HI (G:=λg=>(Value.slice D d.q.length J).ownBlock=N g) (λg hg=>Pj (by simp) (ee K0 hg).1)) X);have Kz:=R (OwnX.base K0 (xT C z).size);have X:=R z.size;have X:=H0.ext Y;have z:=X.frozen 0;have z:=X.frozen 1;have h1:=H1.ext Y;have z:=R X;have Kr:=R h1;obtain⟨Z,g1,g2,g3,g4⟩:=ae X;refine af k _ _ trivial (λ_=>?_);refine ah 7 (λK k=>?_);go_simp;refine af k _ _ trivial (λ_=>?_);refine ab 8 ?_;have X:(w4.setCell ⟨w.heap.size,0,U⟩ (H s d.fs.length y)).frozen? ⟨w.heap.size,1,U⟩=false:=(z.set 0 _).frozen 1;refine ah 9 (λK k=>?_);go_simp;refine af k _ _ trivial (λ_=>?_);refine aq ?_;have k:Blk _ w.heap.size 25 (ap s d.fs.length y B d.q.length L d.quota d.fuse d.dead):=z.set 0 (H s d.fs.length y);have k1:Blk _ w.heap.size 25 (ap s d.fs.length y D d.q.length J d.quota d.fuse d.dead):=k.set 1 (H D d.q.length J);have z1:Blk _ (w.heap.size+1) 25 (ap none 0 0 none 0 0 0 0 false):=(Kr.other (show w.heap.size+1≠w.heap.size by omega) 0 (H s d.fs.length y)).other (show w.heap.size+1≠w.heap.size by omega) 1 (H D d.q.length J);have L:=OwnFA.setD (j:=1) (u:=H D d.q.length J) (OwnFA.setD (j:=0) (u:=H s d.fs.length y) HN (by decide) z aQ) (by decide) k aQ;have X:=OwnQ.setD (j:=1) (u:=H D d.q.length J) (OwnQ.setD (j:=0) (u:=H s d.fs.length y) Kz (by decide) z aQ) (by decide) k aQ;have Ky:=R k1;have k:=R z1;have z:=R L;have L:=R X;have X:=R (Below.setCell (p:=⟨w.heap.size,1,U⟩) (Below.setCell (p:=⟨w.heap.size,0,U⟩) (xT C Y) (xN _) (H s d.fs.length y)) (xN _) (H D d.q.length J));obtain⟨Z,g1,g2,g3,g4⟩:=ae Ky;have s:=aH k;have s:=ae k;go_wp2_with fail
  refine bodyPost_ret (OL _ _ _ _ rfl (aT k _ _ _ _ _) rfl) rfl ?_;refine⟨_,rfl,⟨_,_,_,_,rfl,OwnFA.box1 z k,OwnQ.box1 L k⟩,aS X (Nat.le_succ _) _ _ _ _ _⟩
open Go.RowKit Go.Mv Go.MapKept Go.ChangeMaps
section
variable {P:Program} {T K E:TypeId} {F:Fence} {nF:Nat} {w:World} {ops:Array Oper} {rest:List Oper} {o:Oper} {a:Act} {Q:Exit->Act->World->Prop}
theorem CC(hg:o.guard=none)(m x:Operand)(ok:Bool)(H3:o.op=Op.lookup T m x ok)(s:P.underlying T=N (.map K E))(p:P.underlying K=N .string)(y:(zeroValue E).run P w=.ok (H none 0 0) w)(r:Nat)(l:List Fil)(hm:a.eval m=.map (some r))(k:FMap w r l)(n:List UInt8)(hx:a.eval x=sv n)(h:∀A c,Bs w (H A ((ak n l).getD []).length c) ((ak n l).getD [])->wpListIn F nF P ops Q rest (a.put o.dst (if ok then .tuple #[H A ((ak n l).getD []).length c,.bool (ak n l).isSome]else H A ((ak n l).getD []).length c)) w):
  wpListIn F nF P ops Q (o::rest) a w:=by
 refine wpListIn_plain hg λz i=>?_;obtain⟨v,f,h1,h2⟩:=k.lookup s p n y ok;have d:Bs w v ((ak n l).getD []):=by
  cases hf:ak n l with
  |none=>rw[h1 hf];exact SlR.nil w 1
  |some b=>exact h2 b hf
 obtain⟨A,c,rfl,_,_⟩:=xO d;unfold Pg;refine⟨by simp[Pf,H3],?_⟩;rw[Pe F _ _ (by rw[H3];intro c g;cases g)];simp[execOp,H3,hm,hx,f,P0];exact i _ _ (by simpa using h A c d)
theorem CD(hg:o.guard=none)(m x v:Operand)(H3:o.op=Op.mapUpdate T m x v)(p:P.underlying T=N (.map K E))(k:P.underlying K=N .string)(r:Nat)(l:List Fil)(hm:a.eval m=.map (some r))(i:FMap w r l)(n:List UInt8)(hx:a.eval x=sv n)(u:Value)(b:List UInt8)(s:a.eval v=u)(hb:Bs w u b)(h:∀w',FMap w' r (aX n b l)->MT w w' r->wpListIn F nF P ops Q rest (a.put o.dst undef) w'):wpListIn F nF P ops Q (o::rest) a w:=by
 refine wpListIn_plain hg λy g=>?_;obtain⟨w',d,h1,h2⟩:=i.update p k n hb;unfold Pg;refine⟨by simp[Pf,H3],?_⟩;rw[Pe F _ _ (by rw[H3];intro c f;cases f)];simp[execOp,H3,hm,hx,s,d,P0];exact g _ _ (h w' h1 h2)
theorem CJ(hg:o.guard=none)(m:Operand)(H3:o.op=Op.range T m)(k:P.underlying T=N (.map K E))(r:Nat)(l:List Fil)(hm:a.eval m=.map (some r))(i:FMap w r l)(h:∀w',FIt w' r w.heap.size l l->Ext w w'->wpListIn F nF P ops Q rest (a.put o.dst (.pointer (N ⟨w.heap.size,0,U⟩))) w'):wpListIn F nF P ops Q (o::rest) a w:=by
 refine wpListIn_plain hg λp g=>?_;obtain⟨w',d,h1,h2⟩:=i.range k;unfold Pg;refine⟨by simp[Pf,H3],?_⟩;rw[Pe F _ _ (by rw[H3];intro c f;cases f)];simp[execOp,H3,hm,d,P0];exact g _ _ (h w' h1 h2)
theorem CP(hg:o.guard=none)(h:Operand)(H3:o.op=Op.next h false)(r i:Nat)(l L:List Fil)(Kf:a.eval h=.pointer (N ⟨i,0,U⟩))(hI:FIt w r i l L)(Hq:L=[]->wpListIn F nF P ops Q rest (a.put o.dst (.tuple #[.bool false])) w)(p:∀n b A c d w',L.Perm ((n,b)::d)->FIt w' r i l d->Bs w' (H A b.length c) b->MT w w' i->r≠i->(Instr.entry (.pointer (N ⟨i,0,U⟩))).run P w'=.ok (.tuple #[sv n,H A b.length c]) w' ->
    wpListIn F nF P ops Q rest (a.put o.dst (.tuple #[.bool true,sv n,H A b.length c])) w'):wpListIn F nF P ops Q (o::rest) a w:=by
 refine wpListIn_plain hg λC g=>?_;unfold Pg;refine⟨by simp[Pf,H3],?_⟩;rw[Pe F _ _ (by rw[H3];intro c k;cases k)];rcases hI.next (P:=P) o.type with⟨s,f⟩|⟨n,b,v,d,w',h1,f,h3,h4,h5,y,z⟩
 ·simp[execOp,H3,Kf,f,P0];exact g _ _ (Hq s)
 ·obtain⟨A,c,rfl,_,_⟩:=xO h4;simp[execOp,H3,Kf,f,P0];exact g _ _ (p n b A c d w' h1 h3 h4 h5 y z)
end
/-! A map while a range over a function goes on -/
theorem FMap.keep2(h:FMap A r l)(d:∀es c,A.heap[r]?=N (.map es c)->B.heap[r]?=N (.map es c))(hk:∀p x,A.cell? p=N x->B.cell? p=N x):FMap B r l:=by
 obtain⟨es,c,hb,hs,he⟩:=h;exact⟨es,c,d _ _ hb,hs,he.keep hk⟩
theorem FMap.moves(h:FMap A r l)(hm:Moves (am (λ_ _=>False) n) A B)(d:r<n):FMap B r l:=by
 refine h.keep2 (λes c hb=>hm.same _ _ hb ?_) (λp x hc=>hm.cell hc λo d d=>?_)
 ·rintro(h | ⟨h,_⟩)
  ·exact h
  omega
 ·rintro(h | ⟨_,h⟩)
  ·exact h
  ·rw[d]at h;cases h
theorem Bs.moves{b:List UInt8}(h:Bs A v b)(hm:Moves (am (λ_ _=>False) n) A B):Bs B v b:=by
 refine SlR.keep h λp x hc=>hm.cell hc λo d d=>?_;rintro(h | ⟨_,h⟩)
 ·exact h
 ·rw[d]at h;cases h
theorem Kept.mt{K:Nat->Obj->Prop}{C:World}(h:Kept K A B)(hm:MT B C r)(g:∀o,A.heap[r]?=N o->¬K r o):Kept K A C:=
 ⟨Pj h.size (Pn hm.size.symm),λk o hk d=>by
   have f:=h.same k o hk d;refine(hm.block k (λe=>?_)).trans f;subst e;exact g o hk d⟩
open Go.RowKit Go.Mv Go.Shelf
def fj(fs:List Fil):Nat->List (Nat×Fil)
 |0=>[]
 |k+1=>(k,fs.getD k ([],[]))::fj fs k
theorem Bm(fs:List Fil):∀k,k<=fs.length->(fj fs k).map (·.2)=(fs.take k).reverse
 |0,_=>rfl
 | k+1,h=>by
  rw[fj,Pd,Bm fs k (by omega),P4 (by omega),List.reverse_append];simp[P7,P2 (show k<fs.length by omega)]
theorem NI{f:World}(h:Hold f A)(hk:Kept (am (λ_ o=>o.isCells=true) n) A B):Hold f B:=λq u f=>by
 refine hk.cell (h q u f) λo i=>?_;obtain⟨k,d,g⟩:=cells_of_cell (h q u f);rw[i]at d;cases d;exact .inl g
attribute [local go_sem] Ph in
theorem Ij(L i:World)(v:Value)(fs:List Fil)(Y:Fs L v fs)(H9:fs.length<=4000000)(hH:Hold L i)(B:Nat)(hB:Boxed i B 22 v)(h1:∀p u,L.cell? p=N u->p.block<i.heap.size):
  Seq O 250 #[.pointer (N ⟨B,0,U⟩)] (λ(x:Nat×Fil) av W=>∃C d,av = #[I V x.1,.agg #[sv x.2.1,H C x.2.2.length d]]/\Bs W (H C x.2.2.length d) x.2.2) (λ_ o=>o.isCells=true) (λ_ _=>False) (fj fs fs.length) i:=by
 intro l J Jx hJ J0 D h0;obtain⟨A,c,rfl,H5,Hx⟩:=Fs.open_ Y;refine(callsIn_wd (ro:=none) (n:=9)).1 ?_;refine callsIn_of_wp func250 rfl trivial ?_ rfl;simp only[ntmps250,P9,xC,P3,Pk,Pm,Pv,Pu,P5,P8,xI,P6];have KI:=R Y;clear Y;obtain⟨f,Y⟩:∃f,fj fs fs.length=f:=⟨_,rfl⟩;rw[Y]at D⊢;have HA:=R Y;have y:=hB.cell;clear Y;gi_wp2;clear y;gi_loopw [3] (λj W=>∃(z:Int) (H4:List (Nat×Fil)),j=I V z/\-1<=z/\z<fs.length/\Hid (f=H4++fj fs (z+1).toNat)/\Hid (J H4 W)/\Hold L W/\Boxed W B 22 (H A fs.length c)/\i.heap.size<=W.heap.size) (λj _=>(intOf j+1).toNat)
 case atStart=>exact⟨(fs.length:Int)-1,[],by go_num,by omega,by omega,by rw[show((fs.length:Int)-1+1).toNat=fs.length from by omega];exact HA.symm,h0,hH,hB,xN _⟩
 case round=>
  obtain⟨z,H4,rfl,Kn,i,S,Z,M,bB,Hz⟩:=hrel;by_cases hz:0<=z
  ·obtain⟨k,rfl⟩:=Int.eq_ofNat_of_zero_le hz;have Hf:k<fs.length:=by omega
   obtain⟨_,b,K2,rfl,hc⟩:=(KI.keep M).at_ (by omega);obtain⟨Ht,i,L,HW,J⟩:=hc k Hf;have g:=S.out;rw[show((k:Int)+1).toNat=k+1 from by omega,fj,show fs.getD k ([],[])=fs[k]from by simp[P7,P2 Hf]]at g;have X:=R g;have KJ:=R D;have Y:=R J;clear hc g D J;generalize fs[k]=x at *;have J:=KJ H4 (k,x) _ X wr #[I V (k:Int),.agg #[sv x.1,H i x.2.length L]] Z Hz ⟨i,L,rfl,Y.out⟩;have Hy:=R J;have Kw:=R M;have y:=bB.cell;clear J M;simp only[sv]at *;gi_wp2;refine ew Hy ?_;rintro e W' ⟨h,⟨rfl,s⟩|⟨rfl,s⟩⟩
   ·refine⟨true,rfl,?_⟩;have M:Boxed W' B 22 (H (N ⟨b,K2,U⟩) fs.length c):=h.boxed bB (.inl rfl);have L:=Pj Hz h.size;have Kx:=R (NI Kw h);have i:=R s;have J:f=(H4++[(k,x)])++fj fs k:=by rw[Pa];exact X.out
    have f:=R J;clear s h J Hy Ht HW y;gi_wp2;exact⟨⟨(k:Int)-1,H4++[(k,x)],by go_num,by omega,by omega,by rw[show((k:Int)-1+1).toNat=k from by omega];exact f.out,i.out,Kx.out,M,L⟩,by simp[intOf]⟩
   refine⟨false,rfl,?_⟩;have i:=R s;clear s h Ht HW y;gi_wp2;refine bodyPost_ret (results_none rfl _ _ _) rfl ?_;refine⟨⟨_,rfl⟩,.inr ⟨H4++[(k,x)],?_,i.out⟩⟩;exact⟨fj fs k,by rw[Pa];exact X.symm⟩
  ·obtain rfl:z = -1:=by omega
   have g:=S.out;rw[show((-1:Int)+1).toNat=0 from rfl,show fj fs 0=[]from rfl,List.append_nil]at g;subst g;clear S D;gi_wp2;refine bodyPost_end (results_none rfl _ _ _) rfl ?_;exact⟨⟨_,rfl⟩,.inl Z⟩
theorem Mw(A:Option Addr)(n c:Nat)(w:World):Calls O 214 #[H A n c] w λe w'=>e=.returned (.func (.func 250) #[] #[.pointer (N ⟨w.heap.size,0,U⟩)])/\w.alloc (M #[H A n c] 22)=w':=by
 go_enter func214,ntmps214
 go_wp2;go_ret;exact⟨rfl,rfl⟩
theorem FMap.putObj{D:Nat}(h:FMap W r l)(hD:r≠D){o:Obj}(g:W.heap[D]?=N o)(hc:o.isCells=false)(d:Obj):FMap (W.putObj D d) r l:=
 h.keep2 (λ_ _ hb=>(World.putObj_heap_other hD).trans hb) (λ_ _ f=>fL f g hc d)
def lc(H4:List (Nat×Fil)):List Fil:=H4.foldl (λm x=>aX x.2.1 x.2.2 m) []
theorem FA(H4:List (Nat×Fil))(x:Nat×Fil):lc (H4++[x])=aX x.2.1 x.2.2 (lc H4):=by unfold lc;rw[List.foldl_append];rfl
theorem Ls(fs:List Fil):lc (fj fs fs.length)=dq fs:=by
 have h1:∀(l:List (Nat×Fil)) (m:List Fil),l.foldl (λm x=>aX x.2.1 x.2.2 m) m=(l.map (·.2)).foldl (λm p=>aX p.1 p.2 m) m:=by
  intro l;induction l with
  |nil=>intro m;rfl
  |cons a l ih=>intro m;rw[Pc,Pd,Pc,ih]
 have h2:∀l:List Fil,l.foldr (λp m=>aX p.1 p.2 m) []=dq l:=by
  intro l;induction l with
  |nil=>rfl
  |cons a l ih=>rw[List.foldr_cons,ih];rfl
 unfold lc;rw[h1,Bm fs _ (xN _),Pb,List.foldl_reverse,h2]
def TfI(w:World)(H4:List (Nat×Fil))(X:World):Prop:=FMap X w.heap.size (lc H4)/\Boxed X (w.heap.size+1) 142 (.map (some w.heap.size))/\Ext w X
attribute [local go_sem] Ph in
theorem Ik(v:Value)(fs:List Fil)(w:World)(D:Fs w v fs)(hl:fs.length<=2000000):Calls O 162 #[v] w λe w'=>∃r,e=.returned (.map (some r))/\FMap w' r (dq fs)/\w.heap.size<=r/\Ext w w':=by
 obtain⟨A,c,rfl,_,_⟩:=Fs.open_ D;have Z:=R D;clear D;have Kg:=@run_makeMap O;refine(callsIn_wd (ro:=none) (n:=9)).1 ?_;refine callsIn_of_wp_marks func162 rfl trivial ?_ rfl;simp only[ntmps162,P9,xC,P3,Pk,Pm,Pv,Pu,P5,P8,xI,P6];gi_wp2_with (refine⟨trivial,?_⟩;gi_at_call 214;refine(callsIn_wd.2 (Mw _ _ _ _)).mono ?_;rintro e w' ⟨rfl,rfl⟩)
 have S:Boxed (((w.alloc (.map #[] 0)).alloc (M #[.map (some w.heap.size)] 142)).alloc (M #[H A fs.length c] 22)) (w.heap.size+1) 142 (.map (some w.heap.size)):=by
  have:=(Boxed.new (w.alloc (.map #[] 0)) 142 (.map (some w.heap.size))).alloc (M #[H A fs.length c] 22);rwa[xS]at this
 have q2:Boxed (((w.alloc (.map #[] 0)).alloc (M #[.map (some w.heap.size)] 142)).alloc (M #[H A fs.length c] 22)) (w.heap.size+1+1) 22 (H A fs.length c):=by
  have:=Boxed.new ((w.alloc (.map #[] 0)).alloc (M #[.map (some w.heap.size)] 142)) 22 (H A fs.length c);rwa[xS,xS]at this
 have J:Ext w (((w.alloc (.map #[] 0)).alloc (M #[.map (some w.heap.size)] 142)).alloc (M #[H A fs.length c] 22)):=xA (xA (xA (xR _) _) _) _;have D:FMap (((w.alloc (.map #[] 0)).alloc (M #[.map (some w.heap.size)] 142)).alloc (M #[H A fs.length c] 22)) w.heap.size []:=(FMap.new w).ext (xA (xA (xR _) _) _);have h0:TfI w [] (((w.alloc (.map #[] 0)).alloc (M #[.map (some w.heap.size)] 142)).alloc (M #[H A fs.length c] 22)):=⟨D,S,J⟩;have J4:(((w.alloc (.map #[] 0)).alloc (M #[.map (some w.heap.size)] 142)).alloc (M #[H A fs.length c] 22)).heap.size=w.heap.size+3:=by simp
 clear D S Kg;generalize((w.alloc (.map #[] 0)).alloc (M #[.map (some w.heap.size)] 142)).alloc (M #[H A fs.length c] 22)=w3 at *;refine dV (a:=⟨_,_⟩) rfl (enters_of func250 (by kernel_rfl) rfl)
  (λW1 hb hs=>Ij w W1 _ fs Z (by omega) (λq u D=>Ext.cell (xT J hb) D) (w.heap.size+1+1) (q2.kept (row:=none) (Ext.grown hb none) (by simp)) (λp u D=>by have:=Ps _ _ D;omega))
  (λk o h=>h.elim) (λk o h=>h) (λx av W h=>by obtain⟨C,d,rfl,_⟩:=h;rfl)
  (TfI w) (λ_ _ _=>False) ?hI (λ_ _ _ _ h _=>h) h0
  (λx z W=>∃i C d,z=⟨#[H A fs.length c,undef,.map none,.pointer (N ⟨w.heap.size+1,0,U⟩),undef,.pointer (N ⟨i,0,U⟩),.map (some w.heap.size),H A fs.length c,.func (.func 250) #[] #[.pointer (N ⟨w.heap.size+1+1,0,U⟩)],I V x.1,.agg #[sv x.2.1,H C x.2.2.length d],undef,undef,undef,undef,undef,undef],[]⟩/\Blk W i 68 #[sv x.2.1,H C x.2.2.length d]/\Bs W (H C x.2.2.length d) x.2.2)
  ?hAx ?assign ?body ?done ?stop
 case hI=>
  rintro s X Y⟨hf,hb,f⟩hm;refine⟨hf.moves hm (by omega),hm.boxed hb ?_,hm.belowOf f ?_ (xN _)⟩
  ·rintro(h | h)
   ·exact h
   cases h.2
  rintro k o hk(h | h)
  ·exact h
  have:=h.1;omega
 case hAx=>
  rintro x z X Y⟨i,C,d,rfl,hb,g⟩hm;refine⟨i,C,d,rfl,hm.same _ _ hb ?_,Bs.moves g hm⟩;rintro(h | h)
  ·exact h
  cases h.2
 case assign=>
  rintro l' H4 x K3 W av D hx⟨hf,hb,f⟩Hz⟨C,d,rfl,g⟩y;simp only[sv]at *;gi_wp2;exact y _ _ (Kept.refl.alloc _) ⟨hf.ext (xA (xR _) _),hb.alloc _,xA f _⟩ ⟨_,C,d,rfl,Po _ _ _,Bs.ext g (xA (xR _) _)⟩
 case body=>
  rintro l' H4⟨j,n,b⟩K3 z W hx z z⟨hf,hb,f⟩Hz⟨i,C,d,rfl,i,g⟩;dsimp only at *;obtain⟨z,z⟩:=iF i;have i:=hb.cell;simp only[sv]at *;gi_wp2_with (gi_at_mapUpdate;refine CD rfl (.tmp 11) (.tmp 13) (.tmp 15) rfl underlying142 underlying9 w.heap.size (lc H4) rfl hf n rfl _ b rfl g ?_;intro g Hk g)
  refine⟨Kept.mt Kept.refl g ?_,by rw[FA];exact Hk,g.blk hb,g.ext f (xN _)⟩;rintro o L(h | h)
  ·obtain⟨es,g,g,_⟩:=hf;rw[g]at L;cases L;cases h
  have:=h.1;omega
 case done=>
  rintro D W hD⟨hf,hb,f⟩y;have hc:=hb.cell;gi_wp2;refine dh y _ (results_tmp rfl _ _ _) ?_;exact⟨w.heap.size,rfl,by rw[<-Ls];exact hf.putObj (by omega) y rfl _,xN _,cp f _⟩
 case stop=>
  rintro D f H4 W _ _ h _;exact h.elim
theorem mcDDeeda0{P:Prop}(h:P:=by
 go_wp2_with (at_lookup;refine nJ rfl (.tmp 7) (.tmp 9) true rfl Tryz.underlying142 Tryz.underlying9 (nq _) r l rfl HM n rfl ?_;rw[Hl.out];intro A1 c1 H5;simp only[Option.getD_none,Option.isSome_none,if_true,P3])
 refine bodyPost_end (results_none rfl _ _ _) rfl ?_;exact⟨rfl,HM.out,HG.out⟩):P:=h
structure Mg (w w':World) (r:Nat):Prop where
 os:w'.os=w.os
 tape:w'.tape=w.tape
 output:w'.output=w.output
 size:w.heap.size<=w'.heap.size
 block:∀ k,k<w.heap.size->k≠r->w'.heap[k]?=w.heap[k]?
 no:∀ cs t f,w.heap[r]?≠some (M cs t f)
theorem OP(h:FMap w r l):∀cs t f,w.heap[r]?≠some (M cs t f):=by
 obtain⟨es,c,hb,_⟩:=h;intro cs t f e;rw[hb]at e;cases e
theorem Mg.of_ext(h:Ext w w')(hm:FMap w r l):Mg w w' r:=⟨h.os,h.tape,h.output,h.size,λk hk _=>h.block k hk,OP hm⟩
theorem MT.mg(h:MT w w' r):Mg w w' r:=⟨h.os,h.tape,h.output,Pn h.size.symm,λk _ hk=>h.block k hk,h.no⟩
theorem Mg.trans{a b c:World}(h:Mg a b r)(k:Mg b c r):Mg a c r:=⟨k.os.trans h.os,k.tape.trans h.tape,k.output.trans h.output,Pj h.size k.size,λi hi d=>(k.block i (Pl hi h.size) d).trans (h.block i hi d),h.no⟩
theorem Mg.cell(h:Mg w w' r){p:Addr}(hc:w.cell? p=N u):w'.cell? p=N u:=by
 have:p.block≠r:=by
  intro e;unfold Pr at hc;rw[e]at hc;split at hc
  ·rename_i h1;exact h.no _ _ _ h1
  cases hc
 have d:=Ps _ _ hc;unfold Pr at hc⊢;rw[h.block _ d this];exact hc
theorem Mg.qs(h:Mg w w' r){l:List Oq}(d:Qs w v l):Qs w' v l:=by
 obtain⟨xs,h1,h2⟩:=d;exact⟨xs,SlR.keep h1 λ_ _ hc=>h.cell hc,h2.keep dy (h2.fresh dy) λ_ _ hc _=>h.cell hc⟩
theorem Mg.ext{f:World}(h:Mg w w' r)(d:Ext f w)(g:f.heap.size<=r):Ext f w':=
 ⟨h.os.trans d.os,h.tape.trans d.tape,h.output.trans d.output,Pj d.size h.size,λk hk=>(h.block k (Pl hk d.size) (by omega)).trans (d.block k hk)⟩
theorem nq(w:World):(zeroValue 33).run O w=.ok (H none 0 0) w:=by kernel_rfl
def iA(w:World)(r:Nat)(l:List Fil)(e:Ending)(w':World):Prop:=e=.returned (.tuple #[])/\FMap w' r l/\Mg w w' r
theorem LO(r:Nat)(l:List Fil)(o:Oq)(v:Value)(w:World)(d:FMap w r l)(g:Bs w v o.b):Calls O 251 #[.map (some r),.agg #[I Z o.k,sv o.n,sv o.t,v]] w (iA w r (aX o.n [] l)):=by
 obtain⟨k,n,t,b⟩:=o;dsimp only at *;obtain⟨A,c,rfl,_,_⟩:=xO g;have f:Ext w (w.alloc (M #[I Z k,sv n,sv t,H A b.length c] 98)):=xA (xR _) _;have h:=blk4 (Po w 98 #[I Z k,sv n,sv t,H A b.length c]);have i:=R (d.ext f);have h:=R (Mg.of_ext f d);clear f d g;simp only[sv]at *;go_enter func251,ntmps251
 go_wp2_with (at_mapUpdate;refine sX rfl (.tmp 4) (.tmp 6) (.const (H none 0 0)) rfl underlying142 underlying9 r l rfl i n rfl _ [] rfl (SlR.nil _ 1) ?_;intro d Hk d)
 refine bodyPost_end (results_none rfl _ _ _) rfl ?_;exact⟨rfl,Hk,h.trans d.mg⟩
theorem LR(r:Nat)(l:List Fil)(o:Oq)(v:Value)(w:World)(d:FMap w r l)(g:Bs w v o.b):Calls O 254 #[.map (some r),.agg #[I Z o.k,sv o.n,sv o.t,v]] w (iA w r (aV o.n l)):=by
 obtain⟨k,n,t,b⟩:=o;dsimp only at *;obtain⟨A,c,rfl,_,_⟩:=xO g;have f:Ext w (w.alloc (M #[I Z k,sv n,sv t,H A b.length c] 98)):=xA (xR _) _;have h:=blk4 (Po w 98 #[I Z k,sv n,sv t,H A b.length c]);have i:=R (d.ext f);have h:=R (Mg.of_ext f d);clear f d g;simp only[sv]at *;go_enter func254,ntmps254
 go_wp2_with (at_delete;refine sW rfl (.tmp 4) (.tmp 6) rfl underlying142 underlying9 r l rfl i n rfl ?_;intro d Hk d)
 refine bodyPost_end (results_none rfl _ _ _) rfl ?_;exact⟨rfl,Hk,h.trans d.mg⟩
theorem LQ(r:Nat)(l:List Fil)(o:Oq)(v:Value)(w:World)(f:FMap w r l)(h:Bs w v o.b):Calls O 253 #[.map (some r),.agg #[I Z o.k,sv o.n,sv o.t,v]] w (iA w r (match ak o.n l with | none=>l | some b=>aX o.t b (aV o.n l))):=by
 obtain⟨k,n,t,b⟩:=o;dsimp only at *;obtain⟨A,c,rfl,_,_⟩:=xO h;have g:Ext w (w.alloc (M #[I Z k,sv n,sv t,H A b.length c] 98)):=xA (xR _) _;have d:=Po w 98 #[I Z k,sv n,sv t,H A b.length c];have p:=blk4 d;have HM:=R (f.ext g);have HG:=R (Mg.of_ext g f);have i:=R d;clear g f h d;simp only[sv]at *;cases hg:ak n l with
 |none=>
  have Hl:=R hg;clear hg;go_enter func253,ntmps253
  exact mcDDeeda0
 |some fb=>
  have Hl:=R hg;clear hg;go_enter func253,ntmps253
  go_wp2_with (first
   |(at_lookup;refine nJ rfl (.tmp 7) (.tmp 9) true rfl underlying142 underlying9 (nq _) r l rfl HM n rfl ?_;rw[Hl.out];intro A1 c1 H5;simp only[Pp,Pq,if_true]at H5⊢)
   |(at_delete;refine sW rfl (.tmp 14) (.tmp 16) rfl underlying142 underlying9 r l rfl HM n rfl ?_;intro d Hk d;have f:=(blk4 (d.blk i)).2.2.1)
   |(at_mapUpdate;refine sX rfl (.tmp 17) (.tmp 19) (.tmp 20) rfl underlying142 underlying9 r _ rfl Hk t rfl _ fb rfl (d.bs H5) ?_;intro f f g))
  refine bodyPost_end (results_none rfl _ _ _) rfl ?_;exact⟨rfl,f,HG.trans (d.mg.trans g.mg)⟩
theorem EQ{P:Program}{T K E:TypeId}{o:Oper}{a:Act}{d:Act->World->Prop}{Q:Exit->Act->World->Prop}(m x v:Operand)(H3:o.op=Op.mapUpdate T m x v)(i:P.underlying T=N (.map K E))(g:P.underlying K=N .string)(r:Nat)(l:List Fil)(hm:a.eval m=.map (some r))(f:FMap w r l)(n:List UInt8)(hx:a.eval x=sv n)(u:Value)(b:List UInt8)(k:a.eval v=u)(hb:Bs w u b)(h:∀w',FMap w' r (aX n b l)->MT w w' r->d (a.put o.dst undef) w'):Pi P o a w d Q:=by
 obtain⟨w',d,h1,h2⟩:=f.update i g n hb;unfold Pi;simp[execOp,H3,hm,hx,k,d,P0];exact h w' h1 h2
theorem LP(r:Nat)(l:List Fil)(o:Oq)(v:Value)(w:World)(y:FMap w r l)(s:Bs w v o.b)(hl:((ak o.n l).getD []).length+o.b.length<=70000000):Calls O 252 #[.map (some r),.agg #[I Z o.k,sv o.n,sv o.t,v]] w (iA w r (match ak o.n l with | none=>l | some b=>aX o.n (b++o.b) l)):=by
 obtain⟨k,n,t,b⟩:=o;dsimp only at *;obtain⟨A,c,rfl,_,_⟩:=xO s;have d:Ext w (w.alloc (M #[I Z k,sv n,sv t,H A b.length c] 98)):=xA (xR _) _;have p:=Po w 98 #[I Z k,sv n,sv t,H A b.length c];obtain⟨L,g,V,i⟩:=blk4 p;have HM:=R (y.ext d);have HG:=R (Mg.of_ext d y);have K4:=R p;have D:=R (s.ext d);clear d y s p;simp only[sv]at *;cases hg:ak n l with
 |none=>
  have Hl:=R hg;clear hg hl;go_enter func252,ntmps252
  exact mcDDeeda0
 |some fb=>
  rw[hg]at hl;simp only[Pp]at hl;have Hl:=R hg;have s:=R hl;clear hg hl;go_enter func252,ntmps252
  go_wp2_with (at_lookup;refine nJ rfl (.tmp 7) (.tmp 9) true rfl underlying142 underlying9 (nq _) r l rfl HM n rfl ?_;rw[Hl.out];intro A1 c1 H5;simp only[Pp,Pq,if_true]at H5⊢)
  have y:=R H5;clear H5;refine wp_region_held_drew (S:=λW=>W.cell? ⟨w.heap.size,1,U⟩=N (.string ⟨n.toArray⟩)/\W.cell? ⟨w.heap.size,3,U⟩=N (H A b.length c)) (by kernel_rfl) ⟨g,i⟩ (λ_=>?_);refine ab 0 ?_;refine ab 1 ?_;refine ab 2 ?_;refine ab 3 ?_;refine ab 4 ?_;refine ab 5 ?_;refine ah 6 (λK f=>?_);go_simp;have d:Ext (w.alloc (M #[I Z k,.string ⟨n.toArray⟩,.string ⟨t.toArray⟩,H A b.length c] 98)) ((w.alloc (M #[I Z k,.string ⟨n.toArray⟩,.string ⟨t.toArray⟩,H A b.length c] 98)).alloc (M #[H A1 fb.length c1,H A b.length c] 33)).drew:=xD (xA (xR _) _);have p:Parts ((w.alloc (M #[I Z k,.string ⟨n.toArray⟩,.string ⟨t.toArray⟩,H A b.length c] 98)).alloc (M #[H A1 fb.length c1,H A b.length c] 33)).drew (H (N ⟨w.heap.size+1,0,U⟩) 2 2) [fb,b]:=by
   have:=Parts.ext (PM y D) (xD (xR _));rwa[xS]at this
  have J:=R d;have y:=R p;have z:=R g;have C:=R i;refine af f _ _ ⟨d.cell g,d.cell i⟩ (λ_=>?_);clear d p L g V i;refine ah 7 (λK f=>?_);go_simp;refine(pG _ [fb,b] _ y (by have:=s.out;simp;omega)).mono ?_;rintro e Y⟨X,rfl,g,p⟩;rw[show[fb,b].flatten=fb++b from by simp]at g;have i:Bs Y X (fb++b):=xW g;have s:=R i;have d:=R (xT J p);clear g p i;refine af f _ _ ⟨d.cell z,d.cell C⟩ (λ_=>?_);refine ah 8 (λK f=>?_);refine EQ (.tmp 14) (.tmp 16) (.tmp 21) (by rfl) underlying142 underlying9 r l (by rfl) (HM.ext d) n (by rfl) _ (fb++b) (by rfl) s ?_;intro g i g;refine af f _ _ ⟨g.cell (d.cell z),g.cell (d.cell C)⟩ (λ_=>?_);refine aq ?_;go_wp2_with fail
  refine bodyPost_end (results_none rfl _ _ _) rfl ?_;exact⟨rfl,i,HG.trans ((Mg.of_ext d HM).trans g.mg)⟩
def ddMap:Array MapEntry:=#[{ key:=I Z 1,val:=.func (.func 251) #[] #[],born:=0 },{ key:=I Z 2,val:=.func (.func 252) #[] #[],born:=1 },
 { key:=I Z 3,val:=.func (.func 253) #[] #[],born:=2 },{ key:=I Z 4,val:=.func (.func 254) #[] #[],born:=3 }]
theorem pq(w:World)(es:Array MapEntry)(c:Nat)(n:Int)(v:Value)(hn:Instr.findNow (.int .u8) (I Z n) es.toList 0=N none):
  (Instr.mapUpdate 262 (.map (some w.heap.size)) (I Z n) v).run O (w.alloc (.map es c))=.ok () (w.alloc (.map (es.push { key:=I Z n,val:=v,born:=c }) (c+1))):=
 nP w .u8 underlying262 underlying5 es c n v hn
theorem yo(w:World):Calls O 215 #[] w λe w'=>e=.returned (.map (some w.heap.size))/\w.alloc (.map ddMap 4)=w':=by
 have d:=@run_makeMap O;have d:=pq w #[] 0 1 (.func (.func 251) #[] #[]) rfl;have h1:=pq w #[{ key:=I Z 1,val:=.func (.func 251) #[] #[],born:=0 }] 1 2 (.func (.func 252) #[] #[]) rfl;have h2:=pq w #[{ key:=I Z 1,val:=.func (.func 251) #[] #[],born:=0 },{ key:=I Z 2,val:=.func (.func 252) #[] #[],born:=1 }] 2 3 (.func (.func 253) #[] #[]) rfl;have h3:=pq w #[{ key:=I Z 1,val:=.func (.func 251) #[] #[],born:=0 },{ key:=I Z 2,val:=.func (.func 252) #[] #[],born:=1 },{ key:=I Z 3,val:=.func (.func 253) #[] #[],born:=2 }] 3 4 (.func (.func 254) #[] #[]) rfl;simp only[P5,xI,P6,Pk]at d h1 h2 h3;go_enter func215,ntmps215
 go_wp2;go_ret;exact⟨rfl,rfl⟩
def eC(k:Int):Value:=if k=1 then .func (.func 251) #[] #[]else if k=2 then .func (.func 252) #[] #[]else if k=3 then .func (.func 253) #[] #[]else if k=4 then .func (.func 254) #[] #[]else .nilFunc
theorem tA(k:Int)(W:World)(r:Nat)(h:W.heap[r]?=N (.map ddMap 4)):
  (Instr.lookup 262 (.map (some r)) (I Z k) false).run O W=.ok (eC k) W:=by
 have key:∃f,Instr.findNow (.int .u8) (I Z k) ddMap.toList 0=N f/\(f.map (·.2)).getD .nilFunc=eC k:=by
  by_cases h1:k=1
  ·subst h1;exact⟨_,rfl,rfl⟩
  by_cases h2:k=2
  ·subst h2;exact⟨_,rfl,rfl⟩
  by_cases h3:k=3
  ·subst h3;exact⟨_,rfl,rfl⟩
  by_cases h4:k=4
  ·subst h4;exact⟨_,rfl,rfl⟩
  refine⟨none,?_,?_⟩
  ·have d:(k==1)=false:=by simp[h1]
   have g:(k==2)=false:=by simp[h2]
   have i:(k==3)=false:=by simp[h3]
   have p:(k==4)=false:=by simp[h4]
   simp[ddMap,Instr.findNow,Instr.sameNow,d,g,i,p]
  simp[eC,h1,h2,h3,h4]
 obtain⟨f,hf,d⟩:=key;have:=tr (P:=O) W .u8 underlying262 underlying5 ddMap 4 k .nilFunc (by kernel_rfl) h f hf;rw[this,d]
