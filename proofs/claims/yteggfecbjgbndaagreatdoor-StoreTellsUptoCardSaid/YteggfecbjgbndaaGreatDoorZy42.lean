/- Merged -/
import Derived.Test.YteggfecbjgbndaaGreatDoorZy35
import Derived.Test.YteggfecbjgbndaaGreatDoorZy37
import Derived.Test.YteggfecbjgbndaaGreatDoorZy41
set_option linter.all false
set_option maxHeartbeats 8000000
set_option maxRecDepth 100000
open Go.Value renaming int->C,slice->H,pointer->L,bool->O
open Go.IntKind renaming i64->E
open Option renaming some->I,none->J
open Go.Mv renaming aN->N
open Go.Obj renaming cells->V
open Go.Proofs.Tryz renaming prog->Z
open Go.RowKit.Below renaming heap_setCell->P0,setCell->P1
open Go.World renaming drew->P2
open Go.Value renaming slice->P3,ownBlock->P4
open Go.Mv.Blk renaming new->P5,kept->P6
open And renaming intro->P7
open Array renaming getElem?_eq_some_iff->P8
namespace Go.Proofs.YteggfecbjgbndaaGreatDoor
open Go.RowKit Go.Mv
variable {b k:Nat} {P:Prop} {W w:World}
/-! What Read$1 lays into the boxes of t and m -/
theorem mcSReada0(h:P:=by
 refine ab 21 ?_;refine ab 22 ?_;refine ab 23 ?_;refine ab 24 ?_;refine ah 25 (λK hK=>?_);go_simp;refine(G8 _ (xD (xR _))).mono ?_;rintro e w9⟨rfl,KW⟩;have K7:=xT (xD (xR W)) KW;refine af hK _ _ (H2 _ K7) (λ_=>?_);cases hrr:cT ⟨s,out,m.term,m.vote⟩with
 |false=>
  have Hh:Hid (bL 130=R):=by unfold Hid;rw[<-KP.out,hrr];simp
  refine ab 26 ?_;refine ah 27 (λK hK=>?_);go_simp;refine(fG _ _).mono ?_;rintro e GB⟨rfl,rfl⟩;exact⟨rfl,rfl,Hh.out,xT KH K7,(K7.block D (P8.1 HX).1).trans HX.out⟩
 |true=>
  have Hd:Hid ((⟨0,⟨s,out,m.term,m.vote⟩,m⟩:Rd)=R):=by unfold Hid;rw[<-KP.out,hrr];simp
  refine ab 26 ?_;refine ah 27 (λK hK=>?_);go_simp;refine(iK _ _).mono ?_;rintro e GB⟨rfl,rfl⟩;refine af hK _ _ (H2 _ K7) (λ_=>?_);refine aq ?_;exact pI ⟨rfl,rfl,rfl,rfl,rfl,rfl,Hd.out,K7⟩):P:=h
theorem mcSReada1(h:P:=by
 dsimp only at hd;subst hd;exact nN (R:=R1P R bt bm w) (c:=eM 130) h3 (mN h1.symm rfl (cp h2 (hD:=HP) _))):P:=h
theorem mcSReada2(h:P:=by
 refine ab 22 ?_;refine ab 23 ?_;refine ag 24 ?_;refine ag 25 ?_;refine ab 26 ?_;refine ah 27 (λK hK=>?_);go_simp;refine(fG _ _).mono ?_;rintro e w9⟨rfl,rfl⟩;exact⟨rfl,rfl,Hh.out,xD KH,HX.out⟩):P:=h
structure zvY (w:World) (bt bm:Nat) (r:Rd) (w':World):Prop where
 ok:∃ vl vs,Blk w' bt 44 (bE r.t vl)/\Blk w' bm 30 (mfC r.m vs)/\OwnE w' w.heap.size vl r.t.log/\OwnS w' w.heap.size vs r.m.segs
 gr:∀ W0,Ext W0 w->W0.heap.size<=bt->W0.heap.size<=bm->Ext W0 w'
 bl:∀ b t cs,b≠bt->b≠bm->Blk w b t cs->Blk w' b t cs
def R1P(r:Rd)(d c:Nat)(w:World)(a:Ending)(w':World):Prop:=if r.err=0 then a=.returned (.tuple #[])/\zvY w d c r w' else a=pan r.err/\Ext w w'
theorem mN{r:Rd}{bt bm:Nat}{en:Ending}{w':World}{e:Int}(h:r=bL e)(h1:en=pan e)(h2:Ext w w')(he:e≠0:=by decide):R1P r bt bm w en w':=by
 subst h;unfold R1P;rw[if_neg (show ¬(bL e).err=0 from he)];exact⟨h1,h2⟩
theorem Lo(h:k≠b)(a v u x y z p q:Value):(aY W b a v u x y z p q).heap[k]?=W.heap[k]?:=by
 unfold aY;rw[P0 _ _ _ _ h,P0 _ _ _ _ h,P0 _ _ _ _ h,P0 _ _ _ _ h,P0 _ _ _ _ h,P0 _ _ _ _ h,P0 _ _ _ _ h,P0 _ _ _ _ h]
theorem Fv(X:World)(k:Nat):X.drew.heap[k]?=X.heap[k]?:=rfl
theorem Fw(h:k≠b)(a v u x y z p q:Value):(P2 (aY W b a v u x y z p q)).heap[k]?=W.heap[k]?:=(Fv _ k).trans (Lo h a v u x y z p q)
theorem rJ{D:Nat}{t:TypeId}{cs:Array Value}(h:Blk W b t cs)(hD:b≠D)(o:Obj):Blk (W.putObj D o) b t cs:=(World.putObj_heap_other hD).trans h
theorem Ln(h:k≠b)(a v u x y z:Value):(aO W b a v u x y z).heap[k]?=W.heap[k]?:=by
 unfold aO;rw[P0 _ _ _ _ h,P0 _ _ _ _ h,P0 _ _ _ _ h,P0 _ _ _ _ h,P0 _ _ _ _ h,P0 _ _ _ _ h]
structure RdI (wn:World) (bx bl:Nat) (s:Sta) (term vote:Int) (G:Nat->Prop) (Ht:List (Int×Ent)) (W:World):Prop where
 ex:∃ (A:Option Addr) (c:Nat) (last:Int) (out:List Ent),Ht.foldl (fC s.idx) (s.idx+1,[])=(last,out)/\Blk W bx 44 (bE ⟨s,out,term,vote⟩ (H A out.length c))/\Blk W bl 3 #[C E last]/\OwnE W (wn.heap.size+1) (H A out.length c) out/\(∀ k,G k↔k=bx\/k=bl\/(P3 A out.length c).ownBlock=I k)
 e:Ext wn W
theorem Fi{base:Nat}{v:Value}{l:List Ent}(h:OwnE W base v l){o:Obj}(a:v.ownBlock=I k)(d:W.heap[k]?=I o):o.isCells=true:=by
 rcases h.2 with⟨hn,_⟩|⟨g,f,f,e,hb,c,_⟩
 ·rw[hn]at a;cases a
 ·rw[e]at a;obtain rfl:g=k:=by simpa[P4]using a
  rw[c]at d;cases d;rfl
theorem RdI.ext{j:World}{i g:Nat}{s:Sta}{a d:Int}{G:Nat->Prop}{f:List (Int×Ent)}{W':World}(h:RdI j i g s a d G f W)(e:Ext W W'):RdI j i g s a d G f W':=by
 obtain⟨⟨A,c,a,d,h1,h2,h3,h4,h5⟩,f⟩:=h;exact⟨⟨A,c,a,d,h1,h2.ext e,h3.ext e,OwnE.ext h4 e,h5⟩,xT f e⟩
theorem rH(fs:List Fil):∀(l:List Sg4),(∀s∈l,s.count<=4)->(aI fs l).1.length<=4*l.length
 |[],_=>Nat.zero_le _
 | s::l,h=>by
  have a:=rH fs l λx hx=>h x (List.mem_cons_of_mem _ hx);rw[aI,xC];cases he:bw fs s with
  |none=>simp
  |some x=>
   have h1:=qc he;have h2:=h s List.mem_cons_self;dsimp only;rw[xL,oN];have:x.length<=4:=by
    by_cases hc:s.count = -1
    ·exact(h1.1 hc).2
    have:=h1.2 hc;omega
   omega
theorem Nq(x:Int)(e:Sg4):∀(l:List Sg4),l[0]?=I e->(match l with | []=>true | y::_=>decide (y.first<=x))=decide (e.first<=x)
 |[],h=>by cases h
 |y::l,h=>by cases h;rfl
theorem PR{fs:List Fil}{m:Mf}{i a:Int}{c:List Ent}(h2:(aI fs m.segs).2=true)(hf:(aI fs m.segs).1.foldl (fC i) (i+1,[])=(a,c)):fk fs m i=(c,decide (i<a)&&(match m.segs with | []=>true | s::_=>decide (s.first<=i+1))):=by
 unfold fk;rw[qk,if_pos h2,hf];rfl
theorem PQ{fs:List Fil}{m:Mf}{i:Int}(h2:(aI fs m.segs).2=false):fk fs m i=([],false):=by
 unfold fk;rw[qk,if_neg (by rw[h2];simp)]
theorem CO{F:Fence}{z:Nat}{d:Array Oper}{rest:List Oper}{o:Oper}{a:Act}{Q:Exit->Act->World->Prop}(B:o.guard=none)(s x:Operand)(g:o.op=.call { callee:=.builtin .append,args:=#[s,x],argTypes:=#[42,42] })(base:Nat)(v:Value)(bs:List Ent)(hs:a.eval s=v)(H1:OwnE w base v bs)(vx:Value)(cs:List Ent)(hx:a.eval x=vx)(i:Es w vx cs)(p:0<cs.length)(H8:bs.length+cs.length<=2000000)(E:base<=w.heap.size)(h:∀A c w',OwnE w' base (H A (bs.length+cs.length) c) (bs++cs)->eP base w w'->w.grownBy w' v.ownBlock->((P3 A (bs.length+cs.length) c).ownBlock=v.ownBlock\/(P3 A (bs.length+cs.length) c).ownBlock=I w.heap.size)->wpListIn F z Z d Q rest (a.put o.dst (H A (bs.length+cs.length) c)) w'):wpListIn F z Z d Q (o::rest) a w:=by
 obtain⟨y,t,n,r,m⟩:=info_parts ic;obtain⟨d,w',q,h1,h2⟩:=ep (P:=Z) w base 42 o.type 54 y _ 3 24 Tryz.underlying42 t n r m rfl (by decide) v bs.length (ax bs) H1 vx cs.length (ax cs) i (ie _) (by unfold maxLen;omega) (by omega) E;have D:d.ownBlock=v.ownBlock\/d.ownBlock=I w.heap.size:=by
  obtain⟨hl,A,c,rfl,_,_,hc⟩:=i;obtain⟨b,e,rfl,d⟩:=hc p;have z:∀j,(⟨b,e,J⟩:Addr).add j=⟨b,e+j,J⟩:=by intro j;unfold Addr.add;split<;>simp_all
  exact mn (P:=Z) w base 42 o.type 54 y _ 3 24 Tryz.underlying42 t n r m v bs.length (ax bs) H1 ⟨b,e,J⟩ cs.length c (ax cs) hl p (λj u e=>by rw[z];exact d j u e) (ie _) (by unfold maxLen;omega) (by omega) q
 refine wpListIn_plain B λK G=>?_;have C:o.semAt F.round a.eval=execOp a.eval o:=by
  cases i:F.round with
  |none=>rw[Oper.semAt_none]
  |some l=>exact Oper.semAt_some l _ o (by rw[g];intro c hc;cases hc)
 unfold Oper.wpIn;refine⟨?_,?_⟩
 ·intro f hf;simp[Oper.about,g,resolve,Target.leads,go_sem]at hf
 rw[C];unfold execOp;simp only[g,resolve,invoke,builtin,Sem.run_bind,Sem.run_pure,Result.andThen_ok,List.map_toArray,List.map_cons,List.map_nil,hs,hx,q];refine G _ _ ?_;obtain⟨A,c,rfl,_,_⟩:=xO (xW h1);refine h A c w' ?_ (λd d hb=>Ext.grownOwn d (ay H1 hb) h2) h2 D;unfold OwnE;rw[xL,show ax (bs++cs)=ax bs++ax cs from by simp[ax]];exact h1
theorem Be{F:Fence}{n:Nat}{P:Program}{x:Code}{a:Act}{K:Act->World->Prop}{Q:Exit->Act->World->Prop}(G:Act->World->Prop)(h1:x.wpIn F n P (Exit.then G Q) a w)(h2:∀a' w',G a' w'->K a' w'):x.wpIn F n P (Exit.then K Q) a w:=by
 refine wpIn_mono h1 ?_;intro e a' w' h;cases e<;>first | exact h2 _ _ h | exact h
attribute [local go_sem] Oper.semAt_some in
theorem IK(v:Value)(fs:List Fil)(pl bt bm:Nat)(w:World)(hS:StW w)(hF:Fs w v fs)(hl:fs.length<=4000000)(H7:∀f∈fs,f.2.length<=100000)(h0:w.cell? ⟨pl,0,J⟩=I v)(hT:Blk w bt 44 (bE eT (H none 0 0)))(hM:Blk w bm 30 (mfC mf0 (H none 0 0)))(JI:bt≠bm):
  Calls Z 33 #[L (I ⟨pl,0,J⟩),L (I ⟨bt,0,J⟩),L (I ⟨bm,0,J⟩)] w (R1P (b9 fs) bt bm w):=by
 obtain⟨A,c,rfl,_,_⟩:=Fs.open_ hF;obtain⟨R,Q⟩:∃R,b9 fs=R:=⟨_,rfl⟩;rw[Q];unfold b9 at Q;have key:=nY (H A fs.length c) fs 1 0 0 42 w hS hF hl;have HB:∀b,bu fs (aE 1 0 0)=I b->b.length<=100000:=λb h=>by
  obtain⟨f,hf,rfl⟩:=oc h;exact H7 f hf
 obtain⟨rb,JN⟩:∃r,bu fs (aE 1 0 0)=r:=⟨_,rfl⟩;rw[JN]at key Q HB;have Kd:∀f∈fs,f.2.length<=2000000:=λf hf=>by have:=H7 f hf;omega
 have HS:=N hS;have HF:=N hF;have HT:=N hT;have HM:=N hM;have Jl:=N JI;have Jd:=N Kd;have HR:=N Q;have Jr:=N key;have K3:=N HB;have HL:=N hl;have H0:=N h0;clear hS hF hT hM JI H7 Kd Q key HB JN hl;refine(callsIn_wd (ro:=none) (n:=9)).1 ?_;refine callsIn_of_wp_marks Tryz.func33 rfl trivial ?_ rfl;simp only[Tryz.ntmps33,List.size_toArray,xC,List.length_nil,Nat.reduceAdd,Nat.reduceSub,Array.replicate_succ,Array.replicate_zero,List.push_toArray,List.append_toArray,xI,List.cons_append];gi_wp2;refine⟨trivial,(callsIn_wd.2 Jr).mono ?_⟩;rintro e w1⟨JM,Kx⟩;cases rb with
 |none=>
  obtain rfl:=JM;exact mN HR.symm rfl Kx
 |some b=>
  obtain⟨v1,rfl,K5⟩:=JM;have Q:=HR.out;dsimp only at Q;have key:=IF v1 b w1 (HS.ext Kx) K5 (K3 b rfl);obtain⟨rm,J3⟩:∃r,cA b=r:=⟨_,rfl⟩;rw[J3]at key Q;have Jv:=λm (h:rm=I m)=>yD (J3.trans h);have K4:=N key;have KO:=N Q;have Jf:=N Kx;have Je:=N Jv;clear key Q J3 Kx K5 Jv HR K3 h0;gi_wp2;refine⟨trivial,(callsIn_wd.2 K4).mono ?_⟩;rintro e y⟨vs,rfl,Ho,Gq⟩;have HU:=N (xT Jf Gq);cases rm with
  |none=>
   have Q:bL 130=R:=KO.out;dsimp only[Option.isSome,Option.getD]at Ho⊢;obtain⟨B,d,rfl,_,_⟩:=(OwnS.sgs Ho).open_;clear Ho;gi_wp2;refine⟨trivial,(callsIn_wd.2 (fG _ _)).mono ?_⟩;rintro e w3⟨rfl,rfl⟩;exact mN Q.symm rfl (xA HU _)
  |some m=>
   obtain⟨Kh,_⟩:=Je m rfl;dsimp only[Option.isSome,Option.getD]at Ho⊢;have Q:=KO.out;dsimp only at Q;have HZ:=N Q;have HO:=N Kh;have J8:w.heap.size<=y.heap.size:=HU.size;obtain⟨B,d,rfl,_,_⟩:=(OwnS.sgs Ho).open_;have hn:=P5 y 30 (mfC m (H B m.segs.length d));have Ky:Ext y (y.alloc (V (mfC m (H B m.segs.length d)) 30)):=xA (xR _) _;have GC:=N Ho;have H3:=N (xT HU Ky);have HW:=N (ai Ho Ky);have HN:=N hn;have Gl:=N Jf.size;clear Q KO Kh Je Ho hn K4 Jr;unfold mfC at H3 HW HN Ky;gi_wp2;refine⟨trivial,(callsIn_wd.2 (iK _ _)).mono ?_⟩;rintro e w3⟨rfl,rfl⟩;gi_wp2;have Kw:=H3.cell H0;obtain⟨q0,q1,q2,q3,q4,q5⟩:=aj HN;have key:=λW (h:Ext (y.alloc (V #[C E m.next,C E m.term,C E m.vote,C E m.sq,C E m.sf,H B m.segs.length d] 30)) W)=>F8 (H A fs.length c) fs m W ((HS.ext H3).ext h) ((HF.ext H3).ext h) HL Jd;have H6:=N key;obtain⟨wn,Hs⟩:∃x,y.alloc (V #[C E m.next,C E m.term,C E m.vote,C E m.sq,C E m.sf,H B m.segs.length d] 30)=x:=⟨_,rfl⟩;have JT:wn.heap.size=y.heap.size+1:=by rw[<-Hs,xS]
   rw[Hs]at Kw q0 q1 q2 q3 q4 q5;have HN:Hid (Blk wn y.heap.size 30 (mfC m (H B m.segs.length d))):=by rw[<-Hs];exact HN
   have H3:Hid (Ext w wn):=by rw[<-Hs];exact H3
   have HW:Hid (OwnS wn w1.heap.size (H B m.segs.length d) m.segs):=by rw[<-Hs];exact HW
   have H6:Hid (∀W,Ext wn W->Calls Z 37 #[H A fs.length c,.agg #[C E m.sq,C E m.sf]] W (Cr W (eI fs m))):=by rw[<-Hs];exact H6
   rw[Hs];have GD:=N JT;clear Ky key JT Hs;obtain⟨rs,J4⟩:∃r,eI fs m=r:=⟨_,rfl⟩;have JC:∀s,rs=I s->0<=s.idx/\s.idx<=1073741824:=λs h=>(zp (J4.trans h)).2;rw[J4]at H6 HZ;have Jh:=N JC;clear J4 JC;refine Be (λa' w'=>a'.defers=[]/\a'.tmps.size=79/\a'.tmps.getD 0 undef=L (I ⟨pl,0,J⟩)/\a'.tmps.getD 1 undef=L (I ⟨bt,0,J⟩)/\a'.tmps.getD 2 undef=L (I ⟨bm,0,J⟩)/\a'.tmps.getD 3 undef=L (I ⟨y.heap.size,0,J⟩)/\∃(g:Nat) (s:Sta),a'.tmps.getD 5 undef=L (I ⟨g,0,J⟩)/\rs=I s/\wn.heap.size<=g/\Blk w' g 44 #[C E s.idx,C E s.term,C E s.sum,C E s.lvl,O s.fin,H none 0 0,C E m.term,C E m.vote]/\Ext wn w') ?_ ?_
   ·refine mj [] (λc W=>c=eM 130/\bL 130=R/\Ext w W) ?_ (S:=λW=>W.cell? ⟨pl,0,J⟩=I (H A fs.length c)/\W.cell? ⟨y.heap.size,1,J⟩=I (C E m.term)/\W.cell? ⟨y.heap.size,2,J⟩=I (C E m.vote)/\W.cell? ⟨y.heap.size,3,J⟩=I (C E m.sq)/\W.cell? ⟨y.heap.size,4,J⟩=I (C E m.sf)) (by kernel_rfl) ⟨Kw,q1,q2,q3,q4⟩ (λ_=>?_)
    ·rintro c' ⟨T,df⟩W hd⟨rfl,h1,h2⟩;dsimp only at hd;subst hd;exact mN h1.symm rfl h2
    have hold:∀W,Ext wn W->W.cell? ⟨pl,0,J⟩=I (H A fs.length c)/\W.cell? ⟨y.heap.size,1,J⟩=I (C E m.term)/\W.cell? ⟨y.heap.size,2,J⟩=I (C E m.vote)/\W.cell? ⟨y.heap.size,3,J⟩=I (C E m.sq)/\W.cell? ⟨y.heap.size,4,J⟩=I (C E m.sf):=λW h=>⟨h.cell Kw,h.cell q1,h.cell q2,h.cell q3,h.cell q4⟩;have H2:=N hold;clear Kw q0 q1 q2 q3 q4 q5 hold;refine ab 0 ?_;refine ab 1 ?_;refine ab 2 ?_;refine ab 4 ?_;refine ab 5 ?_;refine ab 6 ?_;refine ab 7 ?_;refine AllReadyH.two (i:=3) (j:=9) rfl rfl (by kernel_rfl) (by rfl) (by rfl) (λK hK=>?_) (λK hK=>?_)
    ·go_simp;refine(H6 _ (xD (xR _))).mono ?_;rintro e w4⟨h4,KU⟩;have Hn:=xT (xD (xR wn)) KU;cases rs with
     |none=>
      obtain rfl:=h4;exact⟨rfl,rfl,HZ.out,xT H3 Hn⟩
     |some s=>
      obtain rfl:=h4;refine af hK _ _ (H2 _ Hn) (λ_=>?_);refine ab 8 ?_;refine ah 9 (λK hK=>?_);go_simp;have J9:=P5 w4 44 #[C E 0,C E 0,C E 0,C E 0,O false,H none 0 0,C E 0,C E 0];refine af hK _ _ (H2 _ (xA Hn _)) (λ_=>?_);obtain⟨f0,f1,f2,f3,f4,f5,f6,f7⟩:=cS J9;refine ah 10 (λK hK=>?_);go_simp;have Hl:Hid (Blk (w4.alloc (V #[C E s.idx,C E s.term,C E s.sum,C E s.lvl,O s.fin,H none 0 0,C E m.term,C E m.vote] 44)) w4.heap.size 44 #[C E s.idx,C E s.term,C E s.sum,C E s.lvl,O s.fin,H none 0 0,C E m.term,C E m.vote]):=N (P5 w4 _ _);have Hg:=N (xA Hn (V #[C E s.idx,C E s.term,C E s.sum,C E s.lvl,O s.fin,H none 0 0,C E m.term,C E m.vote] 44));refine af hK _ _ (H2 _ Hg) (λ_=>?_);refine aq ?_;refine pI ⟨rfl,rfl,rfl,rfl,rfl,rfl,_,s,rfl,rfl,Hn.size,Hl.out,Hg.out⟩
    ·go_simp;have J9:=(P5 wn 44 #[C E 0,C E 0,C E 0,C E 0,O false,H none 0 0,C E 0,C E 0]).ext (xD (xR _));have KV:Ext wn (wn.alloc (V #[C E 0,C E 0,C E 0,C E 0,O false,H none 0 0,C E 0,C E 0] 44)).drew:=xD (xA (xR _) _);refine af hK _ _ (H2 _ KV) (λ_=>?_);refine ah 3 (λK hK=>?_);go_simp;refine(H6 _ KV).mono ?_;rintro e w4⟨h4,Hn⟩;have E4:=xT KV Hn;cases rs with
     |none=>
      obtain rfl:=h4;exact⟨rfl,rfl,HZ.out,xT H3 E4⟩
     |some s=>
      obtain rfl:=h4;refine af hK _ _ (H2 _ E4) (λ_=>?_);refine ab 8 ?_;have Ja:=J9.ext Hn;obtain⟨f0,f1,f2,f3,f4,f5,f6,f7⟩:=cS Ja;obtain⟨g0,g1,g2,g3,g4,g5,g6,g7⟩:=aU Ja;refine ah 10 (λK hK=>?_);go_simp;have Hl:=N (fO Ja (C E s.idx) (C E s.term) (C E s.sum) (C E s.lvl) (O s.fin) (H none 0 0) (C E m.term) (C E m.vote));have Hg:=N (iS E4 (xN _) (C E s.idx) (C E s.term) (C E s.sum) (C E s.lvl) (O s.fin) (H none 0 0) (C E m.term) (C E m.vote));refine af hK _ _ (H2 _ Hg) (λ_=>?_);refine aq ?_;refine pI ⟨rfl,rfl,rfl,rfl,rfl,rfl,_,s,rfl,rfl,xN _,Hl.out,Hg.out⟩
   ·rintro⟨T2,df⟩l⟨hd,Ha,t0,t1,t2,t3,g,s,t5,rfl,Hf,Hl,Hg⟩;dsimp only at hd Ha t0 t1 t2 t3 t5;subst hd;have hT:=fM 79 T2 Ha;generalize hU:(λi=>T2.getD i undef)=U at hT;have g0:U 0=L (I ⟨pl,0,J⟩):=by rw[<-hU];exact t0
    have g1:U 1=L (I ⟨bt,0,J⟩):=by rw[<-hU];exact t1
    have g2:U 2=L (I ⟨bm,0,J⟩):=by rw[<-hU];exact t2
    have g3:U 3=L (I ⟨y.heap.size,0,J⟩):=by rw[<-hU];exact t3
    have g5:U 5=L (I ⟨g,0,J⟩):=by rw[<-hU];exact t5
    have K8:T2 = #[L (I ⟨pl,0,J⟩),L (I ⟨bt,0,J⟩),L (I ⟨bm,0,J⟩),L (I ⟨y.heap.size,0,J⟩),U 4,L (I ⟨g,0,J⟩),U 6,U 7,U 8,U 9,U 10,U 11,U 12,U 13,U 14,U 15,U 16,U 17,U 18,U 19,U 20,U 21,U 22,U 23,U 24,U 25,U 26,U 27,U 28,U 29,U 30,U 31,U 32,U 33,U 34,U 35,U 36,U 37,U 38,U 39,U 40,U 41,U 42,U 43,U 44,U 45,U 46,U 47,U 48,U 49,U 50,U 51,U 52,U 53,U 54,U 55,U 56,U 57,U 58,U 59,U 60,U 61,U 62,U 63,U 64,U 65,U 66,U 67,U 68,U 69,U 70,U 71,U 72,U 73,U 74,U 75,U 76,U 77,U 78]:=by rw[hT];show(#[U 0,U 1,U 2,U 3,U 4,U 5,U 6,U 7,U 8,U 9,U 10,U 11,U 12,U 13,U 14,U 15,U 16,U 17,U 18,U 19,U 20,U 21,U 22,U 23,U 24,U 25,U 26,U 27,U 28,U 29,U 30,U 31,U 32,U 33,U 34,U 35,U 36,U 37,U 38,U 39,U 40,U 41,U 42,U 43,U 44,U 45,U 46,U 47,U 48,U 49,U 50,U 51,U 52,U 53,U 54,U 55,U 56,U 57,U 58,U 59,U 60,U 61,U 62,U 63,U 64,U 65,U 66,U 67,U 68,U 69,U 70,U 71,U 72,U 73,U 74,U 75,U 76,U 77,U 78]:Array Value)=_;rw[g0,g1,g2,g3,g5]
    clear hT hU Ha g0 t0 g1 t1 g2 t2 g3 t3 g5 t5;subst K8;obtain⟨KB,KC⟩:=Jh s rfl;have Kp:=pP HO;have Ki:m.segs.length<=60:=(lJ HO).2.2.2.1;have JS:wrap64 (s.idx+1)=s.idx+1:=by unfold wrap64;omega
    obtain⟨p0,p1,p2,p3,p4,p5,p6,p7⟩:=aU Hl;have l5:=Hg.cell (H3.cell H0);have J0:Blk l y.heap.size 30 #[C E m.next,C E m.term,C E m.vote,C E m.sq,C E m.sf,H B m.segs.length d]:=Blk.ext HN Hg;obtain⟨q0,q1,q2,q3,q4,q5⟩:=aj J0;have K9:Ext l (l.alloc (V #[C E (s.idx+1)] 3)):=xA (xR _) _;have l6:=K9.cell l5;have ea:=aj (J0.ext K9);have Ke:=P5 l 3 #[C E (s.idx+1)];have Kf:=Hl.ext K9;have Ku:=N Hl.lt;have Jo:=N (xT Hg K9);have HG:=N Ke;have HI:=N Kf;have Hx:=N Kp;have Hw:=N Ki;have H5:=N Hf;have KJ:=N (P7 KB KC);have K0:=HZ.out;dsimp only at K0;have K0:=N K0;clear Jh J0 K9 Ke Kf Kp Ki Hf H6 HZ KB KC Hl Hg;gi_wp2;refine⟨trivial,(callsIn_wd.2 (Nm _ _ _ _ m _)).mono ?_⟩;rintro e w7⟨rfl,HE⟩;unfold mfC at HE;have He:Ext (l.alloc (V #[C E (s.idx+1)] 3)) w7:=by rw[<-HE];exact xA (xA (xR _) _) _
    have K5:Blk w7 (l.heap.size+1) 22 #[H A fs.length c]:=by
     rw[<-HE];have:=(P5 (l.alloc (V #[C E (s.idx+1)] 3)) 22 #[H A fs.length c]).alloc (V #[C E m.next,C E m.term,C E m.vote,C E m.sq,C E m.sf,H B m.segs.length d] 30);rwa[xS]at this
    have Js:Blk w7 (l.heap.size+1+1) 30 (mfC m (H B m.segs.length d)):=by
     rw[<-HE];have:=P5 ((l.alloc (V #[C E (s.idx+1)] 3)).alloc (V #[H A fs.length c] 22)) 30 (mfC m (H B m.segs.length d));rwa[xS,xS]at this
    have JV:w7.heap.size=l.heap.size+1+1+1:=by rw[<-HE,xS,xS,xS]
    have KT:=N (xT Jo He);have Hc:=N (HI.ext He);have Hb:=N (HG.ext He);have JW:=N K5;have JX:=N Js;have Kq:wn.heap.size<=w7.heap.size:=KT.size;have Hy:=N Kq;have GE:=N JV;have Gg:=N (HS.ext H3);have G3:=N (HF.ext H3);have Jg:=N (OwnS.sgs HW);have Kg:g≠l.heap.size:=by have:=Ku.out;omega
    have HJ:=N Kg;have Gp:RdI wn g l.heap.size s m.term m.vote (λk=>k=g\/k=l.heap.size) [] w7:=⟨⟨none,0,s.idx+1,[],rfl,Hc.out,Hb.out,World.ownsRow_nil _ _ _ _,λk=>by simp[P4]⟩,KT.out⟩;have Gr:∀k,k=g\/k=l.heap.size->wn.heap.size<=k/\k<l.heap.size+1:=λk hk=>by
     have h1:=Ku.out;have h2:=H5.out;rcases hk with rfl | rfl
     ·exact⟨h2,by omega⟩
     exact⟨by omega,by omega⟩
    clear HE p0 p1 p2 p3 p4 p5 p6 p7 l5 l6 q0 q1 q2 q3 q4 q5 JS He K5 Js Kg HI HG Jo Hc Hb ea;clear Kq JV;gi_wp2;refine MS (a:=⟨_,_⟩) (n:=9) (Rp:=λ(x:Int×Ent) av _=>av = #[C E x.1,.agg #[C E x.2.t,C E x.2.k,C E x.2.v]]) (M:=λ_ _=>False) (xs:=(aI fs m.segs).1) (pn:=if(aI fs m.segs).2=true then none else some (eM 130)) (Gok:=λG=>∀k,G k->wn.heap.size<=k/\k<l.heap.size+1) (gf:=85) (lb:=#[L (I ⟨l.heap.size+1+1,0,J⟩),L (I ⟨l.heap.size+1,0,J⟩)]) ?hg ?eg ?hseq ?hMc ?hps (RdI wn g l.heap.size s m.term m.vote) ?hI ?hbd (λk=>k=g\/k=l.heap.size) Gr Gp
     (λx a' W=>a'.defers=[]/\a'.tmps.size=79/\a'.tmps.getD 5 undef=L (I ⟨g,0,J⟩)/\a'.tmps.getD 6 undef=L (I ⟨l.heap.size,0,J⟩)/\a'.tmps.getD 7 undef=C E x.1/\∃nb,a'.tmps.getD 8 undef=L (I ⟨nb,0,J⟩)/\Blk W nb 54 #[C E x.2.t,C E x.2.k,C E x.2.v])
     ?hAx ?assign ?body ?done ?pan
    case hg=>exact rfl
    case eg=>exact enters_of Tryz.func85 (by kernel_rfl) rfl
    case hseq=>exact λW1 hb hs=>Mp wn W1 (H A fs.length c) (H B m.segs.length d) fs m Gg G3 Jg HL Jd Hx Hw (xT KT hb) _ _ _ (xN _) (JW.ext hb) (JX.ext hb)
    case hMc=>exact λk o h=>h.elim
    case hps=>exact λx av W h=>by rw[h];rfl
    case hI=>
     rintro G q X Y⟨⟨A',c',z,out,h1,h2,h3,h4,h5⟩,h6⟩hm;exact⟨⟨A',c',z,out,h1,hm.blkF h2,hm.blkF h3,hm.ownsRow h4 (by rintro k Gn hk(h | ⟨_,h⟩);exact h;cases h),h5⟩,hm.belowF h6 Hy⟩
    case hbd=>
     rintro G q X⟨⟨A',c',z,out,h1,h2,h3,h4,h5⟩,h6⟩k hk;rcases(h5 k).1 hk with rfl | rfl | h
     ·exact h2.lt
     ·exact h3.lt
     exact(h4.lt k h).2
    case hAx=>
     rintro x a' X Y⟨h1,h2,h3,h4,h5,nb,h6,h7⟩hm;exact⟨h1,h2,h3,h4,h5,nb,h6,hm.blkF h7⟩
    case assign=>
     rintro G l' Ht x Jc W av K' hx hi Ha rfl hK;clear hx;gi_wp2;exact hK _ _ (Kept.refl.alloc _) (hi.ext (xA (xR _) _)) ⟨rfl,rfl,rfl,rfl,rfl,_,rfl,P5 W _ _⟩
    case body=>
     rintro G l' Ht x Jc a' W hx GG hr⟨⟨A',c',z,out,hf,Hf,H7,H1,hg⟩,hE⟩Ha⟨hd,HD,t5,t6,t7,nb,t8,Kz⟩;obtain⟨T3,df⟩:=a';dsimp only at hd HD t5 t6 t7 t8;subst hd;have Ha:=HD;clear HD;have hT:=fM 79 T3 Ha;generalize hU:(λi=>T3.getD i undef)=U at hT;have g5:U 5=L (I ⟨g,0,J⟩):=by rw[<-hU];exact t5
     have g6:U 6=L (I ⟨l.heap.size,0,J⟩):=by rw[<-hU];exact t6
     have g7:U 7=C E x.1:=by rw[<-hU];exact t7
     have g8:U 8=L (I ⟨nb,0,J⟩):=by rw[<-hU];exact t8
     have K8:T3 = #[U 0,U 1,U 2,U 3,U 4,L (I ⟨g,0,J⟩),L (I ⟨l.heap.size,0,J⟩),C E x.1,L (I ⟨nb,0,J⟩),U 9,U 10,U 11,U 12,U 13,U 14,U 15,U 16,U 17,U 18,U 19,U 20,U 21,U 22,U 23,U 24,U 25,U 26,U 27,U 28,U 29,U 30,U 31,U 32,U 33,U 34,U 35,U 36,U 37,U 38,U 39,U 40,U 41,U 42,U 43,U 44,U 45,U 46,U 47,U 48,U 49,U 50,U 51,U 52,U 53,U 54,U 55,U 56,U 57,U 58,U 59,U 60,U 61,U 62,U 63,U 64,U 65,U 66,U 67,U 68,U 69,U 70,U 71,U 72,U 73,U 74,U 75,U 76,U 77,U 78]:=by rw[hT];show(#[U 0,U 1,U 2,U 3,U 4,U 5,U 6,U 7,U 8,U 9,U 10,U 11,U 12,U 13,U 14,U 15,U 16,U 17,U 18,U 19,U 20,U 21,U 22,U 23,U 24,U 25,U 26,U 27,U 28,U 29,U 30,U 31,U 32,U 33,U 34,U 35,U 36,U 37,U 38,U 39,U 40,U 41,U 42,U 43,U 44,U 45,U 46,U 47,U 48,U 49,U 50,U 51,U 52,U 53,U 54,U 55,U 56,U 57,U 58,U 59,U 60,U 61,U 62,U 63,U 64,U 65,U 66,U 67,U 68,U 69,U 70,U 71,U 72,U 73,U 74,U 75,U 76,U 77,U 78]:Array Value)=_;rw[g5,g6,g7,g8]
     clear hT hU Ha g5 t5 g6 t6 g7 t7 g8 t8;subst K8;have JJ:nb≠l.heap.size:=by
      rintro rfl;have h1:=Kz.symm.trans H7;simp at h1
     have Gx:nb≠g:=by
      rintro rfl;have h1:=Kz.symm.trans Hf;simp[bE]at h1
     have HA:=Hf.other HJ 0 (C E x.1);have Kj:=Kz.other JJ 0 (C E x.1);have Kc:Blk (W.setCell ⟨l.heap.size,0,J⟩ (C E x.1)) l.heap.size 3 #[C E x.1]:=H7.set 0 (C E x.1);have Hq:OwnE (W.setCell ⟨l.heap.size,0,J⟩ (C E x.1)) (wn.heap.size+1) (H A' out.length c') out:=H1.kept (ar _ l.heap.size 0 _) (.inr (H7.not_row (by decide) H1).symm);have K6:Ext wn (W.setCell ⟨l.heap.size,0,J⟩ (C E x.1)):=P1 (p:=⟨l.heap.size,0,J⟩) hE (by have h1:=Ku.out;have h2:=H5.out;show wn.heap.size<=l.heap.size;omega) _;have JD:Kept (am (KG G) w7.heap.size) W (W.setCell ⟨l.heap.size,0,J⟩ (C E x.1)):=Kept.refl.setCell (λo _ hc=>by
      rintro(h | h)
      ·exact h.2 ((hg _).2 (.inr (.inl rfl)))
      rw[hc]at h;exact absurd h.2 (by simp)) _
     have JP:(Ht++[x]).foldl (fC s.idx) (s.idx+1,[])=(x.1,if s.idx<x.1 then out++[x.2]else out):=by
      rw[List.foldl_append,hf];rfl
     have KA:out.length<=240:=by
      have h1:=rR s.idx Ht (s.idx+1,[]);rw[hf]at h1;have h2:=rH fs m.segs λs hs=>(Hx s hs).2.2.2;have h3:=congrArg List.length hx;rw[xL,xC]at h3;have h4:=Hw.out;simp at h1;omega
     have JA:∀k,(k=g\/k=l.heap.size\/(P3 A' out.length c').ownBlock=I k)->G k:=λk h=>(hg k).2 h;have c0:=H7.cell 0 rfl;have GF:=H7.frozen 0;have HH:=N HA;have Hu:=N Kc;have Jm:=N Hq;have HQ:=N K6;have Ji:=N JD;have Jn:=N JP;have Gf:=N KA;have HV:=N JA;have G4:=N hg;have HK:=N Hf;have KN:=N H1;have Kr:(W.setCell ⟨l.heap.size,0,J⟩ (C E x.1)).heap.size=W.heap.size:=by simp
     have Jq:=N Kr;obtain⟨p0,p1,p2,p3,p4,p5,p6,p7⟩:=aU HA;have eb:=ez Kj;clear hx hr hf Hf H7 H1 hg hE Kz HA Kj Kc Hq K6 JD JP KA JA Kr JJ Gx;by_cases hgt:s.idx<x.1
     ·have He:Ext (W.setCell ⟨l.heap.size,0,J⟩ (C E x.1)) ((W.setCell ⟨l.heap.size,0,J⟩ (C E x.1)).alloc (V #[C E x.2.t,C E x.2.k,C E x.2.v] 54)):=xA (xR _) _;have KZ:=o5 (W.setCell ⟨l.heap.size,0,J⟩ (C E x.1)) x.2;rw[Jq.out]at KZ;have G2:=N KZ;have KM:=N (OwnE.ext Jm He);have K2:=N He;have Hj:=HH.ext He;obtain⟨g0,g1,g2,g3,g4,g5,g6,g7⟩:=aU Hj;have f5:=Hj.frozen 5;have Hc:=N Hj;have Hb:=N (Hu.ext He);have JZ:=N (xT HQ He);have JQ:wn.heap.size+1<=((W.setCell ⟨l.heap.size,0,J⟩ (C E x.1)).alloc (V #[C E x.2.t,C E x.2.k,C E x.2.v] 54)).heap.size:=by
       have h1:=Ku.out;have h2:=H5.out;have h3:=Hu.lt;have h4:=K2.size;omega
      have Gj:=N JQ;clear He KZ Hj JQ;gi_wp2_with (gi_at_builtin;refine CO rfl (.tmp 44) (.tmp 46) rfl (wn.heap.size+1) _ out rfl KM _ [x.2] rfl G2 (by simp) (by have:=Gf.out;simp;omega) Gj ?_;intro A8 c8 w8 Kn Jt Hk Kb;have Ks:=N (P6 Hc Hk (Hc.not_row (by decide) KM));have G9:=N (P6 Hb Hk (Hb.not_row (by decide) KM));have Kv:=N Kn;have Kt:=N (Jt _ JZ (by omega));have KI:=N Hk;have KE:=N Kb;clear Kn Jt Hk Kb g0 g1 g2 g3 g4 g5 g6 g7 f5;obtain⟨g0,g1,g2,g3,g4,g5,g6,g7⟩:=aU Ks;have f5:=Ks.frozen 5)
      have Gu:=(Ji.alloc (V #[C E x.2.t,C E x.2.k,C E x.2.v] 54)).grown KI (λk o hk ho=>by
       rintro(h | h)
       ·exact h.2 (HV k (.inr (.inr hk)))
       have:=Fi KN hk ho;rw[this]at h;exact absurd h.2 (by simp))
      have Gs:Blk (w8.setCell ⟨g,5,J⟩ (H A8 (out.length+[x.2].length) c8)) g 44 (bE ⟨s,out++[x.2],m.term,m.vote⟩ (H A8 (out++[x.2]).length c8)):=by
       rw[xL];exact Ks.set 5 _
      refine⟨Gu.setCell (λo _ hc=>?_) _,λk=>k=g\/k=l.heap.size\/(P3 A8 (out++[x.2]).length c8).ownBlock=I k,λk hk=>?_,⟨⟨A8,c8,x.1,out++[x.2],?_,Gs,G9.other (Ne.symm HJ) 5 _,?_,λk=>Iff.rfl⟩,P1 (p:=⟨g,5,J⟩) Kt H5 _⟩⟩
      ·rintro(h | h)
       ·exact h.2 (HV _ (.inl rfl))
       rw[hc]at h;exact absurd h.2 (by simp)
      ·rw[xL]at hk;rcases hk with rfl | rfl | hk
       ·exact .inl (HV _ (.inl rfl))
       ·exact .inl (HV _ (.inr (.inl rfl)))
       rcases KE with hh | hh
       ·rw[hh]at hk;exact .inl (HV _ (.inr (.inr hk)))
       rw[hh]at hk;injection hk with hk
       have h1:=K2.size;have h2:=Jq.out;exact .inr (by omega)
      ·rw[Jn.out,if_pos hgt]
      rw[xL];exact Kv.kept (ar _ g 5 _) (.inr (Ks.not_row (by decide) Kv).symm)
     gi_wp2;refine⟨Ji.out,G,λk h=>.inl h,⟨⟨A',c',x.1,out,?_,HH.out,Hu.out,Jm.out,G4.out⟩,HQ.out⟩⟩;rw[Jn.out,if_neg (by omega)]
    case done=>
     rintro G D W Hr hD⟨⟨A',c',z,out,hf,Hf,H7,H1,_⟩,hE⟩hK;have h2:(aI fs m.segs).2=true:=by
      cases h:(aI fs m.segs).2 with
      |true=>rfl
      |false=>rw[h]at Hr;cases Hr
     have Q:=K0.out;rw[PR h2 hf]at Q;dsimp only at Q;have Jz:=xT H3 hE;have Jy:w.heap.size<=D:=by have:=H3.size;have:=Hy.out;omega
     have KA:out.length<=240:=by
      have h1:=rR s.idx (aI fs m.segs).1 (s.idx+1,[]);rw[hf]at h1;have h2:=rH fs m.segs λs hs=>(Hx s hs).2.2.2;have h4:=Hw.out;simp at h1;omega
     have JF:=λX (F:Ext W X)=>FC ⟨s,out,m.term,m.vote⟩ (H A' out.length c') X (Es.ext (OwnE.es H1) F) (show out.length<=4000000 by omega);have J2:=HN.ext hE;have JB:=Jg.ext hE;obtain⟨KB,KC⟩:=KJ;have JS:wrap64 (s.idx+1)=s.idx+1:=by unfold wrap64;omega
     have GH:IntKind.i64.wrap (s.idx+1)=s.idx+1:=by rw[IntKind.wrap_i64];omega
     have c0:=H7.cell 0 rfl;obtain⟨p0,p1,p2,p3,p4,p5,p6,p7⟩:=aU (show Blk W g 44 #[C E s.idx,C E s.term,C E s.sum,C E s.lvl,O s.fin,H A' out.length c',C E m.term,C E m.vote]from Hf);obtain⟨_,_,_,_,_,n5⟩:=aj (show Blk W y.heap.size 30 #[C E m.next,C E m.term,C E m.vote,C E m.sq,C E m.sf,H B m.segs.length d]from J2);have HX:=N hK;have Hi:=N Q;have KH:=N Jz;have HP:=N Jy;have G8:=N JF;have Gd:=N J2;have G5:=N JB;have HK:=N Hf;have KN:=N H1;have G1:=N hE;clear hK Q Jz Jy JF J2 JB Hf H1 hE hf H7 Hr KA h2 KB KC;gi_wp2;refine Be (λa' w'=>a'.defers=[{ target:=.collected D,args:=#[] }]/\a'.tmps.size=79/\a'.tmps.getD 1 undef=L (I ⟨bt,0,J⟩)/\a'.tmps.getD 2 undef=L (I ⟨bm,0,J⟩)/\a'.tmps.getD 3 undef=L (I ⟨y.heap.size,0,J⟩)/\a'.tmps.getD 5 undef=L (I ⟨g,0,J⟩)/\(⟨0,⟨s,out,m.term,m.vote⟩,m⟩:Rd)=R/\Ext W w') ?_ ?_
     ·by_cases hlast:s.idx<z
      case neg=>
       have Hh:Hid (bL 130=R):=by unfold Hid;rw[<-Hi.out];simp[hlast]
       refine mj [{ target:=.collected D,args:=#[] }] (λc W=>c=eM 130/\bL 130=R/\Ext w W/\W.heap[D]?=I (.deferred (some []))) ?_ (S:=λW=>W.cell? ⟨l.heap.size,0,J⟩=I (C E z)/\W.cell? ⟨g,0,J⟩=I (C E s.idx)/\W.cell? ⟨g,1,J⟩=I (C E s.term)/\W.cell? ⟨g,2,J⟩=I (C E s.sum)/\W.cell? ⟨g,3,J⟩=I (C E s.lvl)/\W.cell? ⟨g,4,J⟩=I (O s.fin)/\W.cell? ⟨g,5,J⟩=I (H A' out.length c')/\W.cell? ⟨g,6,J⟩=I (C E m.term)/\W.cell? ⟨g,7,J⟩=I (C E m.vote)/\W.cell? ⟨y.heap.size,5,J⟩=I (H B m.segs.length d)) (by kernel_rfl) ⟨c0,p0,p1,p2,p3,p4,p5,p6,p7,n5⟩ (λ_=>?_)
       ·rintro c1⟨T,df⟩W hd⟨rfl,h1,h2,h3⟩;exact mcSReada1
       clear c0 p0 p1 p2 p3 p4 p5 p6 p7 n5;refine ab 0 ?_;refine ab 1 ?_;refine ab 2 ?_;refine ab 3 ?_;refine ab 4 ?_;refine ab 5 ?_;refine ag 6 ?_;refine ag 7 ?_;refine ag 8 ?_;refine ag 9 ?_;refine ag 10 ?_;refine ag 11 ?_;refine ag 12 ?_;refine ag 13 ?_;refine ag 14 ?_;refine ag 15 ?_;refine ag 16 ?_;refine ag 17 ?_;refine ag 18 ?_;refine ag 19 ?_;refine ag 20 ?_;refine ag 21 ?_;exact mcSReada2
      by_cases H8:m.segs.length=0
      ·have Kk:m.segs=[]:=List.length_eq_zero_iff.1 H8;have KP:Hid ((if cT ⟨s,out,m.term,m.vote⟩=true then(⟨0,⟨s,out,m.term,m.vote⟩,m⟩:Rd)else bL 130)=R):=by
        have h:=Hi.out;rw[Kk]at h;unfold Hid;rw[<-h];simp[hlast]
       have Gv:((m.segs.length:Int)==0)=true:=by simpa using H8
       clear Kk H8;refine mj [{ target:=.collected D,args:=#[] }] (λc W=>c=eM 130/\bL 130=R/\Ext w W/\W.heap[D]?=I (.deferred (some []))) ?_ (S:=λW=>W.cell? ⟨l.heap.size,0,J⟩=I (C E z)/\W.cell? ⟨g,0,J⟩=I (C E s.idx)/\W.cell? ⟨g,1,J⟩=I (C E s.term)/\W.cell? ⟨g,2,J⟩=I (C E s.sum)/\W.cell? ⟨g,3,J⟩=I (C E s.lvl)/\W.cell? ⟨g,4,J⟩=I (O s.fin)/\W.cell? ⟨g,5,J⟩=I (H A' out.length c')/\W.cell? ⟨g,6,J⟩=I (C E m.term)/\W.cell? ⟨g,7,J⟩=I (C E m.vote)/\W.cell? ⟨y.heap.size,5,J⟩=I (H B m.segs.length d)) (by kernel_rfl) ⟨c0,p0,p1,p2,p3,p4,p5,p6,p7,n5⟩ (λ_=>?_)
       ·rintro c1⟨T,df⟩W hd⟨rfl,h1,h2,h3⟩;exact mcSReada1
       have hold:∀X,Ext W X->(X.cell? ⟨l.heap.size,0,J⟩=I (C E z)/\X.cell? ⟨g,0,J⟩=I (C E s.idx)/\X.cell? ⟨g,1,J⟩=I (C E s.term)/\X.cell? ⟨g,2,J⟩=I (C E s.sum)/\X.cell? ⟨g,3,J⟩=I (C E s.lvl)/\X.cell? ⟨g,4,J⟩=I (O s.fin)/\X.cell? ⟨g,5,J⟩=I (H A' out.length c')/\X.cell? ⟨g,6,J⟩=I (C E m.term)/\X.cell? ⟨g,7,J⟩=I (C E m.vote)/\X.cell? ⟨y.heap.size,5,J⟩=I (H B m.segs.length d)):=λX F=>⟨F.cell c0,F.cell p0,F.cell p1,F.cell p2,F.cell p3,F.cell p4,F.cell p5,F.cell p6,F.cell p7,F.cell n5⟩;have H2:=N hold;clear hold c0 p0 p1 p2 p3 p4 p5 p6 p7 n5;refine ab 0 ?_;refine ab 1 ?_;refine ab 2 ?_;refine ab 3 ?_;refine ab 4 ?_;refine ab 5 ?_;refine ab 6 ?_;refine ab 7 ?_;refine ab 8 ?_;refine ab 9 ?_;refine ab 10 ?_;refine ag 11 ?_;refine ag 12 ?_;refine ag 13 ?_;refine ag 14 ?_;refine ag 15 ?_;refine ag 16 ?_;refine ag 17 ?_;refine ag 18 ?_;refine ag 19 ?_;refine ag 20 ?_;exact mcSReada0
      obtain⟨_,b0,H9,rfl,H4⟩:=Sgs.at_ G5 (by omega);obtain⟨Gy,Gz,k2,GA⟩:=H4 0 (by omega);obtain⟨s0,J5⟩:∃x,m.segs[0]'(by omega)=x:=⟨_,rfl⟩;rw[J5]at k2;rw[Nat.zero_mul,Nat.add_zero]at k2;have Gv:((m.segs.length:Int)==0)=false:=by simpa using H8
      have Gw:0<m.segs.length:=by omega
      have JH:(match m.segs with | []=>true | x::_=>decide (x.first<=s.idx+1))=decide (s0.first<=s.idx+1):=by
       exact Nq _ _ _ (by rw[List.getElem?_eq_getElem Gw,J5])
      have Jj:=N JH;clear H4 Gy Gz GA J5 H8 JH;by_cases hfi:s0.first<=s.idx+1
      case neg=>
       have Hh:Hid (bL 130=R):=by unfold Hid;rw[<-Hi.out,Jj.out];simp[hlast,hfi]
       refine mj [{ target:=.collected D,args:=#[] }] (λc W=>c=eM 130/\bL 130=R/\Ext w W/\W.heap[D]?=I (.deferred (some []))) ?_ (S:=λW=>W.cell? ⟨l.heap.size,0,J⟩=I (C E z)/\W.cell? ⟨g,0,J⟩=I (C E s.idx)/\W.cell? ⟨g,1,J⟩=I (C E s.term)/\W.cell? ⟨g,2,J⟩=I (C E s.sum)/\W.cell? ⟨g,3,J⟩=I (C E s.lvl)/\W.cell? ⟨g,4,J⟩=I (O s.fin)/\W.cell? ⟨g,5,J⟩=I (H A' out.length c')/\W.cell? ⟨g,6,J⟩=I (C E m.term)/\W.cell? ⟨g,7,J⟩=I (C E m.vote)/\W.cell? ⟨y.heap.size,5,J⟩=I (H (I ⟨b0,H9,J⟩) m.segs.length d)/\W.cell? ⟨b0,H9+2,J⟩=I (C E s0.first)) (by kernel_rfl) ⟨c0,p0,p1,p2,p3,p4,p5,p6,p7,n5,k2⟩ (λ_=>?_)
       ·rintro c1⟨T,df⟩W hd⟨rfl,h1,h2,h3⟩;exact mcSReada1
       clear c0 p0 p1 p2 p3 p4 p5 p6 p7 n5 k2;refine ab 0 ?_;refine ab 1 ?_;refine ab 2 ?_;refine ab 3 ?_;refine ab 4 ?_;refine ab 5 ?_;refine ab 6 ?_;refine ab 7 ?_;refine ab 8 ?_;refine ab 9 ?_;refine ab 10 ?_;refine ab 11 ?_;refine ab 12 ?_;refine ab 13 ?_;refine ab 14 ?_;refine ab 15 ?_;refine ab 16 ?_;refine ab 17 ?_;refine ab 18 ?_;refine ab 19 ?_;refine ab 20 ?_;refine ab 21 ?_;exact mcSReada2
      have KP:Hid ((if cT ⟨s,out,m.term,m.vote⟩=true then(⟨0,⟨s,out,m.term,m.vote⟩,m⟩:Rd)else bL 130)=R):=by
       have h:=Hi.out;rw[Jj.out]at h;unfold Hid;rw[<-h];simp[hlast,hfi]
      refine mj [{ target:=.collected D,args:=#[] }] (λc W=>c=eM 130/\bL 130=R/\Ext w W/\W.heap[D]?=I (.deferred (some []))) ?_ (S:=λW=>W.cell? ⟨l.heap.size,0,J⟩=I (C E z)/\W.cell? ⟨g,0,J⟩=I (C E s.idx)/\W.cell? ⟨g,1,J⟩=I (C E s.term)/\W.cell? ⟨g,2,J⟩=I (C E s.sum)/\W.cell? ⟨g,3,J⟩=I (C E s.lvl)/\W.cell? ⟨g,4,J⟩=I (O s.fin)/\W.cell? ⟨g,5,J⟩=I (H A' out.length c')/\W.cell? ⟨g,6,J⟩=I (C E m.term)/\W.cell? ⟨g,7,J⟩=I (C E m.vote)/\W.cell? ⟨y.heap.size,5,J⟩=I (H (I ⟨b0,H9,J⟩) m.segs.length d)/\W.cell? ⟨b0,H9+2,J⟩=I (C E s0.first)) (by kernel_rfl) ⟨c0,p0,p1,p2,p3,p4,p5,p6,p7,n5,k2⟩ (λ_=>?_)
      ·rintro c1⟨T,df⟩W hd⟨rfl,h1,h2,h3⟩;exact mcSReada1
      have hold:∀X,Ext W X->(X.cell? ⟨l.heap.size,0,J⟩=I (C E z)/\X.cell? ⟨g,0,J⟩=I (C E s.idx)/\X.cell? ⟨g,1,J⟩=I (C E s.term)/\X.cell? ⟨g,2,J⟩=I (C E s.sum)/\X.cell? ⟨g,3,J⟩=I (C E s.lvl)/\X.cell? ⟨g,4,J⟩=I (O s.fin)/\X.cell? ⟨g,5,J⟩=I (H A' out.length c')/\X.cell? ⟨g,6,J⟩=I (C E m.term)/\X.cell? ⟨g,7,J⟩=I (C E m.vote)/\X.cell? ⟨y.heap.size,5,J⟩=I (H (I ⟨b0,H9,J⟩) m.segs.length d)/\X.cell? ⟨b0,H9+2,J⟩=I (C E s0.first)):=λX F=>⟨F.cell c0,F.cell p0,F.cell p1,F.cell p2,F.cell p3,F.cell p4,F.cell p5,F.cell p6,F.cell p7,F.cell n5,F.cell k2⟩;have H2:=N hold;clear hold c0 p0 p1 p2 p3 p4 p5 p6 p7 n5 k2;refine ab 0 ?_;refine ab 1 ?_;refine ab 2 ?_;refine ab 3 ?_;refine ab 4 ?_;refine ab 5 ?_;refine ab 6 ?_;refine ab 7 ?_;refine ab 8 ?_;refine ab 9 ?_;refine ab 10 ?_;refine ab 11 ?_;refine ab 12 ?_;refine ab 13 ?_;refine ab 14 ?_;refine ab 15 ?_;refine ab 16 ?_;refine ab 17 ?_;refine ab 18 ?_;refine ab 19 ?_;refine ab 20 ?_;exact mcSReada0
     rintro⟨T4,df⟩W8⟨hd,Ha,t1,t2,t3,t5,Hp,Hz⟩;dsimp only at hd Ha t1 t2 t3 t5;subst hd;have hT:=fM 79 T4 Ha;generalize hU:(λi=>T4.getD i undef)=U at hT;have g1:U 1=L (I ⟨bt,0,J⟩):=by rw[<-hU];exact t1
     have g2:U 2=L (I ⟨bm,0,J⟩):=by rw[<-hU];exact t2
     have g3:U 3=L (I ⟨y.heap.size,0,J⟩):=by rw[<-hU];exact t3
     have g5:U 5=L (I ⟨g,0,J⟩):=by rw[<-hU];exact t5
     have K8:T4 = #[U 0,L (I ⟨bt,0,J⟩),L (I ⟨bm,0,J⟩),L (I ⟨y.heap.size,0,J⟩),U 4,L (I ⟨g,0,J⟩),U 6,U 7,U 8,U 9,U 10,U 11,U 12,U 13,U 14,U 15,U 16,U 17,U 18,U 19,U 20,U 21,U 22,U 23,U 24,U 25,U 26,U 27,U 28,U 29,U 30,U 31,U 32,U 33,U 34,U 35,U 36,U 37,U 38,U 39,U 40,U 41,U 42,U 43,U 44,U 45,U 46,U 47,U 48,U 49,U 50,U 51,U 52,U 53,U 54,U 55,U 56,U 57,U 58,U 59,U 60,U 61,U 62,U 63,U 64,U 65,U 66,U 67,U 68,U 69,U 70,U 71,U 72,U 73,U 74,U 75,U 76,U 77,U 78]:=by rw[hT];show(#[U 0,U 1,U 2,U 3,U 4,U 5,U 6,U 7,U 8,U 9,U 10,U 11,U 12,U 13,U 14,U 15,U 16,U 17,U 18,U 19,U 20,U 21,U 22,U 23,U 24,U 25,U 26,U 27,U 28,U 29,U 30,U 31,U 32,U 33,U 34,U 35,U 36,U 37,U 38,U 39,U 40,U 41,U 42,U 43,U 44,U 45,U 46,U 47,U 48,U 49,U 50,U 51,U 52,U 53,U 54,U 55,U 56,U 57,U 58,U 59,U 60,U 61,U 62,U 63,U 64,U 65,U 66,U 67,U 68,U 69,U 70,U 71,U 72,U 73,U 74,U 75,U 76,U 77,U 78]:Array Value)=_;rw[g1,g2,g3,g5]
     clear hT hU Ha g1 t1 g2 t2 g3 t3 g5 t5;subst K8;have J7:Blk W8 g 44 #[C E s.idx,C E s.term,C E s.sum,C E s.lvl,O s.fin,H A' out.length c',C E m.term,C E m.vote]:=HK.ext Hz;have J1:Blk W8 y.heap.size 30 #[C E m.next,C E m.term,C E m.vote,C E m.sq,C E m.sf,H B m.segs.length d]:=Gd.ext Hz;have E8:=xT KH Hz;have JR:=HT.ext E8;have JG:=HM.ext E8;have JE:W8.heap[D]?=I (.deferred (some [])):=(Hz.block D (P8.1 HX).1).trans HX.out;have Kn:=OwnE.ext KN Hz;have JO:=ai HW (xT G1 Hz);have JL:g≠bt:=by have h1:=HT.lt;have h2:=H5.out;have h3:=H3.size;omega
     have JK:g≠bm:=by have h1:=HM.lt;have h2:=H5.out;have h3:=H3.size;omega
     have Km:y.heap.size≠bt:=by have h1:=HT.lt;have h3:=HU.size;omega
     have Kl:y.heap.size≠bm:=by have h1:=HM.lt;have h3:=HU.size;omega
     have Jx:bt≠D:=by have h1:=HT.lt;have h2:=HP.out;omega
     have Jw:bm≠D:=by have h1:=HM.lt;have h2:=HP.out;omega
     obtain⟨p0,p1,p2,p3,p4,p5,p6,p7⟩:=aU J7;obtain⟨q0,q1,q2,q3,q4,q5⟩:=aj J1;have Hd:=N Hp;have Gm:=N J7;have Gb:=N J1;have Kt:=N E8;have K1:=N JR;have Ga:=N JG;have G6:=N JE;have Kv:=N Kn;have Gh:=N JO;have Gc:=N (P7 JL (P7 JK (P7 Km (P7 Kl (P7 Jx Jw)))));clear Hp J7 J1 E8 JR JG JE Kn JO JL JK Km Kl Jx Jw Hz;gi_wp2;refine mq (S:=λW=>W.cell? ⟨g,0,J⟩=I (C E s.idx)/\W.cell? ⟨g,1,J⟩=I (C E s.term)/\W.cell? ⟨g,2,J⟩=I (C E s.sum)/\W.cell? ⟨g,3,J⟩=I (C E s.lvl)/\W.cell? ⟨g,4,J⟩=I (O s.fin)/\W.cell? ⟨g,5,J⟩=I (H A' out.length c')/\W.cell? ⟨g,6,J⟩=I (C E m.term)/\W.cell? ⟨g,7,J⟩=I (C E m.vote)/\W.cell? ⟨y.heap.size,0,J⟩=I (C E m.next)/\W.cell? ⟨y.heap.size,1,J⟩=I (C E m.term)/\W.cell? ⟨y.heap.size,2,J⟩=I (C E m.vote)/\W.cell? ⟨y.heap.size,3,J⟩=I (C E m.sq)/\W.cell? ⟨y.heap.size,4,J⟩=I (C E m.sf)/\W.cell? ⟨y.heap.size,5,J⟩=I (H B m.segs.length d)) (by kernel_rfl) ⟨p0,p1,p2,p3,p4,p5,p6,p7,q0,q1,q2,q3,q4,q5⟩ (λ_=>?_);clear p0 p1 p2 p3 p4 p5 p6 p7 q0 q1 q2 q3 q4 q5;refine ab 0 ?_;refine ab 1 ?_;obtain⟨f0,f1,f2,f3,f4,f5,f6,f7⟩:=cS K1;obtain⟨g0,g1,g2,g3,g4,g5,g6,g7⟩:=aU (show Blk W8 bt 44 #[C E 0,C E 0,C E 0,C E 0,O false,H none 0 0,C E 0,C E 0]from K1.out);refine ah 2 (λK hK=>?_);go_simp;show K _ (P2 (aY W8 bt (C E s.idx) (C E s.term) (C E s.sum) (C E s.lvl) (O s.fin) (H A' out.length c') (C E m.term) (C E m.vote)));obtain⟨n1,n2,n3,n4,n5,n6⟩:=Gc;have Hm:Ext (aY W8 bt (C E s.idx) (C E s.term) (C E s.sum) (C E s.lvl) (O s.fin) (H A' out.length c') (C E m.term) (C E m.vote)) (P2 (aY W8 bt (C E s.idx) (C E s.term) (C E s.sum) (C E s.lvl) (O s.fin) (H A' out.length c') (C E m.term) (C E m.vote))):=xD (xR _);have Jp:=N ((dB Gm n1 (C E s.idx) (C E s.term) (C E s.sum) (C E s.lvl) (O s.fin) (H A' out.length c') (C E m.term) (C E m.vote)).ext Hm);have Jk:=N ((dB Gb n3 (C E s.idx) (C E s.term) (C E s.sum) (C E s.lvl) (O s.fin) (H A' out.length c') (C E m.term) (C E m.vote)).ext Hm);have HY:=N ((dB Ga (Ne.symm Jl) (C E s.idx) (C E s.term) (C E s.sum) (C E s.lvl) (O s.fin) (H A' out.length c') (C E m.term) (C E m.vote)).ext Hm);have Gk:=N ((fO (show Blk W8 bt 44 #[C E 0,C E 0,C E 0,C E 0,O false,H none 0 0,C E 0,C E 0]from K1.out) (C E s.idx) (C E s.term) (C E s.sum) (C E s.lvl) (O s.fin) (H A' out.length c') (C E m.term) (C E m.vote)).ext Hm);have Ge:=N (OwnE.ext (dQ K1 Kv (C E s.idx) (C E s.term) (C E s.sum) (C E s.lvl) (O s.fin) (H A' out.length c') (C E m.term) (C E m.vote)) Hm);have Gi:=N (ai (dQ K1 Gh (C E s.idx) (C E s.term) (C E s.sum) (C E s.lvl) (O s.fin) (H A' out.length c') (C E m.term) (C E m.vote)) Hm);have G7:Hid ((P2 (aY W8 bt (C E s.idx) (C E s.term) (C E s.sum) (C E s.lvl) (O s.fin) (H A' out.length c') (C E m.term) (C E m.vote))).heap[D]?=I (.deferred (some []))):=N ((Fw (Ne.symm n5) (C E s.idx) (C E s.term) (C E s.sum) (C E s.lvl) (O s.fin) (H A' out.length c') (C E m.term) (C E m.vote)).trans G6.out);have G0:Hid (∀W0,Ext W0 w->W0.heap.size<=bt->Ext W0 (P2 (aY W8 bt (C E s.idx) (C E s.term) (C E s.sum) (C E s.lvl) (O s.fin) (H A' out.length c') (C E m.term) (C E m.vote)))):=N λW0 h hb=>xD (iS (xT h Kt) hb (C E s.idx) (C E s.term) (C E s.sum) (C E s.lvl) (O s.fin) (H A' out.length c') (C E m.term) (C E m.vote));have JY:Hid (∀b t cs,b≠bt->Blk w b t cs->Blk (P2 (aY W8 bt (C E s.idx) (C E s.term) (C E s.sum) (C E s.lvl) (O s.fin) (H A' out.length c') (C E m.term) (C E m.vote))) b t cs):=N λb t cs h1 h2=>(dB (h2.ext Kt) h1 (C E s.idx) (C E s.term) (C E s.sum) (C E s.lvl) (O s.fin) (H A' out.length c') (C E m.term) (C E m.vote)).ext Hm;clear Hm f0 f1 f2 f3 f4 f5 f6 f7 g0 g1 g2 g3 g4 g5 g6 g7;generalize(P2 (aY W8 bt (C E s.idx) (C E s.term) (C E s.sum) (C E s.lvl) (O s.fin) (H A' out.length c') (C E m.term) (C E m.vote)))=W9 at *;obtain⟨p0,p1,p2,p3,p4,p5,p6,p7⟩:=aU Jp;obtain⟨q0,q1,q2,q3,q4,q5⟩:=aj Jk;refine af hK _ _ ⟨p0,p1,p2,p3,p4,p5,p6,p7,q0,q1,q2,q3,q4,q5⟩ (λ_=>?_);clear p0 p1 p2 p3 p4 p5 p6 p7 q0 q1 q2 q3 q4 q5;obtain⟨f0,f1,f2,f3,f4,f5⟩:=eN HY;obtain⟨g0,g1,g2,g3,g4,g5⟩:=aj (show Blk W9 bm 30 #[C E 0,C E 0,C E 0,C E 0,C E 0,H none 0 0]from HY.out);refine ah 3 (λK hK=>?_);go_simp;show K _ (aO W9 bm (C E m.next) (C E m.term) (C E m.vote) (C E m.sq) (C E m.sf) (H B m.segs.length d));obtain⟨p0,p1,p2,p3,p4,p5,p6,p7⟩:=aU (dA Jp n2 (C E m.next) (C E m.term) (C E m.vote) (C E m.sq) (C E m.sf) (H B m.segs.length d));obtain⟨q0,q1,q2,q3,q4,q5⟩:=aj (dA Jk n4 (C E m.next) (C E m.term) (C E m.vote) (C E m.sq) (C E m.sf) (H B m.segs.length d));have KR:=N (dA Gk Jl (C E m.next) (C E m.term) (C E m.vote) (C E m.sq) (C E m.sf) (H B m.segs.length d));have KK:Hid (Blk (aO W9 bm (C E m.next) (C E m.term) (C E m.vote) (C E m.sq) (C E m.sf) (H B m.segs.length d)) bm 30 (mfC m (H B m.segs.length d))):=N (cQ (show Blk W9 bm 30 #[C E 0,C E 0,C E 0,C E 0,C E 0,H none 0 0]from HY.out) (C E m.next) (C E m.term) (C E m.vote) (C E m.sq) (C E m.sf) (H B m.segs.length d));have KL:=N (cU HY Ge (C E m.next) (C E m.term) (C E m.vote) (C E m.sq) (C E m.sf) (H B m.segs.length d));have KQ:=N (cU HY Gi (C E m.next) (C E m.term) (C E m.vote) (C E m.sq) (C E m.sf) (H B m.segs.length d));have Hv:Hid ((aO W9 bm (C E m.next) (C E m.term) (C E m.vote) (C E m.sq) (C E m.sf) (H B m.segs.length d)).heap[D]?=I (.deferred (some []))):=N ((Ln (Ne.symm n6) (C E m.next) (C E m.term) (C E m.vote) (C E m.sq) (C E m.sf) (H B m.segs.length d)).trans G7.out);have KF:Hid (∀W0,Ext W0 w->W0.heap.size<=bt->W0.heap.size<=bm->Ext W0 (aO W9 bm (C E m.next) (C E m.term) (C E m.vote) (C E m.sq) (C E m.sf) (H B m.segs.length d))):=N λW0 h hb hc=>dD (G0 W0 h hb) hc (C E m.next) (C E m.term) (C E m.vote) (C E m.sq) (C E m.sf) (H B m.segs.length d);have KD:Hid (∀b t cs,b≠bt->b≠bm->Blk w b t cs->Blk (aO W9 bm (C E m.next) (C E m.term) (C E m.vote) (C E m.sq) (C E m.sf) (H B m.segs.length d)) b t cs):=N λb t cs h1 h2 h3=>dA (JY b t cs h1 h3) h2 (C E m.next) (C E m.term) (C E m.vote) (C E m.sq) (C E m.sf) (H B m.segs.length d);refine af hK _ _ ⟨p0,p1,p2,p3,p4,p5,p6,p7,q0,q1,q2,q3,q4,q5⟩ (λ_=>?_);clear p0 p1 p2 p3 p4 p5 p6 p7 q0 q1 q2 q3 q4 q5 f0 f1 f2 f3 f4 f5 g0 g1 g2 g3 g4 g5;refine aq ?_;generalize aO W9 bm (C E m.next) (C E m.term) (C E m.vote) (C E m.sq) (C E m.sf) (H B m.segs.length d)=W10 at *;gi_wp2;refine rO Hv (.tuple #[]) (results_none rfl _ _ _) ?_;rw[<-Hd.out];unfold R1P;rw[if_pos rfl];refine⟨rfl,⟨⟨H A' out.length c',H B m.segs.length d,rJ KR n5 _,rJ KK n6 _,ay (ownsRow_putObj KL (.deferred none) Hv rfl) (by have:=H3.size;omega),ay (ownsRow_putObj KQ (.deferred none) Hv rfl) Gl⟩,λW0 h1 h2 h3=>cp (KF W0 h1 h2 h3) (hD:=by have:=h1.size;have:=HP.out;omega) _,λb t cs h1 h2 h3=>rJ (KD b t cs h1 h2 h3) (by have:=h3.lt;have:=HP.out;omega) _⟩⟩
    case pan=>
     rintro G D c' W Hr hD hi hK;have h2:(aI fs m.segs).2=false:=by
      cases h:(aI fs m.segs).2 with
      |false=>rfl
      |true=>rw[h]at Hr;cases Hr
     rw[h2]at Hr;obtain rfl:eM 130=c':=by injection Hr
     have Q:bL 130=R:=by rw[<-K0.out,PQ h2];rfl
     refine nN (R:=R1P R bt bm w) (c:=eM 130) hK ?_;exact mN Q.symm rfl (cp (xT H3 hi.e) (hD:=by have:=H3.size;have:=Hy.out;omega) _)
