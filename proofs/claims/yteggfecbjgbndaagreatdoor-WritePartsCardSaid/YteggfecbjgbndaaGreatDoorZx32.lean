/- Merged -/
import Derived.Test.YteggfecbjgbndaaGreatDoorZx31
set_option linter.all false
set_option maxHeartbeats 8000000
set_option maxRecDepth 100000
open List renaming length->B
open Go.RowKit.Below renaming heap_setCell->P0
namespace Go.Proofs.YteggfecbjgbndaaGreatDoor
open Go.RowKit Go.Mv
variable {b k:Nat} {W w:World}
/-! What Read$1 lays into the boxes of t and m -/
structure zvY (w:World) (bt bm:Nat) (r:Rd) (w':World):Prop where
 ok:∃ vl vs,Blk w' bt 44 (bE r.t vl)/\Blk w' bm 30 (mfC r.m vs)/\OwnE w' w.heap.size vl r.t.log/\OwnS w' w.heap.size vs r.m.segs
 gr:∀ W0,Ext W0 w->W0.heap.size<=bt->W0.heap.size<=bm->Ext W0 w'
 bl:∀ b t cs,b≠bt->b≠bm->Blk w b t cs->Blk w' b t cs
def R1P(r:Rd)(d c:Nat)(w:World)(a:Ending)(w':World):Prop:=if r.err=0 then a=.returned (.tuple #[])/\zvY w d c r w' else a=pan r.err/\Ext w w'
theorem mN{r:Rd}{bt bm:Nat}{en:Ending}{w':World}{e:Int}(h:r=bL e)(h1:en=pan e)(h2:Ext w w')(he:e≠0:=by decide):R1P r bt bm w en w':=by
 subst h;unfold R1P;rw[if_neg (show ¬(bL e).err=0 from he)];exact⟨h1,h2⟩
theorem Lo(h:k≠b)(a v u x y z p q:Value):(aY W b a v u x y z p q).heap[k]?=W.heap[k]?:=by
 unfold aY;rw[P0 _ _ _ _ h,P0 _ _ _ _ h,P0 _ _ _ _ h,P0 _ _ _ _ h,P0 _ _ _ _ h,P0 _ _ _ _ h,P0 _ _ _ _ h,P0 _ _ _ _ h]
theorem Fv(X:World)(k:Nat):X.drew.heap[k]?=X.heap[k]?:=rfl
theorem Fw(h:k≠b)(a v u x y z p q:Value):(World.drew (aY W b a v u x y z p q)).heap[k]?=W.heap[k]?:=(Fv _ k).trans (Lo h a v u x y z p q)
theorem rJ{D:Nat}{t:TypeId}{cs:Array Value}(h:Blk W b t cs)(hD:b≠D)(o:Obj):Blk (W.putObj D o) b t cs:=(World.putObj_heap_other hD).trans h
theorem Ln(h:k≠b)(a v u x y z:Value):(aO W b a v u x y z).heap[k]?=W.heap[k]?:=by
 unfold aO;rw[P0 _ _ _ _ h,P0 _ _ _ _ h,P0 _ _ _ _ h,P0 _ _ _ _ h,P0 _ _ _ _ h,P0 _ _ _ _ h]
structure RdI (wn:World) (bx bl:Nat) (s:Sta) (term vote:Int) (G:Nat->Prop) (pre:List (Int×Ent)) (W:World):Prop where
 ex:∃ (A:Option Addr) (c:Nat) (last:Int) (out:List Ent),pre.foldl (fC s.idx) (s.idx+1,[])=(last,out)/\Blk W bx 44 (bE ⟨s,out,term,vote⟩ (.slice A out.length c))/\Blk W bl 3 #[.int .i64 last]/\OwnE W (wn.heap.size+1) (.slice A out.length c) out/\(∀ k,G k↔k=bx\/k=bl\/(Value.slice A out.length c).ownBlock=some k)
 e:Ext wn W
theorem Fi{base:Nat}{v:Value}{l:List Ent}(h:OwnE W base v l){o:Obj}(hk:v.ownBlock=some k)(c:W.heap[k]?=some o):o.isCells=true:=by
 rcases h.2 with⟨hn,_⟩|⟨g,cap,d,e,hb,a,_⟩
 ·rw[hn]at hk;cases hk
 ·rw[e]at hk;obtain rfl:g=k:=by simpa[Value.ownBlock]using hk
  rw[a]at c;cases c;rfl
theorem RdI.ext{j:World}{i g:Nat}{s:Sta}{a d:Int}{G:Nat->Prop}{e:List (Int×Ent)}{W':World}(h:RdI j i g s a d G e W)(f:Ext W W'):RdI j i g s a d G e W':=by
 obtain⟨⟨A,c,a,d,h1,h2,h3,h4,h5⟩,e⟩:=h;exact⟨⟨A,c,a,d,h1,h2.ext f,h3.ext f,OwnE.ext h4 f,h5⟩,xT e f⟩
theorem rH(fs:List Fil):∀(l:List Sg4),(∀s∈l,s.count<=4)->B (aI fs l).1<=4*B l
 |[],_=>Nat.zero_le _
 | s::l,h=>by
  have a:=rH fs l λx hx=>h x (List.mem_cons_of_mem _ hx);rw[aI,xC];cases he:bw fs s with
  |none=>simp
  |some x=>
   have h1:=qc he;have h2:=h s List.mem_cons_self;dsimp only;rw[xL,oN];have:B x<=4:=by
    by_cases hc:s.count = -1
    ·exact(h1.1 hc).2
    have:=h1.2 hc;omega
   omega
theorem Nq(x:Int)(e:Sg4):∀(l:List Sg4),l[0]?=some e->(match l with | []=>true | y::_=>decide (y.first<=x))=decide (e.first<=x)
 |[],h=>by cases h
 |y::l,h=>by cases h;rfl
theorem PR{fs:List Fil}{m:Mf}{i a:Int}{c:List Ent}(h2:(aI fs m.segs).2=true)(hf:(aI fs m.segs).1.foldl (fC i) (i+1,[])=(a,c)):fk fs m i=(c,decide (i<a)&&(match m.segs with | []=>true | s::_=>decide (s.first<=i+1))):=by
 unfold fk;rw[qk,if_pos h2,hf];rfl
theorem PQ{fs:List Fil}{m:Mf}{i:Int}(h2:(aI fs m.segs).2=false):fk fs m i=([],false):=by
 unfold fk;rw[qk,if_neg (by rw[h2];simp)]
theorem CO{F:Fence}{t:Nat}{d:Array Oper}{rest:List Oper}{o:Oper}{a:Act}{Q:Exit->Act->World->Prop}(D:o.guard=none)(s x:Operand)(g:o.op=.call { callee:=.builtin .append,args:=#[s,x],argTypes:=#[42,42] })(base:Nat)(v:Value)(bs:List Ent)(hs:a.eval s=v)(H0:OwnE w base v bs)(vx:Value)(cs:List Ent)(hx:a.eval x=vx)(i:Es w vx cs)(m:0<B cs)(y:B bs+B cs<=2000000)(y:base<=w.heap.size)(h:∀A c w',OwnE w' base (.slice A (B bs+B cs) c) (bs++cs)->eP base w w'->w.grownBy w' v.ownBlock->((Value.slice A (B bs+B cs) c).ownBlock=v.ownBlock\/(Value.slice A (B bs+B cs) c).ownBlock=some w.heap.size)->wpListIn F t Tryz.prog d Q rest (a.put o.dst (.slice A (B bs+B cs) c)) w'):wpListIn F t Tryz.prog d Q (o::rest) a w:=by
 obtain⟨r,hi,n,p,q⟩:=info_parts ic;obtain⟨d,w',H3,h1,h2⟩:=ep (P:=Tryz.prog) w base 42 o.type 54 r _ 3 24 Tryz.underlying42 hi n p q rfl (by decide) v bs.length (ax bs) H0 vx cs.length (ax cs) i (ie _) (by unfold maxLen;omega) (by omega) y;have z:d.ownBlock=v.ownBlock\/d.ownBlock=some w.heap.size:=by
  obtain⟨hl,A,c,rfl,_,_,hc⟩:=i;obtain⟨b,e,rfl,d⟩:=hc m;have H4:∀j,(⟨b,e,none⟩:Addr).add j=⟨b,e+j,none⟩:=by intro j;unfold Addr.add;split<;>simp_all
  exact mn (P:=Tryz.prog) w base 42 o.type 54 r _ 3 24 Tryz.underlying42 hi n p q v bs.length (ax bs) H0 ⟨b,e,none⟩ cs.length c (ax cs) hl m (λj u e=>by rw[H4];exact d j u e) (ie _) (by unfold maxLen;omega) (by omega) H3
 refine wpListIn_plain D λK E=>?_;have C:o.semAt F.round a.eval=execOp a.eval o:=by
  cases i:F.round with
  |none=>rw[Oper.semAt_none]
  |some l=>exact Oper.semAt_some l _ o (by rw[g];intro c hc;cases hc)
 unfold Oper.wpIn;refine⟨?_,?_⟩
 ·intro f hf;simp[Oper.about,g,resolve,Target.leads,go_sem]at hf
 rw[C];unfold execOp;simp only[g,resolve,invoke,builtin,Sem.run_bind,Sem.run_pure,Result.andThen_ok,List.map_toArray,List.map_cons,List.map_nil,hs,hx,H3];refine E _ _ ?_;obtain⟨A,c,rfl,_,_⟩:=xO (xW h1);refine h A c w' ?_ (λd d hb=>Ext.grownOwn d (ay H0 hb) h2) h2 z;unfold OwnE;rw[xL,show ax (bs++cs)=ax bs++ax cs from by simp[ax]];exact h1
theorem Be{F:Fence}{n:Nat}{P:Program}{x:Code}{a:Act}{K:Act->World->Prop}{Q:Exit->Act->World->Prop}(G:Act->World->Prop)(h1:x.wpIn F n P (Exit.then G Q) a w)(h2:∀c w',G c w'->K c w'):x.wpIn F n P (Exit.then K Q) a w:=by
 refine wpIn_mono h1 ?_;intro e c w' h;cases e<;>first | exact h2 _ _ h | exact h
