/- Merged -/
import Derived.Test.YteggfecbjgbndaaGreatDoorZx32
set_option linter.all false
set_option maxHeartbeats 8000000
set_option maxRecDepth 100000
open Go.Proofs.Tryz
open Go.Value renaming int->G,slice->I,pointer->N,bool->Z,string->i
open Go.IntKind renaming i64->H
open Go.Obj renaming cells->J
open Go.Proofs.Tryz renaming prog->L
open Go.Mv renaming aN->O
open Option renaming none->U,some->V
open Go.RowKit.Below renaming setCell->P0
open Go.Mv.Blk renaming new->P1
open Nat renaming le_trans->P2,le_succ->P3
open List renaming length_map->P4,length_nil->P5,mem_cons->P6,length_mergeSort->P7,mem_append->P8
open Go.World renaming block_lt_of_cell?->P9,cell?_of_block->Pa,drew->Pb,ownsRow_nil->Pc
namespace Go.Proofs.YteggfecbjgbndaaGreatDoor
open Go.RowKit Go.Mv Go.Shelf
variable {d:Dk} {base n sz:Nat} {t:TypeId}
theorem CX{α:Type}{E:World->(Nat->Option Value)->α->Prop}(i:zec sz E){F:Fence}{nf:Nat}{y:Array Oper}{rest:List Oper}{o:Oper}{a:Act}{w:World}{Q:Exit->Act->World->Prop}(Jr:o.guard=none)(s x:Operand)(T:TypeId)(H:o.op=.call { callee:=.builtin .append,args:=#[s,x],argTypes:=#[T,T] })(t:TypeId)(q:TypeInfo)(z:Value)(bytes:Nat)(Z:Tryz.prog.underlying T=V (.slice t))(hi:Tryz.prog.info? t=V q)(O:q.zero=V z)(M:q.size=sz)(N:q.bytes=bytes)(JB:z.cells.size=sz)(K5:0<sz)(Jo:bytes<=1000)(base:Nat)(v:Value)(l:List α)(hs:a.eval s=v)(Kw:OwnX sz E t w base v l)(vx:Value)(m:List α)(r:List Value)(hx:a.eval x=vx)(J:SlR w sz vx m.length r)(B:RowOf sz E w r m)(R:0<m.length)(W:∀g,v.ownBlock=V g->∀u∈r,bF g u)(Ku:l.length+m.length<=4000000)(z:base<=w.heap.size)(h:∀A c w',OwnX sz E t w' base (I A (l.length+m.length) c) (l++m)->eP base w w'->w.grownBy w' v.ownBlock->wpListIn F nf L y Q rest (a.put o.dst (I A (l.length+m.length) c)) w'):wpListIn F nf L y Q (o::rest) a w:=by
 obtain⟨xs,h1,h2,h3⟩:=Kw;have X:(l.length+m.length)*bytes<=140737488355328:=P2 (Nat.mul_le_mul Ku Jo) (by decide);obtain⟨y,w',S,Y,C⟩:=ep (P:=L) w base T o.type t q _ sz bytes Z hi O M N JB K5 v l.length xs h1 vx m.length r J (B.one i) (by unfold maxLen;omega) X z;have Ks:y.ownBlock=v.ownBlock\/y.ownBlock=V w.heap.size:=by
  obtain⟨hl,A,c,rfl,_,_,hc⟩:=J;obtain⟨b,G,rfl,y⟩:=hc R;have z:∀j,(⟨b,G,U⟩:Addr).add j=⟨b,G+j,U⟩:=by intro j;unfold Addr.add;split<;>simp_all
  exact mn (P:=L) w base T o.type t q _ sz bytes Z hi O M N v l.length xs h1 ⟨b,G,U⟩ m.length c r hl R (λj u e=>by rw[z];exact y j u e) (B.one i) (by unfold maxLen;omega) X S
 have Hk:∀ {q:List Value} {k:List α},RowOf sz E w q k->(∀g,v.ownBlock=V g->∀u∈q,bF g u)->RowOf sz E w' q k:=by
  intro q k D Jn;cases hg:v.ownBlock with
  |none=>
   refine D.keep i (D.fresh i) λp y hc _=>?_;exact(Pa (C.block _ (P9 _ _ hc) (by rw[hg];simp))).trans hc
  |some g=>
   refine D.keep i (Jn g hg) λp y hc q=>?_;exact(Pa (C.block _ (P9 _ _ hc) (by rw[hg];simpa using q))).trans hc
 refine wpListIn_plain Jr λK hK=>?_;have Ky:o.semAt F.round a.eval=execOp a.eval o:=by
  cases J:F.round with
  |none=>rw[Oper.semAt_none]
  |some l=>exact Oper.semAt_some l _ o (by rw[H];intro c hc;cases hc)
 unfold Oper.wpIn;refine⟨?_,?_⟩
 ·intro f hf;simp[Oper.about,H,resolve,Target.leads,go_sem]at hf
 rw[Ky];unfold execOp;simp only[H,resolve,invoke,builtin,Sem.run_bind,Sem.run_pure,Result.andThen_ok,List.map_toArray,List.map_cons,List.map_nil,hs,hx,S];refine hK _ _ ?_;obtain⟨A,c,rfl,_,_⟩:=xO (xW Y);refine h A c w' ⟨xs++r,?_,(Hk h2 h3).append (Hk B W),λg hg u e=>?_⟩ (λq q hb=>Ext.grownOwn q (ay h1 hb) C) C
 ·rw[xL];exact Y
 ·rcases Ks with hb | hb
  ·rw[hb]at hg;rcases P8.1 e with e | e
   ·exact h3 g hg u e
   exact W g hg u e
  ·rw[hb]at hg;cases hg;rcases P8.1 e with e | e
   ·exact h2.fresh i u e
   ·exact B.fresh i u e
theorem Lb(r:Nat)(w:World):Calls L 97 #[.map (some r)] w λe w'=>e=.returned (.func (.func 164) #[] #[N (V ⟨w.heap.size,0,U⟩)])/\w.alloc (J #[.map (some r)] 142)=w':=by
 go_enter func97,ntmps97
 go_wp2;go_ret;exact⟨rfl,rfl⟩
theorem nh(n b:List UInt8):∀l:List Fil,(aX n b l).length<=l.length+1
 |[]=>by simp[aX]
 | p::l=>by
  have:=nh n b l;rw[aX];split<;>simp<;>omega
theorem sh(n:List UInt8):∀l:List Fil,(aV n l).length<=l.length
 |[]=>by simp[aV]
 | p::l=>by
  have:=sh n l;rw[aV];split<;>simp<;>omega
theorem NM(m:List Fil)(o:Oq):(bW m o).length<=m.length+1:=by
 unfold bW;split
 ·exact nh _ _ _
 ·split
  ·split
   ·omega
   exact nh _ _ _
  ·split
   ·split
    ·omega
    rename_i b _;have h1:=nh o.t b (aV o.n m);have h2:=sh o.n m;omega
   ·split
    ·have:=sh o.n m;omega
    ·omega
theorem zO:∀(q:List Oq) (m:List Fil),(q.foldl bW m).length<=m.length+q.length
 |[],m=>by simp
 | o::q,m=>by
  have h1:=NM m o;have h2:=zO q (bW m o);rw[List.foldl_cons,xC];omega
theorem AI:∀l:List Fil,(dq l).length<=l.length
 |[]=>by simp[dq]
 | p::l=>by
  have h1:=AI l;have h2:=nh p.1 p.2 (dq l);rw[dq,xC];omega
theorem AH(fs:List Fil)(q:List Oq):(bD fs q).length<=fs.length+q.length:=by
 have h1:=zO q (dq fs);have h2:=AI fs;unfold bD;omega
theorem iW{p:Fil}:∀ {l:List Fil},p∈l->p.2.length<=tot l
 | q::l,h=>by
  rw[fy];rcases P6.1 h with rfl | h
  ·omega
  ·have:=iW h;omega
theorem OwnB.awayT{W:World}{g:Nat}{u:Value}{b:List UInt8}(h:OwnB W base u b){cs:Array Value}{fr:Nat×Nat}(hg:W.heap[g]?=V (J cs t fr))(f:t≠5):bF g u:=by
 intro j j n c _ i he;subst i;subst he;rcases h.2 with⟨hn,_⟩|⟨i,cap,i,e,_,a,_⟩
 ·cases hn
 ·cases e;rw[a]at hg;cases hg;exact f rfl
theorem OwnX.moves{α:Type}{E:World->(Nat->Option Value)->α->Prop}(a:zec sz E){A B:World}{v:Value}{l:List α}(h:OwnX sz E t A base v l)(hm:Moves (am (λ_ _=>False) n) A B):OwnX sz E t B base v l:=by
 obtain⟨xs,h1,h2,h3⟩:=h;refine⟨xs,hm.ownsRow h1 ?_,h2.keep a (h2.fresh a) λp x hc _=>hm.cell hc λo a b=>?_,h3⟩
 ·intro k a hk;rintro(h | ⟨_,h⟩)
  ·exact h
  cases h
 ·rintro(h | ⟨_,h⟩)
  ·exact h
  ·rw[b]at h;cases h
theorem OwnX.putObj{α:Type}{E:World->(Nat->Option Value)->α->Prop}(b:zec sz E){A:World}{v:Value}{l:List α}(h:OwnX sz E t A base v l){D:Nat}{o:Obj}(c:A.heap[D]?=V o)(hc:o.isCells=false)(f:Obj):OwnX sz E t (A.putObj D f) base v l:=by
 obtain⟨xs,h1,h2,h3⟩:=h;refine⟨xs,⟨h1.1,?_⟩,h2.keep b (h2.fresh b) λp x b _=>fL b c hc f,h3⟩;rcases h1.2 with hn | ⟨g,cap,i,rfl,hb,a,rest⟩
 ·exact .inl hn
 ·exact .inr ⟨g,cap,i,rfl,hb,(World.putObj_heap_other (λe=>by subst e;rw[c]at a;cases a;cases hc)).trans a,rest⟩
theorem no1{A:Option Addr}{c:Nat}:∀(k:Nat) (z:Int),(#[I A n c]:Array Value)[k]?≠some (G .u8 z):=by
 intro k z h;match k,h with
 |0,h=>cases h
 |k+1,h=>simp at h
theorem Oa(tmps:Array Value)(W:World)(b:Nat)(A:Option Addr)(n c:Nat)(h4:tmps.getD 2 undef=N (V ⟨b,0,U⟩))(hc:W.cell? ⟨b,0,U⟩=V (I A n c)):(results Tryz.f46 tmps).run L W=.ok (I A n c) W:=by
 have a:tmps[2]?.getD undef=N (V ⟨b,0,U⟩):=by simpa using h4
 simp[results,results46,a,hc,go_sem]
structure NwI (w:World) (base bo:Nat) (Hn:List Fil) (X:World):Prop where
 bx:∃ v,Boxed X bo 22 v/\OwnF X base v Hn
 e:Ext w X
attribute [local go_sem] Oper.semAt_some in
theorem M9(v:Value)(d:Dk)(w:World)(hD:DkV w v d)(T:d.fs.length<=1000000)(T:d.q.length<=1000000)(hb:tot d.fs+aL d.q<=2000000):
  Calls L 46 #[v] w λe w'=>∃A c,e=.returned (I A d.now.length c)/\OwnF w' w.heap.size (I A d.now.length c) d.now/\Ext w w':=by
 obtain⟨T,T,rfl,hF,hQ⟩:=hD;obtain⟨A,c,rfl,_,_⟩:=Fs.open_ hF;obtain⟨B,Q,rfl,_,_⟩:=Qs.open_ hQ;have T:Ext w ((w.alloc (J #[I A d.fs.length c,I B d.q.length Q,G H d.quota,G H d.fuse,Z d.dead] 25)).alloc (J #[I none 0 0] 22)):=xA (xA (xR _) _) _;have KX:=(P1 w 25 #[I A d.fs.length c,I B d.q.length Q,G H d.quota,G H d.fuse,Z d.dead]).alloc (J #[I none 0 0] 22);have H3:=P1 (w.alloc (J #[I A d.fs.length c,I B d.q.length Q,G H d.quota,G H d.fuse,Z d.dead] 25)) 22 #[I none 0 0];rw[xS]at H3;have HC:=O (rM _ d _ (show DkV _ _ d from⟨_,_,rfl,hF.ext T,hQ.ext T⟩) (by omega) (by omega) (by omega));have Hh:=O T;have Hc:=O H3;have Jz:=mT d.fs d.q;have Js:=AH d.fs d.q;have K3:bP (bD d.fs d.q)=d.now:=Bq d.fs d.q;have HN:=O K3;have HT:=O (show tot (bD d.fs d.q)<=2000000 by omega);have HL:=O (show(bD d.fs d.q).length<=2000000 by omega);clear hF hQ T Jz Js K3 hb H3;have ea:=ae KX;clear KX;generalize bD d.fs d.q=M at *;refine(callsIn_wd (ro:=none) (n:=9)).1 ?_;refine callsIn_of_wp_marks func46 rfl trivial ?_ rfl;simp only[ntmps46,List.size_toArray,xC,P5,Nat.reduceAdd,Nat.reduceSub,Array.replicate_succ,Array.replicate_zero,List.push_toArray,List.append_toArray,xI,List.cons_append];gi_wp2_with (first
  |(refine⟨trivial,?_⟩;gi_at_call 96;refine(callsIn_wd.2 HC).mono ?_;rintro e y⟨r,rfl,J3,Jy,S⟩)
  |(refine⟨trivial,?_⟩;gi_at_call 97;refine(callsIn_wd.2 (Lb r y)).mono ?_;rintro e m⟨rfl,Kz⟩))
 have T:Ext y m:=by rw[<-Kz];exact xA (xR _) _
 have Hj:Boxed m y.heap.size 142 (.map (some r)):=by rw[<-Kz];exact Boxed.new y _ _
 clear Kz;have Jv:=J3.ext T;have H8:=xT Hh (xT S T);have KZ:Blk m (w.heap.size+1) 22 #[I none 0 0]:=Hc.ext (xT S T);have Jt:w.heap.size+1<y.heap.size:=by have:=S.size;simp only[xS]at this;omega
 have Ju:y.heap.size<m.heap.size:=Hj.lt;have h0:NwI w m.heap.size (w.heap.size+1) [] m:=⟨⟨_,KZ,OwnX.nil _ _ _⟩,H8⟩;obtain⟨i0,hi,Ht,Hl,Hm⟩:=info_parts sc;have Hx:∀p∈M,p.2.length<=2000000:=λp hp=>P2 (iW hp) HT;have Kh:=O Hx;have Ja:(bP M).length<=2000000:=by unfold bP;rw[P4,P7,P4];exact HL.out
 have Jl:=O Ja;clear J3 Jy S T H8 HC Hc Hh Hx Ja ea;refine ru (a:=⟨_,_⟩) rfl (enters_of func164 (by kernel_rfl) rfl)
  (λW1 hb hs=>EH m W1 hb r y.heap.size (w.heap.size+1) M Jv Hj (by omega) KZ no1 HL Kh)
  (λk o h=>h.elim) (λk o h r e=>h.1 r e) (λx av W h=>by obtain⟨C,f,rfl,_⟩:=h;rfl)
  (NwI w m.heap.size (w.heap.size+1)) (λ_ _ _=>False) ?hI (λ_ _ _ _ h _=>h) h0
  (λx a' W=>∃R C f,a'=⟨#[.agg #[I A d.fs.length c,I B d.q.length Q,G H d.quota,G H d.fuse,Z d.dead],N (V ⟨w.heap.size,0,U⟩),N (V ⟨w.heap.size+1,0,U⟩),N (V ⟨R,0,U⟩),.agg #[I A d.fs.length c,I B d.q.length Q,G H d.quota,G H d.fuse,Z d.dead],.map (some r),.func (.func 164) #[] #[N (V ⟨y.heap.size,0,U⟩)],.agg #[sv x.1,I C x.2.length f],undef,undef,undef,undef,undef],[]⟩/\Blk W R 68 #[sv x.1,I C x.2.length f]/\OwnB W 0 (I C x.2.length f) x.2)
  ?hAx ?assign ?body ?done ?stop
 case hI=>
  rintro s X Y⟨⟨u,hb,l⟩,F⟩hm;refine⟨⟨u,hm.boxed hb ?_,OwnX.moves dz l hm⟩,hm.belowOf F ?_ (xN _)⟩
  ·rintro(h | h)
   ·exact h
   cases h.2
  rintro k o hk(h | h)
  ·exact h
  have:=h.1;omega
 case hAx=>
  rintro x a' X Y⟨R,C,f,rfl,hb,l⟩hm;refine⟨R,C,f,rfl,hm.same _ _ hb ?_,hm.ownsRow l ?_⟩
  ·rintro(h | h)
   ·exact h
   cases h.2
  intro k y _;rintro(h | h)
  ·exact h
  cases h.2
 case assign=>
  rintro l' K x KC W av y hx⟨⟨u,hb,l⟩,F⟩K5⟨C,f,rfl,P⟩hK;simp only[sv]at *;gi_wp2;exact hK _ _ (Kept.refl.alloc _) ⟨⟨u,hb.alloc _,OwnX.ext dz l (xA (xR _) _)⟩,xA F _⟩ ⟨_,C,f,rfl,P1 _ _ _,ai P (xA (xR _) _)⟩
 case body=>
  rintro l' K⟨n,b⟩KC a' W hx y y⟨⟨u,hb,l⟩,F⟩K5⟨R,C,f,rfl,JA,P⟩;dsimp only at *;obtain⟨z,E,rfl⟩:=l.open_;obtain⟨y,y⟩:=iF JA;have y:=hb.cell;have fb:=hb.frozen;have y:K.length+1<=2000000:=by have y:=congrArg List.length hx;rw[xL,xC]at y;have:=Jl.out;omega
  have hX:Ext W (W.alloc (J #[sv n,I C b.length f] 68)):=xA (xR _) _;have KV:∀g,(Value.slice z K.length E).ownBlock=V g->∀y∈[sv n,I C b.length f],bF g y:=by
   intro g hg y y;obtain⟨_,cs,Hy⟩:=ee l hg;simp only[P6,List.not_mem_nil,or_false]at y;rcases y with rfl | rfl
   ·exact da _ n
   exact OwnB.awayT P Hy (by decide)
  have Q:=O KV;have y:=O l;have T:=O hb;have S:=O P;have R:=O F;clear KV l hb P F;simp only[sv]at *;gi_wp2_with (gi_at_builtin;refine CX dz rfl (.tmp 8) (.tmp 10) 22 rfl 68 i0 _ 40 underlying22 hi Ht Hl Hm rfl (by decide) (by decide) m.heap.size _ K rfl (OwnX.ext dz y hX) _ [(n,b)] [i ⟨n.toArray⟩,I C b.length f] rfl (fu W [i ⟨n.toArray⟩,I C b.length f] 68 2 rfl) (rz (n:=n) (Bs.ext S.bs hX)) (by simp) Q (by simp;omega) (P2 K5 hX.size) ?_;intro Q X m Hz S P;simp only[xC,P5,Nat.zero_add]at Hz⊢;have m:=((T.alloc (J #[i ⟨n.toArray⟩,I C b.length f] 68)).kept P (λe=>by have:=(ee y e.symm).1;omega));have f:=m.cell;have f:=m.frozen)
  have f:=OwnF.setD (u:=I Q (K.length+1) X) (j:=0) Hz (by decide) m no1;refine⟨((Kept.refl.alloc _).grown P (λk o P hk=>?_)).setCell (λo hk _=>?_) _,⟨_,m.set _,by simpa using f⟩,P0 (S w (xT R hX) (by omega)) (P3 _) _⟩
  ·obtain⟨f,cs,Hy⟩:=ee y P;rw[hk]at Hy;cases Hy;rintro(⟨_,⟨h1,_⟩|⟨_,h1⟩⟩|⟨_,h1⟩)
   ·omega
   ·exact absurd (Option.some.inj h1) (by decide)
   cases h1
  rintro(⟨_,⟨_,h1⟩|⟨h1,_⟩⟩|⟨h1,_⟩)
  ·exact h1 rfl
  ·dsimp only at h1;omega
  dsimp only at h1;omega
 case done=>
  rintro D W hD⟨⟨u,hb,l⟩,F⟩hK;obtain⟨z,E,rfl⟩:=l.open_;have hc:=hb.cell;have hf:=hb.frozen;gi_wp2;have f:=dK hK rfl ⟨w.heap.size+1,0,U⟩ (I z (bP M).length E);have m:=fL (hb.set (I z (bP M).length E)).cell f rfl (.deferred none);have y:=OwnF.setD (u:=I z (bP M).length E) (j:=0) l (by decide) hb no1;have Hz:=(OwnX.putObj dz y f rfl (.deferred none)).base (base':=w.heap.size) (by omega);refine dh f (I z (bP M).length E) (Oa _ _ _ z _ E rfl m) ⟨z,E,by rw[<-HN.out],by rw[<-HN.out];exact Hz,?_⟩;exact cp (P0 F (P3 _) _) _
 case stop=>
  rintro D f K W _ _ h _;exact h.elim
open Go.RowKit Go.Mv
def sH(r:Rd)(c b:Nat)(w:World)(a:Ending)(w':World):Prop:=if r.err=0 then a=.returned (G H 0)/\zvY w c b r w' else a=.returned (G H r.err)/\Ext w w'
theorem zx(fs:List Fil):(b9 fs).err=0\/(∃e,b9 fs=bL e/\e≠0):=by
 unfold b9;split
 ·exact .inr ⟨42,rfl,by decide⟩
 ·split
  ·exact .inr ⟨130,rfl,by decide⟩
  ·split
   ·exact .inr ⟨130,rfl,by decide⟩
   ·split
    ·exact .inl rfl
    ·exact .inr ⟨130,rfl,by decide⟩
theorem MH(tmps:Array Value)(W:World)(b c:Nat)(cs a:Array Value)(u:Value)(h2:tmps.getD 2 undef=N (V ⟨b,0,U⟩))(h3:tmps.getD 3 undef=N (V ⟨c,0,U⟩))(h4:tmps.getD 4 undef=u)(hb:Blk W b 44 cs)(hc:Blk W c 30 a)(hs:cs.size=8)(e:a.size=6):(results Tryz.f9 tmps).run L W=.ok (.tuple #[.agg cs,.agg a,u]) W:=by
 have hl:=hb.load (P:=L) oG rfl (by rw[hs];kernel_rfl);have hm:=hc.load (P:=L) lP rfl (by rw[e];kernel_rfl);have f:tmps[2]?.getD undef=N (V ⟨b,0,U⟩):=by simpa using h2
 have a:tmps[3]?.getD undef=N (V ⟨c,0,U⟩):=by simpa using h3
 have e:tmps[4]?.getD undef=u:=by simpa using h4
 simp[results,results9,f,a,e,asAddr,hl,hm]
def RdW(w:World)(r:Rd)(e:Ending)(W:World):Prop:=e=.returned (G H r.err)/\∃a b,Blk W (w.heap.size+1) 44 (bE r.t a)/\Blk W (w.heap.size+1+1) 30 (mfC r.m b)/\OwnE W w.heap.size a r.t.log/\OwnS W w.heap.size b r.m.segs/\Ext w W
structure Sz (n:Nat) (d:Dk):Prop where
 l:d.fs.length+d.q.length<=n
 t:tot d.fs+aL d.q<=n
 f:d.fuse<=9223372036854775807
theorem zQ(d:Dk):d.may=0\/d.may=2\/d.may=40:=by
 unfold Dk.may;split
 ·exact .inr (.inl rfl)
 ·split
  ·exact .inr (.inr rfl)
  ·exact .inl rfl
theorem rU{o:Oq}:∀ {l:List Oq},o∈l->o.b.length<=aL l
 | q::l,h=>by
  rw[eH];rcases P6.1 h with rfl | h
  ·omega
  ·have:=rU h;omega
theorem nz(v:Value)(d:Dk)(n:Nat)(w:World)(hD:DkV w v d)(hn:n<=1000000)(hs:Sz n d):
  Calls L 51 #[v] w λe w'=>∃u,e=.returned u/\OwnDs w' w.heap.size u d/\Ext w w':=by
 obtain⟨h1,h2,_⟩:=hs;exact Me v d w hD (by omega) (by omega) (λf hf=>by have:=iW hf;omega) (λo a=>by have:=rU a;omega)
theorem BS(v:Value)(d:Dk)(n:Nat)(w:World)(hD:DkV w v d)(hn:n<=1000000)(hs:Sz n d):
  Calls L 171 #[v] w λe w'=>e=.returned (G H d.may)/\Ext w w':=by
 obtain⟨h1,h2,_⟩:=hs;exact L9 v d w hD (by omega) (by omega) (by omega)
theorem sD(v:Value)(d:Dk)(n:Nat)(w:World)(hD:DkV w v d)(hn:n<=1000000)(hs:Sz n d):
  Calls L 46 #[v] w λe w'=>∃A c,e=.returned (I A d.now.length c)/\OwnF w' w.heap.size (I A d.now.length c) d.now/\Ext w w':=by
 obtain⟨h1,h2,_⟩:=hs;exact M9 v d w hD (by omega) (by omega) (by omega)
theorem fR(d:Dk):d.now.length<=d.fs.length+d.q.length:=by
 have h:=AH d.fs d.q;have e:d.now.length=(bD d.fs d.q).length:=by
  rw[<-show bP (bD d.fs d.q)=d.now from Bq d.fs d.q];unfold bP;rw[P4,P7,P4]
 omega
theorem lY(d:Dk):tot d.now<=tot d.fs+aL d.q:=by
 have h1:tot d.now=tot (bD d.fs d.q):=oW d.fs d.q;have h2:=mT d.fs d.q;omega
theorem Sz.burn(h:Sz n d):Sz n d.burn:=by
 obtain⟨h1,h2,h3⟩:=h;unfold Dk.burn;split
 ·exact⟨h1,h2,by dsimp only;omega⟩
 ·exact⟨h1,h2,h3⟩
theorem Sz.mono{m:Nat}(h:Sz n d)(hm:n<=m):Sz m d:=⟨P2 h.l hm,P2 h.t hm,h.f⟩
theorem Sz.sync(h:Sz n d):Sz n d.syncS.1:=by
 unfold Dk.syncS;split
 ·exact h
 ·refine Sz.burn ⟨?_,?_,h.f⟩
  ·have:=fR d;have:=h.l;simp only[P5];omega
  ·have:=lY d;have:=h.t;show tot d.now+0<=n;omega
theorem Sz.doS(h:Sz n d)(o:Oq):Sz (n+1+o.b.length) (d.doS o).1:=by
 have hm:=h.mono (m:=n+1+o.b.length) (by omega);unfold Dk.doS;split
 ·exact hm
 ·split
  ·exact hm
  ·split
   ·exact hm
   ·split
    ·exact hm
    ·refine Sz.burn ⟨?_,?_,h.f⟩
     ·have:=h.l;show d.fs.length+(d.q++[o]).length<=_;simp;omega
     ·have:=h.t;show tot d.fs+aL (d.q++[o])<=_;rw[mG,eH];show _+(aL d.q+(o.b.length+0))<=_;omega
theorem Am{W:World}{b:Nat}{A B:Option Addr}{c e:Nat}(f:Blk W b 25 (ap A d.fs.length c B d.q.length e d.quota d.fuse d.dead))(hf:OwnF W base (I A d.fs.length c) d.fs)(i:OwnQ W base (I B d.q.length e) d.q):
  Blk (iC W b d.fuse) b 25 (ap A d.burn.fs.length c B d.burn.q.length e d.burn.quota d.burn.fuse d.burn.dead)/\OwnF (iC W b d.fuse) base (I A d.burn.fs.length c) d.burn.fs/\OwnQ (iC W b d.fuse) base (I B d.burn.q.length e) d.burn.q
   /\ (∀(a:Nat) (t:TypeId) (cs:Array Value),a≠b->Blk W a t cs->Blk (iC W b d.fuse) a t cs)/\(∀w,Ext w W->w.heap.size<=b->Ext w (iC W b d.fuse)):=by
 unfold iC Dk.burn;by_cases h:0<d.fuse
 ·rw[if_pos h,if_pos h];have g:Blk _ b 25 (ap A d.fs.length c B d.q.length e d.quota (d.fuse-1) d.dead):=f.set 3 (G H (d.fuse-1));have j:Blk _ b 25 (ap A d.fs.length c B d.q.length e d.quota (d.fuse-1) (d.fuse-1==0)):=g.set 4 (Z (d.fuse-1==0));refine⟨j,OwnF.setD (OwnF.setD hf (by decide) f aQ) (by decide) g aQ,OwnQ.setD (OwnQ.setD i (by decide) f aQ) (by decide) g aQ,λa t cs g a=>?_,λw j a=>?_⟩
  ·exact(a.other g 3 _).other g 4 _
  exact P0 (p:=⟨b,4,U⟩) (P0 (p:=⟨b,3,U⟩) j a _) a _
 ·rw[if_neg h,if_neg h];exact⟨f,hf,i,λ_ _ _ _ h=>h,λ_ h _=>h⟩
theorem rD(tmps:Array Value)(W:World)(b:Nat)(cs:Array Value)(e:Value)(h4:tmps.getD 2 undef=N (V ⟨b,0,U⟩))(h3:tmps.getD 3 undef=e)(hb:Blk W b 25 cs)(hs:cs.size=5):(results Tryz.f109 tmps).run L W=.ok (.tuple #[.agg cs,e]) W:=by
 have c:tmps[2]?.getD undef=N (V ⟨b,0,U⟩):=by simpa using h4
 have a:tmps[3]?.getD undef=e:=by simpa using h3
 have hl:=hb.load (P:=L) em rfl (by rw[hs];kernel_rfl);simp[results,results109,c,a,asAddr,hl,Sem.run_bind,Sem.run_pure,Result.andThen_ok]
theorem Mn(v:Value)(d:Dk)(n:Nat)(w:World)(hD:DkV w v d)(hn:n<=1000000)(hs:Sz n d):
  Calls L 109 #[v] w λe w'=>∃u,e=.returned (.tuple #[u,G H d.syncS.2])/\OwnD w' w.heap.size u d.syncS.1/\Ext w w':=by
 obtain⟨vf,vq,rfl,hF,hQ⟩:=hD;obtain⟨A,c,rfl,_,_⟩:=Fs.open_ hF;obtain⟨B,D,rfl,_,_⟩:=Qs.open_ hQ;have r:=O (show Ext w ((w.alloc (J #[I A d.fs.length c,I B d.q.length D,G H d.quota,G H d.fuse,Z d.dead] 25)).alloc (J #[I none 0 0,I none 0 0,G H 0,G H 0,Z false] 25))from xA (xA (xR _) _) _);have H0:=O (show Blk ((w.alloc (J #[I A d.fs.length c,I B d.q.length D,G H d.quota,G H d.fuse,Z d.dead] 25)).alloc (J #[I none 0 0,I none 0 0,G H 0,G H 0,Z false] 25)) w.heap.size 25 (ap A d.fs.length c B d.q.length D d.quota d.fuse d.dead)from(P1 w _ _).alloc _);have h1:Blk ((w.alloc (J #[I A d.fs.length c,I B d.q.length D,G H d.quota,G H d.fuse,Z d.dead] 25)).alloc (J #[I none 0 0,I none 0 0,G H 0,G H 0,Z false] 25)) (w.heap.size+1) 25 (ap none 0 0 none 0 0 0 0 false):=by
  have:=P1 (w.alloc (J #[I A d.fs.length c,I B d.q.length D,G H d.quota,G H d.fuse,Z d.dead] 25)) 25 #[I none 0 0,I none 0 0,G H 0,G H 0,Z false];rwa[xS]at this
 have H1:=O h1;have HC:=O (nz _ d n _ (show DkV _ _ d from⟨_,_,rfl,hF.ext r,hQ.ext r⟩) hn hs);obtain⟨N,P,g2,g3,g4⟩:=ae H0;have T:=O hs;obtain⟨S,D⟩:∃S,d.syncS=S:=⟨_,rfl⟩;rw[D];have R:=O D;go_enter func109,ntmps109
 go_wp2_with fail
 refine HC.mono ?_;rintro e Q⟨u,rfl,⟨h,l,b,g,rfl,of,oq⟩,D⟩;have H3:=H0.ext D;have H4:=H1.ext D;have HH:=O (xT r D);have i:OwnF Q w.heap.size (I h d.fs.length l) d.fs:=OwnX.base of.f r.size;have k:OwnQ Q w.heap.size (I b d.q.length g) d.q:=OwnX.base oq r.size;have HQ:Blk (aK Q w.heap.size (I h d.fs.length l) (I b d.q.length g) (G H d.quota) (G H d.fuse) (Z d.dead)) w.heap.size 25 (ap h d.fs.length l b d.q.length g d.quota d.fuse d.dead):=aT H3 _ _ _ _ _;have r:w.heap.size+1≠w.heap.size:=by omega
 have D:Blk (aK Q w.heap.size (I h d.fs.length l) (I b d.q.length g) (G H d.quota) (G H d.fuse) (Z d.dead)) (w.heap.size+1) 25 (ap none 0 0 none 0 0 0 0 false):=((((H4.other r 0 _).other r 1 _).other r 2 _).other r 3 _).other r 4 _;have Hq:=OwnF.box1 (A':=h) (n':=d.fs.length) (c':=l) (B':=b) (m':=d.q.length) (e':=g) (q':=d.quota) (f':=d.fuse) (d':=d.dead) i H3;have r:=OwnQ.box1 (A':=h) (n':=d.fs.length) (c':=l) (B':=b) (m':=d.q.length) (e':=g) (q':=d.quota) (f':=d.fuse) (d':=d.dead) k H3;have KL:=O (aS HH (xN _) (I h d.fs.length l) (I b d.q.length g) (G H d.quota) (G H d.fuse) (Z d.dead));have HC:=O (BS _ d n _ (show DkV _ _ d from⟨_,_,rfl,Hq.fs,r.qs⟩) hn T);have V:=O HQ;have s:=O D;have KH:=O Hq;have KJ:=O r;obtain⟨K,M,W,X,Y⟩:=aH H3;obtain⟨N,P,g2,g3,g4⟩:=ae H3;go_wp2_with fail
 refine HC.mono ?_;rintro e w2⟨rfl,r⟩;have H3:=V.ext r;have H4:=s.ext r;have i:OwnF w2 w.heap.size (I h d.fs.length l) d.fs:=OwnX.ext dz KH r;have k:OwnQ w2 w.heap.size (I b d.q.length g) d.q:=OwnX.ext dy KJ r;have E:=O (xT KL r);have HC:=O (sD _ d n _ (show DkV w2 (.agg #[I h d.fs.length l,I b d.q.length g,G H d.quota,G H d.fuse,Z d.dead]) d from⟨_,_,rfl,i.fs,k.qs⟩) hn T);obtain⟨N,P,g2,g3,g4⟩:=ae H3;rcases zQ d with hm | hm | hm
 ·have C:S=({ d with fs:=d.now,q:=[] }.burn,0):=by rw[<-R.out];unfold Dk.syncS;rw[if_neg (by simp[hm])]
  subst C;rw[hm];have V:=O H3;have s:=O H4;go_wp2_with fail
  refine HC.mono ?_;rintro e w3⟨m,o,rfl,r,h⟩;have H3:=V.ext h;have H4:=s.ext h;have l:OwnF w3 w.heap.size (I m d.now.length o) d.now:=OwnX.base r E.size;have r:=O (xT E h);have K:=H3.frozen 0;have h:Blk _ w.heap.size 25 (ap m d.now.length o b d.q.length g d.quota d.fuse d.dead):=H3.set 0 (I m d.now.length o);have M:=h.frozen 1;have g:Blk _ w.heap.size 25 (ap m d.now.length o none 0 0 d.quota d.fuse d.dead):=h.set 1 (I none 0 0);have b:=OwnF.setD (j:=1) (u:=I none 0 0) (OwnF.setD (j:=0) (u:=I m d.now.length o) l (by decide) H3 aQ) (by decide) h aQ;have K1:=O g;have KO:=O b;have b:=O (H4.other (show w.heap.size+1≠w.heap.size by omega) 0 (I m d.now.length o));have s:=O (b.other (show w.heap.size+1≠w.heap.size by omega) 1 (I none 0 0));have KN:=O (P0 (p:=⟨w.heap.size,1,U⟩) (P0 (p:=⟨w.heap.size,0,U⟩) r (xN _) (I m d.now.length o)) (xN _) (I none 0 0));obtain⟨N,P,_,_,_⟩:=ae H3;go_wp2_with fail
  refine(AV w.heap.size _ _ d.quota d.fuse d.dead _ K1 T.f).mono ?_;rintro e b⟨rfl,h⟩;obtain⟨H3,i,k,g,b⟩:=Am (d:={ d with fs:=d.now,q:=[] }) K1 KO (OwnX.nil _ _ _);rw[h]at H3 i k g b;have H4:=g _ _ _ (by omega) s;have g:=b _ KN (xN _);obtain⟨b,F⟩:∃x,({ d with fs:=d.now,q:=[] }:Dk).burn=x:=⟨_,rfl⟩;rw[F]at H3 i k;have b:=O F;obtain⟨N,P,g2,g3,g4⟩:=ae H3;obtain⟨K,M,W,X,Y⟩:=aH H4;have ea:=ae H4;have a:=O H4;have y:=O i;have z:=O k;have Q4:=O g;go_wp2_with fail
  refine bodyPost_ret (rD _ _ _ _ (G H 0) rfl rfl (aT a _ _ _ _ _) rfl) rfl ?_;have F:=b.out;subst F;exact⟨_,rfl,⟨_,_,_,_,rfl,OwnF.box1 y a,OwnQ.box1 z a⟩,aS Q4 (P3 _) _ _ _ _ _⟩
 ·have C:S=(d,2):=by rw[<-R.out];unfold Dk.syncS;rw[if_pos (by simp[hm]),hm]
  subst C;rw[hm];obtain⟨K,M,W,X,Y⟩:=aH H4;have ea:=ae H4;have a:=O H4;have y:=O i;have z:=O k;go_wp2_with fail
  refine bodyPost_ret (rD _ _ _ _ (G H 2) rfl rfl (aT a _ _ _ _ _) rfl) rfl ?_;exact⟨_,rfl,⟨_,_,_,_,rfl,OwnF.box1 y a,OwnQ.box1 z a⟩,aS E (P3 _) _ _ _ _ _⟩
 ·have C:S=(d,40):=by rw[<-R.out];unfold Dk.syncS;rw[if_pos (by simp[hm]),hm]
  subst C;rw[hm];obtain⟨K,M,W,X,Y⟩:=aH H4;have ea:=ae H4;have a:=O H4;have y:=O i;have z:=O k;go_wp2_with fail
  refine bodyPost_ret (rD _ _ _ _ (G H 40) rfl rfl (aT a _ _ _ _ _) rfl) rfl ?_;exact⟨_,rfl,⟨_,_,_,_,rfl,OwnF.box1 y a,OwnQ.box1 z a⟩,aS E (P3 _) _ _ _ _ _⟩
def RdH(fs:List Fil):Prop:=∀(v:Value) (pl bt bm:Nat) (w:World),StW w->Fs w v fs->w.cell? ⟨pl,0,U⟩=V v->Blk w bt 44 (bE eT (I none 0 0))->Blk w bm 30 (mfC mf0 (I none 0 0))->bt≠bm->Calls L 33 #[N (V ⟨pl,0,U⟩),N (V ⟨bt,0,U⟩),N (V ⟨bm,0,U⟩)] w (R1P (b9 fs) bt bm w)
theorem yar(v:Value)(fs:List Fil)(A c a:Nat)(w:World)(W:StW w)(Q:Fs w v fs)(S:RdH fs)(P:w.cell? ⟨A,0,U⟩=V v)(z:Blk w c 44 (bE eT (I none 0 0)))(y:Blk w a 30 (mfC mf0 (I none 0 0)))(Z:c≠a):
  Calls L 32 #[.func (.func 33) #[] #[N (V ⟨A,0,U⟩),N (V ⟨c,0,U⟩),N (V ⟨a,0,U⟩)]] w (sH (b9 fs) c a w):=by
 have Jw:∀(fn:Fn) (first cap:Array Value) (w:World),(Instr.makeFunc fn first cap).run L w=.ok (.func fn first cap) w:=λ_ _ _ _=>rfl;have g:Ext w (w.alloc (J #[G H 0] 45)):=xA (xR _) _;have he:=P1 w 45 #[G H 0];have key:=S v A c a _ (W.ext g) (Q.ext g) (g.cell P) (z.ext g) (y.ext g) Z;unfold sH;unfold R1P at key;have F:=zx fs;obtain⟨R,T⟩:∃R,b9 fs=R:=⟨_,rfl⟩;rw[T]at key F⊢;have j:=z.lt;have l:=y.lt;have HM:=O key;have k:=O g;have C:=O he;have K:=O (And.intro j l);clear key T W Q S z y P g he j l;go_enter_defers func32,ntmps32
 go_wp2_with fail
 refine HM.out.mono ?_;rintro e r q;by_cases m:R.err=0
 case neg=>
  rw[if_neg m]at q;obtain⟨rfl,B⟩:=q;have x:=C.out.ext B;refine leaves_cons (f:=77) (args:=#[N (V ⟨w.heap.size,0,U⟩)]) (by simp) (by simp[go_sem]) ?_;refine(zz ⟨w.heap.size,0,U⟩ _ R.err [] _ (x.cell 0 rfl) (x.frozen 0)).mono ?_;rintro e u' w2⟨rfl,rfl,rfl⟩;have hs:=x.set 0 (G H R.err);have hc:=hs.cell 0 rfl;simp[Leaves,settle,results,results32,go_sem,hc];rw[if_neg m];exact P0 (p:=⟨w.heap.size,0,U⟩) (xT k B) (xN _) _
 case pos=>
  rw[if_pos m]at q;obtain⟨rfl,⟨vl,vs,j,l,J7,E⟩,D,Hx⟩:=q;obtain⟨X,Y⟩:=K.out;have o:=Hx _ _ _ (by omega) (by omega) C;have f0:=o.frozen 0;have g0:=o.cell 0 rfl;have s:=O o;have Jk:=O D;have Kh:=O Hx;have Jg:=O j;have Je:=O l;have KI:=O J7;have M:=O E;have HZ:=O m;clear o D Hx j l J7 E m F X Y;go_wp2_with fail
  refine leaves_cons (f:=77) (args:=#[N (V ⟨w.heap.size,0,U⟩)]) (by simp) (by simp[go_sem]) ?_;refine(zt ⟨w.heap.size,0,U⟩ _).mono ?_;rintro e u' w4⟨rfl,rfl,rfl⟩;have hs:=s.out.set 0 (G H 0);have hc:(r.setCell ⟨w.heap.size,0,U⟩ (G H 0)).cell? ⟨w.heap.size,0,U⟩=V (G H 0):=hs.cell 0 rfl;obtain⟨X,Y⟩:=K.out;have b1:=Jg.out.other (show c≠w.heap.size by omega) 0 (G H 0);have b2:=Je.out.other (show a≠w.heap.size by omega) 0 (G H 0);have o1:OwnE _ _ _ _:=ay (KI.out.kept (ar _ w.heap.size 0 (G H 0)) (.inr (s.out.not_row (by decide) KI).symm)) k.out.size;have o2:OwnS _ _ _ _:=ay (M.out.kept (ar _ w.heap.size 0 (G H 0)) (.inr (s.out.not_row (by decide) M).symm)) k.out.size;have g1:∀i,Ext i w->i.heap.size<=c->i.heap.size<=a->Ext i (r.setCell ⟨w.heap.size,0,U⟩ (G H 0)):=λi h h1 h2=>P0 (p:=⟨w.heap.size,0,U⟩) (Jk.out i (xT h k) h1 h2) h.size _;have k1:∀b t cs,b≠c->b≠a->Blk w b t cs->Blk (r.setCell ⟨w.heap.size,0,U⟩ (G H 0)) b t cs:=λb t cs h1 h2 h3=>(Kh.out b t cs h1 h2 (h3.ext k)).other (by have:=h3.lt;omega) 0 _;generalize r.setCell ⟨w.heap.size,0,U⟩ (G H 0)=w5 at *;simp[Leaves,settle,results,results32,go_sem,hc];exact⟨⟨vl,vs,b1,b2,o1,o2⟩,g1,k1⟩
theorem ybw(v:Value)(fs:List Fil)(w:World)(o:StW w)(l:Fs w v fs)(m:RdH fs){z1 z2:Array Value}(i:z1=bE eT (I none 0 0))(j:z2=mfC mf0 (I none 0 0)):
  Calls L 32 #[.func (.func 33) #[] #[N (V ⟨w.heap.size,0,U⟩),N (V ⟨w.heap.size+1,0,U⟩),N (V ⟨w.heap.size+1+1,0,U⟩)]] (((w.alloc (J #[v] 22)).alloc (J z1 44)).alloc (J z2 30)) (RdW w (b9 fs)):=by
 subst i j;have a:Ext w (((w.alloc (J #[v] 22)).alloc (J (bE eT (I none 0 0)) 44)).alloc (J (mfC mf0 (I none 0 0)) 30)):=xA (xA (xA (xR _) _) _) _;have i:=((P1 w 22 #[v]).alloc (J (bE eT (I none 0 0)) 44)).alloc (J (mfC mf0 (I none 0 0)) 30);have c:=(P1 (w.alloc (J #[v] 22)) 44 (bE eT (I none 0 0))).alloc (J (mfC mf0 (I none 0 0)) 30);have f:=P1 ((w.alloc (J #[v] 22)).alloc (J (bE eT (I none 0 0)) 44)) 30 (mfC mf0 (I none 0 0));rw[xS]at c;rw[xS,xS]at f;have j:w.heap.size+1+1+1=(((w.alloc (J #[v] 22)).alloc (J (bE eT (I none 0 0)) 44)).alloc (J (mfC mf0 (I none 0 0)) 30)).heap.size:=by rw[xS,xS,xS]
 refine(yar v fs w.heap.size (w.heap.size+1) (w.heap.size+1+1) _ (o.ext a) (l.ext a) m (i.cell 0 rfl) c f (by omega)).mono ?_;generalize(((w.alloc (J #[v] 22)).alloc (J (bE eT (I none 0 0)) 44)).alloc (J (mfC mf0 (I none 0 0)) 30))=w3 at *;rintro e W h;unfold sH at h;rcases zx fs with b | ⟨k,b,g⟩
 ·rw[if_pos b]at h;obtain⟨rfl,⟨i,j,h1,h2,h3,h4⟩,hg,_⟩:=h;exact⟨by rw[b],i,j,h1,h2,ay h3 (by omega),ay h4 (by omega),hg w a (by omega) (by omega)⟩
 ·rw[b]at h⊢;rw[if_neg (show ¬(bL k).err=0 from g)]at h;obtain⟨rfl,b⟩:=h;exact⟨rfl,I none 0 0,I none 0 0,c.ext b,f.ext b,Pc _ _ _ _,Pc _ _ _ _,xT a b⟩
theorem yac(v:Value)(fs:List Fil)(w:World)(hS:StW w)(hF:Fs w v fs)(hH:RdH fs):Calls L 9 #[v] w (zxU w (b9 fs)):=by
 have Jw:∀(fn:Fn) (first cap:Array Value) (w:World),(Instr.makeFunc fn first cap).run L w=.ok (.func fn first cap) w:=λ_ _ _ _=>rfl;obtain⟨A,c,rfl,_,_⟩:=Fs.open_ hF;have key:=ybw (I A fs.length c) fs w hS hF hH (z1:=#[G H 0,G H 0,G H 0,G H 0,Z false,I none 0 0,G H 0,G H 0]) (z2:=#[G H 0,G H 0,G H 0,G H 0,G H 0,I none 0 0]) rfl rfl;obtain⟨R,hR⟩:∃R,b9 fs=R:=⟨_,rfl⟩;rw[hR]at key⊢;have HM:=O key;clear key hS hF hH hR;go_enter func9,ntmps9
 go_wp2_with fail
 refine HM.mono ?_;obtain⟨er,t,m⟩:=R;rintro e N⟨rfl,vl,vs,hb,hc,P,Q,hE⟩;dsimp only at hb hc P Q⊢;obtain⟨f,g,rfl,_,_⟩:=xO (OwnE.es P);obtain⟨a,cs,rfl,_,_⟩:=Sgs.open_ (OwnS.sgs Q);obtain⟨i,J4⟩:∃n,t.log.length=n:=⟨_,rfl⟩;obtain⟨b,J5⟩:∃n,m.segs.length=n:=⟨_,rfl⟩;rw[J4]at hb P;rw[J5]at hc Q;have F:=O (show Blk N (w.heap.size+1) 44 #[G H t.s.idx,G H t.s.term,G H t.s.sum,G H t.s.lvl,Z t.s.fin,I f i g,G H t.term,G H t.vote]from hb);have HC:=O (show Blk N (w.heap.size+1+1) 30 #[G H m.next,G H m.term,G H m.vote,G H m.sq,G H m.sf,I a b cs]from hc);have Kk:=O P;have Km:=O Q;have HE:=O hE;clear hb hc P Q hE J4 J5;obtain⟨j,k,l,o,p,q,r,x⟩:=aU F;obtain⟨y,z,B,C,D,E⟩:=aj HC;go_wp2_with fail
 refine wp_region_held_drew (S:=λW=>W.cell? ⟨w.heap.size+1,0,U⟩=V (G H t.s.idx)/\W.cell? ⟨w.heap.size+1,1,U⟩=V (G H t.s.term)/\W.cell? ⟨w.heap.size+1,2,U⟩=V (G H t.s.sum)/\W.cell? ⟨w.heap.size+1,3,U⟩=V (G H t.s.lvl)/\W.cell? ⟨w.heap.size+1,4,U⟩=V (Z t.s.fin)/\W.cell? ⟨w.heap.size+1,5,U⟩=V (I f i g)/\W.cell? ⟨w.heap.size+1,6,U⟩=V (G H t.term)/\W.cell? ⟨w.heap.size+1,7,U⟩=V (G H t.vote)/\W.cell? ⟨w.heap.size+1+1,0,U⟩=V (G H m.next)/\W.cell? ⟨w.heap.size+1+1,1,U⟩=V (G H m.term)/\W.cell? ⟨w.heap.size+1+1,2,U⟩=V (G H m.vote)/\W.cell? ⟨w.heap.size+1+1,3,U⟩=V (G H m.sq)/\W.cell? ⟨w.heap.size+1+1,4,U⟩=V (G H m.sf)/\W.cell? ⟨w.heap.size+1+1,5,U⟩=V (I a b cs)) (by kernel_rfl) ⟨j,k,l,o,p,q,r,x,y,z,B,C,D,E⟩ (λ_=>?_);clear j k l o p q r x y z B C D E;refine ab 0 ?_;refine ab 1 ?_;refine ab 2 ?_;obtain⟨T,X,Y,f3,f4,f5,f6,f7⟩:=cS F;obtain⟨g0,g1,g2,g3,g4,g5,g6,g7⟩:=aU F;refine ah 3 (λK hK=>?_);go_simp;show K _ (Pb (aY N (w.heap.size+1) (G H t.s.idx) (G H t.s.term) (G H t.s.sum) (G H t.s.lvl) (Z t.s.fin) (I f i g) (G H t.term) (G H t.vote)));have M:Ext (aY N (w.heap.size+1) (G H t.s.idx) (G H t.s.term) (G H t.s.sum) (G H t.s.lvl) (Z t.s.fin) (I f i g) (G H t.term) (G H t.vote)) (Pb (aY N (w.heap.size+1) (G H t.s.idx) (G H t.s.term) (G H t.s.sum) (G H t.s.lvl) (Z t.s.fin) (I f i g) (G H t.term) (G H t.vote))):=xD (xR _);have KE:=O ((fO F (G H t.s.idx) (G H t.s.term) (G H t.s.sum) (G H t.s.lvl) (Z t.s.fin) (I f i g) (G H t.term) (G H t.vote)).ext M);have J:=O ((dB HC (by omega:w.heap.size+1+1≠w.heap.size+1) (G H t.s.idx) (G H t.s.term) (G H t.s.sum) (G H t.s.lvl) (Z t.s.fin) (I f i g) (G H t.term) (G H t.vote)).ext M);have Kl:=O (OwnE.ext (dQ F Kk (G H t.s.idx) (G H t.s.term) (G H t.s.sum) (G H t.s.lvl) (Z t.s.fin) (I f i g) (G H t.term) (G H t.vote)) M);have Kn:=O (ai (dQ F Km (G H t.s.idx) (G H t.s.term) (G H t.s.sum) (G H t.s.lvl) (Z t.s.fin) (I f i g) (G H t.term) (G H t.vote)) M);have Ji:=O (xT (iS HE (by omega:w.heap.size<=w.heap.size+1) (G H t.s.idx) (G H t.s.term) (G H t.s.sum) (G H t.s.lvl) (Z t.s.fin) (I f i g) (G H t.term) (G H t.vote)) M);clear M T X Y f3 f4 f5 f6 f7 g0 g1 g2 g3 g4 g5 g6 g7;generalize(Pb (aY N (w.heap.size+1) (G H t.s.idx) (G H t.s.term) (G H t.s.sum) (G H t.s.lvl) (Z t.s.fin) (I f i g) (G H t.term) (G H t.vote)))=w9 at *;obtain⟨j,k,l,o,p,q,r,x⟩:=aU KE;obtain⟨y,z,B,C,D,E⟩:=aj J;refine af hK _ _ ⟨j,k,l,o,p,q,r,x,y,z,B,C,D,E⟩ (λ_=>?_);clear j k l o p q r x y z B C D E;obtain⟨T,X,Y,f3,f4,f5⟩:=eN J;obtain⟨g0,g1,g2,g3,g4,g5⟩:=aj J;refine ah 4 (λK hK=>?_);go_simp;show K _ (aO w9 (w.heap.size+1+1) (G H m.next) (G H m.term) (G H m.vote) (G H m.sq) (G H m.sf) (I a b cs));have HD:=O (dA KE (by omega:w.heap.size+1≠w.heap.size+1+1) (G H m.next) (G H m.term) (G H m.vote) (G H m.sq) (G H m.sf) (I a b cs));have HG:Hid (Blk (aO w9 (w.heap.size+1+1) (G H m.next) (G H m.term) (G H m.vote) (G H m.sq) (G H m.sf) (I a b cs)) (w.heap.size+1+1) 30 #[G H m.next,G H m.term,G H m.vote,G H m.sq,G H m.sf,I a b cs]):=O (cQ J (G H m.next) (G H m.term) (G H m.vote) (G H m.sq) (G H m.sf) (I a b cs));have HI:Hid (OwnE (aO w9 (w.heap.size+1+1) (G H m.next) (G H m.term) (G H m.vote) (G H m.sq) (G H m.sf) (I a b cs)) _ _ t.log):=O (cU J Kl (G H m.next) (G H m.term) (G H m.vote) (G H m.sq) (G H m.sf) (I a b cs));have HJ:Hid (OwnS (aO w9 (w.heap.size+1+1) (G H m.next) (G H m.term) (G H m.vote) (G H m.sq) (G H m.sf) (I a b cs)) _ _ m.segs):=O (cU J Kn (G H m.next) (G H m.term) (G H m.vote) (G H m.sq) (G H m.sf) (I a b cs));have Ki:Hid (Ext w (aO w9 (w.heap.size+1+1) (G H m.next) (G H m.term) (G H m.vote) (G H m.sq) (G H m.sf) (I a b cs))):=O (dD Ji (by omega:w.heap.size<=w.heap.size+1+1) (G H m.next) (G H m.term) (G H m.vote) (G H m.sq) (G H m.sf) (I a b cs));clear T X Y f3 f4 f5 g0 g1 g2 g3 g4 g5;generalize aO w9 (w.heap.size+1+1) (G H m.next) (G H m.term) (G H m.vote) (G H m.sq) (G H m.sf) (I a b cs)=w10 at *;obtain⟨j,k,l,o,p,q,r,x⟩:=aU HD;obtain⟨y,z,B,C,D,E⟩:=aj HG;refine af hK _ _ ⟨j,k,l,o,p,q,r,x,y,z,B,C,D,E⟩ (λ_=>?_);clear j k l o p q r x y z B C D E;refine ab 5 ?_;refine aq ?_;go_wp2_with fail
 refine bodyPost_ret (MH _ _ (w.heap.size+1) (w.heap.size+1+1) _ _ _ rfl rfl rfl HD HG rfl rfl) rfl ?_;exact⟨_,_,rfl,HI.out,HJ.out,Ki.out⟩
theorem zzt(tmps:Array Value)(W:World)(b c:Nat)(cs a:Array Value)(u:Value)(h2:tmps.getD 2 undef=N (V ⟨b,0,U⟩))(h3:tmps.getD 3 undef=N (V ⟨c,0,U⟩))(h4:tmps.getD 4 undef=u)(hb:Blk W b 44 cs)(hc:Blk W c 30 a)(hs:cs.size=8)(e:a.size=6):(results Tryz.f13 tmps).run L W=.ok (.tuple #[.agg cs,.agg a,u]) W:=by
 have hl:=hb.load (P:=L) oG rfl (by rw[hs];kernel_rfl);have hm:=hc.load (P:=L) lP rfl (by rw[e];kernel_rfl);have f:tmps[2]?.getD undef=N (V ⟨b,0,U⟩):=by simpa using h2
 have a:tmps[3]?.getD undef=N (V ⟨c,0,U⟩):=by simpa using h3
 have e:tmps[4]?.getD undef=u:=by simpa using h4
 simp[results,results13,f,a,e,asAddr,hl,hm]
theorem yax(v:Value)(d:Dk)(n:Nat)(w:World)(X:StW w)(hD:DkV w v d)(hn:n<=100000)(hs:Sz n d)(hH:RdH d.now):Calls L 13 #[v] w (zxU w (b9 d.now)):=by
 obtain⟨R,F⟩:∃R,b9 d.now=R:=⟨_,rfl⟩;rw[F];have HR:=O F;clear F;obtain⟨vf,vq,rfl,E,p⟩:=hD;obtain⟨A,c,rfl,_,_⟩:=Fs.open_ E;obtain⟨xs,Kx,N⟩:=p;obtain⟨B,e,rfl,_,_⟩:=xO Kx;have p:Qs w (I B d.q.length e) d.q:=⟨xs,Kx,N⟩;clear Kx N;obtain⟨z1,Hl⟩:∃x:Array Value,#[G H 0,G H 0,G H 0,G H 0,Z false,I none 0 0,G H 0,G H 0]=x:=⟨_,rfl⟩;obtain⟨z2,Hm⟩:∃x:Array Value,#[G H 0,G H 0,G H 0,G H 0,G H 0,I none 0 0]=x:=⟨_,rfl⟩;obtain⟨g,M⟩:∃x:Array Value,#[I A d.fs.length c,I B d.q.length e,G H d.quota,G H d.fuse,Z d.dead]=x:=⟨_,rfl⟩;have i:Ext w (((w.alloc (J g 25)).alloc (J z1 44)).alloc (J z2 30)):=xA (xA (xA (xR _) _) _) _;have V:=((P1 w 25 g).alloc (J z1 44)).alloc (J z2 30);have C:=(P1 (w.alloc (J g 25)) 44 z1).alloc (J z2 30);have D:=P1 ((w.alloc (J g 25)).alloc (J z1 44)) 30 z2;rw[xS]at C;rw[xS,xS]at D;have S:DkV (((w.alloc (J g 25)).alloc (J z1 44)).alloc (J z2 30)) (.agg g) d:=by
  subst M;exact⟨_,_,rfl,E.ext i,p.ext i⟩
 have key:=sD _ d n _ S (by omega) hs;have U:=X.ext i;subst M Hl Hm;have ec:=ae V;have HM:=O key;have HX:=O i;have HS:=O U;have Hc:=O C;have Hd:=O D;clear key i U V C D S E p X hs hn;go_enter func13,ntmps13
 go_wp2_with fail
 refine HM.mono ?_;rintro e1 Y⟨A1,c1,rfl,T,h⟩;have y:=yac _ d.now Y (HS.ext h) (OwnF.fs T) hH;rw[HR.out]at y;have Ko:=O y;have K:=O (xT HX h);have Kf:=O (Hc.ext h);have Kg:=O (Hd.ext h);clear y h T ec;go_wp2_with fail
 refine Ko.mono ?_;obtain⟨er,t,m⟩:=R;rintro e2 w2⟨vl,vs,rfl,l,o,k⟩;dsimp only at l o⊢;obtain⟨a,f,rfl,_,_⟩:=xO (OwnE.es l);obtain⟨b,cs,rfl,_,_⟩:=Sgs.open_ (OwnS.sgs o);have H3:=Kf.ext k;have H4:=Kg.ext k;have Q:w.heap.size<=Y.heap.size:=K.size;have W:=xT K k;have j:=dB H4 (by omega:w.heap.size+1+1≠w.heap.size+1) (G H t.s.idx) (G H t.s.term) (G H t.s.sum) (G H t.s.lvl) (Z t.s.fin) (I a t.log.length f) (G H t.term) (G H t.vote);have ea:=aU H3;have eb:=cS H3;obtain⟨i0,i1,i2,i3,i4,i5⟩:=aj j;obtain⟨j0,j1,j2,j3,j4,j5⟩:=eN j;have r:=O H3;have H2:=O H4;have z:=O j;have Kk:=O l;have Km:=O o;have Jj:=O W;have P:=O Q;clear H3 H4 j l o W k Q;unfold aY at i0 i1 i2 i3 i4 i5 j0 j1 j2 j3 j4 j5;go_wp2_with fail;have HA:=O (dA (fO r (G H t.s.idx) (G H t.s.term) (G H t.s.sum) (G H t.s.lvl) (Z t.s.fin) (I a t.log.length f) (G H t.term) (G H t.vote)) (by omega:w.heap.size+1≠w.heap.size+1+1) (G H m.next) (G H m.term) (G H m.vote) (G H m.sq) (G H m.sf) (I b m.segs.length cs));have HF:=O (cQ z (G H m.next) (G H m.term) (G H m.vote) (G H m.sq) (G H m.sf) (I b m.segs.length cs));refine bodyPost_ret (zzt _ _ (w.heap.size+1) (w.heap.size+1+1) _ _ _ rfl rfl rfl HA HF rfl rfl) rfl ?_;have Jx:=cU z (dQ r Kk (G H t.s.idx) (G H t.s.term) (G H t.s.sum) (G H t.s.lvl) (Z t.s.fin) (I a t.log.length f) (G H t.term) (G H t.vote)) (G H m.next) (G H m.term) (G H m.vote) (G H m.sq) (G H m.sf) (I b m.segs.length cs);have Kv:=cU z (dQ r Km (G H t.s.idx) (G H t.s.term) (G H t.s.sum) (G H t.s.lvl) (Z t.s.fin) (I a t.log.length f) (G H t.term) (G H t.vote)) (G H m.next) (G H m.term) (G H m.vote) (G H m.sq) (G H m.sf) (I b m.segs.length cs);have Hz:=dD (iS Jj (by omega:w.heap.size<=w.heap.size+1) (G H t.s.idx) (G H t.s.term) (G H t.s.sum) (G H t.s.lvl) (Z t.s.fin) (I a t.log.length f) (G H t.term) (G H t.vote)) (by omega:w.heap.size<=w.heap.size+1+1) (G H m.next) (G H m.term) (G H m.vote) (G H m.sq) (G H m.sf) (I b m.segs.length cs);exact⟨I a t.log.length f,I b m.segs.length cs,rfl,ay Jx P,ay Kv P,Hz⟩
