/- Merged -/
import Derived.Test.YteggfecbjgbndaaGreatDoorZy13
import Derived.Test.YteggfecbjgbndaaGreatDoorZy23
set_option linter.all false
set_option maxHeartbeats 8000000
set_option maxRecDepth 100000
open Go.Proofs.Tryz
open List renaming length->X
open Go.Value renaming slice->C,int->D,string->J,bool->R,pointer->U,agg->V
open Option renaming none->F,some->H
open Go.Proofs.Tryz renaming prog->I
open Go.IntKind renaming i64->L,u8->O
open Go.Mv renaming aN->M
open Go.Obj renaming cells->N
open Go.RowKit.Below renaming setCell->P0
open Option.some renaming inj->P1
open List renaming getElem?_eq_getElem->P2,take_succ_eq_append_getElem->P3,length_nil->P4,take_length->P5,not_mem_nil->P6,length_take->P7,getElem_mem->P8,mem_append->P9,length_map->Pa,mem_cons->Pb
open Go.World renaming block_lt_of_cell?->Pc,cell?_of_block->Pd,cell?->Pe
open Go.Mv.Blk renaming new->Pf
open Nat renaming zero_add->Pg,add_assoc->Ph,mul_le_mul_right->Pi,le_succ->Pj,le_trans->Pk,zero_le->Pl,add_mul->Pm
open Go.Value renaming slice->Pn
namespace Go.Proofs.YteggfecbjgbndaaGreatDoor
open Go.RowKit Go.Mv
variable {cs:Array Value} {d':Bool} {f' q q':Int} {l:List Fil} {xs:List Value} {b c c' e e' g j k m m' n n' size sz:Nat} {G:Nat->Prop} {A A' B B':Option Addr} {t:TypeId} {a u v x y:Value} {W W' w:World}
def bF(g:Nat)(u:Value):Prop:=∀b H3 n c,0<n->u=C (H ⟨b,H3,F⟩) n c->b≠g
theorem da(g:Nat)(l:List UInt8):bF g (sv l):=λ_ _ _ _ _ h=>by cases h
theorem iP(g:Nat)(k:IntKind)(n:Int):bF g (.int k n):=λ_ _ _ _ _ h=>by cases h
theorem Bs.away{b:List UInt8}(h:Bs W u b)(f:bF g u)(i:∀p x,W.cell? p=H x->p.block≠g->W'.cell? p=H x):Bs W' u b:=by
 obtain⟨hl,A,c,rfl,h1,h2,h3⟩:=h;refine⟨hl,A,c,rfl,h1,h2,λhn=>?_⟩;obtain⟨d,H3,rfl,hc⟩:=h3 hn;exact⟨d,H3,rfl,λj x hx=>i _ _ (hc j x hx) (f d H3 _ _ hn rfl)⟩
theorem Bs.fresh{b:List UInt8}(h:Bs W u b)(hg:W.heap.size<=g):bF g u:=by
 intro f H3 n c hn d;obtain⟨hl,A,c',rfl,h1,h2,h3⟩:=h;cases d;obtain⟨b2,d,e,hc⟩:=h3 hn;cases e;have hb:0<X (b.map bv):=by rw[Pa];exact hn
 have:=Pc _ _ (hc 0 _ (P2 hb));simp at this;omega
theorem OwnB.away{base:Nat}{b:List UInt8}(h:OwnB W base u b)(hg:g<base):bF g u:=by
 intro f H3 n c _ d;subst d;rcases h.2 with⟨hn,_⟩|⟨d,d,d,e,hb,_⟩
 ·cases hn
 ·cases e;omega
def RowOf{α:Type}(sz:Nat)(E:World->(Nat->Option Value)->α->Prop)(W:World)(xs:List Value)(l:List α):Prop:=
 X xs=X l*sz/\∀(k:Nat) (hk:k<X l),E W (λi=>if i<sz then xs[k*sz+i]? else none) l[k]
theorem RowOf.nil{α:Type}{E:World->(Nat->Option Value)->α->Prop}:RowOf sz E W [] []:=⟨by simp,λk d=>by simp at d⟩
theorem RowOf.append{α:Type}{E:World->(Nat->Option Value)->α->Prop}{d:List Value}{l m:List α}(h1:RowOf sz E W xs l)(h2:RowOf sz E W d m):RowOf sz E W (xs++d) (l++m):=by
 refine⟨by rw[xL,xL,h1.1,h2.1,Pm],λk o=>?_⟩;rw[xL]at o;have hl:=h1.1;by_cases h:k<X l
 ·have:=h1.2 k h;rw[List.getElem_append_left h];have e:(λi=>if i<sz then(xs++d)[k*sz+i]? else none)=λi=>if i<sz then xs[k*sz+i]? else none:=by
   funext i
   split
   ·rename_i p;have:k*sz+i<X xs:=by
     rw[hl]
     calc k*sz+i<k*sz+sz:=by omega
      _=(k+1)*sz:=by rw[Pm,Nat.one_mul]
      _<=X l*sz:=Pi _ h
    rw[List.getElem?_append_left this]
   rfl
  rw[e];exact this
 ·have f:X l<=k:=by omega
  have:=h2.2 (k-X l) (by omega);rw[List.getElem_append_right f];have e:(λi=>if i<sz then(xs++d)[k*sz+i]? else none)=λi=>if i<sz then d[(k-X l)*sz+i]? else none:=by
   funext i
   split
   ·have h2:X l*sz<=k*sz:=Pi _ f;rw[List.getElem?_append_right (by rw[hl];omega),hl,Nat.sub_mul];congr 1
    omega
   rfl
  rw[e];exact this
structure zec {α:Type} (sz:Nat) (E:World->(Nat->Option Value)->α->Prop):Prop where
 keep:∀ {W W':World} {g:Nat} {c:Nat->Option Value} {p:α},E W c p->(∀ i u,c i=H u->bF g u)->(∀ p x,W.cell? p=H x->p.block≠g->W'.cell? p=H x)->E W' c p
 fresh:∀ {W:World} {c:Nat->Option Value} {p:α},E W c p->∀ i u,i<sz->c i=H u->bF W.heap.size u
 one:∀ {W:World} {c:Nat->Option Value} {p:α},E W c p->∀ i u,i<sz->c i=H u->u.oneCell'=true
section
variable {α:Type} {sz:Nat} {E:World->(Nat->Option Value)->α->Prop}
theorem oM{l:List α}(hl:X xs=X l*sz)(f:u∈xs):∃(k i:Nat),k<X l/\i<sz/\xs[k*sz+i]?=H u:=by
 obtain⟨j,d,rfl⟩:=List.mem_iff_getElem.1 f;have hs:0<sz:=by
  rcases Nat.eq_zero_or_pos sz with h | h
  ·rw[h,Nat.mul_zero]at hl;omega
  exact h
 refine⟨j / sz,j % sz,?_,Nat.mod_lt _ hs,?_⟩
 ·rw[Nat.div_lt_iff_lt_mul hs];omega
 ·rw[Nat.div_add_mod' j sz,P2 d]
theorem RowOf.keep(o:zec sz E){l:List α}(h:RowOf sz E W xs l)(r:∀u∈xs,bF g u)(s:∀p x,W.cell? p=H x->p.block≠g->W'.cell? p=H x):RowOf sz E W' xs l:=by
 refine⟨h.1,λk f=>o.keep (h.2 k f) (λi u d=>?_) s⟩;split at d
 ·exact r u (List.mem_of_getElem? d)
 ·cases d
theorem RowOf.fresh(f:zec sz E){l:List α}(h:RowOf sz E W xs l):∀u∈xs,bF W.heap.size u:=by
 intro u p;obtain⟨k,i,o,d,hx⟩:=oM h.1 p;exact f.fresh (h.2 k o) i u d (by rw[if_pos d];exact hx)
theorem RowOf.one(f:zec sz E){l:List α}(h:RowOf sz E W xs l):∀u∈xs,u.oneCell'=true:=by
 intro u p;obtain⟨k,i,o,d,hx⟩:=oM h.1 p;exact f.one (h.2 k o) i u d (by rw[if_pos d];exact hx)
theorem RowOf.ext(d:zec sz E){l:List α}(h:RowOf sz E W xs l)(f:Ext W W'):RowOf sz E W' xs l:=
 h.keep d (h.fresh d) λ_ _ hc _=>f.cell hc
def OwnX(sz:Nat)(E:World->(Nat->Option Value)->α->Prop)(t:TypeId)(w:World)(base:Nat)(v:Value)(l:List α):Prop:=
 ∃xs,w.ownsRow base t sz v l.length xs/\RowOf sz E w xs l/\∀g,v.ownBlock=H g->∀u∈xs,bF g u
theorem OwnX.nil(t:TypeId)(w:World)(base:Nat):OwnX sz E t w base (C none 0 0) []:=⟨[],⟨by simp,.inl ⟨rfl,rfl⟩⟩,RowOf.nil,λg h=>by cases h⟩
theorem OwnX.ext(f:zec sz E){w':World}{base:Nat}{l:List α}(h:OwnX sz E t w base v l)(d:Ext w w'):OwnX sz E t w' base v l:=by
 obtain⟨xs,h1,h2,h3⟩:=h;exact⟨xs,ai h1 d,h2.ext f d,h3⟩
theorem OwnX.base{base base':Nat}{l:List α}(h:OwnX sz E t w base v l)(hb:base'<=base):OwnX sz E t w base' v l:=by
 obtain⟨xs,h1,h2,h3⟩:=h;exact⟨xs,ay h1 hb,h2,h3⟩
theorem OwnX.open_{base:Nat}{l:List α}(h:OwnX sz E t w base v l):∃A c,v=C A l.length c:=by
 obtain⟨xs,h1,_⟩:=h;obtain⟨A,c,rfl,_,_⟩:=xO (xW h1);exact⟨A,c,rfl⟩
theorem me(f:zec sz E){D:Array Oper}{rest:List Oper}{o:Oper}{a:Act}{Q:Exit->Act->World->Prop}(Km:o.guard=none)(s x:Operand)(T:TypeId)(ho:o.op=.call { callee:=.builtin .append,args:=#[s,x],argTypes:=#[T,T] })(t:TypeId)(i:TypeInfo)(z:Value)(bytes:Nat)(Z:Tryz.prog.underlying T=H (.slice t))(hi:Tryz.prog.info? t=H i)(O:i.zero=H z)(Hl:i.size=sz)(R:i.bytes=bytes)(Kt:z.cells.size=sz)(Ks:0<sz)(Kj:bytes<=1000)(base:Nat)(v:Value)(l:List α)(hs:a.eval s=v)(K2:OwnX sz E t w base v l)(vx:Value)(m:List α)(r:List Value)(hx:a.eval x=vx)(hr:SlR w sz vx m.length r)(J:RowOf sz E w r m)(M:0<X m)(U:∀g,v.ownBlock=H g->∀u∈r,bF g u)(z:X l+X m<=4000000)(Ht:base<=w.heap.size)(h:∀A c w',OwnX sz E t w' base (C A (X l+X m) c) (l++m)->eP base w w'->w.grownBy w' v.ownBlock->wpList I D Q rest (a.put o.dst (C A (X l+X m) c)) w'):wpList I D Q (o::rest) a w:=by
 obtain⟨xs,h1,h2,h3⟩:=K2;have V:(X l+X m)*bytes<=140737488355328:=Pk (Nat.mul_le_mul z Kj) (by decide);obtain⟨z,w',S,Y,L⟩:=ep (P:=I) w base T o.type t i _ sz bytes Z hi O Hl R Kt Ks v l.length xs h1 vx m.length r hr (J.one f) (by unfold maxLen;omega) V Ht;have HZ:z.ownBlock=v.ownBlock\/z.ownBlock=H w.heap.size:=by
  obtain⟨hl,A,c,rfl,_,_,hc⟩:=hr;obtain⟨b,H3,rfl,D⟩:=hc M;have z:∀j,(⟨b,H3,F⟩:Addr).add j=⟨b,H3+j,F⟩:=by intro j;unfold Addr.add;split<;>simp_all
  exact mn (P:=I) w base T o.type t i _ sz bytes Z hi O Hl R v l.length xs h1 ⟨b,H3,F⟩ m.length c r hl M (λj u d=>by rw[z];exact D j u d) (J.one f) (by unfold maxLen;omega) V S
 have N:∀ {i:List Value} {k:List α},RowOf sz E w i k->(∀g,v.ownBlock=H g->∀u∈i,bF g u)->RowOf sz E w' i k:=by
  intro i k K3 Ki;cases hg:v.ownBlock with
  |none=>
   refine K3.keep f (K3.fresh f) λp y hc _=>?_;exact(Pd (L.block _ (Pc _ _ hc) (by rw[hg];simp))).trans hc
  |some g=>
   refine K3.keep f (Ki g hg) λp y hc i=>?_;exact(Pd (L.block _ (Pc _ _ hc) (by rw[hg];simpa using i))).trans hc
 refine wpList_plain Km λK i=>?_;unfold Oper.wp execOp;simp only[ho,resolve,invoke,builtin,Sem.run_bind,Sem.run_pure,Result.andThen_ok,List.map_toArray,List.map_cons,List.map_nil,hs,hx,S];refine i _ _ ?_;obtain⟨A,c,rfl,_,_⟩:=xO (xW Y);refine h A c w' ⟨xs++r,?_,(N h2 h3).append (N J U),λg hg u d=>?_⟩ (λi i hb=>Ext.grownOwn i (ay h1 hb) L) L
 ·rw[xL];exact Y
 ·rcases HZ with hb | hb
  ·rw[hb]at hg;rcases P9.1 d with d | d
   ·exact h3 g hg u d
   exact U g hg u d
  ·rw[hb]at hg;cases hg;rcases P9.1 d with d | d
   ·exact h2.fresh f u d
   ·exact J.fresh f u d
end
/-! Files -/
def iE(W:World)(c:Nat->Option Value)(p:Fil):Prop:=c 0=H (sv p.1)/\∃u,c 1=H u/\Bs W u p.2
theorem dz:zec 2 iE where
 keep h ha hk:=by
  obtain⟨h1,u,h2,h3⟩:=h;exact⟨h1,u,h2,Bs.away h3 (ha 1 u h2) hk⟩
 fresh h i u hi hu:=by
  obtain⟨h1,v,h2,h3⟩:=h;match i,hi with
  |0,_=>rw[h1]at hu;cases hu;exact da _ _
  |1,_=>rw[h2]at hu;cases hu;exact Bs.fresh h3 (xN _)
 one h i u hi hu:=by
  obtain⟨h1,v,h2,h3⟩:=h;match i,hi with
  |0,_=>rw[h1]at hu;cases hu;rfl
  |1,_=>
   rw[h2]at hu;cases hu;obtain⟨A,c,rfl,_,_⟩:=xO h3;rfl
abbrev OwnF(w:World)(base:Nat)(v:Value)(l:List Fil):Prop:=OwnX 2 iE 68 w base v l
theorem fs_row:Fs W v l↔∃xs,SlR W 2 v l.length xs/\RowOf 2 iE W xs l:=by
 constructor
 ·rintro⟨xs,h1,h2⟩;exact⟨xs,h1,h1.1,λk d=>by
   obtain⟨h3,u,h4,h5⟩:=h2 k d;exact⟨h3,u,h4,h5⟩⟩
 ·rintro⟨xs,h1,h2⟩;exact⟨xs,h1,λk d=>by
   obtain⟨h3,u,h4,h5⟩:=h2.2 k d;exact⟨h3,u,h4,h5⟩⟩
theorem OwnF.fs{base:Nat}(h:OwnF w base v l):Fs w v l:=by
 obtain⟨xs,h1,h2,_⟩:=h;exact fs_row.2 ⟨xs,xW h1,h2⟩
/-! Operations -/
def OqE(W:World)(c:Nat->Option Value)(o:Oq):Prop:=c 0=H (D O o.k)/\c 1=H (sv o.n)/\c 2=H (sv o.t)/\∃u,c 3=H u/\Bs W u o.b
theorem dy:zec 4 OqE where
 keep h ha hk:=by
  obtain⟨d,h1,h2,u,h3,h4⟩:=h;exact⟨d,h1,h2,u,h3,Bs.away h4 (ha 3 u h3) hk⟩
 fresh h i u hi hu:=by
  obtain⟨d,h1,h2,v,h3,h4⟩:=h;match i,hi with
  |0,_=>rw[d]at hu;cases hu;exact iP _ _ _
  |1,_=>rw[h1]at hu;cases hu;exact da _ _
  |2,_=>rw[h2]at hu;cases hu;exact da _ _
  |3,_=>rw[h3]at hu;cases hu;exact Bs.fresh h4 (xN _)
 one h i u hi hu:=by
  obtain⟨d,h1,h2,v,h3,h4⟩:=h;match i,hi with
  |0,_=>rw[d]at hu;cases hu;rfl
  |1,_=>rw[h1]at hu;cases hu;rfl
  |2,_=>rw[h2]at hu;cases hu;rfl
  |3,_=>
   rw[h3]at hu;cases hu;obtain⟨A,c,rfl,_,_⟩:=xO h4;rfl
abbrev OwnQ(w:World)(base:Nat)(v:Value)(l:List Oq):Prop:=OwnX 4 OqE 98 w base v l
def Qs(W:World)(v:Value)(l:List Oq):Prop:=∃xs,SlR W 4 v l.length xs/\RowOf 4 OqE W xs l
theorem Qs.ext{l:List Oq}(h:Qs W v l)(d:Ext W W'):Qs W' v l:=by
 obtain⟨xs,h1,h2⟩:=h;exact⟨xs,h1.ext d,h2.ext dy d⟩
theorem OwnQ.qs{base:Nat}{l:List Oq}(h:OwnQ w base v l):Qs w v l:=by
 obtain⟨xs,h1,h2,_⟩:=h;exact⟨xs,xW h1,h2⟩
theorem Qs.open_{l:List Oq}(h:Qs W v l):∃A c,v=C A l.length c/\X l<=c/\c<=9223372036854775807:=by
 obtain⟨xs,h1,_⟩:=h;exact xO h1
theorem Qs.at_{l:List Oq}(h:Qs W (C A m c) l)(hn:0<X l):m=X l/\∃b H3,A=H ⟨b,H3,F⟩/\∀(k:Nat) (s:k<X l),
  W.cell? ⟨b,H3+k*4,F⟩=H (D O l[k].k)/\W.cell? ⟨b,H3+k*4+1,F⟩=H (sv l[k].n)/\W.cell? ⟨b,H3+k*4+2,F⟩=H (sv l[k].t)/\∃B d,W.cell? ⟨b,H3+k*4+3,F⟩=H (C B l[k].b.length d)/\Bs W (C B l[k].b.length d) l[k].b:=by
 obtain⟨xs,h1,h2⟩:=h;obtain⟨rfl,b,H3,rfl,hc⟩:=SlR.at_ h1 hn;refine⟨rfl,b,H3,rfl,λk s=>?_⟩;obtain⟨f,i,o,u,p,r⟩:=h2.2 k s;have f:xs[k*4+0]?=H (D O l[k].k):=f;have i:xs[k*4+1]?=H (sv l[k].n):=i;have o:xs[k*4+2]?=H (sv l[k].t):=o;have p:xs[k*4+3]?=H u:=p;obtain⟨B,d,rfl,_,_⟩:=xO r;exact⟨hc _ _ f,by rw[Ph];exact hc _ _ i,by rw[Ph];exact hc _ _ o,B,d,by rw[Ph];exact hc _ _ p,r⟩
/-! Disks -/
def DkV(W:World)(v:Value)(d:Dk):Prop:=∃f h,v=V #[f,h,D L d.quota,D L d.fuse,R d.dead]/\Fs W f d.fs/\Qs W h d.q
theorem DkV.ext{d:Dk}(h:DkV W v d)(f:Ext W W'):DkV W' v d:=by
 obtain⟨i,o,rfl,h1,h2⟩:=h;exact⟨i,o,rfl,h1.ext f,h2.ext f⟩
open Go.RowKit Go.Mv Go.Shelf
theorem oY(v:Value)(bs:List UInt8)(w:World)(h:Bs w v bs)(hl:X bs<=2000000):Calls I 146 #[v] w λe w'=>∃A c,e=.returned (C A bs.length c)/\OwnB w' w.heap.size (C A bs.length c) bs/\Ext w w':=by
 obtain⟨A,c,rfl,h1,h2⟩:=xO h;have d:=λ(W:World)=>Lib.run_eql_slice_nil (P:=I) W;cases A with
 |none=>
  have hb:bs=[]:=by
   cases d:bs with
   |nil=>rfl
   |cons b l=>
    have:=(SlR.at_ h (by rw[d];simp)).2;obtain⟨_,_,e,_⟩:=this;cases e
  subst hb;go_enter func146,ntmps146
  go_wp2;go_ret;exact⟨_,_,rfl,World.ownsRow_nil _ _ _ _,xR _⟩
 |some a=>
  have d:=M h;go_enter func146,ntmps146
  go_wp2_with (at_builtin;refine eu (.tmp 5) (.tmp 6) rfl w.heap.size _ [] (iI w) _ bs (d.ext (xA (xR _) _)) (by simp;omega) (by simp) ?_;intro d d i H8 f;have d:Ext w i:=f w (xA (xR _) _) (xN _);simp only[P4,Pg,xI]at H8⊢)
  go_ret;exact⟨_,_,rfl,H8,d⟩
theorem iF(h:Blk W b t #[a,v]):W.cell? ⟨b,0,F⟩=H a/\W.cell? ⟨b,1,F⟩=H v:=⟨h.cell 0 rfl,h.cell 1 rfl⟩
theorem blk4(h:Blk W b t #[a,v,u,x]):W.cell? ⟨b,0,F⟩=H a/\W.cell? ⟨b,1,F⟩=H v/\W.cell? ⟨b,2,F⟩=H u/\W.cell? ⟨b,3,F⟩=H x:=⟨h.cell 0 rfl,h.cell 1 rfl,h.cell 2 rfl,h.cell 3 rfl⟩
theorem Mz(h:Blk W b t #[a,v])(a' d:Value):Blk ((W.setCell ⟨b,0,F⟩ a').setCell ⟨b,1,F⟩ d) b t #[a',d]:=(h.set 0 a').set 1 d
theorem MA(h:Blk W b t #[a,v,u,x])(a' f d i:Value):Blk ((((W.setCell ⟨b,0,F⟩ a').setCell ⟨b,1,F⟩ f).setCell ⟨b,2,F⟩ d).setCell ⟨b,3,F⟩ i) b t #[a',f,d,i]:=(((h.set 0 a').set 1 f).set 2 d).set 3 i
theorem AB(h:Ext w W)(hb:w.heap.size<=b)(a v:Value):Ext w ((W.setCell ⟨b,0,F⟩ a).setCell ⟨b,1,F⟩ v):=P0 (p:=⟨b,1,F⟩) (P0 (p:=⟨b,0,F⟩) h hb _) hb _
theorem AC(h:Ext w W)(hb:w.heap.size<=b)(a v u x:Value):Ext w ((((W.setCell ⟨b,0,F⟩ a).setCell ⟨b,1,F⟩ v).setCell ⟨b,2,F⟩ u).setCell ⟨b,3,F⟩ x):=
 P0 (p:=⟨b,3,F⟩) (P0 (p:=⟨b,2,F⟩) (AB h hb a v) hb _) hb _
theorem NW(f:Blk W b t #[a,v]){e:TypeId}(d:t≠e){base:Nat}(h:W.ownsRow base e size y k xs)(a' o:Value):((W.setCell ⟨b,0,F⟩ a').setCell ⟨b,1,F⟩ o).ownsRow base e size y k xs:=by
 have i:=h.kept (ar _ b 0 a') (.inr (f.not_row d h).symm);exact i.kept (ar _ b 1 o) (.inr ((f.set 0 a').not_row d i).symm)
theorem NX(i:Blk W b t #[a,v,u,x]){e:TypeId}(d:t≠e){base:Nat}(o:W.ownsRow base e size y k xs)(a' h f r:Value):((((W.setCell ⟨b,0,F⟩ a').setCell ⟨b,1,F⟩ h).setCell ⟨b,2,F⟩ f).setCell ⟨b,3,F⟩ r).ownsRow base e size y k xs:=by
 have p:=o.kept (ar _ b 0 a') (.inr (i.not_row d o).symm);have b1:=i.set 0 a';have i:=p.kept (ar _ b 1 h) (.inr (b1.not_row d p).symm);have b2:=b1.set 1 h;have h:=i.kept (ar _ b 2 f) (.inr (b2.not_row d i).symm);have b3:=b2.set 2 f;exact h.kept (ar _ b 3 r) (.inr (b3.not_row d h).symm)
theorem ey(h:Blk W b t cs){e:TypeId}(f:t≠e){base:Nat}(d:W.ownsRow base e size y k xs)(a':Value):(W.setCell ⟨b,j,F⟩ a').ownsRow base e size y k xs:=
 d.kept (ar _ b j a') (.inr (h.not_row f d).symm)
theorem O8:Tryz.prog.underlying 68=H (.struct (Tryz.prog.fieldsOf 68)):=by kernel_rfl
theorem opU:Tryz.prog.underlying 98=H (.struct (Tryz.prog.fieldsOf 98)):=by kernel_rfl
theorem em:Tryz.prog.underlying 25=H (.struct (Tryz.prog.fieldsOf 25)):=by kernel_rfl
theorem NB(tmps:Array Value)(W:World)(b:Nat)(cs:Array Value)(h4:tmps.getD 2 undef=U (H ⟨b,0,F⟩))(hb:Blk W b 68 cs)(hs:cs.size=2):(results Tryz.f105 tmps).run I W=.ok (.agg cs) W:=by
 have hl:=hb.load (P:=I) O8 rfl (by rw[hs];kernel_rfl);have d:tmps[2]?.getD undef=U (H ⟨b,0,F⟩):=by simpa using h4
 simp[results,results105,d,asAddr,hl]
theorem PK(tmps:Array Value)(W:World)(b:Nat)(cs:Array Value)(h4:tmps.getD 2 undef=U (H ⟨b,0,F⟩))(hb:Blk W b 98 cs)(hs:cs.size=4):(results Tryz.f107 tmps).run I W=.ok (.agg cs) W:=by
 have hl:=hb.load (P:=I) opU rfl (by rw[hs];kernel_rfl);have d:tmps[2]?.getD undef=U (H ⟨b,0,F⟩):=by simpa using h4
 simp[results,results107,d,asAddr,hl]
theorem NA(n:List UInt8)(v:Value)(b:List UInt8)(w:World)(D:Bs w v b)(hl:X b<=2000000):Calls I 105 #[V #[sv n,v]] w λe w'=>∃A c,e=.returned (V #[sv n,C A b.length c])/\OwnB w' w.heap.size (C A b.length c) b/\Ext w w':=by
 obtain⟨A,c,rfl,_,_⟩:=xO D;have P:=(Pf w 68 #[sv n,C A b.length c]).alloc (N #[sv [],C none 0 0] 68);have d:=Pf (w.alloc (N #[sv n,C A b.length c] 68)) 68 #[sv [],C none 0 0];rw[xS]at d;have L:Ext w ((w.alloc (N #[sv n,C A b.length c] 68)).alloc (N #[sv [],C none 0 0] 68)):=xA (xA (xR _) _) _;have O:=M (D.ext L);have i:=M L;have f:=M P;have H1:=M d;unfold sv at *;obtain⟨o,p⟩:=iF f.out;go_enter func105,ntmps105
 go_wp2_with fail
 refine wp_region_held_drew (S:=λW=>W.cell? ⟨w.heap.size,0,F⟩=H (J ⟨n.toArray⟩)/\W.cell? ⟨w.heap.size,1,F⟩=H (C A b.length c)) (by kernel_rfl) ⟨o,p⟩ (λ_=>?_);refine ab 0 ?_;refine ab 1 ?_;refine ab 2 ?_;refine ab 3 ?_;refine ah 4 (λK r=>?_);go_simp;refine(oY _ b _ (Bs.ext O (xD (xR _))) hl).mono ?_;rintro e Q⟨s,z,rfl,H8,D⟩;have d:=xT (xD (xR _)) D;obtain⟨o,p⟩:=iF (f.ext d);obtain⟨D,D⟩:=iF (H1.ext d);have D:=(H1.ext d).frozen 0;have D:=(H1.ext d).frozen 1;refine af r _ _ ⟨o,p⟩ (λ_=>?_);refine ab 5 ?_;refine ah 6 (λK r=>?_);go_simp;have p:=Mz (H1.ext d) (J ⟨n.toArray⟩) (C s b.length z);have o:=((f.ext d).other (by omega:w.heap.size≠w.heap.size+1) 0 (J ⟨n.toArray⟩)).other (by omega:w.heap.size≠w.heap.size+1) 1 (C s b.length z);refine af r _ _ (iF o) (λ_=>?_);refine aq ?_;go_wp2_with fail
 refine bodyPost_ret (NB _ _ _ _ rfl p rfl) rfl ?_;have f:w.heap.size<=Q.heap.size:=(xT i d).size;refine⟨_,_,rfl,ay (NW (H1.ext d) (by decide) H8 _ _) (by have:=i.size;exact this),AB (xT i d) (Pj _) _ _⟩
theorem su(o:Oq)(v:Value)(w:World)(f:Bs w v o.b)(hl:X o.b<=2000000):Calls I 107 #[V #[D O o.k,sv o.n,sv o.t,v]] w λe w'=>∃A c,e=.returned (V #[D O o.k,sv o.n,sv o.t,C A o.b.length c])/\OwnB w' w.heap.size (C A o.b.length c) o.b/\Ext w w':=by
 obtain⟨A,c,rfl,_,_⟩:=xO f;obtain⟨k,n,t,b⟩:=o;dsimp only at *;have K:=(Pf w 98 #[D O k,sv n,sv t,C A b.length c]).alloc (N #[D O 0,sv [],sv [],C none 0 0] 98);have d:=Pf (w.alloc (N #[D O k,sv n,sv t,C A b.length c] 98)) 98 #[D O 0,sv [],sv [],C none 0 0];rw[xS]at d;have z:Ext w ((w.alloc (N #[D O k,sv n,sv t,C A b.length c] 98)).alloc (N #[D O 0,sv [],sv [],C none 0 0] 98)):=xA (xA (xR _) _) _;have H:=M (f.ext z);have r:=M z;have i:=M K;have H1:=M d;unfold sv at *;obtain⟨L,P,Q,R⟩:=blk4 i.out;go_enter func107,ntmps107
 go_wp2_with fail
 refine(oY _ b _ H hl).mono ?_;rintro e d⟨h,s,rfl,H8,d⟩;have f:=i.ext d;have h1:=H1.ext d;obtain⟨L,P,Q,R⟩:=blk4 f;obtain⟨i,i,i,i⟩:=blk4 h1;have i:=f.frozen 3;have i:=h1.frozen 0;have i:=h1.frozen 1;have i:=h1.frozen 2;have i:=h1.frozen 3;have H:=M f;have z:=M h1;have f:=M H8;have i:=M d;go_wp2_with fail
 have d:=z.other (show w.heap.size+1≠w.heap.size by omega) 3 (C h b.length s);have z:=MA d (D O k) (J ⟨n.toArray⟩) (J ⟨t.toArray⟩) (C h b.length s);refine bodyPost_ret (PK _ _ _ _ rfl z rfl) rfl ?_;refine⟨_,_,rfl,ay (NX d (by decide) (ey H (by decide) f _) _ _ _ _) (by have:=r.size;exact this),AC (P0 (p:=⟨w.heap.size,3,F⟩) (xT r i.out) (xN _) _) (Pj _) _ _ _ _⟩
theorem sc:(Tryz.prog.info? 68).map (λi=>(i.zero,i.size,i.bytes))=H (some (V #[J ⟨#[]⟩,C none 0 0]),2,40):=by kernel_rfl
theorem mR:(Tryz.prog.info? 98).map (λi=>(i.zero,i.size,i.bytes))=H (some (V #[D O 0,J ⟨#[]⟩,J ⟨#[]⟩,C none 0 0]),4,64):=by kernel_rfl
theorem sw{α:Type}{E:World->(Nat->Option Value)->α->Prop}{base:Nat}{l:List α}(h:OwnX sz E t w base v l)(hg:v.ownBlock=H g):g<w.heap.size:=by
 obtain⟨xs,h1,_⟩:=h;rcases h1.2 with⟨rfl,_⟩|⟨d,d,d,rfl,_,f,_⟩
 ·cases hg
 ·cases hg;exact(Array.getElem?_eq_some_iff.1 f).1
theorem rz{n b:List UInt8}(h:Bs W u b):RowOf 2 iE W [sv n,u] [(n,b)]:=by
 refine⟨rfl,λk d=>?_⟩;obtain rfl:k=0:=by simpa using d
 exact⟨rfl,u,rfl,h⟩
theorem ip{o:Oq}(h:Bs W u o.b):RowOf 4 OqE W [D O o.k,sv o.n,sv o.t,u] [o]:=by
 refine⟨rfl,λk d=>?_⟩;obtain rfl:k=0:=by simpa using d
 exact⟨rfl,rfl,rfl,u,rfl,h⟩
theorem fu(W:World)(cs:List Value)(t:TypeId)(sz:Nat)(hn:W.heap.size=n)(hs:cs.length=1*sz:=by exact rfl):SlR (W.alloc (N cs.toArray t)) sz (C (H ⟨n,0,F⟩) 1 1) 1 cs:=by
 subst hn;refine⟨hs,_,_,rfl,xN _,by simp[maxLen],λ_=>⟨_,_,rfl,λj u hu=>?_⟩⟩;rw[Pg];exact(Pf W t cs.toArray).cell j (by simpa using hu)
theorem rV(v:Value)(fs:List Fil)(w:World)(K:Fs w v fs)(hl:X fs<=2000000)(R:∀f∈fs,X f.2<=2000000):Calls I 104 #[v,.func (.func 105) #[] #[]] w λe w'=>∃A c,e=.returned (C A fs.length c)/\OwnF w' w.heap.size (C A fs.length c) fs/\Ext w w':=by
 obtain⟨A,c,rfl,_,_⟩:=Fs.open_ K;have U:=M K;have HH:=M R;clear K R;obtain⟨i0,hi,Hk,Hl,Hm⟩:=info_parts sc;go_enter func104,ntmps104
 go_wp2_with fail
 go_loopw [4,9] (λK i wr=>∃k:Nat,k<=X fs/\i=D L k/\(∃A' c',K=C A' k c')/\Hid (OwnF wr w.heap.size K (fs.take k))/\Ext w wr) (λ_ i _=>X fs-(intOf i).toNat)
 case atStart=>exact⟨0,Pl _,rfl,⟨_,_,rfl⟩,OwnX.nil _ _ _,xR _⟩
 case round=>
  obtain⟨k,K,rfl,⟨A',c',rfl⟩,F,r⟩:=hrel;by_cases h:k<X fs
  ·obtain⟨_,b,H3,rfl,hc⟩:=(U.ext r).at_ (by omega);obtain⟨Q,K,V,R,R⟩:=hc k h;have Hs:=HH _ (P8 h);have U:fs.take (k+1)=fs.take k++[fs[k]]:=P3 h;have HP:=M U;have h:X (fs.take k)=k:=by rw[P7];omega
   have s:=M h;have HI:=M R;clear hc U h R;generalize fs[k]=x at *;obtain⟨n,d⟩:=x;dsimp only at *;have h:Ext wr (wr.alloc (N #[sv n,C K d.length V] 68)):=xA (xR _) _;have R:=Pf wr 68 #[sv n,C K d.length V];have K:=NA n _ d _ (Bs.ext HI h) Hs;have HC:=M K;have HR:=M h;obtain⟨Z,x1⟩:=iF R;clear K h R;simp only[sv]at Q Z x1 HC⊢;go_wp2_with fail
   refine HC.mono ?_;rintro e Y⟨o,p,rfl,H8,O⟩;have S:=M H8;have P:=xT HR O;have z:Ext wr (Y.alloc (N #[J ⟨n.toArray⟩,C o d.length p] 68)):=xA P _;have HN:=M (OwnX.ext dz F z);have T:∀g,(Pn A' k c').ownBlock=H g->∀u∈[J ⟨n.toArray⟩,C o d.length p],bF g u:=by
    intro g hg u h;have K:=sw F hg;simp only[Pb,P6,or_false]at h;rcases h with rfl | rfl
    ·exact da _ n
    exact S.away (by simp;omega)
   have K:=M T;have h:=M z;clear T H8 O P z Z x1  Q;go_wp2_with (at_builtin;refine me dz rfl (.tmp 13) (.tmp 17) 22 rfl 68 i0 _ 40 underlying22 hi Hk Hl Hm rfl (by decide) (by decide) w.heap.size _ (fs.take k) rfl HN _ [(n,d)] [J ⟨n.toArray⟩,C o d.length p] rfl (fu Y [J ⟨n.toArray⟩,C o d.length p] 68 2 rfl) (rz (n:=n) (Bs.ext S.bs (xA (xR _) _))) (by simp) K (by rw[s.out];simp;omega) (xT r h.out).size ?_;intro d d d d o p;rw[<-HP.out,s.out]at d;simp only[s.out,xC,P4,Pg]at d⊢;have p:=o w (xT r h.out) (xN _))
   go_roundw
   case rel=>exact⟨k+1,by omega,by go_num,⟨_,_,rfl⟩,d,p⟩
   case measure=>simp[intOf];omega
  ·go_wp2_with fail
   go_ret;obtain rfl:k=X fs:=by omega
   have:=F.out;rw[P5]at this;exact⟨_,_,rfl,this,r⟩
theorem NV(v:Value)(fs:List Oq)(w:World)(P:Qs w v fs)(hl:X fs<=2000000)(T:∀f∈fs,X f.b<=2000000):Calls I 106 #[v,.func (.func 107) #[] #[]] w λe w'=>∃A c,e=.returned (C A fs.length c)/\OwnQ w' w.heap.size (C A fs.length c) fs/\Ext w w':=by
 obtain⟨A,c,rfl,_,_⟩:=Qs.open_ P;have Y:=M P;have HH:=M T;clear P T;obtain⟨i0,hi,Hk,Hl,Hm⟩:=info_parts mR;go_enter func106,ntmps106
 go_wp2_with fail
 go_loopw [4,9] (λP i wr=>∃k:Nat,k<=X fs/\i=D L k/\(∃A' c',P=C A' k c')/\Hid (OwnQ wr w.heap.size P (fs.take k))/\Ext w wr) (λ_ i _=>X fs-(intOf i).toNat)
 case atStart=>exact⟨0,Pl _,rfl,⟨_,_,rfl⟩,OwnX.nil _ _ _,xR _⟩
 case round=>
  obtain⟨k,P,rfl,⟨A',c',rfl⟩,K,s⟩:=hrel;by_cases h:k<X fs
  ·obtain⟨_,b,H3,rfl,hc⟩:=(Y.ext s).at_ (by omega);obtain⟨S,Z,K8,P,d2,T,T⟩:=hc k h;have Hs:=HH _ (P8 h);have Y:fs.take (k+1)=fs.take k++[fs[k]]:=P3 h;have HP:=M Y;have h:X (fs.take k)=k:=by rw[P7];omega
   have z:=M h;have HI:=M T;clear hc Y h T;generalize fs[k]=x at *;obtain⟨ok,n,t,d⟩:=x;dsimp only at *;have h:Ext wr (wr.alloc (N #[D O ok,sv n,sv t,C P d.length d2] 98)):=xA (xR _) _;have T:=Pf wr 98 #[D O ok,sv n,sv t,C P d.length d2];have P:=su ⟨ok,n,t,d⟩ _ _ (Bs.ext HI h) Hs;have HC:=M P;have HR:=M h;obtain⟨x0,x1,x2,x3⟩:=blk4 T;clear P h T;simp only[sv]at S Z K8 x0 x1 x2 x3 HC⊢;go_wp2_with fail
   refine HC.mono ?_;rintro e w1⟨p,r,rfl,H8,Q⟩;have U:=M H8;have R:=xT HR Q;have F:Ext wr (w1.alloc (N #[D O ok,J ⟨n.toArray⟩,J ⟨t.toArray⟩,C p d.length r] 98)):=xA R _;have HN:=M (OwnX.ext dy K F);have V:∀g,(Pn A' k c').ownBlock=H g->∀u∈[D O ok,J ⟨n.toArray⟩,J ⟨t.toArray⟩,C p d.length r],bF g u:=by
    intro g hg u h;have P:=sw K hg;simp only[Pb,P6,or_false]at h;rcases h with rfl | rfl | rfl | rfl
    ·exact iP _ _ _
    ·exact da _ n
    ·exact da _ t
    exact U.away (by simp;omega)
   have P:=M V;have h:=M F;clear V H8 Q R F x0 x1 x2 x3 S Z K8;go_wp2_with (at_builtin;refine me dy rfl (.tmp 13) (.tmp 17) 23 rfl 98 i0 _ 64 underlying23 hi Hk Hl Hm rfl (by decide) (by decide) w.heap.size _ (fs.take k) rfl HN _ [⟨ok,n,t,d⟩] [D O ok,J ⟨n.toArray⟩,J ⟨t.toArray⟩,C p d.length r] rfl (fu w1 [D O ok,J ⟨n.toArray⟩,J ⟨t.toArray⟩,C p d.length r] 98 4 rfl) (ip (o:=⟨ok,n,t,d⟩) (Bs.ext U.bs (xA (xR _) _))) (by simp) P (by rw[z.out];simp;omega) (xT s h.out).size ?_;intro d d d d p r;rw[<-HP.out,z.out]at d;simp only[z.out,xC,P4,Pg]at d⊢;have r:=p w (xT s h.out) (xN _))
   go_roundw
   case rel=>exact⟨k+1,by omega,by go_num,⟨_,_,rfl⟩,d,r⟩
   case measure=>simp[intOf];omega
  ·go_wp2_with fail
   go_ret;obtain rfl:k=X fs:=by omega
   have:=K.out;rw[P5]at this;exact⟨_,_,rfl,this,s⟩
theorem OL(tmps:Array Value)(W:World)(b:Nat)(cs:Array Value)(h4:tmps.getD 2 undef=U (H ⟨b,0,F⟩))(hb:Blk W b 25 cs)(hs:cs.size=5):(results Tryz.f51 tmps).run I W=.ok (.agg cs) W:=by
 have hl:=hb.load (P:=I) em rfl (by rw[hs];kernel_rfl);have d:tmps[2]?.getD undef=U (H ⟨b,0,F⟩):=by simpa using h4
 simp[results,results51,d,asAddr,hl]
theorem aH(h:Blk W b t cs):W.frozen? ⟨b,0,F⟩=false/\W.frozen? ⟨b,1,F⟩=false/\W.frozen? ⟨b,2,F⟩=false/\W.frozen? ⟨b,3,F⟩=false/\W.frozen? ⟨b,4,F⟩=false:=⟨h.frozen 0,h.frozen 1,h.frozen 2,h.frozen 3,h.frozen 4⟩
abbrev aK(W:World)(b:Nat)(a v u x y:Value):World:=((((W.setCell ⟨b,0,F⟩ a).setCell ⟨b,1,F⟩ v).setCell ⟨b,2,F⟩ u).setCell ⟨b,3,F⟩ x).setCell ⟨b,4,F⟩ y
theorem aT(h:Blk W b t #[a,v,u,x,y])(a' f d i o:Value):Blk (((((W.setCell ⟨b,0,F⟩ a').setCell ⟨b,1,F⟩ f).setCell ⟨b,2,F⟩ d).setCell ⟨b,3,F⟩ i).setCell ⟨b,4,F⟩ o) b t #[a',f,d,i,o]:=((((h.set 0 a').set 1 f).set 2 d).set 3 i).set 4 o
theorem aS(h:Ext w W)(hb:w.heap.size<=b)(a v u x y:Value):Ext w (aK W b a v u x y):=P0 (p:=⟨b,4,F⟩) (AC h hb a v u x) hb _
theorem rI(h:Blk W b t cs)(hc:W.cell? ⟨b,k,F⟩=H u):cs[k]?=H u:=by
 simpa[Pe,show W.heap[b]?=_ from h]using hc
theorem Bs.awayBlk{bs:List UInt8}(h:Bs W u bs)(o:Blk W b t cs)(f:∀(k:Nat) (n:Int),cs[k]?≠some (D O n)):bF b u:=by
 intro i H3 n c hn d he;subst he;obtain⟨hl,A,c',rfl,h1,h2,h3⟩:=h;cases d;obtain⟨b2,d,e,hc⟩:=h3 hn;cases e;have d:0<X (bs.map bv):=by rw[Pa];exact hn
 have i:=hc 0 _ (P2 d);have h1:=rI o i;rw[List.getElem_map]at h1;exact f _ _ h1
theorem zY(h:RowOf 2 iE W xs l)(r:Blk W b t cs)(o:∀(k:Nat) (n:Int),cs[k]?≠some (D O n)):∀u∈xs,bF b u:=by
 intro u d;obtain⟨k,i,z,s,hx⟩:=oM h.1 d;obtain⟨d,v,f,p⟩:=h.2 k z;match i,s with
 |0,_=>
  have d:xs[k*2+0]?=H (sv l[k].1):=d;rw[d]at hx;cases hx;exact da _ _
 |1,_=>
  have f:xs[k*2+1]?=H v:=f;rw[f]at hx;cases hx;exact Bs.awayBlk p r o
theorem zZ{l:List Oq}(h:RowOf 4 OqE W xs l)(z:Blk W b t cs)(r:∀(k:Nat) (n:Int),cs[k]?≠some (D O n)):∀u∈xs,bF b u:=by
 intro u d;obtain⟨k,i,F,C,hx⟩:=oM h.1 d;obtain⟨d,f,o,v,p,s⟩:=h.2 k F;match i,C with
 |0,_=>
  have d:xs[k*4+0]?=H (D O l[k].k):=d;rw[d]at hx;cases hx;exact iP _ _ _
 |1,_=>
  have f:xs[k*4+1]?=H (sv l[k].n):=f;rw[f]at hx;cases hx;exact da _ _
 |2,_=>
  have o:xs[k*4+2]?=H (sv l[k].t):=o;rw[o]at hx;cases hx;exact da _ _
 |3,_=>
  have p:xs[k*4+3]?=H v:=p;rw[p]at hx;cases hx;exact Bs.awayBlk s z r
theorem eG{p:Addr}(h:W.cell? p=H x)(f:p.block≠b):(W.setCell ⟨b,j,F⟩ u).cell? p=H x:=by
 have d:=Below.heap_setCell W ⟨b,j,F⟩ u _ f;unfold Pe at h⊢;rw[d];exact h
theorem OwnF.setD{base:Nat}(h:OwnF W base v l)(i:t≠68)(d:Blk W b t cs)(f:∀(k:Nat) (n:Int),cs[k]?≠some (D O n)):OwnF (W.setCell ⟨b,j,F⟩ u) base v l:=by
 obtain⟨xs,h1,h2,h3⟩:=h;exact⟨xs,ey d i h1 u,h2.keep dz (zY h2 d f) λp x hc d=>eG hc d,h3⟩
theorem OwnQ.setD{base:Nat}{l:List Oq}(h:OwnQ W base v l)(i:t≠98)(d:Blk W b t cs)(f:∀(k:Nat) (n:Int),cs[k]?≠some (D O n)):OwnQ (W.setCell ⟨b,j,F⟩ u) base v l:=by
 obtain⟨xs,h1,h2,h3⟩:=h;exact⟨xs,ey d i h1 u,h2.keep dy (zZ h2 d f) λp x hc d=>eG hc d,h3⟩
theorem no5(d:∀n,a≠D O n)(i:∀n,v≠D O n)(f:∀n,u≠D O n)(hx:∀n,x≠D O n)(o:∀n,y≠D O n):∀(k:Nat) (n:Int),(#[a,v,u,x,y]:Array Value)[k]?≠some (D O n):=by
 intro k n h;match k,h with
 |0,h=>exact d n (P1 h)
 |1,h=>exact i n (P1 h)
 |2,h=>exact f n (P1 h)
 |3,h=>exact hx n (P1 h)
 |4,h=>exact o n (P1 h)
 |k+5,h=>simp at h
def ap(A:Option Addr)(n c:Nat)(B:Option Addr)(m e:Nat)(q f:Int)(d:Bool):Array Value:=#[C A n c,C B m e,D L q,D L f,R d]
theorem aQ{f:Int}{d:Bool}:∀(k:Nat) (z:Int),(ap A n c B m e q f d)[k]?≠some (D O z):=no5 (λ_ h=>by cases h) (λ_ h=>by cases h) (λ_ h=>by cases h) (λ_ h=>by cases h) (λ_ h=>by cases h)
theorem OwnF.box1{base:Nat}{f:Int}{d:Bool}(h:OwnF W base v l)(o:Blk W b 25 (ap A n c B m e q f d)):
  OwnF (aK W b (C A' n' c') (C B' m' e') (D L q') (D L f') (R d')) base v l:=by
 have i:Blk _ b 25 (ap A' n' c' B m e q f d):=o.set 0 (C A' n' c');have b1:Blk _ b 25 (ap A' n' c' B' m' e' q f d):=i.set 1 (C B' m' e');have b2:Blk _ b 25 (ap A' n' c' B' m' e' q' f d):=b1.set 2 (D L q');have b3:Blk _ b 25 (ap A' n' c' B' m' e' q' f' d):=b2.set 3 (D L f');exact OwnF.setD (OwnF.setD (OwnF.setD (OwnF.setD (OwnF.setD h (by decide) o aQ) (by decide) i aQ) (by decide) b1 aQ) (by decide) b2 aQ) (by decide) b3 aQ
theorem OwnQ.box1{base:Nat}{l:List Oq}{f:Int}{d:Bool}(h:OwnQ W base v l)(o:Blk W b 25 (ap A n c B m e q f d)):
  OwnQ (aK W b (C A' n' c') (C B' m' e') (D L q') (D L f') (R d')) base v l:=by
 have i:Blk _ b 25 (ap A' n' c' B m e q f d):=o.set 0 (C A' n' c');have b1:Blk _ b 25 (ap A' n' c' B' m' e' q f d):=i.set 1 (C B' m' e');have b2:Blk _ b 25 (ap A' n' c' B' m' e' q' f d):=b1.set 2 (D L q');have b3:Blk _ b 25 (ap A' n' c' B' m' e' q' f' d):=b2.set 3 (D L f');exact OwnQ.setD (OwnQ.setD (OwnQ.setD (OwnQ.setD (OwnQ.setD h (by decide) o aQ) (by decide) i aQ) (by decide) b1 aQ) (by decide) b2 aQ) (by decide) b3 aQ
def OwnD(w:World)(base:Nat)(v:Value)(d:Dk):Prop:=∃A c B e,v=V #[C A d.fs.length c,C B d.q.length e,D L d.quota,D L d.fuse,R d.dead]/\OwnF w base (C A d.fs.length c) d.fs/\OwnQ w base (C B d.q.length e) d.q
theorem ee{α:Type}{E:World->(Nat->Option Value)->α->Prop}{base:Nat}{l:List α}(h:OwnX sz E t w base v l)(hg:v.ownBlock=H g):base<=g/\∃cs,w.heap[g]?=H (N cs t (0,0)):=by
 obtain⟨xs,h1,_⟩:=h;rcases h1.2 with⟨rfl,_⟩|⟨d,d,d,rfl,hb,f,_⟩
 ·cases hg
 ·cases hg;exact⟨hb,_,f⟩
theorem RowOf.freshG{α:Type}{E:World->(Nat->Option Value)->α->Prop}(d:zec sz E){l:List α}:∀(n:Nat) {W:World},RowOf sz E W xs l->∀u∈xs,bF (W.heap.size+n) u
 |0,W,h=>h.fresh d
 | n+1,W,h=>by
  have:=RowOf.freshG d n (h.ext d (xA (xR W) (N #[] 5)));rw[xS]at this;rwa[show W.heap.size+(n+1)=W.heap.size+1+n by omega]
def OwnFA(W:World)(base:Nat)(v:Value)(l:List Fil)(G:Nat->Prop):Prop:=
 ∃xs,W.ownsRow base 68 2 v l.length xs/\RowOf 2 iE W xs l/\(∀g,v.ownBlock=H g->∀u∈xs,bF g u)/\∀g,G g->∀u∈xs,bF g u
theorem OwnFA.f{base:Nat}(h:OwnFA W base v l G):OwnF W base v l:=by
 obtain⟨xs,h1,h2,h3,_⟩:=h;exact⟨xs,h1,h2,h3⟩
theorem OwnFA.of{base:Nat}(h:OwnF W base v l)(d:∀g,G g->W.heap.size<=g):OwnFA W base v l G:=by
 obtain⟨xs,h1,h2,h3⟩:=h;refine⟨xs,h1,h2,h3,λg hg=>?_⟩;have:=h2.freshG dz (g-W.heap.size);rwa[show W.heap.size+(g-W.heap.size)=g by have:=d g hg;omega]at this
theorem OwnFA.ext{base:Nat}(h:OwnFA W base v l G)(d:Ext W W'):OwnFA W' base v l G:=by
 obtain⟨xs,h1,h2,h3,h4⟩:=h;exact⟨xs,ai h1 d,h2.ext dz d,h3,h4⟩
theorem OwnFA.base{base base':Nat}(h:OwnFA W base v l G)(hb:base'<=base):OwnFA W base' v l G:=by
 obtain⟨xs,h1,h2,h3,h4⟩:=h;exact⟨xs,ay h1 hb,h2,h3,h4⟩
theorem OwnFA.setD{base:Nat}(h:OwnFA W base v l G)(i:t≠68)(d:Blk W b t cs)(f:∀(k:Nat) (n:Int),cs[k]?≠some (D O n)):OwnFA (W.setCell ⟨b,j,F⟩ u) base v l G:=by
 obtain⟨xs,h1,h2,h3,h4⟩:=h;exact⟨xs,ey d i h1 u,h2.keep dz (zY h2 d f) λp x hc d=>eG hc d,h3,h4⟩
theorem OwnFA.box1{base:Nat}{f:Int}{d:Bool}(h:OwnFA W base v l G)(o:Blk W b 25 (ap A n c B m e q f d)):
  OwnFA (aK W b (C A' n' c') (C B' m' e') (D L q') (D L f') (R d')) base v l G:=by
 have i:Blk _ b 25 (ap A' n' c' B m e q f d):=o.set 0 (C A' n' c');have b1:Blk _ b 25 (ap A' n' c' B' m' e' q f d):=i.set 1 (C B' m' e');have b2:Blk _ b 25 (ap A' n' c' B' m' e' q' f d):=b1.set 2 (D L q');have b3:Blk _ b 25 (ap A' n' c' B' m' e' q' f' d):=b2.set 3 (D L f');exact OwnFA.setD (OwnFA.setD (OwnFA.setD (OwnFA.setD (OwnFA.setD h (by decide) o aQ) (by decide) i aQ) (by decide) b1 aQ) (by decide) b2 aQ) (by decide) b3 aQ
def OwnDs(w:World)(base:Nat)(v:Value)(d:Dk):Prop:=∃A c B e,v=V #[C A d.fs.length c,C B d.q.length e,D L d.quota,D L d.fuse,R d.dead]/\OwnFA w base (C A d.fs.length c) d.fs (λg=>(Pn B d.q.length e).ownBlock=H g)/\OwnQ w base (C B d.q.length e) d.q
theorem OwnDs.d{base:Nat}{d:Dk}(h:OwnDs w base v d):OwnD w base v d:=by
 obtain⟨A,c,B,e,i,h1,h2⟩:=h;exact⟨A,c,B,e,i,h1.f,h2⟩
theorem OwnD.dk{base:Nat}{d:Dk}(h:OwnD w base v d):DkV w v d:=by
 obtain⟨A,c,B,e,rfl,h1,h2⟩:=h;exact⟨_,_,rfl,h1.fs,h2.qs⟩
theorem Me(v:Value)(d:Dk)(w:World)(hD:DkV w v d)(K0:X d.fs<=2000000)(Kp:X d.q<=2000000)(Hb:∀f∈d.fs,X f.2<=2000000)(Hs:∀o∈d.q,X o.b<=2000000):
  Calls I 51 #[v] w λe w'=>∃u,e=.returned u/\OwnDs w' w.heap.size u d/\Ext w w':=by
 obtain⟨vf,vq,rfl,hF,hQ⟩:=hD;obtain⟨A,c,rfl,_,_⟩:=Fs.open_ hF;obtain⟨B,e2,rfl,_,_⟩:=Qs.open_ hQ;have O:=M (show Ext w ((w.alloc (N #[C A d.fs.length c,C B d.q.length e2,D L d.quota,D L d.fuse,R d.dead] 25)).alloc (N #[C none 0 0,C none 0 0,D L 0,D L 0,R false] 25))from xA (xA (xR _) _) _);have T:=M (show Blk ((w.alloc (N #[C A d.fs.length c,C B d.q.length e2,D L d.quota,D L d.fuse,R d.dead] 25)).alloc (N #[C none 0 0,C none 0 0,D L 0,D L 0,R false] 25)) w.heap.size 25 (ap A d.fs.length c B d.q.length e2 d.quota d.fuse d.dead)from(Pf w _ _).alloc _);have h1:Blk ((w.alloc (N #[C A d.fs.length c,C B d.q.length e2,D L d.quota,D L d.fuse,R d.dead] 25)).alloc (N #[C none 0 0,C none 0 0,D L 0,D L 0,R false] 25)) (w.heap.size+1) 25 (ap none 0 0 none 0 0 0 0 false):=by
  have:=Pf (w.alloc (N #[C A d.fs.length c,C B d.q.length e2,D L d.quota,D L d.fuse,R d.dead] 25)) 25 #[C none 0 0,C none 0 0,D L 0,D L 0,R false];rwa[xS]at this
 have H1:=M h1;have HF:=M (hF.ext O.out);have HQ:=M (hQ.ext O.out);obtain⟨Y,Z,g2,g3,g4⟩:=ae (T.ext (xD (xR _)));go_enter func51,ntmps51
 go_wp2_with fail
 refine wp_region_held_drew (S:=λ_=>True) (by kernel_rfl) trivial (λ_=>?_);refine ab 0 ?_;refine ab 3 ?_;refine AllReadyH.two (i:=1) (j:=4) rfl rfl (by kernel_rfl) (by rfl) (by rfl) (λK r=>?_) (λK r=>?_);go_simp;refine af r _ _ trivial (λ_=>?_);refine AllReadyH.two (i:=2) (j:=4) rfl rfl (by kernel_rfl) (by rfl) (by rfl) (λK r=>?_) (λK r=>?_);go_simp;refine(rV _ d.fs _ (Fs.ext HF (xD (xR _))) K0 Hb).mono ?_;rintro e w3⟨s,z,rfl,U,V⟩;have J:=M (xT (xD (xR _)) V);have HJ:=M (OwnX.base U (show w.heap.size<=_ from O.size));obtain⟨Y,Z,_,_,_⟩:=ae (T.ext J.out);refine af r _ _ trivial (λ_=>?_);refine ah 4 (λK r=>?_);go_simp;refine af r _ _ trivial (λ_=>?_);rotate_left
 go_simp;refine af r _ _ trivial (λ_=>?_);refine ah 2 (λK r=>?_);go_simp;refine(rV _ d.fs _ (Fs.ext HF (xD (xR _))) K0 Hb).mono ?_;rintro e w3⟨s,z,rfl,U,V⟩;have J:=M (xT (xD (xR _)) V);have HJ:=M (OwnX.base U (show w.heap.size<=_ from O.size));obtain⟨Y,Z,_,_,_⟩:=ae (T.ext J.out);refine af r _ _ trivial (λ_=>?_);rotate_left
 go_simp;refine af r _ _ trivial (λ_=>?_);refine ah 1 (λK r=>?_);go_simp;refine af r _ _ trivial (λ_=>?_);refine ah 2 (λK r=>?_);go_simp;refine(rV _ d.fs _ (Fs.ext HF (xD (xR _))) K0 Hb).mono ?_;rintro e w3⟨s,z,rfl,U,V⟩;have J:=M (xT (xD (xR _)) V);have HJ:=M (OwnX.base U (show w.heap.size<=_ from O.size));obtain⟨Y,Z,_,_,_⟩:=ae (T.ext J.out);refine af r _ _ trivial (λ_=>?_)
 all_goals
  refine ab 6 ?_;refine ah 5 (λK r=>?_);go_simp;refine(NV _ d.q _ (HQ.ext J.out) Kp Hs).mono ?_;rintro e w4⟨P,Q,rfl,K1,U⟩;have V:=M (xT J U);have HL:=M (OwnFA.ext (OwnFA.of HJ (G:=λg=>(Pn P d.q.length Q).ownBlock=H g) (λg hg=>Pk (by simp) (ee K1 hg).1)) U);have Ke:=M (OwnX.base K1 (xT O J.out).size);have U:=M J.size;have U:=T.ext V.out;have J:=U.frozen 0;have e1:=U.frozen 1;have h1:=H1.ext V.out;have J:=M U;have Kb:=M h1;obtain⟨Y,Z,g2,g3,g4⟩:=ae U;refine af r _ _ trivial (λ_=>?_);refine ah 7 (λK r=>?_);go_simp;refine af r _ _ trivial (λ_=>?_);refine ab 8 ?_;have T:(w4.setCell ⟨w.heap.size,0,F⟩ (C s d.fs.length z)).frozen? ⟨w.heap.size,1,F⟩=false:=(J.set 0 _).frozen 1;refine ah 9 (λK r=>?_);go_simp;refine af r _ _ trivial (λ_=>?_);refine aq ?_;have r:Blk _ w.heap.size 25 (ap s d.fs.length z B d.q.length e2 d.quota d.fuse d.dead):=J.set 0 (C s d.fs.length z);have k1:Blk _ w.heap.size 25 (ap s d.fs.length z P d.q.length Q d.quota d.fuse d.dead):=r.set 1 (C P d.q.length Q);have z1:Blk _ (w.heap.size+1) 25 (ap none 0 0 none 0 0 0 0 false):=(Kb.other (show w.heap.size+1≠w.heap.size by omega) 0 (C s d.fs.length z)).other (show w.heap.size+1≠w.heap.size by omega) 1 (C P d.q.length Q);have T:=OwnFA.setD (j:=1) (u:=C P d.q.length Q) (OwnFA.setD (j:=0) (u:=C s d.fs.length z) HL (by decide) J aQ) (by decide) r aQ;have U:=OwnQ.setD (j:=1) (u:=C P d.q.length Q) (OwnQ.setD (j:=0) (u:=C s d.fs.length z) Ke (by decide) J aQ) (by decide) r aQ;have Kd:=M k1;have r:=M z1;have J:=M T;have T:=M U;have U:=M (P0 (p:=⟨w.heap.size,1,F⟩) (P0 (p:=⟨w.heap.size,0,F⟩) (xT O V.out) (xN _) (C s d.fs.length z)) (xN _) (C P d.q.length Q));obtain⟨Y,Z,g2,g3,g4⟩:=ae Kd.out;obtain⟨s,s,s,s,s⟩:=aH r.out;obtain⟨s,s,s,s,s⟩:=ae r.out;go_wp2_with fail
  refine bodyPost_ret (OL _ _ _ _ rfl (aT r _ _ _ _ _) rfl) rfl ?_;refine⟨_,rfl,⟨_,_,_,_,rfl,OwnFA.box1 J r.out,OwnQ.box1 T r.out⟩,aS U (Pj _) _ _ _ _ _⟩
