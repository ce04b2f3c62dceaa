/- Merged -/
import Derived.Test.YteggfecbjgbndaaGreatDoorZx37
set_option linter.all false
set_option maxHeartbeats 8000000
set_option maxRecDepth 100000
open Go.Proofs.Tryz
open List renaming length->U
open Go.Value renaming int->C,slice->G,bool->I,pointer->O,agg->T
open Go.IntKind renaming i64->E
open Go.Mv renaming aN->J
open Go.Proofs.Tryz renaming prog->L
open Option renaming none->M,some->R
open Go.Obj renaming cells->N
open Go.Mv.Blk renaming new->P0,other->P1
open Go.RowKit.Below renaming setCell->P2
open List renaming getElem?_eq_getElem->P3,take_of_length_le->P4,flatten_append->P5,flatten_cons->P6,flatten_nil->P7,append_nil->P8
open Go.Builtin renaming zeroCells->P9,append_->Pa,nextslicecap->Pb,firstCells->Pc
namespace Go.Proofs.YteggfecbjgbndaaGreatDoor
open Go.RowKit Go.Mv
variable {W:World}
theorem zyv(a b:List Ent):ax (a++b)=ax a++ax b:=by simp[ax]
theorem zxG{P:Program}(w:World)(t b ty e:TypeId)(i:TypeInfo)(z:Value)(j:P.underlying t=R (.slice e))(f:P.underlying b=R (.int .i64))(hi:P.info? e=R i)(l:i.zero=R z)(c:z.cells.size=3)(hs:i.size=3)(hb:i.bytes=24)(n:Nat)(g:0<n)(a:n<=1000000):
  ∃H3 a,(Pa #[t,b] ty #[G none 0 0,C E n]).run P w=.ok (G (R ⟨w.heap.size,0,M⟩) n H3) a/\n<=H3/\H3<=9223372036854775807 /\
   a.ownsRow w.heap.size e 3 (G (R ⟨w.heap.size,0,M⟩) 0 H3) 0 []/\Ext w a:=by
 have b:=grownCap_ge w n 0 e;have a:grownCap w n 0 e<=maxLen:=grownCap_le_maxLen w n 0 e (by simp[maxLen];omega);have k:IntKind.i64.wrap (n:Int)=n:=by rw[IntKind.wrap_i64];omega
 have hn:n≠0:=by omega
 have h1:¬((n:Int)<0):=by omega
 have h2:¬(281474976710656<(n:Int)*24):=by omega
 have h3:¬(9223372036854775807<(n:Int)):=by omega
 have d:¬(281474976710656<Pb n 0*24):=by rw[nextslicecap_zero g];omega
 refine⟨grownCap w n 0 e,w.drew.alloc (N (P9 z.cells n++P9 z.cells (grownCap w n 0 e-n)) e),?_,b,by simpa[maxLen]using a,?_,?_⟩
 ·simp[Pa,run_underlying j,run_underlying f,sizeOf,typeInfo,zeroValue,hi,l,hs,hb,k,h1,h2,asInt,asIntOf,Pc,hn,h3,d,Question.forced,newRow,grownCap];intro h;omega
 ·refine⟨by simp,.inr ⟨w.heap.size,grownCap w n 0 e,_,rfl,xN _,heap_alloc_new w.drew _,Nat.zero_le _,a,?_,by simp⟩⟩;simp[size_zeroCells,c];omega
 ·exact xA (xD (xR w)) _
theorem zxr{P:Program}(w:World){b:Array Oper}{rest:List Oper}{o:Oper}{a:Act}{Q:Exit->Act->World->Prop}(f:o.guard=none)(s x:Operand)(t d:TypeId)(q:o.op=.call { callee:=.builtin .append,args:=#[s,x],argTypes:=#[t,d] })(e:TypeId)(i:TypeInfo)(z:Value)(r:P.underlying t=R (.slice e))(m:P.underlying d=R (.int .i64))(hi:P.info? e=R i)(v:i.zero=R z)(k:z.cells.size=3)(hs:i.size=3)(hb:i.bytes=24)(n:Nat)(p:0<n)(l:n<=1000000)(g:a.eval s=G none 0 0)(j:a.eval x=C E n)(h:∀H3 c,n<=H3->H3<=9223372036854775807->c.ownsRow w.heap.size e 3 (G (R ⟨w.heap.size,0,M⟩) 0 H3) 0 []->Ext w c->wpList P b Q rest (a.put o.dst (G (R ⟨w.heap.size,0,M⟩) n H3)) c):
  wpList P b Q (o::rest) a w:=by
 refine wpList_plain f λK b=>?_;obtain⟨H3,c,Kx,h1,h2,h3,h4⟩:=zxG (P:=P) w t d o.type e i z r m hi v k hs hb n p l;unfold Oper.wp execOp;simp only[q,resolve,invoke,builtin,Sem.run_bind,Sem.run_pure,Result.andThen_ok,List.map_toArray,List.map_cons,List.map_nil,g,j,Kx];exact b _ _ (h H3 c h1 h2 h3 h4)
theorem zze(n:Nat)(w:World)(hl:n<=1000000):Calls L 228 #[G none 0 0,C E n] w λe w'=>∃v,e=.returned v/\OwnE w' w.heap.size v []/\Ext w w':=by
 obtain⟨f,hi,a,b,c⟩:=info_parts ic;by_cases d:n=0
 ·subst d;go_enter func228,ntmps228
  go_wp2;go_ret;exact⟨_,rfl,World.ownsRow_nil _ _ _ _,xR _⟩
 ·go_enter func228,ntmps228
  go_wp2_with (at_builtin;refine zxr _ rfl (.tmp 20) (.tmp 21) 42 3 rfl 54 f _ underlying42 underlying3 hi a rfl b c n (by omega) hl rfl rfl ?_;intro H3 a a a a b)
  go_ret;exact⟨_,rfl,a,b⟩
def zzg(w:World)(v:Value)(a:List (List Ent)):Prop:=∃b:List Value,U b=U a/\SlR w 1 v a.length b/\∀i (h:i<U b) (h':i<U a),Es w b[i] a[i]
theorem zxX(a:List (List Ent))(k:Nat)(h:k<U a):(a.take (k+1)).flatten=(a.take k).flatten++a[k]:=by
 rw[List.take_succ_eq_append_getElem h,P5,P6,P7,P8]
theorem zyw(a:List (List Ent))(k:Nat):U (a.take k).flatten<=U a.flatten:=by
 conv=>rhs;rw[<-List.take_append_drop k a,P5]
 simp
theorem zyI(v:Value)(a:List (List Ent))(w:World)(h:zzg w v a)(hl:a.flatten.length<=1000000):
  Calls L 192 #[v] w λe w'=>∃v,e=.returned v/\OwnE w' w.heap.size v a.flatten/\Ext w w':=by
 obtain⟨f,y,x,z⟩:=h;obtain⟨A,c,rfl,h1,h2⟩:=xO x;obtain⟨O,hi,I,K,M⟩:=info_parts ic;have S:=J y;have U:f.length<=a.length:=by omega
 have V:a.length<=f.length:=by omega
 clear y;go_enter func192,ntmps192
 go_wp2_with fail
 go_loop [3,11] (λQ i=>∃k m:Nat,k<=a.length/\i=C E k/\Q=C E m/\Hid (m=(a.take k).flatten.length)) (λ_ i=>a.length-(intOf i).toNat)
 case atStart=>exact⟨0,0,Nat.zero_le _,rfl,rfl,rfl⟩
 case round=>
  obtain⟨k,m,hk,rfl,rfl,r⟩:=hrel;by_cases g:k<a.length
  ·obtain⟨_,b,H,rfl,hc⟩:=SlR.at_ x (by omega);have j:k<f.length:=by omega
   have t:=hc k f[k] (P3 j);obtain⟨A',c',l,h3,h4⟩:=xO (z k j g);rw[l]at t;have p:=zyw a (k+1);have d:=zxX a k g;rw[d,xL,<-r.out]at p;have s:=J d;generalize N:a.flatten.length=q at p hl;clear hc l d N;go_wp2_with fail
   go_round
   case rel=>exact⟨k+1,m+a[k].length,by omega,by go_num,by go_num,by show _=_;rw[s.out,xL,<-r.out]⟩
   case measure=>simp[intOf];omega
  ·have hm:=r.out;rw[P4 (by omega)]at hm;have T:m<=1000000:=by omega
   clear hm;go_wp2_with (go_at_call 228;refine(zze _ _ (by omega)).mono ?_;rintro e R⟨Y,rfl,G,H4⟩)
   go_loopw [6,27] (λP i wr=>∃k:Nat,k<=a.length/\i=C E k/\OwnE wr w.heap.size P (a.take k).flatten/\Ext w wr) (λ_ i _=>a.length-(intOf i).toNat)
   case atStart=>exact⟨0,Nat.zero_le _,rfl,G,H4⟩
   case round=>
    obtain⟨k,hk,rfl,o,n⟩:=hrel;by_cases g:k<a.length
    ·obtain⟨_,b,H,rfl,hc⟩:=SlR.at_ (SlR.ext x n) (by omega);have j:k<f.length:=by omega
     have t:=hc k f[k] (P3 j);have Kn:=(z k j g).ext n;obtain⟨A',c',l,h3,h4⟩:=xO Kn;rw[l]at t Kn;have p:=zyw a (k+1);have d:=zxX a k g;rw[d,xL]at p;have s:=J d;clear hc l d;go_wp2_with (at_builtin;refine dT _ rfl (.tmp 31) (.tmp 32) 42 rfl w.heap.size 54 O _ 3 24 underlying42 hi I K M rfl (by decide) _ _ _ rfl o _ a[k].length (ax a[k]) rfl Kn (ie _) (by unfold maxLen;omega) (by omega) n.size ?_;intro X R F D)
     go_roundw
     case rel=>
      refine⟨k+1,by omega,by go_num,?_,Ext.grownOwn n o D⟩;unfold OwnE;rw[s.out,xL,zyv];exact F
     case measure=>simp[intOf];omega
    ·have B:a.take k=a:=P4 (by omega);rw[B]at o;clear B;go_wp2_with fail;go_ret;exact⟨_,rfl,o,n⟩
theorem zyT(v:Value)(es:List Ent)(w:World)(h:Es w v es)(hl:U es<=1000000):Calls L 227 #[v] w λe w'=>∃d,e=.returned d/\OwnE w' w.heap.size d es/\Ext w w':=by
 obtain⟨A,c,rfl,h1,h2⟩:=xO h;obtain⟨d,hi,d,d,d⟩:=info_parts ic;have d:=λ(W:World)=>Lib.run_eql_slice_nil (P:=L) W;cases A with
 |none=>
  have hb:es=[]:=by
   cases d:es with
   |nil=>rfl
   |cons b l=>
    have:=(SlR.at_ h (by rw[d];simp)).2;obtain⟨_,_,e,_⟩:=this;cases e
  subst hb;simp only[List.length_nil];go_enter func227,ntmps227
  go_wp2;go_ret;exact⟨_,rfl,World.ownsRow_nil _ _ _ _,xR _⟩
 |some a=>
  have d:(w.alloc (N #[] 54)).ownsRow w.heap.size 54 3 (G (R ⟨w.heap.size,0,M⟩) 0 0) 0 []:=⟨by simp,.inr ⟨w.heap.size,0,#[],rfl,xN _,heap_alloc_new w _,xN _,by simp[maxLen],by simp,by simp⟩⟩;go_enter func227,ntmps227
  go_wp2_with (at_builtin;refine zyH rfl (.tmp 5) (.tmp 6) rfl w.heap.size (G (R ⟨w.heap.size,0,M⟩) 0 0) [] rfl d (G (some a) es.length c) es rfl (SlR.ext h ((xR w).alloc _)) (by simp;omega) (by simp) ?_;intro d d d d f)
  go_ret;exact⟨_,rfl,by simpa using d,f _ (xA (xR w) _) (xN _)⟩
theorem zyf(t:Tup)(v:Value)(w:World)(f:Es w v t.log)(hl:U t.log<=1000000):
  Calls L 224 #[.agg (bE t v)] w λe w'=>∃k base,e=.returned (.agg (bE t k))/\OwnE w' base k t.log/\Ext w w':=by
 obtain⟨s,a,g,h⟩:=t;dsimp only[bE]at f hl⊢;obtain⟨A,c,rfl,_,_⟩:=xO f;have k:=(P0 w 44 #[C E s.idx,C E s.term,C E s.sum,C E s.lvl,I s.fin,G A a.length c,C E g,C E h]).alloc (N #[C E 0,C E 0,C E 0,C E 0,I false,G none 0 0,C E 0,C E 0] 44);have l:=P0 (w.alloc (N #[C E s.idx,C E s.term,C E s.sum,C E s.lvl,I s.fin,G A a.length c,C E g,C E h] 44)) 44 #[C E 0,C E 0,C E 0,C E 0,I false,G none 0 0,C E 0,C E 0];rw[xS]at l;have m:Ext w ((w.alloc (N #[C E s.idx,C E s.term,C E s.sum,C E s.lvl,I s.fin,G A a.length c,C E g,C E h] 44)).alloc (N #[C E 0,C E 0,C E 0,C E 0,I false,G none 0 0,C E 0,C E 0] 44)):=xA (xA (xR _) _) _;have o:=J k;have q:=J l;have r:=J m;have l:=J (f.ext m);have f:=aU k;go_enter func224,ntmps224
 go_wp2_with fail
 refine(zyT _ a _ l hl).mono ?_;rintro e n⟨f,rfl,i,H4⟩;obtain⟨b,d,rfl,_,_⟩:=xO (OwnE.es i);have f:=o.ext H4;have k:=q.ext H4;have l:Blk (n.setCell ⟨w.heap.size,5,M⟩ (G b a.length d)) w.heap.size 44 #[C E s.idx,C E s.term,C E s.sum,C E s.lvl,I s.fin,G b a.length d,C E g,C E h]:=f.set 5 _;have g:=k.other (show w.heap.size+1≠w.heap.size by omega) 5 (G b a.length d);have Hk:Ext w (n.setCell ⟨w.heap.size,5,M⟩ (G b a.length d)):=P2 (p:=⟨w.heap.size,5,M⟩) (xT r H4) (xN _) _;have h:=f.frozen 5;have h:=f.cell 5 rfl;have h:=ey (j:=5) f (by decide:(44:TypeId)≠54) i (G b a.length d);have d:=J h;have a:=aU l;have a:=aU g;have a:=cS g;have a:=J g;have b:=J Hk;go_wp2_with fail
 refine bodyPost_ret (zz3 _ _ (w.heap.size+1) _ rfl (fO a _ _ _ _ _ _ _ _) rfl) rfl ?_;exact⟨_,_,rfl,dQ a d _ _ _ _ _ _ _ _,iS b (by omega) _ _ _ _ _ _ _ _⟩
theorem zye(t:Tup)(v:Value)(w:World)(b:Es w v t.log)(hl:U t.log<=1000000)(hi:0<=t.s.idx/\t.s.idx<=1073741824):Calls L 126 #[.agg (bE t v)] w λa w'=>a=.returned (C E (t.s.idx+U t.log))/\Ext w w':=by
 obtain⟨A,c,rfl,_,_⟩:=xO b;have a:=P0 w 44 (bE t (G A t.log.length c));unfold bE at *;have b:=aU a;go_enter func126,ntmps126
 go_wp2;go_ret;exact⟨by congr 2,xA (xR _) _⟩
def zxn(b:Nat)(t:Tup)(W W':World):Prop:=
 (∃v base,OwnE W' base v t.log/\Blk W' b 44 (bE t v))/\eP b W W'/\∀a ty cs,a≠b->Blk W a ty cs->Blk W' a ty cs
def zxP(t:Tup)(l:List Ent):Tup:={ t with log:=t.log++l }
theorem zzi(t:Tup)(v:Value)(l:List Ent)(r:Value)(k a:Nat)(w:World)(hb:Blk w a 44 (bE t v))(q:Es w v t.log)(p:Blk w k 42 #[r])(hl:Es w r l)(hn:k≠a)(h1:U t.log<=400000)(h2:U l<=400000):
  Calls L 191 #[O (R ⟨a,0,M⟩),O (R ⟨k,0,M⟩)] w λr w'=>r=.returned (.tuple #[])/\zxn a (zxP t l) w w':=by
 obtain⟨A,c,rfl,_,_⟩:=xO q;obtain⟨B,d,rfl,_,_⟩:=xO hl;have y:=hb.cell 5 rfl;have o:=p.cell 0 rfl;have s:=J hb;have r:=J q;have q:=J hl;have x:=J p;go_enter func191,ntmps191
 go_wp2_with fail
 refine wp_region_held_drew (S:=λW=>W.cell? ⟨k,0,M⟩=R (G B l.length d)) (by kernel_rfl) o (λ_=>?_);refine ab 0 ?_;refine ab 1 ?_;refine ab 2 ?_;refine ab 3 ?_;refine ab 5 ?_;have k:w.drew.cell? ⟨a,5,M⟩=R (G A t.log.length c):=y;refine ah 4 (λK b=>?_);go_simp;refine af b _ _ o (λ_=>?_);refine ah 6 (λK b=>?_);go_simp;have m:Ext w (w.drew.alloc (N #[G A t.log.length c,G B l.length d] 42)):=xA (xD (xR _)) _;refine af b _ _ (m.cell o) (λ_=>?_);refine ah 7 (λK b=>?_);go_simp;have k:zzg (w.drew.alloc (N #[G A t.log.length c,G B l.length d] 42)) (G (R ⟨w.heap.size,0,M⟩) 2 2) [t.log,l]:=by
  refine⟨[G A t.log.length c,G B l.length d],rfl,BO w.drew _ 42 1 2 rfl (by omega) rfl,λi hi p=>?_⟩;match i,hi with
  |0,_=>exact r.ext m
  |1,_=>exact q.ext m
 refine(zyI _ _ _ k (by simp;omega)).mono ?_;rintro e z⟨k,rfl,n,H4⟩;simp only[P6,P7,P8]at n;obtain⟨f,g,rfl,_,_⟩:=xO (OwnE.es n);rw[xL]at n;have k:=xT m H4;refine af b _ _ (k.cell o) (λ_=>?_);refine ab 8 ?_;refine ab 9 ?_;have m:=s.ext k;have p:=x.ext k;have o:=m.frozen 5;have o:=m.cell 5 rfl;have o:Hid (Blk (z.setCell ⟨a,5,M⟩ (G f (U t.log+U l) g)) a 44 (bE (zxP t l) (G f (U t.log+U l) g))):=J (m.set 5 (G f (U t.log+U l) g));have q:=J (ey (j:=5) m (by decide:(44:TypeId)≠54) n (G f (U t.log+U l) g));have m:=J (P1 p hn 5 (G f (U t.log+U l) g));have a:=J k;refine ah 10 (λK b=>?_);go_simp;refine af b _ _ (m.cell 0 rfl) (λ_=>?_);refine aq ?_;go_wp2_with fail
 go_end0;exact⟨rfl,⟨_,_,q.out,o.out⟩,zzn a 5 _,λb t cs K3 b=>P1 (b.ext a) K3 5 _⟩
theorem zza(H3:Array Value)(t f:Tup)(B:cT t=true)(v n:Value)(m l d:Nat)(w:World)(h1:U t.log<=4000000)(h2:U f.log<=4000000)(x:Blk w m 44 (bE t v))(p:Es w v t.log)(hbd:Blk w l 232 #[.func (.func 191) #[] H3])(D:Blk w d 44 (bE t n))(hn:m≠d)(n:l≠d)(z:∀W,Ext w W->Calls L 191 (#[O (R ⟨d,0,M⟩)]++H3) W λn w'=>n=.returned (.tuple #[])/\zxn d f W w'):
  Calls L 225 #[O (R ⟨m,0,M⟩),O (R ⟨l,0,M⟩),O (R ⟨d,0,M⟩)] w λn w'=>n=iZ f/\zxn d f w w':=by
 obtain⟨A,c,rfl,_,_⟩:=xO p;have y:=l8 x;have key:=LJ t _ w p h1;rw[rZ B]at key;unfold bE at key;have g:=J key;have r:=J hbd;have s:=J z;go_enter func225,ntmps225
 go_wp2_with fail
 refine g.mono ?_;rintro e C⟨rfl,H4⟩;have k:=J H4;have l:=(r.ext H4).cell 0 rfl;go_wp2_with fail
 refine(s C k).mono ?_;rintro e q⟨rfl,⟨l,l,i,j⟩,Hx,o⟩;obtain⟨l,l,rfl,_,_⟩:=xO (OwnE.es i);have y:=l8 j;have key:=LJ f _ q (OwnE.es i) h2;have l:=J j;have l:=J Hx;have l:=J o;have l:=J i;have l:∀h,Ext q h->zxn d f w h:=λh b=>⟨⟨_,_,ai i b,j.ext b⟩,λd i hl=>xT (Hx d (xT i k) hl) b,λd ty cs K3 hb=>(o _ _ _ K3 (hb.ext k)).ext b⟩;have Fin:=J l;unfold bE at key;cases a:cT f with
 |true=>
  rw[rZ a]at key;have g:=J key;go_wp2_with fail
  refine g.mono ?_;rintro e h⟨rfl,b⟩;have d:=J b;go_wp2_with fail
  go_end0;exact⟨(rZ a).symm,Fin _ d⟩
 |false=>
  rw[iY a]at key;have g:=J key;go_wp2_with fail
  refine g.mono ?_;rintro e h⟨rfl,b⟩;exact⟨rfl,(iY a).symm,Fin _ b⟩
theorem zy9(H3:Array Value)(t c:Tup)(F:cT t=true)(v r:Value)(m l a:Nat)(w:World)(h1:U t.log<=4000000)(h2:U c.log<=4000000)(z:Blk w m 44 (bE t v))(B:Es w v t.log)(hbd:Blk w l 232 #[.func (.func 191) #[] H3])(q:Blk w a 44 (bE t r))(hn:m≠a)(A:l≠a)(D:∀W,Ext w W->Calls L 191 (#[O (R ⟨a,0,M⟩)]++H3) W λd w'=>d=.returned (.tuple #[])/\zxn a c W w'):
  Calls L 86 #[.func (.func 225) #[] #[O (R ⟨m,0,M⟩),O (R ⟨l,0,M⟩),O (R ⟨a,0,M⟩)]] w λd w'=>d=.returned (C E (if cT c then 0 else 2))/\zxn a c w w':=by
 have d:∀(fn:Fn) (first H3:Array Value) (w:World),(Instr.makeFunc fn first H3).run L w=.ok (.func fn first H3) w:=λ_ _ _ _=>rfl;have d:Ext w (w.alloc (N #[C E 0] 45)):=xA (xR _) _;have he:=P0 w 45 #[C E 0];have H:a<w.heap.size:=q.lt;have key:=zza H3 t c F v r m l a _ h1 h2 (z.ext d) (B.ext d) (hbd.ext d) (q.ext d) hn A (λW h=>D W (xT d h));have l:=J d;have o:=J he;have d:∀(x:Value) (g:World),zxn a c (w.alloc (N #[C E 0] 45)) g->zxn a c w (g.setCell ⟨w.heap.size,0,M⟩ x):=by
  rintro x g⟨⟨A,n1,b,r⟩,z,m⟩;have q:=m _ _ _ (by omega:w.heap.size≠a) o;refine⟨⟨A,n1,ey (j:=0) q (by decide:(45:TypeId)≠54) b x,r.other (by omega) 0 _⟩,λr q hl=>P2 (p:=⟨w.heap.size,0,M⟩) (z r (xT q l) hl) q.size _,λq ty cs K3 hb=>P1 (m _ _ _ K3 (hb.ext l)) (by have:=hb.lt;omega) 0 _⟩
 have Fin:=J d;cases k:cT c with
 |false=>
  rw[iY k]at key;have n:=J key;go_enter_defers func86,ntmps86
  go_wp2_with fail
  refine n.mono ?_;rintro e g⟨rfl,i⟩;have b:=i.2.2 _ _ _ (by omega:w.heap.size≠a) o;refine leaves_cons (f:=152) (args:=#[O (R ⟨w.heap.size,0,M⟩)]) (by simp) (by simp[go_sem]) ?_;refine(Ir ⟨w.heap.size,0,M⟩ _ 2 [] _ (b.cell 0 rfl) (b.frozen 0)).mono ?_;rintro e G c⟨rfl,rfl,rfl⟩;have hs:=b.set 0 (C E 2);have hc:=hs.cell 0 rfl;simp[Leaves,settle,results,results86,go_sem,hc];exact Fin _ _ i
 |true=>
  rw[rZ k]at key;have n:=J key;go_enter_defers func86,ntmps86
  go_wp2_with fail
  refine n.mono ?_;rintro e g⟨rfl,i⟩;have b:=i.2.2 _ _ _ (by omega:w.heap.size≠a) o;have a:=b.frozen 0;have a:=b.cell 0 rfl;have y:=J b;have s:=J i;go_wp2_with fail
  refine leaves_cons (f:=152) (args:=#[O (R ⟨w.heap.size,0,M⟩)]) (by simp) (by simp[go_sem]) ?_;refine(EO ⟨w.heap.size,0,M⟩ _).mono ?_;rintro e G a⟨rfl,rfl,rfl⟩;have hs:=y.set 0 (C E 0);have hc:(g.setCell ⟨w.heap.size,0,M⟩ (C E 0)).cell? ⟨w.heap.size,0,M⟩=R (C E 0):=hs.cell 0 rfl;simp[Leaves,settle,results,results86,go_sem,hc];exact Fin _ _ s
def ybG(H3:Array Value)(t c:Tup)(w:World):Prop:=∀W b a,Ext w W->w.heap.size<=b->Es W a t.log->Blk W b 44 (bE t a)->Calls L 191 (#[O (R ⟨b,0,M⟩)]++H3) W λa w'=>a=.returned (.tuple #[])/\zxn b c W w'
theorem zzI(H3:Array Value)(t B:Tup)(hr:cT t=true)(v:Value)(w:World)(o:Es w v t.log)(Kv:U t.log<=400000)(KW:U B.log<=1000000)(hF:ybG H3 t B w):
  Calls L 186 #[.agg (bE t v),.func (.func 191) #[] H3] w λen w'=>∃t2 X c2,en=.returned (.tuple #[.agg (bE t2 (G X t2.log.length c2)),C E (if cT B then 0 else 2)])/\Ext w w':=by
 have KX:∀(fn:Fn) (first H3:Array Value) (w:World),(Instr.makeFunc fn first H3).run L w=.ok (.func fn first H3) w:=λ_ _ _ _=>rfl;obtain⟨s,a,b,d⟩:=t;obtain⟨V,M,P,Q⟩:=B;dsimp only at o Kv KW;obtain⟨A,c,rfl,_,_⟩:=xO o;have KQ:=o;unfold bE;obtain⟨g,k⟩:∃g,((w.alloc (N #[C E s.idx,C E s.term,C E s.sum,C E s.lvl,I s.fin,G A a.length c,C E b,C E d] 44)).alloc (N #[.func (.func 191) #[] H3] 232)).alloc (N #[C E 0,C E 0,C E 0,C E 0,I false,G none 0 0,C E 0,C E 0] 44)=g:=⟨_,rfl⟩;have K:Ext w g:=by rw[<-k];exact xA (xA (xA (xR _) _) _) _
 have T:Blk g w.heap.size 44 #[C E s.idx,C E s.term,C E s.sum,C E s.lvl,I s.fin,G A a.length c,C E b,C E d]:=by rw[<-k];exact((P0 w _ _).alloc _).alloc _
 have h1:Blk g (w.heap.size+1) 232 #[.func (.func 191) #[] H3]:=by
  rw[<-k];have:=(P0 (w.alloc (N #[C E s.idx,C E s.term,C E s.sum,C E s.lvl,I s.fin,G A a.length c,C E b,C E d] 44)) 232 #[.func (.func 191) #[] H3]).alloc (N #[C E 0,C E 0,C E 0,C E 0,I false,G none 0 0,C E 0,C E 0] 44);rwa[xS]at this
 have h2:Blk g (w.heap.size+1+1) 44 #[C E 0,C E 0,C E 0,C E 0,I false,G none 0 0,C E 0,C E 0]:=by
  rw[<-k];have:=P0 ((w.alloc (N #[C E s.idx,C E s.term,C E s.sum,C E s.lvl,I s.fin,G A a.length c,C E b,C E d] 44)).alloc (N #[.func (.func 191) #[] H3] 232)) 44 #[C E 0,C E 0,C E 0,C E 0,I false,G none 0 0,C E 0,C E 0];rwa[xS,xS]at this
 have S:=aU T;have HE:=J (o.ext K);have Hi:=J K;have H0:=J T;have Y:=J h1;have Z:=J h2;have HF:=J hF;have HR:=J hr;have KK:=J KQ;clear K T h1 h2 hF hr o KQ;go_enter func186,ntmps186
 go_wp2_with fail
 refine(zyf ⟨s,a,b,d⟩ _ _ HE (by dsimp only;omega)).mono ?_;rintro e w1⟨v1,n1,rfl,r,H4⟩;dsimp only[bE]at r⊢;obtain⟨i,m,rfl,_,_⟩:=xO (OwnE.es r);have n:=Z.ext H4;have y:=cS n;have z:=aU n;have q:=J (fO n (C E s.idx) (C E s.term) (C E s.sum) (C E s.lvl) (I s.fin) (G i a.length m) (C E b) (C E d));have G1:=J (dB (Y.ext H4) (by omega:w.heap.size+1≠w.heap.size+1+1) (C E s.idx) (C E s.term) (C E s.sum) (C E s.lvl) (I s.fin) (G i a.length m) (C E b) (C E d));have p:=J (dB (H0.ext H4) (by omega:w.heap.size≠w.heap.size+1+1) (C E s.idx) (C E s.term) (C E s.sum) (C E s.lvl) (I s.fin) (G i a.length m) (C E b) (C E d));have j:=J (iS (xT Hi H4) (by omega:w.heap.size<=w.heap.size+1+1) (C E s.idx) (C E s.term) (C E s.sum) (C E s.lvl) (I s.fin) (G i a.length m) (C E b) (C E d));have D:=J (OwnE.es (dQ n (H4:=(by decide:(44:TypeId)≠54)) r (C E s.idx) (C E s.term) (C E s.sum) (C E s.lvl) (I s.fin) (G i a.length m) (C E b) (C E d)));have F:=J (KK.ext j);clear k n H4 r H0 Y Z Hi HE S;go_wp2_with fail;unfold aY at q G1 p j D F;refine(zy9 H3 ⟨s,a,b,d⟩ ⟨V,M,P,Q⟩ HR _ _ _ _ _ _ (by dsimp only;omega) (by dsimp only;omega) p F G1 q (by omega) (by omega) (λW h=>HF.out W _ _ (xT j h) (by omega) (D.ext h) (q.ext h))).mono ?_;rintro e w2⟨rfl,⟨v2,n2,Hn,l⟩,Hx,Hp⟩;have J5:=J (Hp _ _ _ (by omega:w.heap.size≠w.heap.size+1+1) p);have Hk:=Hx w j (by omega);obtain⟨X,c2,rfl,_,_⟩:=xO (OwnE.es Hn);dsimp only[bE]at l;clear Hx Hp p G1 q j D F Hn y z;have y:=cS l;have z:=aU l;have HH:=J l;have O:=J Hk;clear l Hk;by_cases f:cT ⟨V,M,P,Q⟩=true
 case pos=>
  simp only[f,eq_self_iff_true,if_true];go_wp2_with fail
  refine bodyPost_ret (zyS _ _ (w.heap.size+1+1) _ _ rfl rfl (fO HH _ _ _ _ _ _ _ _) rfl) rfl ?_;exact⟨⟨⟨V,M,P,Q⟩,_,_,rfl⟩,iS O (by omega) _ _ _ _ _ _ _ _⟩
 case neg=>
  rw[Bool.not_eq_true]at f;simp only[f,Bool.false_eq_true,if_false];have S:=aU J5;go_wp2_with fail
  refine(zyf ⟨s,a,b,d⟩ _ _ (KK.ext O) (by dsimp only;omega)).mono ?_;rintro e w3⟨v3,n3,rfl,R,H⟩;dsimp only[bE]at R⊢;obtain⟨A3,c3,rfl,_,_⟩:=xO (OwnE.es R);have x:=HH.ext H;clear S;clear y z;have y:=cS x;have z:=aU x;have K8:=J x;have Kh:=J (xT O H);clear x H R;go_wp2_with fail
  all_goals first
   |(exfalso;rename_i h9;rw[f]at h9;cases h9)
   |(refine bodyPost_ret (zyS _ _ (w.heap.size+1+1) _ _ rfl rfl (fO K8 _ _ _ _ _ _ _ _) rfl) rfl ?_;exact⟨⟨⟨s,a,b,d⟩,_,_,rfl⟩,iS Kh (by omega) _ _ _ _ _ _ _ _⟩)
theorem zz2(tmps:Array Value)(W:World)(b:Nat)(cs:Array Value)(u:Value)(h4:tmps.getD 4 undef=O (R ⟨b,0,M⟩))(h5:tmps.getD 5 undef=u)(hb:Blk W b 44 cs)(hs:cs.size=8):(results Tryz.f137 tmps).run L W=.ok (.tuple #[.agg cs,u]) W:=by
 have hl:=hb.load (P:=L) oG rfl (by rw[hs];kernel_rfl);have a:tmps[4]?.getD undef=O (R ⟨b,0,M⟩):=by simpa using h4
 have c:tmps[5]?.getD undef=u:=by simpa using h5
 simp[results,results137,a,c,asAddr,hl]
theorem zys(t:Tup)(q:cT t=true)(l:List Ent)(v h:Value)(w:World)(k:Es w v t.log)(m:Es w h l)(i:U t.log<=300000)(j:U l<=300000):
  Calls L 137 #[.agg (bE t v),h] w λh w'=>∃u,h=.returned (.tuple #[u,C E (if cT (zxP t l)then 0 else 2)])/\Ext w w':=by
 have h:∀(fn:Fn) (first H3:Array Value) (w:World),(Instr.makeFunc fn first H3).run L w=.ok (.func fn first H3) w:=λ_ _ _ _=>rfl;obtain⟨s,a,f,g⟩:=t;dsimp only at k i;obtain⟨A,c,rfl,_,_⟩:=xO k;obtain⟨B,d,rfl,_,_⟩:=xO m;have h:=m;unfold bE;obtain⟨h,i⟩:∃h,((w.alloc (N #[C E s.idx,C E s.term,C E s.sum,C E s.lvl,I s.fin,G A a.length c,C E f,C E g] 44)).alloc (N #[G B l.length d] 42)).alloc (N #[C E 0,C E 0,C E 0,C E 0,I false,G none 0 0,C E 0,C E 0] 44)=h:=⟨_,rfl⟩;have j:Ext w h:=by rw[<-i];exact xA (xA (xA (xR _) _) _) _
 have n:Blk h w.heap.size 44 #[C E s.idx,C E s.term,C E s.sum,C E s.lvl,I s.fin,G A a.length c,C E f,C E g]:=by rw[<-i];exact((P0 w _ _).alloc _).alloc _
 have h1:Blk h (w.heap.size+1) 42 #[G B l.length d]:=by
  rw[<-i];have:=(P0 (w.alloc (N #[C E s.idx,C E s.term,C E s.sum,C E s.lvl,I s.fin,G A a.length c,C E f,C E g] 44)) 42 #[G B l.length d]).alloc (N #[C E 0,C E 0,C E 0,C E 0,I false,G none 0 0,C E 0,C E 0] 44);rwa[xS]at this
 have h2:Blk h (w.heap.size+1+1) 44 #[C E 0,C E 0,C E 0,C E 0,I false,G none 0 0,C E 0,C E 0]:=by
  rw[<-i];have:=P0 ((w.alloc (N #[C E s.idx,C E s.term,C E s.sum,C E s.lvl,I s.fin,G A a.length c,C E f,C E g] 44)).alloc (N #[G B l.length d] 42)) 44 #[C E 0,C E 0,C E 0,C E 0,I false,G none 0 0,C E 0,C E 0];rwa[xS,xS]at this
 have h:=aU n;have i:=J (k.ext j);have p:=J j;have H0:=J n;have h:=J h1;have o:=J h2;have k:=J (m.ext j);have j:=J q;go_enter func137,ntmps137
 go_wp2_with fail
 refine(zzI #[O (R ⟨w.heap.size+1,0,M⟩)] ⟨s,a,f,g⟩ (zxP ⟨s,a,f,g⟩ l) j _ _ i (by dsimp only;omega) (by unfold zxP;simp;omega) (λW b j i m he hb=>zzi ⟨s,a,f,g⟩ j l _ (w.heap.size+1) b W hb he (h.ext i) (k.ext i) (by have:=h.lt;omega) (by dsimp only;omega) (by omega))).mono ?_;rintro e a⟨⟨a,a,a,a⟩,a,a,rfl,H4⟩;dsimp only[bE];have a:=o.ext H4;have f:=cS a;have f:=aU a;have f:=J a;have a:=J (xT p H4);go_wp2_with fail
 all_goals
  refine bodyPost_ret (zz2 _ _ (w.heap.size+1+1) _ _ rfl rfl (fO f _ _ _ _ _ _ _ _) rfl) rfl ?_;exact⟨⟨_,rfl⟩,iS a (by omega) _ _ _ _ _ _ _ _⟩
open Go.RowKit Go.Mv Go.Shelf
theorem zwP{b:Nat}{t:TypeId}{A:Option Addr}{n c:Nat}{B:Option Addr}{m e:Nat}{q f:Int}{d:Bool}(hb:Blk W b t (ap A n c B m e q f d)){v:Value}{D:Dk}(h:DkV W v D)(a i g j k:Value):DkV (aK W b a i g j k) v D:=by
 obtain⟨x,y,h1,h2,h3⟩:=h;exact⟨x,y,h1,Fs.setBox hb h2 a i g j k,Qs.setBox hb h3 a i g j k⟩
def yaw(W:World)(b:Nat)(D:Dk):Prop:=∃A c B e,Blk W b 25 (ap A D.fs.length c B D.q.length e D.quota D.fuse D.dead)/\DkV W (.agg (ap A D.fs.length c B D.q.length e D.quota D.fuse D.dead)) D
def zyp(F:Nat)(H3:Array Value)(d d':Dk)(w:World):Prop:=∀W v,Ext w W->DkV W v d->Calls L F (#[v]++H3) W λa w'=>∃u,a=.returned (.tuple #[u,C E 0])/\DkV w' u d'/\Ext W w'
def dk2(d a b:Dk)(k:Nat):Dk:=if k=0 then d else if k=1 then a else b
theorem ybj(tmps:Array Value)(W:World)(b:Nat)(cs:Array Value)(u:Value)(h4:tmps.getD 4 undef=O (R ⟨b,0,M⟩))(h5:tmps.getD 5 undef=u)(hb:Blk W b 25 cs)(hs:cs.size=5):(results Tryz.f196 tmps).run L W=.ok (.tuple #[.agg cs,u]) W:=by
 have hl:=hb.load (P:=L) em rfl (by rw[hs];kernel_rfl);have a:tmps[4]?.getD undef=O (R ⟨b,0,M⟩):=by simpa using h4
 have c:tmps[5]?.getD undef=u:=by simpa using h5
 simp[results,results196,a,c,asAddr,hl]
theorem zzj(b f:Array Value)(v:Value)(x:Nat)(D:Nat)(d r s:Dk)(w:World)(hD:DkV w v d)(hL:SlR w 1 (G (R ⟨x,0,M⟩) 2 D) 2 [.func (.func 199) #[] b,.func (.func 200) #[] f])(h1:zyp 199 b d r w)(h2:zyp 200 f r s w):
  Calls L 196 #[v,G (R ⟨x,0,M⟩) 2 D] w λQ w'=>∃u,Q=.returned (.tuple #[u,C E 0])/\DkV w' u s/\Ext w w':=by
 have KN:=hD;obtain⟨b,b,rfl,hF,hQ⟩:=hD;obtain⟨A,c,rfl,_,_⟩:=Fs.open_ hF;obtain⟨B,e,rfl,_,_⟩:=Qs.open_ hQ;obtain⟨a,b⟩:∃a,(w.alloc (N #[G A d.fs.length c,G B d.q.length e,C E d.quota,C E d.fuse,I d.dead] 25)).alloc (N #[G none 0 0,G none 0 0,C E 0,C E 0,I false] 25)=a:=⟨_,rfl⟩;have D:Ext w a:=by rw[<-b];exact xA (xA (xR _) _) _
 have h0:Blk a w.heap.size 25 #[G A d.fs.length c,G B d.q.length e,C E d.quota,C E d.fuse,I d.dead]:=by rw[<-b];exact(P0 w _ _).alloc _
 have f:Blk a (w.heap.size+1) 25 #[G none 0 0,G none 0 0,C E 0,C E 0,I false]:=by
  rw[<-b];have:=P0 (w.alloc (N #[G A d.fs.length c,G B d.q.length e,C E d.quota,C E d.fuse,I d.dead] 25)) 25 #[G none 0 0,G none 0 0,C E 0,C E 0,I false];rwa[xS]at this
 have b:=ae h0;have eb:=ae f;have b:∀k,a.frozen? ⟨w.heap.size+1,k,M⟩=false:=λk=>f.frozen k;have S:=J f;have Z:=J D;have KJ:=J (KN.ext D);have b:=J hL;have S1:=J h1;have S2:=J h2;go_enter func196,ntmps196
 go_wp2_with fail;obtain⟨_,f,f,U,T⟩:=SlR.at_ b (by decide);cases U;have X:w.cell? ⟨x,0,M⟩=_:=T 0 _ rfl;have Y:w.cell? ⟨x,1,M⟩=_:=T 1 _ rfl;have L0:=J X;have L1:=J Y;have b:=J (show yaw (aK a (w.heap.size+1) (G A d.fs.length c) (G B d.q.length e) (C E d.quota) (C E d.fuse) (I d.dead)) (w.heap.size+1) d from⟨A,c,B,e,aT S _ _ _ _ _,zwP (A:=none) (n:=0) (c:=0) (B:=none) (m:=0) (e:=0) S KJ _ _ _ _ _⟩);have f:=J (show Ext w (aK a (w.heap.size+1) (G A d.fs.length c) (G B d.q.length e) (C E d.quota) (C E d.fuse) (I d.dead))from aS Z (by omega) _ _ _ _ _);unfold aK at b f;go_loopw [5,11] (λa i W=>∃k:Nat,k<=2/\i=C E k/\a=C E 0/\Hid (yaw W (w.heap.size+1) (dk2 d r s k))/\Hid (Ext w W)) (λ_ i _=>2-(intOf i).toNat)
 case atStart=>exact⟨0,by decide,rfl,rfl,b,f⟩
 case round=>
  obtain⟨k,hk,rfl,rfl,KI,g⟩:=hrel;obtain⟨a,a,a,U,a,b⟩:=KI;obtain⟨F,t⟩:∃D,dk2 d r s k=D:=⟨_,rfl⟩;rw[t]at a b;have o:=J a;unfold ap at a;have eb:=ae a;have Kf:=J b;by_cases Hp:k=2
  ·subst Hp;obtain rfl:s=F:=t;have V:=aH o;go_wp2_with fail
   refine bodyPost_ret (ybj _ _ (w.heap.size+1) _ _ rfl rfl (aT o _ _ _ _ _) rfl) rfl ?_;exact⟨_,rfl,zwP o Kf _ _ _ _ _,aS g (by omega) _ _ _ _ _⟩
  ·have a:k=0\/k=1:=by omega
   rcases a with rfl | rfl
   ·obtain rfl:d=F:=t;have X:=g.cell L0;go_wp2_with fail
    refine(S1 wr _ g Kf).mono ?_;rintro Q w3⟨u,rfl,p,l⟩;obtain⟨y,O,z,P,rfl⟩:=zwZ p;have h:=o.ext l;have V:=aH h;have ed:=ae h;have j:=J h;have H:=J p;have K:=J (xT g l);go_wp2_with fail
    exact⟨⟨1,by decide,rfl,rfl,⟨y,O,z,P,aT j _ _ _ _ _,zwP j H _ _ _ _ _⟩,aS K (by omega) _ _ _ _ _⟩,by simp[intOf]⟩
   ·obtain rfl:r=F:=t;have Y:=g.cell L1;go_wp2_with fail
    refine(S2 wr _ g Kf).mono ?_;rintro Q w3⟨u,rfl,p,l⟩;obtain⟨y,O,z,P,rfl⟩:=zwZ p;have h:=o.ext l;have V:=aH h;have ed:=ae h;have j:=J h;have H:=J p;have K:=J (xT g l);go_wp2_with fail
    exact⟨⟨2,by decide,rfl,rfl,⟨y,O,z,P,aT j _ _ _ _ _,zwP j H _ _ _ _ _⟩,aS K (by omega) _ _ _ _ _⟩,by simp[intOf]⟩
theorem Fs.setBox1{b k:Nat}{t:TypeId}{A:Option Addr}{n c:Nat}{B:Option Addr}{m e:Nat}{q f:Int}{d:Bool}(hb:Blk W b t (ap A n c B m e q f d)){v:Value}{fs:List Fil}(h:Fs W v fs)(x:Value):Fs (W.setCell ⟨b,k,M⟩ x) v fs:=by
 obtain⟨l,h1,h2⟩:=h;refine⟨l,?_,λi hi=>?_⟩
 ·obtain⟨hl,A',c',rfl,l,o,hc⟩:=h1;refine⟨hl,A',c',rfl,l,o,λg=>?_⟩;obtain⟨r,p,rfl,a⟩:=hc g;refine⟨r,p,rfl,λj u l=>eG (a j u l) ?_⟩;rintro rfl;rcases ng (nv hb (a 0 _ (h2 0 g).1))with⟨x,hx⟩|⟨_,_,_,hx⟩|⟨_,hx⟩<;>cases hx
 ·obtain⟨h3,u,h4,h5⟩:=h2 i hi;exact⟨h3,u,h4,lN h5 hb aQ⟩
theorem rh(tmps:Array Value)(W:World)(b:Nat)(cs:Array Value)(e:Value)(h4:tmps.getD 2 undef=O (R ⟨b,0,M⟩))(h3:tmps.getD 3 undef=e)(hb:Blk W b 25 cs)(hs:cs.size=5):(results Tryz.f56 tmps).run L W=.ok (.tuple #[.agg cs,e]) W:=by
 have a:tmps[2]?.getD undef=O (R ⟨b,0,M⟩):=by simpa using h4
 have c:tmps[3]?.getD undef=e:=by simpa using h3
 have hl:=hb.load (P:=L) em rfl (by rw[hs];kernel_rfl);simp[results,results56,a,c,asAddr,hl,Sem.run_bind,Sem.run_pure,Result.andThen_ok]
structure Sy4 (w W:World) (A1:Option Addr) (c1:Nat) (B1:Option Addr) (e1:Nat) (d:Dk):Prop where
 b0:Blk W w.heap.size 25 (ap A1 d.fs.length c1 B1 d.q.length e1 d.quota d.fuse d.dead)
 b2:Blk W (w.heap.size+1) 25 (ap none 0 0 none 0 0 0 0 false)
 f:Fs W (G A1 d.fs.length c1) d.fs
 q:Qs W (G B1 d.q.length e1) d.q
 e:Ext w W
theorem Sy4.ext{w W':World}{b:Option Addr}{g:Nat}{c:Option Addr}{i:Nat}{d:Dk}(h:Sy4 w W b g c i d)(a:Ext W W'):Sy4 w W' b g c i d:=
 ⟨h.b0.ext a,h.b2.ext a,h.f.ext a,h.q.ext a,xT h.e a⟩
theorem AW{d:Dk}{m:Int}(h:d.may=m)(hm:m≠0):d.syncS=(d,m):=by
 subst h;unfold Dk.syncS;rw[if_pos hm]
theorem yS(v:Value)(d:Dk)(w:World)(hD:DkV w v d)(hl:U d.fs+U d.q<=800000)(hb:tot d.fs+aL d.q<=800000)(KT:d.fuse<=9223372036854775807):
  Calls L 56 #[v] w λe w'=>(∃u,e=.returned (.tuple #[u,C E (d.syncS).2])/\DkV w' u (d.syncS).1)/\Ext w w':=by
 obtain⟨R,R,rfl,hF,hQ⟩:=hD;obtain⟨A,c,rfl,_,_⟩:=Fs.open_ hF;obtain⟨B,e2,rfl,_,_⟩:=Qs.open_ hQ;obtain⟨R,H7⟩:∃R,(w.alloc (N #[G A d.fs.length c,G B d.q.length e2,C E d.quota,C E d.fuse,I d.dead] 25)).alloc (N #[G none 0 0,G none 0 0,C E 0,C E 0,I false] 25)=R:=⟨_,rfl⟩;have H8:Ext w R:=by rw[<-H7];exact xA (xA (xR _) _) _
 have h0:Blk R w.heap.size 25 (ap A d.fs.length c B d.q.length e2 d.quota d.fuse d.dead):=by rw[<-H7];exact(P0 w _ _).alloc _
 have h2:Blk R (w.heap.size+1) 25 (ap none 0 0 none 0 0 0 0 false):=by
  rw[<-H7];have:=P0 (w.alloc (N #[G A d.fs.length c,G B d.q.length e2,C E d.quota,C E d.fuse,I d.dead] 25)) 25 #[G none 0 0,G none 0 0,C E 0,C E 0,I false];rwa[xS]at this
 have Jt:=fR d;have Ju:=lY d;have key:=mU (T #[G A d.fs.length c,G B d.q.length e2,C E d.quota,C E d.fuse,I d.dead]) d R ⟨_,_,rfl,hF.ext H8,hQ.ext H8⟩ (by omega) (by omega);have Ha:=J key;have Hi:=J H8;have H0:=J h0;have H2:=J h2;have J8:=J KT;obtain⟨S,R⟩:∃S,d.syncS=S:=⟨_,rfl⟩;have P:=J R;rw[R];obtain⟨y,z,F,K,t⟩:=ae h0;clear R key h0 h2 hF hQ H8 KT;go_enter func56,ntmps56
 go_wp2_with fail;clear H7;refine Ha.mono ?_;rintro e w1⟨u,rfl,⟨i,j,h,b,rfl,R,J1⟩,H4⟩;have o:=H0.ext H4;have H:Hid (Sy4 w (aK w1 w.heap.size (G i d.fs.length j) (G h d.q.length b) (C E d.quota) (C E d.fuse) (I d.dead)) i j h b d):=by
  have Hc:=H2.ext H4;refine⟨aT o _ _ _ _ _,((((Hc.other (by omega) 0 _).other (by omega) 1 _).other (by omega) 2 _).other (by omega) 3 _).other (by omega) 4 _,OwnF.fs (OwnF.box1 R o),OwnQ.qs (OwnQ.box1 J1 o),aS (xT Hi H4) (xN w.heap.size) _ _ _ _ _⟩
 have key:=yx _ d _ (show DkV (aK w1 w.heap.size (G i d.fs.length j) (G h d.q.length b) (C E d.quota) (C E d.fuse) (I d.dead)) (T #[G i d.fs.length j,G h d.q.length b,C E d.quota,C E d.fuse,I d.dead]) d from⟨_,_,rfl,H.f,H.q⟩) (by omega) (by omega) (by omega);have HQ:=J key;have ea:=aH o;clear y z F K t;obtain⟨y,z,F,K,t⟩:=ae o;clear key R J1 o H4 Ha H0 H2 Hi;go_wp2_with fail
 refine HQ.mono ?_;rintro e w2⟨rfl,Hk⟩;replace H:=J (H.ext Hk);clear y z F K t Hk HQ ea;obtain⟨y,z,F,K,t⟩:=ae H.b0;rcases hr:d.right with _ | _
 case false=>
  have b:S=(d,2):=by rw[<-P.out,AW (m:=2) (by unfold Dk.may;rw[hr];rfl) (by decide)]
  subst b;clear P;have a:=H.b2;have x:=Fs.setBox a H.f (G i d.fs.length j) (G h d.q.length b) (C E d.quota) (C E d.fuse) (I d.dead);have Hq:=Qs.setBox a H.q (G i d.fs.length j) (G h d.q.length b) (C E d.quota) (C E d.fuse) (I d.dead);have V:=J (aT a (G i d.fs.length j) (G h d.q.length b) (C E d.quota) (C E d.fuse) (I d.dead));have Y:=J (aS H.e (by omega:w.heap.size<=w.heap.size+1) (G i d.fs.length j) (G h d.q.length b) (C E d.quota) (C E d.fuse) (I d.dead));have Z:=J x;have HP:=J Hq;have eb:=ae a;have ec:=aH a;clear a x Hq;go_wp2_with fail
  refine bodyPost_ret (rh _ _ _ _ _ rfl rfl V rfl) rfl ?_;exact⟨⟨_,rfl,⟨_,_,rfl,Z.out,HP.out⟩⟩,Y.out⟩
 rcases g:d.dead with _ | _
 case true=>
  have b:S=(d,40):=by rw[<-P.out,AW (m:=40) (by unfold Dk.may;rw[hr,g];rfl) (by decide)]
  subst b;clear P hr;rw[g]at t;have X:=J g;clear g;have a:=H.b2;have x:=Fs.setBox a H.f (G i d.fs.length j) (G h d.q.length b) (C E d.quota) (C E d.fuse) (I true);have Hq:=Qs.setBox a H.q (G i d.fs.length j) (G h d.q.length b) (C E d.quota) (C E d.fuse) (I true);have V:=J (aT a (G i d.fs.length j) (G h d.q.length b) (C E d.quota) (C E d.fuse) (I true));have Y:=J (aS H.e (by omega:w.heap.size<=w.heap.size+1) (G i d.fs.length j) (G h d.q.length b) (C E d.quota) (C E d.fuse) (I true));have Z:=J x;have HP:=J Hq;have eb:=ae a;have ec:=aH a;clear a x Hq;go_wp2_with fail
  refine bodyPost_ret (rh _ _ _ _ _ rfl rfl V rfl) rfl ?_;exact⟨⟨_,rfl,⟨_,_,by rw[X.out],Z.out,HP.out⟩⟩,Y.out⟩
 rw[g]at t;have b:S=(Dk.burn { d with fs:=d.now,q:=[] },0):=by rw[<-P.out];unfold Dk.syncS;rw[if_neg (by rw[show d.may=0 by unfold Dk.may;rw[hr,g];rfl];decide)]
 subst b;have X:=J g;clear hr g P;have key:=lH _ d w2 (show DkV w2 (T #[G i d.fs.length j,G h d.q.length b,C E d.quota,C E d.fuse,I false]) d from⟨_,_,by rw[X.out],H.f,H.q⟩) (by omega) (by omega);have Ha:=J key;clear key;go_wp2_with fail
 refine Ha.mono ?_;rintro e w4⟨⟨g,rfl,Ka⟩,KO⟩;obtain⟨r,s,rfl,_,_⟩:=Fs.open_ Ka;replace H:=J (H.ext KO);clear Ha KO y z F K t;obtain⟨n,g⟩:∃l,d.now=l:=⟨_,rfl⟩;rw[g]at Ka⊢;have J9:=J g;clear g;have o:=H.b0;have g:Blk (w4.setCell ⟨w.heap.size,0,M⟩ (G r n.length s)) w.heap.size 25 (ap r n.length s h d.q.length b d.quota d.fuse d.dead):=o.set 0 (G r n.length s);have Q:=Fs.setBox1 (k:=1) g (Fs.setBox1 (k:=0) o Ka (G r n.length s)) (G none 0 0);have Hc:Blk ((w4.setCell ⟨w.heap.size,0,M⟩ (G r n.length s)).setCell ⟨w.heap.size,1,M⟩ (G none 0 0)) w.heap.size 25 (ap r n.length s none 0 0 d.quota d.fuse d.dead):=g.set 1 (G none 0 0);have O:Qs ((w4.setCell ⟨w.heap.size,0,M⟩ (G r n.length s)).setCell ⟨w.heap.size,1,M⟩ (G none 0 0)) (G none 0 0) []:=⟨[],SlR.nil _ 4,RowOf.nil⟩;have h:Ext w ((w4.setCell ⟨w.heap.size,0,M⟩ (G r n.length s)).setCell ⟨w.heap.size,1,M⟩ (G none 0 0)):=P2 (p:=⟨w.heap.size,1,M⟩) (P2 (p:=⟨w.heap.size,0,M⟩) H.e (xN _) _) (xN _) _;have b:=((H.b2.other (by omega:w.heap.size+1≠w.heap.size) 0 (G r n.length s)).other (by omega:w.heap.size+1≠w.heap.size) 1 (G none 0 0));have key:=sT (T #[G r n.length s,G none 0 0,C E d.quota,C E d.fuse,I false]) { d with fs:=n,q:=[] } _ ⟨_,_,by rw[X.out],Q,O⟩ J8;have KB:=J key;have OE:=J h;have B2:=J b;obtain⟨y,z,F,K,t⟩:=ae o;have ea:=aH o;rw[X.out]at t;clear key g o Q Hc O h b Ka H;go_wp2_with fail
 refine KB.mono ?_;rintro e b⟨⟨u,rfl,Hj⟩,Hr⟩;obtain⟨D,Km⟩:∃D,Dk.burn { d with fs:=n,q:=[] }=D:=⟨_,rfl⟩;rw[Km]at Hj;have J7:=J Km;obtain⟨b,b,rfl,Q,O⟩:=Hj;obtain⟨Af,cf,rfl,_,_⟩:=Fs.open_ Q;obtain⟨Aq,cq,rfl,_,_⟩:=Qs.open_ O;have a:=B2.ext Hr;have x:=Fs.setBox a Q (G Af D.fs.length cf) (G Aq D.q.length cq) (C E D.quota) (C E D.fuse) (I D.dead);have Hq:=Qs.setBox a O (G Af D.fs.length cf) (G Aq D.q.length cq) (C E D.quota) (C E D.fuse) (I D.dead);have V:=J (aT a (G Af D.fs.length cf) (G Aq D.q.length cq) (C E D.quota) (C E D.fuse) (I D.dead));have Y:=J (aS (xT OE Hr) (by omega:w.heap.size<=w.heap.size+1) (G Af D.fs.length cf) (G Aq D.q.length cq) (C E D.quota) (C E D.fuse) (I D.dead));have Z:=J x;have HP:=J Hq;clear y z F K t ea;have eb:=ae a;have ec:=aH a;clear a x Hq Q O Hr Km KB OE B2;go_wp2_with fail
 refine bodyPost_ret (rh _ _ _ _ _ rfl rfl V rfl) rfl ?_;rw[J9.out];show(∃u,_=Ending.returned (.tuple #[u,C E 0])/\DkV _ u (Dk.burn { d with fs:=n,q:=[] }))/\_;rw[J7.out];exact⟨⟨_,rfl,⟨_,_,rfl,Z.out,HP.out⟩⟩,Y.out⟩
