/- Merged -/
import Derived.Test.YteggfecbjgbndaaGreatDoorZy20
import Derived.Test.YteggfecbjgbndaaGreatDoorZy25
set_option linter.all false
set_option maxHeartbeats 8000000
set_option maxRecDepth 100000
open Go.Proofs.Tryz
open Go.Value renaming slice->G,int->H,string->R
open Go.Proofs.Tryz renaming prog->I
open Go.Mv renaming aN->M
open Go.Obj renaming cells->O
open Option renaming some->U,none->g
open Go.IntKind renaming u8->V,i64->y
open List renaming push_toArray->P0,cons_append->P1,length_nil->P2,append_toArray->P3,size_toArray->P4,foldl_cons->P5,getD_eq_getElem?_getD->P6,getElem?_eq_getElem->P7,getElem?_drop->P8,append_assoc->P9,length_drop->Pa,length_map->Pb,map_cons->Pc
open Go.Mv.Blk renaming new->Pd
open Array renaming replicate_zero->Pe,replicate_succ->Pf
open Nat renaming reduceAdd->Pg,le_trans->Ph,reduceSub->Pi,lt_of_lt_of_le->Pj
open Option renaming getD_some->Pk,isSome_some->Pl
open Bool renaming eq_false_iff->Pm
open Go.World renaming block_lt_of_cell?->Pn,alloc_heap_new->Po,cell?->Pp
open Go.Op renaming equalIn->Pq,maxDepth->Pr,equal->Ps
namespace Go.Proofs.YteggfecbjgbndaaGreatDoor
open Go.RowKit Go.Mv Go.Shelf
variable {l:List Fil} {r:Nat} {P:Prop} {W w w':World}
def fj(fs:List Fil):Nat->List (Nat×Fil)
 |0=>[]
 |k+1=>(k,fs.getD k ([],[]))::fj fs k
theorem Bm(fs:List Fil):∀k,k<=fs.length->(fj fs k).map (·.2)=(fs.take k).reverse
 |0,_=>rfl
 | k+1,h=>by
  rw[fj,Pc,Bm fs k (by omega),List.take_succ_eq_append_getElem (by omega),List.reverse_append];simp[P6,P7 (show k<fs.length by omega)]
theorem NI{b A B:World}{n:Nat}(h:Hold b A)(d:Kept (am (λ_ o=>o.isCells=true) n) A B):Hold b B:=λq u b=>by
 refine d.cell (h q u b) λo d=>?_;obtain⟨e,a,c⟩:=cells_of_cell (h q u b);rw[d]at a;cases a;exact .inl c
attribute [local go_sem] Oper.semAt_some in
theorem Ij(t i:World)(v:Value)(fs:List Fil)(F:Fs t v fs)(Y:fs.length<=4000000)(hH:Hold t i)(B:Nat)(V:Boxed i B 22 v)(h1:∀p u,t.cell? p=U u->p.block<i.heap.size):
  Seq I 250 #[.pointer (U ⟨B,0,g⟩)] (λ(x:Nat×Fil) av W=>∃C d,av = #[H y x.1,.agg #[sv x.2.1,G C x.2.2.length d]]/\Bs W (G C x.2.2.length d) x.2.2) (λ_ o=>o.isCells=true) (λ_ _=>False) (fj fs fs.length) i:=by
 intro l J Y Y Y s h0;obtain⟨A,c,rfl,Y,Y⟩:=Fs.open_ F;refine(callsIn_wd (ro:=none) (n:=9)).1 ?_;refine callsIn_of_wp func250 rfl trivial ?_ rfl;simp only[ntmps250,P4,xC,P2,Pg,Pi,Pf,Pe,P0,P3,xI,P1];have Z:=M F;clear F;obtain⟨a,F⟩:∃a,fj fs fs.length=a:=⟨_,rfl⟩;rw[F]at s⊢;have Y:=M F;have q:=V.cell;clear F;gi_wp2;clear q;gi_loopw [3] (λj W=>∃(z:Int) (H3:List (Nat×Fil)),j=H y z/\-1<=z/\z<fs.length/\Hid (a=H3++fj fs (z+1).toNat)/\Hid (J H3 W)/\Hold t W/\Boxed W B 22 (G A fs.length c)/\i.heap.size<=W.heap.size) (λj _=>(intOf j+1).toNat)
 case atStart=>exact⟨(fs.length:Int)-1,[],by go_num,by omega,by omega,by rw[show((fs.length:Int)-1+1).toNat=fs.length from by omega];exact Y.symm,h0,hH,V,xN _⟩
 case round=>
  obtain⟨z,H3,rfl,i,i,E,L,D,T,N⟩:=hrel;by_cases hz:0<=z
  ·obtain⟨k,rfl⟩:=Int.eq_ofNat_of_zero_le hz;have O:k<fs.length:=by omega
   obtain⟨_,b,X,rfl,hc⟩:=(Z.keep D).at_ (by omega);obtain⟨R,i,F,S,t⟩:=hc k O;have f:=E.out;rw[show((k:Int)+1).toNat=k+1 from by omega,fj,show fs.getD k ([],[])=fs[k]from by simp[P6,P7 O]]at f;have K:=M f;have O:=M s;have J:=M t;clear hc f s t;generalize fs[k]=x at *;have t:=O H3 (k,x) _ K wr #[H y (k:Int),.agg #[sv x.1,G i x.2.length F]] L N ⟨i,F,rfl,J.out⟩;have Q:=M t;have KU:=M D;have q:=T.cell;clear t D;simp only[sv]at *;gi_wp2;refine ew Q.out ?_;rintro e W' ⟨h,⟨rfl,m⟩|⟨rfl,m⟩⟩
   ·refine⟨true,rfl,?_⟩;have D:Boxed W' B 22 (G (U ⟨b,X,g⟩) fs.length c):=h.boxed T (.inl rfl);have t:=Ph N h.size;have B:=M (NI KU h);have i:=M m;have Kw:a=(H3++[(k,x)])++fj fs k:=by rw[P9];exact K.out
    have a:=M Kw;clear m h Kw Q R S q;gi_wp2;exact⟨⟨(k:Int)-1,H3++[(k,x)],by go_num,by omega,by omega,by rw[show((k:Int)-1+1).toNat=k from by omega];exact a.out,i.out,B.out,D,t⟩,by simp[intOf]⟩
   refine⟨false,rfl,?_⟩;have i:=M m;clear m h R S q;gi_wp2;refine bodyPost_ret (results_none rfl _ _ _) rfl ?_;refine⟨⟨_,rfl⟩,.inr ⟨H3++[(k,x)],?_,i.out⟩⟩;exact⟨fj fs k,by rw[P9];exact K.symm⟩
  ·obtain rfl:z = -1:=by omega
   have f:=E.out;rw[show((-1:Int)+1).toNat=0 from rfl,show fj fs 0=[]from rfl,List.append_nil]at f;subst f;clear E s;gi_wp2;refine bodyPost_end (results_none rfl _ _ _) rfl ?_;exact⟨⟨_,rfl⟩,.inl L.out⟩
theorem Mw(A:Option Addr)(n c:Nat)(w:World):Calls I 214 #[G A n c] w λe w'=>e=.returned (.func (.func 250) #[] #[.pointer (U ⟨w.heap.size,0,g⟩)])/\w.alloc (O #[G A n c] 22)=w':=by
 go_enter func214,ntmps214
 go_wp2;go_ret;exact⟨rfl,rfl⟩
theorem FMap.putObj{D:Nat}(h:FMap W r l)(hD:r≠D){o:Obj}(c:W.heap[D]?=U o)(hc:o.isCells=false)(a:Obj):FMap (W.putObj D a) r l:=
 h.keep2 (λ_ _ hb=>(World.putObj_heap_other hD).trans hb) (λ_ _ b=>fL b c hc a)
def lc(H3:List (Nat×Fil)):List Fil:=H3.foldl (λm x=>aX x.2.1 x.2.2 m) []
theorem FA(H3:List (Nat×Fil))(x:Nat×Fil):lc (H3++[x])=aX x.2.1 x.2.2 (lc H3):=by unfold lc;rw[List.foldl_append];rfl
theorem Ls(fs:List Fil):lc (fj fs fs.length)=dq fs:=by
 have h1:∀(l:List (Nat×Fil)) (m:List Fil),l.foldl (λm x=>aX x.2.1 x.2.2 m) m=(l.map (·.2)).foldl (λm p=>aX p.1 p.2 m) m:=by
  intro l;induction l with
  |nil=>intro m;rfl
  |cons a l ih=>intro m;rw[P5,Pc,P5,ih]
 have h2:∀l:List Fil,l.foldr (λp m=>aX p.1 p.2 m) []=dq l:=by
  intro l;induction l with
  |nil=>rfl
  |cons a l ih=>rw[List.foldr_cons,ih];rfl
 unfold lc;rw[h1,Bm fs _ (xN _),List.take_length,List.foldl_reverse,h2]
def TfI(w:World)(H3:List (Nat×Fil))(X:World):Prop:=FMap X w.heap.size (lc H3)/\Boxed X (w.heap.size+1) 142 (.map (some w.heap.size))/\Ext w X
attribute [local go_sem] Oper.semAt_some in
theorem Ik(v:Value)(fs:List Fil)(w:World)(z:Fs w v fs)(hl:fs.length<=2000000):Calls I 162 #[v] w λe w'=>∃r,e=.returned (.map (some r))/\FMap w' r (dq fs)/\w.heap.size<=r/\Ext w w':=by
 obtain⟨A,c,rfl,_,_⟩:=Fs.open_ z;have F:=M z;clear z;have K:=@run_makeMap I;refine(callsIn_wd (ro:=none) (n:=9)).1 ?_;refine callsIn_of_wp_marks func162 rfl trivial ?_ rfl;simp only[ntmps162,P4,xC,P2,Pg,Pi,Pf,Pe,P0,P3,xI,P1];gi_wp2_with (refine⟨trivial,?_⟩;gi_at_call 214;refine(callsIn_wd.2 (Mw _ _ _ _)).mono ?_;rintro e w' ⟨rfl,rfl⟩)
 have E:Boxed (((w.alloc (.map #[] 0)).alloc (O #[.map (some w.heap.size)] 142)).alloc (O #[G A fs.length c] 22)) (w.heap.size+1) 142 (.map (some w.heap.size)):=by
  have:=(Boxed.new (w.alloc (.map #[] 0)) 142 (.map (some w.heap.size))).alloc (O #[G A fs.length c] 22);rwa[xS]at this
 have R:Boxed (((w.alloc (.map #[] 0)).alloc (O #[.map (some w.heap.size)] 142)).alloc (O #[G A fs.length c] 22)) (w.heap.size+1+1) 22 (G A fs.length c):=by
  have:=Boxed.new ((w.alloc (.map #[] 0)).alloc (O #[.map (some w.heap.size)] 142)) 22 (G A fs.length c);rwa[xS,xS]at this
 have B:Ext w (((w.alloc (.map #[] 0)).alloc (O #[.map (some w.heap.size)] 142)).alloc (O #[G A fs.length c] 22)):=xA (xA (xA (xR _) _) _) _;have z:FMap (((w.alloc (.map #[] 0)).alloc (O #[.map (some w.heap.size)] 142)).alloc (O #[G A fs.length c] 22)) w.heap.size []:=(FMap.new w).ext (xA (xA (xR _) _) _);have N:TfI w [] (((w.alloc (.map #[] 0)).alloc (O #[.map (some w.heap.size)] 142)).alloc (O #[G A fs.length c] 22)):=⟨z,E,B⟩;have S:(((w.alloc (.map #[] 0)).alloc (O #[.map (some w.heap.size)] 142)).alloc (O #[G A fs.length c] 22)).heap.size=w.heap.size+3:=by simp
 clear z E K;generalize((w.alloc (.map #[] 0)).alloc (O #[.map (some w.heap.size)] 142)).alloc (O #[G A fs.length c] 22)=w3 at *;refine dV (a:=⟨_,_⟩) rfl (enters_of func250 (by kernel_rfl) rfl)
  (λW1 hb hs=>Ij w W1 _ fs F (by omega) (λq u z=>Ext.cell (xT B hb) z) (w.heap.size+1+1) (R.kept (row:=none) (Ext.grown hb none) (by simp)) (λp u z=>by have:=Pn _ _ z;omega))
  (λk o h=>h.elim) (λk o h=>h) (λx L W h=>by obtain⟨C,d,rfl,_⟩:=h;rfl)
  (TfI w) (λ_ _ _=>False) ?hI (λ_ _ _ _ h _=>h) N
  (λx a' W=>∃m C d,a'=⟨#[G A fs.length c,undef,.map none,.pointer (U ⟨w.heap.size+1,0,g⟩),undef,.pointer (U ⟨m,0,g⟩),.map (some w.heap.size),G A fs.length c,.func (.func 250) #[] #[.pointer (U ⟨w.heap.size+1+1,0,g⟩)],H y x.1,.agg #[sv x.2.1,G C x.2.2.length d],undef,undef,undef,undef,undef,undef],[]⟩/\Blk W m 68 #[sv x.2.1,G C x.2.2.length d]/\Bs W (G C x.2.2.length d) x.2.2)
  ?hAx ?assign ?body ?done ?stop
 case hI=>
  rintro s X Y⟨hf,hb,f⟩hm;refine⟨hf.moves hm (by omega),hm.boxed hb ?_,hm.belowOf f ?_ (xN _)⟩
  ·rintro(h | h)
   ·exact h
   cases h.2
  rintro k o z(h | h)
  ·exact h
  have:=h.1;omega
 case hAx=>
  rintro x a' X Y⟨m,C,d,rfl,hb,i⟩hm;refine⟨m,C,d,rfl,hm.same _ _ hb ?_,Bs.moves i hm⟩;rintro(h | h)
  ·exact h
  cases h.2
 case assign=>
  rintro Q H3 x Kb W L z hx⟨hf,hb,f⟩J⟨C,d,rfl,i⟩t;simp only[sv]at *;gi_wp2;exact t _ _ (Kept.refl.alloc _) ⟨hf.ext (xA (xR _) _),hb.alloc _,xA f _⟩ ⟨_,C,d,rfl,Pd _ _ _,Bs.ext i (xA (xR _) _)⟩
 case body=>
  rintro Q H3⟨j,n,b⟩Kb a' W hx z z⟨hf,hb,f⟩J⟨m,C,d,rfl,m,i⟩;dsimp only at *;obtain⟨z,z⟩:=iF m;have m:=hb.cell;simp only[sv]at *;gi_wp2_with (gi_at_mapUpdate;refine CD rfl (.tmp 11) (.tmp 13) (.tmp 15) rfl underlying142 underlying9 w.heap.size (lc H3) rfl hf n rfl _ b rfl i ?_;intro i m i)
  refine⟨Kept.mt Kept.refl i ?_,by rw[FA];exact m,i.blk hb,i.ext f (xN _)⟩;rintro o D(h | h)
  ·obtain⟨es,i,i,_⟩:=hf;rw[i]at D;cases D;cases h
  have:=h.1;omega
 case done=>
  rintro D W hD⟨hf,hb,f⟩t;have hc:=hb.cell;gi_wp2;refine dh t _ (results_tmp rfl _ _ _) ?_;exact⟨w.heap.size,rfl,by rw[<-Ls];exact hf.putObj (by omega) t rfl _,xN _,cp f _⟩
 case stop=>
  rintro D f H3 W _ _ h _;exact h.elim
theorem mcDDeeda0(h:P:=by
 go_wp2_with (at_lookup;refine nJ rfl (.tmp 7) (.tmp 9) true rfl Tryz.underlying142 Tryz.underlying9 (nq _) r l rfl HM n rfl ?_;rw[Hn.out];intro A1 c1 He;simp only[Option.getD_none,Option.isSome_none,if_true,P2])
 refine bodyPost_end (results_none rfl _ _ _) rfl ?_;exact⟨rfl,HM.out,HG.out⟩):P:=h
structure Mg (w w':World) (r:Nat):Prop where
 os:w'.os=w.os
 tape:w'.tape=w.tape
 output:w'.output=w.output
 size:w.heap.size<=w'.heap.size
 block:∀ k,k<w.heap.size->k≠r->w'.heap[k]?=w.heap[k]?
 no:∀ cs t f,w.heap[r]?≠some (O cs t f)
theorem OP(h:FMap w r l):∀cs t f,w.heap[r]?≠some (O cs t f):=by
 obtain⟨es,c,hb,_⟩:=h;intro cs t f e;rw[hb]at e;cases e
theorem Mg.of_ext(h:Ext w w')(hm:FMap w r l):Mg w w' r:=⟨h.os,h.tape,h.output,h.size,λk a _=>h.block k a,OP hm⟩
theorem MT.mg(h:MT w w' r):Mg w w' r:=⟨h.os,h.tape,h.output,Nat.le_of_eq h.size.symm,λk _ a=>h.block k a,h.no⟩
theorem Mg.trans{a b c:World}(h:Mg a b r)(k:Mg b c r):Mg a c r:=⟨k.os.trans h.os,k.tape.trans h.tape,k.output.trans h.output,Ph h.size k.size,λi e d=>(k.block i (Pj e h.size) d).trans (h.block i e d),h.no⟩
theorem Mg.cell(h:Mg w w' r){p:Addr}{u:Value}(hc:w.cell? p=U u):w'.cell? p=U u:=by
 have:p.block≠r:=by
  intro e;unfold Pp at hc;rw[e]at hc;split at hc
  ·rename_i h1;exact h.no _ _ _ h1
  cases hc
 have a:=Pn _ _ hc;unfold Pp at hc⊢;rw[h.block _ a this];exact hc
theorem Mg.qs(h:Mg w w' r){v:Value}{l:List Oq}(a:Qs w v l):Qs w' v l:=by
 obtain⟨xs,h1,h2⟩:=a;exact⟨xs,SlR.keep h1 λ_ _ hc=>h.cell hc,h2.keep dy (h2.fresh dy) λ_ _ hc _=>h.cell hc⟩
theorem Mg.ext{b:World}(h:Mg w w' r)(a:Ext b w)(c:b.heap.size<=r):Ext b w':=
 ⟨h.os.trans a.os,h.tape.trans a.tape,h.output.trans a.output,Ph a.size h.size,λk b=>(h.block k (Pj b a.size) (by omega)).trans (a.block k b)⟩
theorem nq(w:World):(zeroValue 33).run I w=.ok (G none 0 0) w:=by kernel_rfl
def iA(w:World)(r:Nat)(l:List Fil)(e:Ending)(w':World):Prop:=e=.returned (.tuple #[])/\FMap w' r l/\Mg w w' r
theorem LO(r:Nat)(l:List Fil)(o:Oq)(v:Value)(w:World)(a:FMap w r l)(e:Bs w v o.b):Calls I 251 #[.map (some r),.agg #[H V o.k,sv o.n,sv o.t,v]] w (iA w r (aX o.n [] l)):=by
 obtain⟨k,n,t,b⟩:=o;dsimp only at *;obtain⟨A,c,rfl,_,_⟩:=xO e;have d:Ext w (w.alloc (O #[H V k,sv n,sv t,G A b.length c] 98)):=xA (xR _) _;obtain⟨f,f,f,f⟩:=blk4 (Pd w 98 #[H V k,sv n,sv t,G A b.length c]);have g:=M (a.ext d);have f:=M (Mg.of_ext d a);clear d a e;simp only[sv]at *;go_enter func251,ntmps251
 go_wp2_with (at_mapUpdate;refine sX rfl (.tmp 4) (.tmp 6) (.const (G none 0 0)) rfl underlying142 underlying9 r l rfl g n rfl _ [] rfl (SlR.nil _ 1) ?_;intro a d a)
 refine bodyPost_end (results_none rfl _ _ _) rfl ?_;exact⟨rfl,d,f.trans a.mg⟩
theorem LR(r:Nat)(l:List Fil)(o:Oq)(v:Value)(w:World)(a:FMap w r l)(e:Bs w v o.b):Calls I 254 #[.map (some r),.agg #[H V o.k,sv o.n,sv o.t,v]] w (iA w r (aV o.n l)):=by
 obtain⟨k,n,t,b⟩:=o;dsimp only at *;obtain⟨A,c,rfl,_,_⟩:=xO e;have d:Ext w (w.alloc (O #[H V k,sv n,sv t,G A b.length c] 98)):=xA (xR _) _;obtain⟨f,f,f,f⟩:=blk4 (Pd w 98 #[H V k,sv n,sv t,G A b.length c]);have g:=M (a.ext d);have f:=M (Mg.of_ext d a);clear d a e;simp only[sv]at *;go_enter func254,ntmps254
 go_wp2_with (at_delete;refine sW rfl (.tmp 4) (.tmp 6) rfl underlying142 underlying9 r l rfl g n rfl ?_;intro a d a)
 refine bodyPost_end (results_none rfl _ _ _) rfl ?_;exact⟨rfl,d,f.trans a.mg⟩
theorem LQ(r:Nat)(l:List Fil)(o:Oq)(v:Value)(w:World)(d:FMap w r l)(f:Bs w v o.b):Calls I 253 #[.map (some r),.agg #[H V o.k,sv o.n,sv o.t,v]] w (iA w r (match ak o.n l with | none=>l | some b=>aX o.t b (aV o.n l))):=by
 obtain⟨k,n,t,b⟩:=o;dsimp only at *;obtain⟨A,c,rfl,_,_⟩:=xO f;have e:Ext w (w.alloc (O #[H V k,sv n,sv t,G A b.length c] 98)):=xA (xR _) _;have a:=Pd w 98 #[H V k,sv n,sv t,G A b.length c];obtain⟨h,h,h,h⟩:=blk4 a;have HM:=M (d.ext e);have HG:=M (Mg.of_ext e d);have g:=M a;clear e d f a;simp only[sv]at *;cases hg:ak n l with
 |none=>
  have Hn:=M hg;clear hg;go_enter func253,ntmps253
  exact mcDDeeda0
 |some fb=>
  have Hn:=M hg;clear hg;go_enter func253,ntmps253
  go_wp2_with (first
   |(at_lookup;refine nJ rfl (.tmp 7) (.tmp 9) true rfl underlying142 underlying9 (nq _) r l rfl HM n rfl ?_;rw[Hn.out];intro A1 c1 He;simp only[Pk,Pl,if_true]at He⊢)
   |(at_delete;refine sW rfl (.tmp 14) (.tmp 16) rfl underlying142 underlying9 r l rfl HM n rfl ?_;intro a d a;have e:=(blk4 (a.blk g.out)).2.2.1)
   |(at_mapUpdate;refine sX rfl (.tmp 17) (.tmp 19) (.tmp 20) rfl underlying142 underlying9 r _ rfl d t rfl _ fb rfl (a.bs He) ?_;intro d e d))
  refine bodyPost_end (results_none rfl _ _ _) rfl ?_;exact⟨rfl,e,HG.trans (a.mg.trans d.mg)⟩
theorem EQ{P:Program}{T K E:TypeId}{o:Oper}{a:Act}{c:Act->World->Prop}{Q:Exit->Act->World->Prop}(m x v:Operand)(d:o.op=Op.mapUpdate T m x v)(g:P.underlying T=U (.map K E))(f:P.underlying K=U .string)(r:Nat)(l:List Fil)(hm:a.eval m=.map (some r))(e:FMap w r l)(n:List UInt8)(hx:a.eval x=sv n)(u:Value)(b:List UInt8)(i:a.eval v=u)(hb:Bs w u b)(h:∀w',FMap w' r (aX n b l)->MT w w' r->c (a.put o.dst undef) w'):Oper.wp P o a w c Q:=by
 obtain⟨w',c,h1,h2⟩:=e.update g f n hb;unfold Oper.wp;simp[execOp,d,hm,hx,i,c,Result.andThen];exact h w' h1 h2
theorem LP(r:Nat)(l:List Fil)(o:Oq)(v:Value)(w:World)(p:FMap w r l)(m:Bs w v o.b)(hl:((ak o.n l).getD []).length+o.b.length<=70000000):Calls I 252 #[.map (some r),.agg #[H V o.k,sv o.n,sv o.t,v]] w (iA w r (match ak o.n l with | none=>l | some b=>aX o.n (b++o.b) l)):=by
 obtain⟨k,n,t,b⟩:=o;dsimp only at *;obtain⟨A,c,rfl,_,_⟩:=xO m;have a:Ext w (w.alloc (O #[H V k,sv n,sv t,G A b.length c] 98)):=xA (xR _) _;have j:=Pd w 98 #[H V k,sv n,sv t,G A b.length c];obtain⟨z,f,B,i⟩:=blk4 j;have HM:=M (p.ext a);have HG:=M (Mg.of_ext a p);have E:=M j;have x:=M (m.ext a);clear a p m j;simp only[sv]at *;cases hg:ak n l with
 |none=>
  have Hn:=M hg;clear hg hl;go_enter func252,ntmps252
  exact mcDDeeda0
 |some fb=>
  rw[hg]at hl;simp only[Pk]at hl;have Hn:=M hg;have m:=M hl;clear hg hl;go_enter func252,ntmps252
  go_wp2_with (at_lookup;refine nJ rfl (.tmp 7) (.tmp 9) true rfl underlying142 underlying9 (nq _) r l rfl HM n rfl ?_;rw[Hn.out];intro A1 c1 He;simp only[Pk,Pl,if_true]at He⊢)
  have p:=M He;clear He;refine wp_region_held_drew (S:=λW=>W.cell? ⟨w.heap.size,1,g⟩=U (R ⟨n.toArray⟩)/\W.cell? ⟨w.heap.size,3,g⟩=U (G A b.length c)) (by kernel_rfl) ⟨f,i⟩ (λ_=>?_);refine ab 0 ?_;refine ab 1 ?_;refine ab 2 ?_;refine ab 3 ?_;refine ab 4 ?_;refine ab 5 ?_;refine ah 6 (λK d=>?_);go_simp;have a:Ext (w.alloc (O #[H V k,R ⟨n.toArray⟩,R ⟨t.toArray⟩,G A b.length c] 98)) ((w.alloc (O #[H V k,R ⟨n.toArray⟩,R ⟨t.toArray⟩,G A b.length c] 98)).alloc (O #[G A1 fb.length c1,G A b.length c] 33)).drew:=xD (xA (xR _) _);have j:Parts ((w.alloc (O #[H V k,R ⟨n.toArray⟩,R ⟨t.toArray⟩,G A b.length c] 98)).alloc (O #[G A1 fb.length c1,G A b.length c] 33)).drew (G (U ⟨w.heap.size+1,0,g⟩) 2 2) [fb,b]:=by
   have:=Parts.ext (PM p x.out) (xD (xR _));rwa[xS]at this
  have y:=M a;have p:=M j;have q:=M f;have s:=M i;refine af d _ _ ⟨a.cell f,a.cell i⟩ (λ_=>?_);clear a j z f B i;refine ah 7 (λK d=>?_);go_simp;refine(pG _ [fb,b] _ p (by have:=m.out;simp;omega)).mono ?_;rintro e D⟨C,rfl,f,j⟩;rw[show[fb,b].flatten=fb++b from by simp]at f;have i:Bs D C (fb++b):=xW f;have m:=M i;have a:=M (xT y j);clear f j i;refine af d _ _ ⟨a.cell q.out,a.cell s.out⟩ (λ_=>?_);refine ah 8 (λK d=>?_);refine EQ (.tmp 14) (.tmp 16) (.tmp 21) (by rfl) underlying142 underlying9 r l (by rfl) (HM.ext a.out) n (by rfl) _ (fb++b) (by rfl) m.out ?_;intro f i f;refine af d _ _ ⟨f.cell (a.cell q.out),f.cell (a.cell s.out)⟩ (λ_=>?_);refine aq ?_;go_wp2_with fail
  refine bodyPost_end (results_none rfl _ _ _) rfl ?_;exact⟨rfl,i,HG.trans ((Mg.of_ext a HM.out).trans f.mg)⟩
def ddMap:Array MapEntry:=#[{ key:=H V 1,val:=.func (.func 251) #[] #[],born:=0 },{ key:=H V 2,val:=.func (.func 252) #[] #[],born:=1 },
 { key:=H V 3,val:=.func (.func 253) #[] #[],born:=2 },{ key:=H V 4,val:=.func (.func 254) #[] #[],born:=3 }]
theorem pq(w:World)(es:Array MapEntry)(c:Nat)(n:Int)(v:Value)(hn:Instr.findNow (.int .u8) (H V n) es.toList 0=U none):
  (Instr.mapUpdate 262 (.map (some w.heap.size)) (H V n) v).run I (w.alloc (.map es c))=.ok () (w.alloc (.map (es.push { key:=H V n,val:=v,born:=c }) (c+1))):=
 nP w .u8 underlying262 underlying5 es c n v hn
theorem yo(w:World):Calls I 215 #[] w λe w'=>e=.returned (.map (some w.heap.size))/\w.alloc (.map ddMap 4)=w':=by
 have a:=@run_makeMap I;have a:=pq w #[] 0 1 (.func (.func 251) #[] #[]) rfl;have h1:=pq w #[{ key:=H V 1,val:=.func (.func 251) #[] #[],born:=0 }] 1 2 (.func (.func 252) #[] #[]) rfl;have h2:=pq w #[{ key:=H V 1,val:=.func (.func 251) #[] #[],born:=0 },{ key:=H V 2,val:=.func (.func 252) #[] #[],born:=1 }] 2 3 (.func (.func 253) #[] #[]) rfl;have h3:=pq w #[{ key:=H V 1,val:=.func (.func 251) #[] #[],born:=0 },{ key:=H V 2,val:=.func (.func 252) #[] #[],born:=1 },{ key:=H V 3,val:=.func (.func 253) #[] #[],born:=2 }] 3 4 (.func (.func 254) #[] #[]) rfl;simp only[P0,xI,P1,Pg]at a h1 h2 h3;go_enter func215,ntmps215
 go_wp2;go_ret;exact⟨rfl,rfl⟩
def eC(k:Int):Value:=if k=1 then .func (.func 251) #[] #[]else if k=2 then .func (.func 252) #[] #[]else if k=3 then .func (.func 253) #[] #[]else if k=4 then .func (.func 254) #[] #[]else .nilFunc
theorem tA(k:Int)(W:World)(r:Nat)(h:W.heap[r]?=U (.map ddMap 4)):
  (Instr.lookup 262 (.map (some r)) (H V k) false).run I W=.ok (eC k) W:=by
 have key:∃f,Instr.findNow (.int .u8) (H V k) ddMap.toList 0=U f/\(f.map (·.2)).getD .nilFunc=eC k:=by
  by_cases h1:k=1
  ·subst h1;exact⟨_,rfl,rfl⟩
  by_cases h2:k=2
  ·subst h2;exact⟨_,rfl,rfl⟩
  by_cases h3:k=3
  ·subst h3;exact⟨_,rfl,rfl⟩
  by_cases h4:k=4
  ·subst h4;exact⟨_,rfl,rfl⟩
  refine⟨none,?_,?_⟩
  ·have e1:(k==1)=false:=by simp[h1]
   have e2:(k==2)=false:=by simp[h2]
   have e3:(k==3)=false:=by simp[h3]
   have a:(k==4)=false:=by simp[h4]
   simp[ddMap,Instr.findNow,Instr.sameNow,e1,e2,e3,a]
  simp[eC,h1,h2,h3,h4]
 obtain⟨f,hf,a⟩:=key;have:=tr (P:=I) W .u8 underlying262 underlying5 ddMap 4 k .nilFunc (by kernel_rfl) h f hf;rw[this,a]
theorem mcDDonea0(h:P:=by
 all_goals
  refine wpIn_goto ?_;try simp only[Exit.then]
  refine bI ⟨⟨q1,_,_,bW l1 ⟨ok,on,ot,ob⟩,_,_,_,_,_,_,_,_,_,_,_,_,_,_,_,_,_,_,_,_,_,?_,rfl⟩,by simp[lenOf]⟩;refine⟨Hq,?_,Kd.out,Hm.trans Hf,by have h9:=tc l1 ⟨ok,on,ot,ob⟩;have:=K3.out;dsimp only at h9;omega,Kr⟩;first
   |exact Qs.tail (Hf.qs HV.out) _ (λ_=>rfl)
   |(have h9:=Qs.tail (Hf.qs HV.out) (U ⟨b,H7,g⟩) (λh=>by omega);rwa[show c1-1=0 from by omega]at h9)):P:=h
theorem Qs.tail{b a c:Nat}{o:Oq}{q:List Oq}(h:Qs W (G (U ⟨b,a,g⟩) (o::q).length c) (o::q))(A:Option Addr)(m:0<q.length->A=U ⟨b,a+4,g⟩):Qs W (G A q.length (c-1)) q:=by
 obtain⟨xs,h1,h2⟩:=h;obtain⟨hl,A',c',e,d,p,f⟩:=h1;cases e;have hx:xs.length=(q.length+1)*4:=by rw[hl];rfl
 refine⟨xs.drop 4,⟨by rw[Pa,hx];omega,A,c-1,rfl,by simp at d;omega,by omega,λhn=>?_⟩,by rw[Pa,hx];omega,λk n=>?_⟩
 ·obtain⟨d,d,e',hc⟩:=f (Nat.succ_pos _);cases e';refine⟨b,a+4,m hn,λj u a=>?_⟩;rw[P8]at a;have:=hc (4+j) u a;rwa[<-Nat.add_assoc]at this
 ·have:=h2.2 (k+1) (by simpa using n);have e:(λi=>if i<4 then(xs.drop 4)[k*4+i]? else none)=λi=>if i<4 then xs[(k+1)*4+i]? else none:=by
   funext i
   split
   ·rw[P8];congr 1
    omega
   rfl
  rw[e];simpa using this
theorem OH(r:Nat)(l:List Fil)(o:Oq)(v:Value)(w:World)(c:FMap w r l)(a:Bs w v o.b)(d:o.k=1):Calls I 251 #[.map (some r),.agg #[H V o.k,sv o.n,sv o.t,v]] w (iA w r (bW l o)):=by
 have:=LO r l o v w c a;unfold bW;rwa[if_pos d]
theorem OI(r:Nat)(l:List Fil)(o:Oq)(v:Value)(w:World)(c:FMap w r l)(a:Bs w v o.b)(hl:tot l+o.b.length<=70000000)(d:o.k=2):Calls I 252 #[.map (some r),.agg #[H V o.k,sv o.n,sv o.t,v]] w (iA w r (bW l o)):=by
 have:=LP r l o v w c a (by have:=FV o.n l;omega);unfold bW;rwa[if_neg (by omega),if_pos d]
theorem OJ(r:Nat)(l:List Fil)(o:Oq)(v:Value)(w:World)(c:FMap w r l)(a:Bs w v o.b)(d:o.k=3):Calls I 253 #[.map (some r),.agg #[H V o.k,sv o.n,sv o.t,v]] w (iA w r (bW l o)):=by
 have:=LQ r l o v w c a;unfold bW;rwa[if_neg (by omega),if_neg (by omega),if_pos d]
theorem OK(r:Nat)(l:List Fil)(o:Oq)(v:Value)(w:World)(c:FMap w r l)(a:Bs w v o.b)(d:o.k=4):Calls I 254 #[.map (some r),.agg #[H V o.k,sv o.n,sv o.t,v]] w (iA w r (bW l o)):=by
 have:=LR r l o v w c a;unfold bW;rwa[if_neg (by omega),if_neg (by omega),if_neg (by omega),if_pos d]
theorem FQ{o:Oq}(h1:o.k≠1)(h2:o.k≠2)(h3:o.k≠3)(h4:o.k≠4):bW l o=l:=by
 unfold bW;rw[if_neg h1,if_neg h2,if_neg h3,if_neg h4]
theorem BB(f:Nat)(W:World):(binOp BinOp.neq 261 (.func (.func f) #[] #[]) .nilFunc).run I W=.ok (.bool true) W:=by
 have h:∀d:Nat,(Pq (d+1) 261 (.func (.func f) #[] #[]) .nilFunc).run I W=.ok false W:=λd=>by
  simp[Pq,run_underlying underlying261]
 simp only[binOp];simp[Ps,Pr,h 9999]
theorem BG(W:World):(binOp BinOp.neq 261 .nilFunc .nilFunc).run I W=.ok (.bool false) W:=by
 have h:∀d:Nat,(Pq (d+1) 261 .nilFunc .nilFunc).run I W=.ok true W:=λd=>by
  simp[Pq,run_underlying underlying261]
 simp only[binOp];simp[Ps,Pr,h 9999]
def lenOf:Value->Nat
 |G _ n _=>n
 |_=>0
structure DnI (r:Nat) (T:List Fil) (w:World) (q:List Oq) (v:Value) (l:List Fil) (W:World):Prop where
 fm:FMap W r l
 qs:Qs W v q
 ft:q.foldl bW l=T
 mg:Mg w W r
 bb:tot l+aL q<=70000000
 ll:q.length<=2000000
def DnR(r:Nat)(T:List Fil)(w:World)(a:Act)(W:World):Prop:=
 ∃(q:List Oq) (A:Option Addr) (c:Nat) (l:List Fil) (u5 u6 u7 u8 u9 Kz KA KB KC KD KE KF KH KI KJ KK KL KM KN KO KP:Value),Hid (DnI r T w q (G A q.length c) l W)/\a=⟨#[.map (some r),G A q.length c,undef,undef,.map none,u5,u6,u7,u8,u9,Kz,KA,KB,KC,KD,KE,KF,KH,KI,KJ,KK,KL,KM,KN,KO,KP],[]⟩
theorem LN(r:Nat)(l:List Fil)(q:List Oq)(D:Value)(w:World)(B:FMap w r l)(C:Qs w D q)(hb:tot l+aL q<=70000000)(hl:q.length<=2000000):
  Calls I 163 #[.map (some r),D] w λe w'=>e=.returned (.map (some r))/\FMap w' r (q.foldl bW l)/\Mg w w' r:=by
 obtain⟨A,c,rfl,_,_⟩:=Qs.open_ C;obtain⟨T,D⟩:∃T,q.foldl bW l=T:=⟨_,rfl⟩;have Q:=M (show DnI r T w q (G A q.length c) l w from⟨B,C,D,Mg.of_ext (xR _) B,hb,hl⟩);rw[D];clear B C D hb;refine(callsIn_wd (ro:=none) (n:=9)).1 ?_;refine callsIn_of_wp func163 rfl trivial ?_ rfl;simp only[ntmps163,P4,xC,P2,Pg,Pi,Pf,Pe,P0,P3,xI,P1];gi_wp2;refine eU 0 (DnR r T w) (λa _=>lenOf (a.tmps.getD 1 undef)) (λY h=>by cases Y<;>first | exact absurd rfl h | rfl) ?_ ?_
 ·intro B;have C:=M B;clear B;gi_wp2;refine wpIn_label ?_;gi_step;gi_step;exact C _ _ ⟨q,A,c,l,_,_,_,_,_,_,_,_,_,_,_,_,_,_,_,_,_,_,_,_,_,Q,rfl⟩
 ·clear Q hl;rintro a L⟨q1,B,c1,l1,B,B,B,B,B,B,B,B,B,KD,B,B,B,B,B,B,B,B,B,B,B,f,rfl⟩;cases q1 with
  |nil=>
   gi_wp2;refine bJ ?_;go_ret;have:=f.ft;exact⟨rfl,by rw[<-this];exact f.fm,f.mg⟩
  |cons o q1=>
   obtain⟨_,b,H7,rfl,hc⟩:=f.qs.at_ (by simp);obtain⟨y,E,F,B,d,J,p⟩:=hc 0 (by simp);simp only[List.getElem_cons_zero,Nat.zero_mul,Nat.add_zero]at y E F J p;have B:=f.ll;have B:(((q1.length:Nat):Int)+1==0)=false:=by simp;omega
   have X:=M p;obtain⟨_,_,e,B,B⟩:=Qs.open_ f.qs;cases e;clear hc p;obtain⟨ok,on,ot,ob⟩:=o;dsimp only at *;simp only[xC]at *;gi_wp2;refine mq (S:=λW=>W.cell? ⟨b,H7,g⟩=U (H V ok)) (by kernel_rfl) y (λ_=>?_);refine ab 1 ?_;refine ab 2 ?_;refine ab 3 ?_;refine ab 4 ?_;refine ah 0 (λK z=>?_);go_simp;refine(yo _).mono ?_;rintro e s⟨rfl,Hl⟩;have p:Ext L s:=by rw[<-Hl];exact xA (xD (xR _)) _
   have H8:s.heap[L.drew.heap.size]?=U (.map ddMap 4):=by rw[<-Hl];exact Po _ _
   have C:=tA ok s _ H8;clear Hl H8;generalize L.drew.heap.size=N at *;have B:=p.cell y;refine af z _ _ B (λ_=>?_);refine ah 5 (λK z=>?_);go_simp;refine af z _ _ B (λ_=>?_);refine ab 6 ?_;refine aq ?_;refine mC ?_;have z:s.cell? ⟨b,H7+1,g⟩=U (R ⟨on.toArray⟩):=p.cell E;have z:s.cell? ⟨b,H7+2,g⟩=U (R ⟨ot.toArray⟩):=p.cell F;have z:=p.cell J;have z:=M p;have v:=M (f.fm.ext p);have x:=M (Bs.ext X p);have HV:=M (f.qs.ext p);have Hm:=M (f.mg.trans (Mg.of_ext p f.fm));have Kd:=M f.ft;have z:tot l1+(ob.length+aL q1)<=70000000:=by have:=f.bb;rw[eH]at this;exact this
   have K3:=M z;have Kr:q1.length<=2000000:=by omega
   clear C y E F J p X f z;have f:=BB;have f:=BG;by_cases i:ok=1
   ·have hd:eC ok=.func (.func 251) #[] #[]:=by subst i;rfl
    have t:=M i;rw[hd];clear i hd;gi_wp2_with (refine⟨trivial,?_⟩;gi_at_call 251;refine(callsIn_wd.2 (OH r l1 ⟨ok,on,ot,ob⟩ _ s v x t.out)).mono ?_;rintro e O⟨rfl,Hq,Hf⟩)
    all_goals exact mcDDonea0
   by_cases j:ok=2
   ·have hd:eC ok=.func (.func 252) #[] #[]:=by subst j;rfl
    have t:=M j;rw[hd];clear j hd;gi_wp2_with (refine⟨trivial,?_⟩;gi_at_call 252;refine(callsIn_wd.2 (OI r l1 ⟨ok,on,ot,ob⟩ _ s v x (by have:=K3.out;dsimp only;omega) t.out)).mono ?_;rintro e O⟨rfl,Hq,Hf⟩)
    all_goals exact mcDDonea0
   by_cases k:ok=3
   ·have hd:eC ok=.func (.func 253) #[] #[]:=by subst k;rfl
    have t:=M k;rw[hd];clear k hd;gi_wp2_with (refine⟨trivial,?_⟩;gi_at_call 253;refine(callsIn_wd.2 (OJ r l1 ⟨ok,on,ot,ob⟩ _ s v x t.out)).mono ?_;rintro e O⟨rfl,Hq,Hf⟩)
    all_goals exact mcDDonea0
   by_cases m:ok=4
   ·have hd:eC ok=.func (.func 254) #[] #[]:=by subst m;rfl
    have t:=M m;rw[hd];clear m hd;gi_wp2_with (refine⟨trivial,?_⟩;gi_at_call 254;refine(callsIn_wd.2 (OK r l1 ⟨ok,on,ot,ob⟩ _ s v x t.out)).mono ?_;rintro e O⟨rfl,Hq,Hf⟩)
    all_goals exact mcDDonea0
   have hd:eC ok=.nilFunc:=by unfold eC;rw[if_neg i,if_neg j,if_neg k,if_neg m]
   rw[hd];clear hd;gi_wp2
   all_goals
    refine wpIn_goto ?_;try simp only[Exit.then]
    refine bI ⟨⟨q1,_,_,l1,_,_,_,_,_,_,_,_,_,_,_,_,_,_,_,_,_,_,_,_,_,?_,rfl⟩,by simp[lenOf]⟩;refine⟨v.out,?_,by have h9:=Kd.out;rw[P5,FQ i j k m]at h9;exact h9,Hm.out,by have:=K3.out;omega,Kr⟩;first
     |exact Qs.tail HV _ (λ_=>rfl)
     |(have h9:=Qs.tail HV (U ⟨b,H7,g⟩) (λh=>by omega);rwa[show c1-1=0 from by omega]at h9)
theorem rM(v:Value)(d:Dk)(w:World)(hD:DkV w v d)(C:d.fs.length<=2000000)(D:d.q.length<=2000000)(hb:tot d.fs+aL d.q<=70000000):
  Calls I 96 #[v] w λe w'=>∃r,e=.returned (.map (some r))/\FMap w' r (bD d.fs d.q)/\w.heap.size<=r/\Ext w w':=by
 obtain⟨b,b,rfl,j,m⟩:=hD;obtain⟨A,c,rfl,_,_⟩:=Fs.open_ j;obtain⟨B,e2,rfl,_,_⟩:=Qs.open_ m;have b:Ext w (w.alloc (O #[G A d.fs.length c,G B d.q.length e2,H y d.quota,H y d.fuse,.bool d.dead] 25)):=xA (xR _) _;have p:=Pd w 25 #[G A d.fs.length c,G B d.q.length e2,H y d.quota,H y d.fuse,.bool d.dead];have x:=M (j.ext b);have z:=M (m.ext b);have n:=M b;have E:=M p;have t:=M hb;clear j m b p hb;obtain⟨f,i,F,J,L⟩:=ae E.out;go_enter func96,ntmps96
 go_wp2_with fail
 refine wp_region_held_drew (S:=λW=>W.cell? ⟨w.heap.size,0,g⟩=U (G A d.fs.length c)/\W.cell? ⟨w.heap.size,1,g⟩=U (G B d.q.length e2)) (by kernel_rfl) ⟨f,i⟩ (λ_=>?_);refine ab 0 ?_;refine ab 1 ?_;refine ab 3 ?_;refine ab 4 ?_;refine ah 2 (λK k=>?_);go_simp;refine(Ik _ d.fs _ (Fs.ext x (xD (xR _))) C).mono ?_;rintro e N⟨r,rfl,p,b,m⟩;have j:=xT (xD (xR _)) m;have x:=M p;have a:=M j;have Ke:=M f;have o:=M i;have s:w.heap.size<=r:=Ph n.size b;clear f i F J L p j m b;refine af k _ _ ⟨a.cell Ke.out,a.cell o.out⟩ (λ_=>?_);refine ah 5 (λK k=>?_);go_simp;refine(LN r (dq d.fs) d.q _ N x (z.ext a.out) (by have:=rp d.fs;have:=t.out;omega) D).mono ?_;rintro e b⟨rfl,f,i⟩;have j:=M f;have b:=M i;clear f i;refine af k _ _ ⟨b.cell (a.cell Ke.out),b.cell (a.cell o.out)⟩ (λ_=>?_);refine ab 6 ?_;refine aq ?_;go_wp2_with fail;go_ret;exact⟨r,rfl,j.out,s,b.ext (xT n a.out) s⟩
def ld(W:World)(r i:Nat):Nat:=match W.heap[i]?,W.heap[r]? with
 |some (.mapIter _ _ seen _),some (.map es _)=>(es.toList.filter λe=>!seen.contains e.born).length
 |_,_=>0
theorem FIt.left{i:Nat}{L:List Fil}(h:FIt W r i l L):ld W r i=L.length:=by
 obtain⟨es,a,a,seen,a,Z,h1,h2,h3,h4,h5,a,a,b,h8,b⟩:=h;unfold ld;rw[h2,h1];dsimp only;rw[a,b,Pb,List.filter_map,Pb];rfl
structure UsI (r i:Nat) (l:List Fil) (w:World) (n:Nat) (W:World):Prop where
 ex:∃ L,FIt W r i l L/\n+tot L=tot l
 e:Ext w W
theorem Bc(r:Nat)(l:List Fil)(w:World)(g:FMap w r l)(hb:tot l<=2000000000):Calls I 173 #[.map (some r)] w λe w'=>e=.returned (H y (tot l))/\Ext w w':=by
 go_enter func173,ntmps173
 go_wp2_with (at_range;refine CM rfl (.tmp 5) rfl underlying142 r l rfl g ?_;intro j Kp d)
 have f:=M (show UsI r w.heap.size l w 0 j from⟨⟨l,Kp,by omega⟩,d⟩);clear Kp d g;go_frame
 go_loopw [2,4] (λn b wr=>∃k:Nat,n=H y k/\Hid (UsI r w.heap.size l w k wr)) (λ_ _ wr=>ld wr r w.heap.size)
 case atStart=>exact⟨0,rfl,f⟩
 case round=>
  obtain⟨k,rfl,d⟩:=hrel;obtain⟨L,hI,o⟩:=d.ex;have a:=M d.e;have i:=M hI.left;clear d f;go_wp2_with (at_next;refine C6 rfl (.tmp 6) rfl r w.heap.size l L rfl hI ?_ ?_)
  ·intro h;subst h;have m:k=tot l:=by simp[tot]at o⊢;omega
   subst m;go_wp2_with fail;go_ret;exact⟨rfl,a.out⟩
  ·intro n b A c z p g d x h q s;have f:=Bb g;rw[fy]at f;dsimp only at f;have j:=g.length_eq;rw[xC]at j;have t:=M (show ld p r w.heap.size<ld wr r w.heap.size by rw[d.left,i.out];omega);have v:=M (show UsI r w.heap.size l w (k+b.length) p from⟨⟨z,d,by omega⟩,h.ext a (xN _)⟩);have m:k+b.length<=2000000000:=by omega
   clear hI d h g j f o i a x q;simp only[sv]at s⊢;go_wp2_with fail
   go_roundw
   case rel=>exact⟨k+b.length,by go_num,v⟩
   case measure=>exact t.out
theorem Mo(v:Value)(d:Dk)(w:World)(hD:DkV w v d)(g:d.fs.length<=2000000)(n:d.q.length<=2000000)(hb:tot d.fs+aL d.q<=70000000):
  Calls I 275 #[v] w λe w'=>e=.returned (H y (tot d.now))/\Ext w w':=by
 obtain⟨a,a,rfl,b,f⟩:=hD;obtain⟨A,c,rfl,_,_⟩:=Fs.open_ b;obtain⟨B,e2,rfl,_,_⟩:=Qs.open_ f;have a:Ext w (w.alloc (O #[G A d.fs.length c,G B d.q.length e2,H y d.quota,H y d.fuse,.bool d.dead] 25)):=xA (xR _) _;have h:=Pd w 25 #[G A d.fs.length c,G B d.q.length e2,H y d.quota,H y d.fuse,.bool d.dead];have hc:=rM _ d _ (show DkV _ _ d from⟨_,_,rfl,b.ext a,f.ext a⟩) g n hb;have HC:=M hc;have j:=M a;have n:=mT d.fs d.q;have g:tot d.now=tot (bD d.fs d.q):=oW d.fs d.q;have i:=M g;have k:=M (show tot (bD d.fs d.q)<=2000000000 by omega);clear b f a hc n g hb;obtain⟨o,p,s,t,x⟩:=ae h;clear h;go_enter func275,ntmps275
 go_wp2_with fail
 refine HC.mono ?_;rintro e z⟨r,rfl,b,f,a⟩;have g:=M b;have m:=M (xT j a);clear b f a o p s t x HC;go_wp2_with fail
 refine(Bc r _ z g k.out).mono ?_;rintro e a⟨rfl,a⟩;go_wp2_with fail;go_ret;exact⟨by rw[i.out];rfl,xT m a⟩
theorem mcDFinea0(h:P:=by
 subst hf;have HT:=M ht;clear ht;refine ab 4 ?_;refine ab 5 ?_;refine ab 6 ?_;refine ab 7 ?_;refine ab 8 ?_;refine ab 9 ?_;refine ab 10 ?_;refine ab 11 ?_;refine ab 12 ?_;refine ab 13 ?_;refine ab 14 ?_;refine ab 15 ?_;refine ab 16 ?_;refine ab 17 ?_;refine ab 18 ?_;refine ab 19 ?_;refine ab 20 ?_;refine aq ?_;go_wp2_with fail;go_ret;exact⟨rfl,HE.out⟩):P:=h
theorem mcDFinea1(h:P:=by
 refine ab 9 ?_;refine ab 10 ?_;refine ag 11 ?_;refine ag 12 ?_;refine ag 13 ?_;refine ag 14 ?_;refine ag 15 ?_;refine ag 16 ?_;refine ag 17 ?_;refine ag 18 ?_;refine ab 19 ?_;refine ab 20 ?_;refine aq ?_;go_wp2_with fail;go_ret;exact⟨rfl,HE.out⟩):P:=h
theorem LS{k:Int}(h:k=1\/k=2\/k=3\/k=4):∃f,eC k=.func (.func f) #[] #[]:=by
 unfold eC;rcases h with rfl | rfl | rfl | rfl<;>exact⟨_,rfl⟩
theorem FO{k:Int}(h:¬(k=1\/k=2\/k=3\/k=4)):eC k=.nilFunc:=by
 unfold eC;rw[if_neg (by omega),if_neg (by omega),if_neg (by omega),if_neg (by omega)]
theorem yT(o:Oq)(v:Value)(w:World)(C:Bs w v o.b):Calls I 172 #[.agg #[H V o.k,sv o.n,sv o.t,v]] w λe w'=>e=.returned (.bool (bO o))/\Ext w w':=by
 obtain⟨A,c,rfl,_,_⟩:=xO C;obtain⟨k,n,t,b⟩:=o;dsimp only at *;have D:Ext w (w.alloc (O #[H V k,sv n,sv t,G A b.length c] 98)):=xA (xR _) _;have j:=Pd w 98 #[H V k,sv n,sv t,G A b.length c];have J:=M D;have s:=M j;have E:=M (λW r h=>tA k W r h);have X:=BB;have X:=BG;clear D j C;simp only[sv]at *;obtain⟨F,j⟩:∃F,bO ⟨k,n,t,b⟩=F:=⟨_,rfl⟩;rw[j];have i:=M j;clear j;obtain⟨y,z,B,T⟩:=blk4 s.out;go_enter func172,ntmps172
 go_wp2_with fail
 refine wp_region_held_drew (S:=λW=>W.cell? ⟨w.heap.size,0,g⟩=U (H V k)/\W.cell? ⟨w.heap.size,1,g⟩=U (R ⟨n.toArray⟩)/\W.cell? ⟨w.heap.size,2,g⟩=U (R ⟨t.toArray⟩)) (by kernel_rfl) ⟨y,z,B⟩ (λ_=>?_);refine ab 1 ?_;refine ab 2 ?_;refine ah 0 (λK p=>?_);go_simp;refine(yo _).mono ?_;rintro e q⟨rfl,Hl⟩;have j:Ext (w.alloc (O #[H V k,R ⟨n.toArray⟩,R ⟨t.toArray⟩,G A b.length c] 98)) q:=by rw[<-Hl];exact xA (xD (xR _)) _
 have H8:q.heap[(w.alloc (O #[H V k,R ⟨n.toArray⟩,R ⟨t.toArray⟩,G A b.length c] 98)).drew.heap.size]?=U (.map ddMap 4):=by rw[<-Hl];exact Po _ _
 have C:=E q _ H8;clear Hl H8;generalize(w.alloc (O #[H V k,R ⟨n.toArray⟩,R ⟨t.toArray⟩,G A b.length c] 98)).drew.heap.size=N at *;obtain⟨q,e1,e2,_⟩:=blk4 (s.ext j);have HE:=M (xT J j);clear y z B T j;refine af p _ _ ⟨q,e1,e2⟩ (λ_=>?_);refine ah 3 (λK p=>?_);go_simp;refine af p _ _ ⟨q,e1,e2⟩ (λ_=>?_);by_cases d:k=1\/k=2\/k=3\/k=4
 case neg=>
  rw[FO d];have hf:false=F:=by
   rw[<-i.out];symm
   rw[Pm];intro h;exact d ((lK _).1 h).1
  subst hf;clear d;refine ab 4 ?_;refine ab 5 ?_;refine ag 6 ?_;refine ag 7 ?_;refine ag 8 ?_;exact mcDFinea1
 obtain⟨f,hf⟩:=LS d;rw[hf];have x:=M d;clear hf d;by_cases hn:n=[]
 case pos=>
  have L:(n==[])=true:=by simpa using hn
  have hf:false=F:=by
   rw[<-i.out];symm
   rw[Pm];intro h;exact((lK _).1 h).2.1 hn
  subst hf;have m:=M hn;clear hn;refine ab 4 ?_;refine ab 5 ?_;refine ab 6 ?_;refine ab 7 ?_;refine ab 8 ?_;exact mcDFinea1
 have L:(n==[])=false:=by simpa using hn
 have m:=M hn;clear hn;by_cases a:k=3
 case neg=>
  have Q:(k != 3)=true:=by simp[a]
  have hf:true=F:=by
   rw[<-i.out];exact((lK _).2 ⟨x.out,m.out,λh=>absurd h a⟩).symm
  subst hf;clear a;refine ab 4 ?_;refine ab 5 ?_;refine ab 6 ?_;refine ab 7 ?_;refine ab 8 ?_;refine ab 9 ?_;refine ab 10 ?_;refine ab 11 ?_;refine ab 12 ?_;refine ab 13 ?_;refine ab 14 ?_;refine ag 15 ?_;refine ag 16 ?_;refine ag 17 ?_;refine ab 18 ?_;refine ab 19 ?_;refine ab 20 ?_;refine aq ?_;go_wp2_with fail;go_ret;exact⟨rfl,HE.out⟩
 have Q:(k != 3)=false:=by simp[a]
 have d:=M a;clear a;by_cases ht:t=[]
 case pos=>
  have a:(t==[])=true:=by simpa using ht
  have hf:false=F:=by
   rw[<-i.out];symm
   rw[Pm];intro h;exact((lK _).1 h).2.2 d ht
  exact mcDFinea0
 have a:(t==[])=false:=by simpa using ht
 have hf:true=F:=by
  rw[<-i.out];exact((lK _).2 ⟨x.out,m.out,λ_=>ht⟩).symm
 exact mcDFinea0
/-! Right's test of the queue -/
theorem ER(o:Oq)(v:Value)(w:World)(a:Bs w v o.b):Calls I 274 #[.agg #[H V o.k,sv o.n,sv o.t,v]] w λe w'=>e=.returned (.bool (!bO o))/\Ext w w':=by
 obtain⟨A,c,rfl,_,_⟩:=xO a;have d:Ext w (w.alloc (O #[H V o.k,sv o.n,sv o.t,G A o.b.length c] 98)):=xA (xR _) _;obtain⟨g,g,g,g⟩:=blk4 (Pd w 98 #[H V o.k,sv o.n,sv o.t,G A o.b.length c]);have HC:=M (yT o _ _ (a.ext d));have f:=M d;clear d a;simp only[sv]at *;go_enter func274,ntmps274
 go_wp2_with fail
 refine HC.mono ?_;rintro e a⟨rfl,a⟩;go_wp2_with fail;go_ret;exact⟨rfl,xT f a⟩
def fW:List Oq->Nat->Int
 |[],_=>-1
 |o::q,i=>if bO o then fW q (i+1)else i
theorem Ea(q:List Oq)(i:Nat):(0<=fW q i↔q.all bO=false)/\-1<=fW q i:=by
 induction q generalizing i with
 |nil=>simp[fW]
 |cons o q ih=>
  have:=ih (i+1);unfold fW;rw[List.all_cons];cases h:bO o<;>simp[h]at this⊢<;>first | omega | exact this
theorem CR(v:Value)(q:List Oq)(w:World)(h:Qs w v q)(hl:q.length<=2000000):
  Calls I 295 #[v,.func (.func 274) #[] #[]] w λe w'=>e=.returned (H y (fW q 0))/\Ext w w':=by
 obtain⟨A,c,rfl,h1,h2⟩:=Qs.open_ h;have g:=M h;clear h;go_enter func295,ntmps295
 go_wp2_with fail
 go_loopw [8] (λi wr=>∃k:Nat,k<=q.length/\i=H y k/\Hid (fW q 0=fW (q.drop k) k)/\Ext w wr) (λi _=>q.length-(intOf i).toNat)
 case atStart=>exact⟨0,Nat.zero_le _,rfl,rfl,xR _⟩
 case round=>
  obtain⟨k,n,rfl,f,a⟩:=hrel;by_cases j:k<q.length
  ·obtain⟨_,b,n,rfl,hc⟩:=(g.ext a).at_ (by omega);obtain⟨g,g,g,B,d,g,g⟩:=hc k j;have hbd:=f.out;rw[List.drop_eq_getElem_cons j,fW]at hbd;have m:=M hbd;have HC:=M (λW j=>ER q[k] _ W (Bs.ext g j));clear hc g hbd f;generalize q[k]=o at *;simp only[sv]at *;go_wp2_with (go_at_call 274;refine(HC _ (xR _)).mono ?_;rintro e w' ⟨rfl,hb⟩)
   ·go_ret;have g:bO o=false:=by simpa using(by assumption:(!bO o)=true)
    have:=m.out;rw[g]at this;exact⟨by rw[this];rfl,xT a hb⟩
   go_roundw
   case rel=>
    have g:bO o=true:=by simpa using(by assumption:(!bO o)=false)
    have:=m.out;rw[g]at this;exact⟨k+1,by omega,by go_num,this,xT a hb⟩
   case measure=>simp[intOf];omega
  ·go_wp2_with fail
   go_ret;have:=f.out;rw[List.drop_of_length_le (by omega)]at this;exact⟨by rw[this];rfl,a⟩
theorem Cz(v:Value)(q:List Oq)(w:World)(h:Qs w v q)(hl:q.length<=2000000):
  Calls I 273 #[v,.func (.func 274) #[] #[]] w λe w'=>e=.returned (.bool (!q.all bO))/\Ext w w':=by
 obtain⟨h1,h2⟩:=Ea q 0;have H1:=M h1;have a:=M h2;have HC:=M (CR v q w h hl);clear h1 h2;go_enter func273,ntmps273
 go_wp2_with fail
 refine HC.mono ?_;rintro e a⟨rfl,a⟩;go_wp2_with fail;go_ret;refine⟨ret_bool ?_,a⟩;have:=H1.out;cases h:q.all bO<;>simp[h]at this⊢<;>omega
