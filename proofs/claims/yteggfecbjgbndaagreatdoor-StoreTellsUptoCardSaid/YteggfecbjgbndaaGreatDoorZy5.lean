/- Merged -/
import Derived.Test.YteggfecbjgbndaaGreatDoorZy4
import Derived.Laws.Bits64
import Derived.Deep.QuietTactic
import Derived.BigQuiet
set_option linter.all false
set_option maxHeartbeats 8000000
set_option maxRecDepth 100000
open Go.Proofs.Tryz
open List renaming length->V
open Go.Value renaming slice->C,int->F,pointer->I,bool->S
open Go.Obj renaming cells->E
open Go.Proofs.Tryz renaming prog->G
open Go.Mv renaming aN->H
open Option renaming some->K,none->M
open Go.IntKind renaming i64->O,u8->U
open UInt8 renaming ofNat->P0
open List renaming take_of_length_le->P1,take_succ_eq_append_getElem->P2,append_assoc->P3,cons_append->P4,append_toArray->P5,size_toArray->P6,push_toArray->P7,length_nil->P8,take_append_drop->P9,getElem?_eq_some_iff->Pa,drop_eq_getElem_cons->Pb,getElem?_eq_getElem->Pc,foldl_append->Pd,append_nil->Pe,take_zero->Pf,take->Pg,map->Ph
open Array renaming replicate_zero->Pi,replicate_succ->Pj
open BitVec renaming ofInt->Pk,ofInt_natCast->Pl,toNat_ofNat->Pm
open Nat renaming xor_lt_two_pow->Pn,zero_le->Po,reduceSub->Pp,reduceAdd->Pq,mod_eq_of_lt->Pr,le_trans->Ps
open Go.Boxed renaming new->Pu
open Go.Oper renaming semAt_some->Pv
open Go.IntKind renaming u32->Pw,wrap_u32->Px
namespace Go.Mv
open Go.RowKit
def aD(p:Nat×Nat)(bs:List UInt8):Nat×Nat:=bs.foldl cX p
theorem sY(p:Nat×Nat)(bs:List UInt8)(b:UInt8):aD p (bs++[b])=cX (aD p bs) b:=by unfold aD;rw[Pd];rfl
theorem PtV.pt{v:Value}{p:Nat×Nat}(h:PtV v p):ptV v=p:=by
 obtain⟨a,b,rfl,c,hb⟩:=h;unfold ptV;simp only[c,hb]
theorem PtV.zero:PtV (.complex .f64 0 0) (0,0):=⟨0,0,rfl,qR fQ (by decide) (λh=>by cases h),qR fQ (by decide) (λh=>by cases h)⟩
theorem zU{a b:Nat}(h:((aw a).isSome&&(aw b).isSome)=true):PtV (.complex .f64 a b) (ptV (.complex .f64 a b)):=by
 obtain⟨x,c⟩:∃x,aw a=K x:=by cases h:aw a<;>simp_all
 obtain⟨y,hb⟩:∃y,aw b=K y:=by cases h:aw b<;>simp_all
 have e:ptV (.complex .f64 a b)=(x,y):=by unfold ptV;simp only[c,hb]
 rw[e];exact⟨a,b,rfl,c,hb⟩
theorem BL{a b:Nat}(h:((aw a).isSome&&(aw b).isSome)=false):ptV (.complex .f64 a b)=(0,0):=by
 unfold ptV;cases c:aw a<;>cases hb:aw b<;>simp_all
end Go.Mv
namespace Go.Proofs.YteggfecbjgbndaaGreatDoor
open Go.RowKit Go.Mv
variable {W w:World}
def sy(v:Value)(bs:List UInt8)(w:World)(e:Ending)(w':World):Prop:=∃a,e=.returned a/\PtV a (aD (ptV v) bs)/\w=w'
theorem pS(a b:Nat)(I:Value)(d:List (List UInt8))(w:World)(h:Parts w I d):
  Calls G 218 #[.complex .f64 a b,I] w (sy (.complex .f64 a b) d.flatten w):=by
 obtain⟨l,U,D,X⟩:=h;obtain⟨A,c,rfl,h1,h2⟩:=xO D;have Z:V l<=V d:=by omega
 have Jb:V d<=V l:=by omega
 clear U;have q:=H (λw=>Di a b w);have hz:=H PtV.zero;have Q:∃s:Value,PtV s (ptV (.complex .f64 a b))/\s=if((aw a).isSome&&(aw b).isSome)=true then .complex .f64 a b else .complex .f64 0 0:=by
  split
  ·rename_i h;exact⟨_,zU h,rfl⟩
  rename_i h;refine⟨_,?_,rfl⟩;rw[BL (by simpa using h)];exact PtV.zero
 obtain⟨s,L,p⟩:=Q;unfold sy;generalize ptV (.complex .f64 a b)=p0 at *;cases g:((aw a).isSome&&(aw b).isSome)
 all_goals
  rw[g]at p;simp only[if_true,if_false,Bool.false_eq_true]at p;subst p;rw[g]at q;clear g;go_enter func218,ntmps218
  go_wp2_with (go_at_call 266;refine(q _).mono ?_;rintro e w' ⟨rfl,rfl⟩)
  clear q;go_loop [0,5] (λz i=>∃k:Nat,k<=V d/\i=F O k/\Hid (PtV z (aD p0 (d.take k).flatten))) (λ_ i=>V d-(intOf i).toNat)
  case atStart=>exact⟨0,Po _,rfl,L⟩
  case round=>
   obtain⟨k,hk,rfl,n⟩:=hrel;by_cases H1:k<V d
   ·obtain⟨_,ba,Y,rfl,hc⟩:=SlR.at_ D (by omega);have x:k<V l:=by omega
    have J:=hc k l[k] (Pc x);have o:=X k x H1;obtain⟨A',c',y,h3,h4⟩:=xO o;rw[y]at J o;have C:=oo d k H1;have P:=H C;generalize d[k]=bk at *;clear hc y C;go_wp2_with fail
    go_loop [0,6] (λz j=>∃m:Nat,m<=V bk/\j=F O m/\Hid (PtV z (aD p0 ((d.take k).flatten++bk.take m)))) (λ_ j=>V bk-(intOf j).toNat)
    case atStart=>exact⟨0,Po _,rfl,by show PtV _ _;rw[Pf,Pe];exact n.out⟩
    case round=>
     obtain⟨m,hm,rfl,B⟩:=hrel;by_cases f:m<V bk
     ·obtain⟨_,b2,Kb,e2,E⟩:=Bs.at_ o (by omega);cases e2;have K0:=E m f;have v:bk.take (m+1)=bk.take m++[bk[m]]:=P2 f;have R:=H v;generalize S:bk[m]=bm at *;clear E v S;go_wp2_with (go_at_call 267;refine(EB _ _ B _ _).mono ?_;rintro e w' ⟨v',rfl,K,rfl⟩)
      have M:=H K;go_round
      case rel=>exact⟨m+1,by omega,by go_num,by show PtV _ _;rw[R.out,<-P3,sY];exact M.out⟩
      case measure=>simp[intOf];omega
     have r:=B.out;rw[P1 (show V bk<=m from by omega),<-P.out]at r;have N:=H r;clear r;go_wp2_with fail
     go_round
     case rel=>exact⟨k+1,by omega,by go_num,N⟩
     case measure=>simp[intOf];omega
   ·have t:d.take k=d:=P1 (by omega);rw[t]at n;clear t;go_wp2_with fail;go_ret;exact⟨_,rfl,n.out,rfl⟩
open Go.RowKit Go.Mv Go.Shelf
theorem mcChaina0{P:Prop}(h:P:=by
 rintro l H2 x H0 a' W hx hl hr⟨v,hv,Hg,hB⟩He rfl;have Hu:=H Hg;obtain⟨va,vb,rfl,_,_⟩:=Hg;have hc:=hv.cell;have hf:=hv.frozen;gi_wp2_with (refine⟨trivial,?_⟩;gi_at_call 304;refine(callsIn_wd.2 (DC _ _ Hu _ _)).mono ?_;rintro e w' ⟨v',rfl,HR,rfl⟩;have HV:=H HR;obtain⟨c1,c2,rfl,_,_⟩:=HR)
 refine⟨Kept.refl.setCell (λo ho hc=>?_) _,_,hv.set _,by rw[sY];exact HV.out,hB.setCell (p:=⟨w.heap.size,0,M⟩) (xN _) _⟩;rintro(h | h)
 ·exact h.1 rfl
 ·rw[hc]at h;cases h.2):P:=h
attribute [local go_sem] Pv
theorem MG{α:Type}(l:List α)(m:Nat)(h:m<V l)(R:List α):l++R=l.take m++l[m]::(l.drop (m+1)++R):=by
 have e:=P9 m l;rw[Pb h]at e
 calc l++R=(l.take m++l[m]::l.drop (m+1))++R:=by rw[e]
  _=_:=by rw[P3,P4]
def Hold(a W:World):Prop:=∀p u,a.cell? p=K u->W.cell? p=K u
theorem Hold.kept{a W':World}{b n:Nat}(h:Hold a W)(d:a.heap.size<=b)(d:Kept (am (λk o=>k≠b/\o.isCells=true) n) W W'):Hold a W':=by
 intro p u b;have H1:=World.block_lt_of_cell? a p b;obtain⟨o,a,hc⟩:=cells_of_cell (h p u b);exact d.cell (h p u b) (λb c=>by rw[a]at c;cases c;exact .inl ⟨by omega,hc⟩)
theorem yA(i h:World)(vp:Value)(b:List (List UInt8))(hP:Parts i vp b)(hE:Hold i h)(E B:Nat)(HL:i.heap.size<=E)(hB:Boxed h B 243 vp):
  Seq G 307 #[I (K ⟨B,0,M⟩)]
   (λ(d:UInt8) av _=>av = #[bv d]) (λk o=>k≠E/\o.isCells=true) (λ_ _=>False) b.flatten h:=by
 intro l J Jx hJ J1 hY h0;obtain⟨r,K9,Hs,Ka⟩:=hP;obtain⟨A,c,rfl,h1,h2⟩:=xO Hs;have Ja:V r<=V b:=by omega
 have Jb:V b<=V r:=by omega
 have Ki:=hB.cell;clear K9 hB;refine(callsIn_wd (ro:=none) (n:=9)).1 ?_;refine callsIn_of_wp func307 rfl trivial ?_ rfl;simp only[ntmps307,P6,xC,P8,Pq,Pp,Pj,Pi,P7,P5,xI,P4];gi_wp2;gi_loopw [9] (λj W=>∃k:Nat,k<=V b/\j=F O k/\Hid (J (b.take k).flatten W)/\Hid (Hold i W)/\h.heap.size<=W.heap.size) (λj _=>V b-(intOf j).toNat)
 case atStart=>exact⟨0,Po _,rfl,h0,hE,xN _⟩
 case round=>
  obtain⟨k,hk,rfl,Z,X,He⟩:=hrel;by_cases H1:k<V b
  ·obtain⟨_,ba,HU,rfl,hc⟩:=SlR.at_ Hs (by omega);have U:k<V r:=by omega
   have s:=hc k r[k] (Pc U);have x:=Ka k U H1;obtain⟨A',c',Y,h3,h4⟩:=xO x;rw[Y]at s x;have R:=X _ _ s;have C:=oo b k H1;have Kn:b.flatten=(b.take k).flatten++(b[k]++(b.drop (k+1)).flatten):=by
    conv=>lhs;rw[<-P9 (k+1) b,List.flatten_append,C,P3]
   have HZ:=H C;have KV:=H Kn;generalize b[k]=bk at *;clear hc Y C Kn s;gi_wp2;gi_loopw [15] (λj W=>∃m:Nat,m<=V bk/\j=F O m/\Hid (J ((b.take k).flatten++bk.take m) W)/\Hid (Hold i W)/\h.heap.size<=W.heap.size) (λj _=>V bk-(intOf j).toNat)
   case atStart=>exact⟨0,Po _,rfl,by show J _ _;rw[Pf,Pe];exact Z.out,X,He⟩
   case round=>
    obtain⟨m,hm,rfl,HQ,t,z⟩:=hrel;by_cases g:m<V bk
    ·obtain⟨_,b2,Kb,e2,Hx⟩:=Bs.at_ x (by omega);cases e2;have K0:=t _ _ (Hx m g);have P:bk.take (m+1)=bk.take m++[bk[m]]:=P2 g;have y:b.flatten=((b.take k).flatten++bk.take m)++bk[m]::(bk.drop (m+1)++(b.drop (k+1)).flatten):=by
      rw[KV.out,MG bk m g,P3]
     have q:=hY _ _ _ y _ #[bv bk[m]] HQ z rfl;have D:=H P;have HY:=H y;generalize bk[m]=bm at *;have key:∀(o:Oper) (a:Act) (next:Act->World->Prop) (Q:Exit->Act->World->Prop) (W:World),
       Mv.YieldsAt G l #[bv bm] W (λe W'=>Kept (am (λk o=>k≠E/\o.isCells=true) h.heap.size) W W'/\((e=.returned (S true)/\J ((b.take k).flatten++bk.take m++[bm]) W')\/(e=.returned (S false)/\Jx ((b.take k).flatten++bk.take m++[bm]) W')))->Hold i W->h.heap.size<=W.heap.size ->
       (∀W':World,J ((b.take k).flatten++bk.take (m+1)) W'->Hold i W'->h.heap.size<=W'.heap.size->next (a.put o.dst (S true)) W') ->
       (∀W':World,Jx ((b.take k).flatten++bk.take (m+1)) W'->next (a.put o.dst (S false)) W') ->
       o.uponIn (Wd none) 9 G a next Q ((Instr.yield l #[bv bm]).run G W):=by
      intro o a next Q W q p hs h1 h2;refine ew q ?_;rintro e W' ⟨N,⟨rfl,f⟩|⟨rfl,f⟩⟩
      ·refine⟨true,rfl,h1 W' ?_ (p.kept HL N) (Ps hs N.size)⟩;rw[D.out,<-P3];exact f
      refine⟨false,rfl,h2 W' ?_⟩;rw[D.out,<-P3];exact f
     have Hi:=H key;have Hy:=H q;have H8:(b.take k).flatten++bk.take (m+1) <+: b.flatten:=by
      rw[HY.out,D.out];exact⟨bk.drop (m+1)++(b.drop (k+1)).flatten,by simp⟩
     have Hk:=H H8;clear Hx P y key q hY H8;gi_wp2;refine Hi _ _ _ _ _ Hy t z ?_ ?_
     ·intro W' f p hs;have v:=H f;have Hh:=H p;clear f p K0 R Ki;gi_wp2;exact⟨⟨m+1,by omega,by go_num,v,Hh,hs⟩,by simp[intOf];omega⟩
     intro W' f;have v:=H f;clear f K0 R Ki;gi_wp2;refine bodyPost_ret (results_none rfl _ _ _) rfl ?_;exact⟨⟨_,rfl⟩,.inr ⟨_,Hk.out,v.out⟩⟩
    have L:=HQ.out;rw[P1 (show V bk<=m from by omega),<-HZ.out]at L;have HX:=H L;clear L;gi_wp2;exact⟨⟨k+1,by omega,by go_num,HX,t,z⟩,by simp[intOf];omega⟩
  ·have f:=Z.out;rw[P1 (show V b<=k from by omega)]at f;have KQ:=H f;clear f;gi_wp2;refine bodyPost_end (results_none rfl _ _ _) rfl ?_;exact⟨⟨_,rfl⟩,.inl KQ.out⟩
attribute [local go_sem] Pv
theorem pN(P:Program)(w:World)(a:Addr)(m:Mode)(x y:Nat):(store a (.complex .f64 x y) m).run P w=stored P w a (.complex .f64 x y) m:=run_store P w a _ m rfl
attribute [local go_sem] pN
theorem yr(A:Option Addr)(n c:Nat)(w:World):Calls G 303 #[C A n c] w λe w'=>e=.returned (.func (.func 307) #[] #[I (K ⟨w.heap.size,0,M⟩)])/\w.alloc (E #[C A n c] 243)=w':=by
 go_enter func303,ntmps303
 go_wp2;go_ret;exact⟨rfl,rfl⟩
def o6(v:Value)(bs:List UInt8)(w:World)(e:Ending)(w':World):Prop:=∃a,e=.returned a/\PtV a (aD (ptV v) bs)/\Ext w w'
def ChI(w:World)(b:Nat×Nat)(a:List UInt8)(X:World):Prop:=∃v,Boxed X w.heap.size 212 v/\PtV v (aD b a)/\Below w.heap.size w X
theorem qI(a b:Nat)(B:Value)(d:List (List UInt8))(w:World)(h:Parts w B d):
  Calls G 297 #[.complex .f64 a b,B] w (o6 (.complex .f64 a b) d.flatten w):=by
 obtain⟨A,c,rfl,h1,h2⟩:∃A c,B=C A d.length c/\V d<=c/\c<=9223372036854775807:=by obtain⟨B,_,hs,_⟩:=h;exact xO hs
 have j:=H (λw=>rX a b w);have J:=H h;cases f:((aw a).isSome&&(aw b).isSome)
 ·rw[f]at j;have y:PtV (.complex .f64 0 0) (ptV (.complex .f64 a b)):=by rw[BL f];exact PtV.zero
  unfold o6;generalize ptV (.complex .f64 a b)=p0 at *;have m:=H y;refine(callsIn_wd (ro:=none) (n:=9)).1 ?_;refine callsIn_of_wp_marks func297 rfl trivial ?_ rfl;simp only[ntmps297,P6,xC,P8,Pq,Pp,Pj,Pi,P7,P5,xI,P4];gi_wp2_with (first
   |(refine⟨trivial,?_⟩;gi_at_call 302;refine(callsIn_wd.2 (j _)).mono ?_;rintro e w' ⟨rfl,rfl⟩)
   |(refine⟨trivial,?_⟩;gi_at_call 303;refine(callsIn_wd.2 (yr _ _ _ _)).mono ?_;rintro e w' ⟨rfl,rfl⟩))
  have z:Boxed ((w.alloc (E #[.complex .f64 0 0] 212)).alloc (E #[C A d.length c] 243)) (w.heap.size+1) 243 (C A d.length c):=by
   have:=Pu (w.alloc (E #[.complex .f64 0 0] 212)) 243 (C A d.length c);rwa[xS]at this
  have i:Ext w ((w.alloc (E #[.complex .f64 0 0] 212)).alloc (E #[C A d.length c] 243)):=xA (xA (xR _) _) _;have r:ChI w p0 [] ((w.alloc (E #[.complex .f64 0 0] 212)).alloc (E #[C A d.length c] 243)):=⟨_,(Pu w _ _).alloc _,m.out,i⟩;have N:((w.alloc (E #[.complex .f64 0 0] 212)).alloc (E #[C A d.length c] 243)).heap.size=w.heap.size+2:=by simp
  generalize(w.alloc (E #[.complex .f64 0 0] 212)).alloc (E #[C A d.length c] 243)=w2 at *;refine dV (a:=⟨_,_⟩) rfl (enters_of func307 (by kernel_rfl) rfl)
   (λW1 hb _=>yA w W1 _ d J (λp u hc=>Ext.cell (xT i hb) hc) w.heap.size (w.heap.size+1) (xN _) (z.kept (row:=none) (Ext.grown hb none) (by simp)))
   (λk o h=>h.elim) (λk o h=>h.2) (λx q W h=>by rw[h];rfl)
   (ChI w p0) (λ_ _ _=>False) ?hI (λ_ _ _ _ h _=>h) r
   (λx a' _=>a'=⟨#[.complex .f64 a b,C A d.length c,I (K ⟨w.heap.size,0,M⟩),undef,.complex .f64 0 0,F U x.toNat,.complex .f64 a b,S false,S true,C A d.length c,.func (.func 307) #[] #[I (K ⟨w.heap.size+1,0,M⟩)],F U x.toNat,undef,undef,undef,undef],[]⟩)
   (λ_ _ _ _ h _=>h) ?assign ?body ?done ?stop
  case hI=>
   rintro s X Y⟨v,hv,hr,hB⟩hm;refine⟨v,hm.boxed hv ?_,hr,hm.belowOf hB ?_ (xN _)⟩
   ·rintro(h | h)
    ·exact h
    cases h.2
   rintro k o O(h | h)
   ·exact h
   have:=h.1;omega
  case assign=>
   rintro l H2 x H0 W q L hx t He rfl g;simp only[bv];gi_wp2;exact g _ _ Kept.refl t rfl
  case body=>
   exact mcChaina0
  case done=>
   rintro D W hD⟨v,hv,Hg,hB⟩g;have Hu:=H Hg;obtain⟨va,vb,rfl,_,_⟩:=Hg;have hc:=hv.cell;gi_wp2;refine dh g _ (results_tmp rfl _ _ _) ?_;exact⟨_,rfl,Hu.out,cp hB _⟩
  case stop=>
   rintro D c H2 W _ _ h _;exact h.elim
 ·rw[f]at j;have y:PtV (.complex .f64 a b) (ptV (.complex .f64 a b)):=zU f;unfold o6;generalize ptV (.complex .f64 a b)=p0 at *;have m:=H y;refine(callsIn_wd (ro:=none) (n:=9)).1 ?_;refine callsIn_of_wp_marks func297 rfl trivial ?_ rfl;simp only[ntmps297,P6,xC,P8,Pq,Pp,Pj,Pi,P7,P5,xI,P4];gi_wp2_with (first
   |(refine⟨trivial,?_⟩;gi_at_call 302;refine(callsIn_wd.2 (j _)).mono ?_;rintro e w' ⟨rfl,rfl⟩)
   |(refine⟨trivial,?_⟩;gi_at_call 303;refine(callsIn_wd.2 (yr _ _ _ _)).mono ?_;rintro e w' ⟨rfl,rfl⟩))
  have z:Boxed ((w.alloc (E #[.complex .f64 a b] 212)).alloc (E #[C A d.length c] 243)) (w.heap.size+1) 243 (C A d.length c):=by
   have:=Pu (w.alloc (E #[.complex .f64 a b] 212)) 243 (C A d.length c);rwa[xS]at this
  have i:Ext w ((w.alloc (E #[.complex .f64 a b] 212)).alloc (E #[C A d.length c] 243)):=xA (xA (xR _) _) _;have r:ChI w p0 [] ((w.alloc (E #[.complex .f64 a b] 212)).alloc (E #[C A d.length c] 243)):=⟨_,(Pu w _ _).alloc _,m.out,i⟩;have N:((w.alloc (E #[.complex .f64 a b] 212)).alloc (E #[C A d.length c] 243)).heap.size=w.heap.size+2:=by simp
  generalize(w.alloc (E #[.complex .f64 a b] 212)).alloc (E #[C A d.length c] 243)=w2 at *;refine dV (a:=⟨_,_⟩) rfl (enters_of func307 (by kernel_rfl) rfl)
   (λW1 hb _=>yA w W1 _ d J (λp u hc=>Ext.cell (xT i hb) hc) w.heap.size (w.heap.size+1) (xN _) (z.kept (row:=none) (Ext.grown hb none) (by simp)))
   (λk o h=>h.elim) (λk o h=>h.2) (λx q W h=>by rw[h];rfl)
   (ChI w p0) (λ_ _ _=>False) ?hI (λ_ _ _ _ h _=>h) r
   (λx a' _=>a'=⟨#[.complex .f64 a b,C A d.length c,I (K ⟨w.heap.size,0,M⟩),undef,.complex .f64 0 0,F U x.toNat,.complex .f64 a b,S true,S false,C A d.length c,.func (.func 307) #[] #[I (K ⟨w.heap.size+1,0,M⟩)],F U x.toNat,undef,undef,undef,undef],[]⟩)
   (λ_ _ _ _ h _=>h) ?assign ?body ?done ?stop
  case hI=>
   rintro s X Y⟨v,hv,hr,hB⟩hm;refine⟨v,hm.boxed hv ?_,hr,hm.belowOf hB ?_ (xN _)⟩
   ·rintro(h | h)
    ·exact h
    cases h.2
   rintro k o O(h | h)
   ·exact h
   have:=h.1;omega
  case assign=>
   rintro l H2 x H0 W q L hx t He rfl g;simp only[bv];gi_wp2;exact g _ _ Kept.refl t rfl
  case body=>
   exact mcChaina0
  case done=>
   rintro D W hD⟨v,hv,Hg,hB⟩g;have Hu:=H Hg;obtain⟨va,vb,rfl,_,_⟩:=Hg;have hc:=hv.cell;gi_wp2;refine dh g _ (results_tmp rfl _ _ _) ?_;exact⟨_,rfl,Hu.out,cp hB _⟩
  case stop=>
   rintro D c H2 W _ _ h _;exact h.elim
theorem mcCrca0{P:Prop}(h:P:=by
 rw[Kg];refine Hi _ _ _ _ ?_ ?_
 ·intro W' hj hh hb hs;have Hj:=H hj;have Hh:=H hh;gi_wp2;refine wpIn_goto ?_;try simp only[Exit.then]
  refine bI ⟨?_,?_⟩
  ·rw[show((i:Int)+1)=((i+1:Nat):Int)from rfl];exact⟨i+1,_,_,_,_,_,_,_,_,_,_,_,_,_,_,_,_,_,_,_,_,_,⟨by have:=Kd.out;omega,Hj,Hh,hb,hs⟩,rfl⟩
  have:=Kd.out;simp[intOf];omega
 ·intro W' hj;have Hj:=H hj;gi_wp2;refine tn ?_;refine bodyPost_end (results_none rfl _ _ _) rfl ?_;exact⟨⟨_,rfl⟩,.inr ⟨_,Hk.out,Hj.out⟩⟩):P:=h
attribute [local go_sem] Pv
structure Tab where
 l:List Nat
 lt:∀ i,l.getD i 0<4294967296
variable {T:Tab}
def TabW(T:Tab)(w:World):Prop:=∀i,i<16->w.cell? ⟨1,i,M⟩=K (.int .u32 ((T.l.getD i 0:Nat):Int))
theorem TabW.ext{w':World}(h:TabW T w)(a:Ext w w'):TabW T w':=λi b=>a.cell (h i b)
theorem TabW.hold{w':World}(h:TabW T w)(a:Hold w w'):TabW T w':=λi b=>a _ _ (h i b)
def cH(T:Tab)(s h:Nat):Nat:=T.l.getD ((s ^^^ h) % 16) 0 ^^^ (s / 16)
def crcTab:List Nat:=[0,274646895,549293790,820201905,1098587580,1361435347,1640403810,1905808397,2197175160,2460548119,2722870694,2987750089,3280807620,3553878443,3811616794,4084100981]
theorem LL(i:Nat):crcTab.getD i 0<4294967296:=by
 by_cases h:i<16
 ·have:∀j,j<16->crcTab.getD j 0<4294967296:=by decide
  exact this i h
 ·rw[List.getD_eq_getElem?_getD,List.getElem?_eq_none (by simp[crcTab];omega)];decide
def rT:Tab:=⟨crcTab,LL⟩
theorem Cd(i:Nat):T.l.getD i 0<4294967296:=T.lt i
theorem rC{s:Nat}(h:Nat)(hs:s<4294967296):cH T s h<4294967296:=by
 have:cH T s h<2^32:=Pn (Cd _) (by omega);simpa using this
theorem mo(a b:Nat)(c:a<4294967296)(hb:b<4294967296):bits .xor .u32 (a:Int) (b:Int)=((a ^^^ b:Nat):Int):=by
 have hx:a ^^^ b<2^32:=Pn (by omega) (by omega);have h1:(Pk 32 (a:Int)).toNat=a:=by
  rw[Pl,Pm];exact Pr (by omega)
 have h2:(Pk 32 (b:Int)).toNat=b:=by
  rw[Pl,Pm];exact Pr (by omega)
 show Pw.wrap ((Pk 32 (a:Int) ^^^ Pk 32 (b:Int)).toNat:Int)=_;rw[BitVec.toNat_xor,h1,h2,Px];omega
theorem DF(a:Nat)(b:a<4294967296):bits .and .u32 (a:Int) 15=((a % 16:Nat):Int):=by
 have h1:(Pk 32 (a:Int)).toNat=a:=by
  rw[Pl,Pm];exact Pr (by omega)
 have h2:(Pk 32 (15:Int)).toNat=15:=rfl;show Pw.wrap ((Pk 32 (a:Int) &&& Pk 32 (15:Int)).toNat:Int)=_;rw[BitVec.toNat_and,h1,h2,Px,show(15:Nat)=2^4-1 from rfl,Nat.and_two_pow_sub_one_eq_mod];omega
theorem Mm(s h:Nat)(hs:s<4294967296)(a:h<256)(w:World)(c:TabW T w):Calls G 233 #[.int .u32 s,F U h] w λe w'=>e=.returned (.int .u32 (cH T s h))/\w=w':=by
 have hx:=mo s h hs (by omega);have a:s ^^^ h<2^32:=Pn (by omega) (by omega);have d:=DF (s ^^^ h) a;obtain⟨i,b⟩:∃i,(s ^^^ h) % 16=i:=⟨_,rfl⟩;have K3:i<16:=by omega
 rw[b]at d;have hc:=c i K3;obtain⟨t,a⟩:∃t,T.l.getD i 0=t:=⟨_,rfl⟩;have Kw:t<4294967296:=by rw[<-a];exact Cd i
 rw[a]at hc;have c:cH T s h=t ^^^ (s / 16):=by unfold cH;rw[b,a]
 have a:bits .xor .u32 (t:Int) ((s:Int) / 16)=((t ^^^ (s / 16):Nat):Int):=by simpa using mo t (s / 16) Kw (by omega)
 have a:=H c;have b:(i:Int)<16:=by omega
 go_enter func233,ntmps233
 go_wp2_with fail;go_ret;exact⟨nj (by rw[a.out]),rfl⟩
def bC(bs:List UInt8):List UInt8:=bs.flatMap λb=>[P0 (b.toNat % 16),P0 (b.toNat / 16)]
theorem qj(bs:List UInt8):V (bC bs)=2*V bs:=by
 induction bs with
 |nil=>rfl
 |cons b bs ih=>rw[show bC (b::bs)=P0 (b.toNat % 16)::P0 (b.toNat / 16)::bC bs from rfl];simp[ih];omega
theorem Ft(bs:List UInt8):∀(j:Nat) (a:j<V bs),(bC bs)[2*j]?=K (P0 (bs[j].toNat % 16))/\(bC bs)[2*j+1]?=K (P0 (bs[j].toNat / 16)):=by
 induction bs with
 |nil=>intro j a;simp at a
 |cons b bs ih=>
  intro j a;rw[show bC (b::bs)=P0 (b.toNat % 16)::P0 (b.toNat / 16)::bC bs from rfl];cases j with
  |zero=>exact⟨rfl,rfl⟩
  |succ j=>
   obtain⟨c,h1⟩:=ih j (by simpa using a);rw[show 2*(j+1)=2*j+1+1 from by omega];simp only[List.getElem?_cons_succ,List.getElem_cons_succ];exact⟨c,h1⟩
theorem Dz(bs:List UInt8)(j p:Nat)(c:j<V bs)(d:p=0\/p=1):∃a,bC bs=(bC bs).take (2*j+p)++P0 (bs[j].toNat / 16^p % 16)::a:=by
 have hl:=qj bs;obtain⟨b,h1⟩:=Ft bs j c;have H1:2*j+p<V (bC bs):=by omega
 have hb:=bs[j].toNat_lt;have he:(bC bs)[2*j+p]=P0 (bs[j].toNat / 16^p % 16):=by
  rcases d with rfl | rfl
  ·obtain⟨_,e⟩:=Pa.1 b;simpa using e
  obtain⟨_,e⟩:=Pa.1 h1;rw[e];congr 1
  omega
 refine⟨(bC bs).drop (2*j+p+1),?_⟩;rw[<-he];conv=>lhs;rw[<-P9 (2*j+p) (bC bs),Pb H1]
theorem EX(bs:List UInt8)(i:Nat)(d:UInt8)(a:List UInt8)(b:i<=V (bC bs))(h:bC bs=(bC bs).take i++d::a):(bC bs).take (i+1)=(bC bs).take i++[d]:=by
 have hl:V ((bC bs).take i)=i:=by rw[List.length_take];omega
 conv=>lhs;rw[h]
 rw[List.take_append,hl,P1 (by omega),show i+1-i=1 from by omega];rfl
theorem tn{L:List Nat}{J:Nat->Act->World->Prop}{Q:Exit->Act->World->Prop}{a:Act}(h:Q .normal a w):Exit.jumps L J Q .normal a w:=h
def HvR(bs:List UInt8)(A:Option Addr)(c l B N:Nat)(b:World)(J:List UInt8->World->Prop)(a:Act)(w:World):Prop:=
 ∃(i:Nat) (u4 u5 u6 u7 u8 u9 Kz KA KB KC KD KE KF KH KI KJ KK KL KM KN KO:Value),(i<=2*V bs/\Hid (J ((bC bs).take i) w)/\Hid (Hold b w)/\Boxed w B 33 (C A bs.length c)/\N<=w.heap.size) /\
  a=⟨#[.func (.yield l) #[] #[],I (K ⟨B,0,M⟩),undef,F O i,u4,u5,u6,u7,u8,u9,Kz,KA,KB,KC,KD,KE,KF,KH,KI,KJ,KK,KL,KM,KN,KO],[]⟩
theorem EW(m g:World)(v:Value)(bs:List UInt8)(Z:Bs m v bs)(HF:V bs<=2000000)(Y:Hold m g)(y B:Nat)(HL:m.heap.size<=y)(K7:B≠y)(X:Boxed g B 33 v):
  Seq G 278 #[I (K ⟨B,0,M⟩)] (λ(d:UInt8) av _=>av = #[bv d]) (λk o=>k≠y/\o.isCells=true) (λ_ _=>False) (bC bs) g:=by
 intro l J Jx hJ J1 D z;obtain⟨A,c,rfl,h1,h2⟩:=xO Z;refine(callsIn_wd (ro:=none) (n:=9)).1 ?_;refine callsIn_of_wp func278 rfl trivial ?_ rfl;simp only[ntmps278,P6,xC,P8,Pq,Pp,Pj,Pi,P7,P5,xI,P4];refine tu 0 (HvR bs A c l B g.heap.size m J) (λa _=>2*V bs-(intOf (a.tmps.getD 3 undef)).toNat) rfl (λl' h=>by cases l'<;>first | exact absurd rfl h | rfl) ?_ ?_
 ·gi_wp2;exact⟨0,_,_,_,_,_,_,_,_,_,_,_,_,_,_,_,_,_,_,_,_,_,⟨by omega,z,Y,X,xN _⟩,rfl⟩
 ·intro a w hR;obtain⟨i,u4,u5,u6,u7,u8,u9,Kz,KA,KB,KC,KD,KE,KF,KH,KI,KJ,KK,KL,KM,KN,KO,⟨hi,L,E,N,O⟩,rfl⟩:=hR;have c1:=N.cell;by_cases H1:i<2*V bs
  ·obtain⟨j,p,t,hp⟩:∃j p,i=2*j+p/\(p=0\/p=1):=⟨i / 2,i % 2,by omega,by omega⟩;have hj:j<V bs:=by omega
   obtain⟨_,b,HU,rfl,hc⟩:=Bs.at_ Z (by omega);have Kl:=E _ _ (hc j hj);obtain⟨H0,H3⟩:=Dz bs j p hj hp;have r:=EX bs _ _ H0 (by rw[qj];omega) H3;rw[<-t]at H3 r;have hy:=D _ _ _ H3 _ #[bv (P0 (bs[j].toNat / 16^p % 16))] L O rfl;have H8:(bC bs).take (i+1) <+: bC bs:=List.take_prefix _ _;have hq:=bs[j].toNat_lt;generalize bs[j].toNat=q at *;have Jo:(i:Int)<2*(V bs:Int):=by omega
   have Jp:(j:Int)<(V bs:Int):=by omega
   have hd:(i:Int) / 2=(j:Int):=by omega
   have K1:i / 2=j:=by omega
   have key:∀(o:Oper) (a:Act) (next:Act->World->Prop) (Q:Exit->Act->World->Prop),
     (∀W':World,J ((bC bs).take (i+1)) W'->Hold m W'->Boxed W' B 33 (C (K ⟨b,HU,M⟩) bs.length c)->g.heap.size<=W'.heap.size->next (a.put o.dst (S true)) W') ->
     (∀W':World,Jx ((bC bs).take (i+1)) W'->next (a.put o.dst (S false)) W') ->
     o.uponIn (Wd none) 9 G a next Q ((Instr.yield l #[bv (P0 (q / 16^p % 16))]).run G w):=by
    intro o a next Q h1 h2;refine ew hy ?_;rintro e W' ⟨s,⟨rfl,hj⟩|⟨rfl,hj⟩⟩
    ·refine⟨true,rfl,h1 W' (by rw[r];exact hj) (E.kept HL s) (s.boxed N (.inl ⟨K7,rfl⟩)) (Ps O s.size)⟩
    refine⟨false,rfl,h2 W' (by rw[r];exact hj)⟩
   have Hi:=H key;have R:=H t;have Hk:=H H8;have Kd:=H H1;clear hc D hy key H3 r H8 t X Y z;rcases hp with rfl | rfl
   ·have ha:bits .and .i64 (i:Int) 1=0:=(bits_mask .i64 62 (by decide) lD 1 (by decide) _ (by omega) (by omega)).trans (by have:=R.out;omega);have hv:bits .and .u8 (q:Int) 15=((q % 16:Nat):Int):=(bits_mask .u8 8 (by decide) wraps_u8 4 (by decide) _ (by omega) (by omega)).trans (by simp);gi_wp2;have Kg:F U ((q:Int) % 16)=bv (P0 (q / 16^0 % 16)):=by rw[oE];congr 1;omega
    exact mcCrca0
   have ha:bits .and .i64 (i:Int) 1=1:=(bits_mask .i64 62 (by decide) lD 1 (by decide) _ (by omega) (by omega)).trans (by have:=R.out;omega);have hv:bits .and .u8 ((q:Int) / 16) 15=((q / 16:Nat):Int):=(bits_mask .u8 8 (by decide) wraps_u8 4 (by decide) _ (by omega) (by omega)).trans (by omega);gi_wp2;have Kg:F U ((q:Int) / 16)=bv (P0 (q / 16^1 % 16)):=by rw[oE];congr 1;omega
   exact mcCrca0
  ·obtain rfl:i=2*V bs:=by omega
   have P:(bC bs).take (2*V bs)=bC bs:=P1 (by rw[qj];exact xN _);have x:=L.out;rw[P]at x;have KR:=H x;clear x P D z;gi_wp2;refine⟨λf h=>(by cases h),?_⟩;gi_wp2;refine tn ?_;refine bodyPost_end (results_none rfl _ _ _) rfl ?_;exact⟨⟨_,rfl⟩,.inl KR.out⟩
theorem Fu(A:Option Addr)(n c:Nat)(w:World):Calls G 232 #[C A n c] w λe w'=>e=.returned (.func (.func 278) #[] #[I (K ⟨w.heap.size,0,M⟩)])/\w.alloc (E #[C A n c] 33)=w':=by
 go_enter func232,ntmps232
 go_wp2;go_ret;exact⟨rfl,rfl⟩
def lf(T:Tab)(s:Nat)(bs:List UInt8):Nat:=(bC bs).foldl (λa h=>cH T a h.toNat) s
def cR(T:Tab)(s:Nat)(bs:List UInt8):Nat:=4294967295 ^^^ lf T (4294967295 ^^^ s) bs
theorem nV(s:Nat)(h:s<4294967296):4294967295 ^^^ s<4294967296:=by
 have:4294967295 ^^^ s<2^32:=Pn (by omega) (by omega);simpa using this
theorem oR(s:Nat)(h:s<4294967296):bits .xor .u32 Pw.max (s:Int)=((4294967295 ^^^ s:Nat):Int):=mo 4294967295 s (by decide) h
theorem rQ(hs:List UInt8)(s:Nat)(h:s<4294967296):hs.foldl (λa h=>cH T a h.toNat) s<4294967296:=by
 induction hs generalizing s with
 |nil=>exact h
 |cons x hs ih=>exact ih _ (rC _ h)
def NxI(T:Tab)(w:World)(c:Nat)(b:List UInt8)(X:World):Prop:=Boxed X w.heap.size 190 (.int .u32 ((b.foldl (λa h=>cH T a h.toNat) c:Nat):Int))/\Below w.heap.size w X
theorem DL(s:Nat)(hs:s<4294967296)(v:Value)(bs:List UInt8)(w:World)(h:Bs w v bs)(J:bs.length<=2000000)(z:TabW T w):
  Calls G 202 #[.int .u32 s,v] w λe w'=>e=.returned (.int .u32 (cR T s bs))/\Ext w w':=by
 obtain⟨A,c,rfl,h1,h2⟩:=xO h;have L:=H h;have N:=H z;clear h z;have hn:=oR s hs;have y:=nV s hs;unfold cR lf;generalize 4294967295 ^^^ s=s0 at *;refine(callsIn_wd (ro:=none) (n:=9)).1 ?_;refine callsIn_of_wp_marks func202 rfl trivial ?_ rfl;simp only[ntmps202,P6,xC,P8,Pq,Pp,Pj,Pi,P7,P5,xI,P4];gi_wp2_with (refine⟨trivial,?_⟩;gi_at_call 232;refine(callsIn_wd.2 (Fu _ _ _ _)).mono ?_;rintro e w' ⟨rfl,rfl⟩)
 clear hn;have q2:Boxed ((w.alloc (E #[.int .u32 s0] 190)).alloc (E #[C A bs.length c] 33)) (w.heap.size+1) 33 (C A bs.length c):=by
  have:=Pu (w.alloc (E #[.int .u32 s0] 190)) 33 (C A bs.length c);rwa[xS]at this
 have q:Ext w ((w.alloc (E #[.int .u32 s0] 190)).alloc (E #[C A bs.length c] 33)):=xA (xA (xR _) _) _;have V:NxI T w s0 [] ((w.alloc (E #[.int .u32 s0] 190)).alloc (E #[C A bs.length c] 33)):=⟨(Pu w _ _).alloc _,q⟩;have Ku:((w.alloc (E #[.int .u32 s0] 190)).alloc (E #[C A bs.length c] 33)).heap.size=w.heap.size+2:=by simp
 generalize(w.alloc (E #[.int .u32 s0] 190)).alloc (E #[C A bs.length c] 33)=w2 at *;refine dV (a:=⟨_,_⟩) rfl (enters_of func278 (by kernel_rfl) rfl)
  (λW1 hb _=>EW w W1 _ bs L.out J (λp u hc=>Ext.cell (xT q hb) hc) w.heap.size (w.heap.size+1) (xN _) (by omega) (q2.kept (row:=none) (Ext.grown hb none) (by simp)))
  (λk o h=>h.elim) (λk o h=>h.2) (λx S W h=>by rw[h];rfl)
  (NxI T w s0) (λ_ _ _=>False) ?hI (λ_ _ _ _ h _=>h) V
  (λx a' _=>a'=⟨#[.int .u32 s,C A bs.length c,I (K ⟨w.heap.size,0,M⟩),undef,.int .u32 0,F U x.toNat,.int .u32 s,.int .u32 s0,C A bs.length c,.func (.func 278) #[] #[I (K ⟨w.heap.size+1,0,M⟩)],F U x.toNat,undef,undef,undef,undef,undef],[]⟩)
  (λ_ _ _ _ h _=>h) ?assign ?body ?done ?stop
 case hI=>
  rintro s X Y⟨b,d⟩hm;refine⟨hm.boxed b ?_,hm.belowOf d ?_ (xN _)⟩
  ·rintro(h | h)
   ·exact h
   cases h.2
  rintro k o hk(h | h)
  ·exact h
  have:=h.1;omega
 case assign=>
  rintro l f x B W S K' hx Z O rfl m;simp only[bv];gi_wp2;exact m _ _ Kept.refl Z rfl
 case body=>
  rintro l f x B a' W hx hl hr⟨b,d⟩O rfl;have hc:=b.cell;have hf:=b.frozen;have i:=rQ (T:=T) f s0 y;have Je:=H d;have t:(f++[x]).foldl (λa h=>cH T a h.toNat) s0=cH T (f.foldl (λa h=>cH T a h.toNat) s0) x.toNat:=by rw[Pd];rfl
  have Q:=H t;have r:TabW T W:=N.out.ext d;have P:=H r;clear t r;generalize f.foldl (λa h=>cH T a h.toNat) s0=g at *;gi_wp2_with (refine⟨trivial,?_⟩;gi_at_call 233;refine(callsIn_wd.2 (Mm g x.toNat i x.toNat_lt W P.out)).mono ?_;rintro e w' ⟨rfl,rfl⟩)
  refine⟨Kept.refl.setCell (λo ho hc=>?_) _,by show Boxed _ _ _ _;rw[Q.out];exact b.set _,d.setCell (p:=⟨w.heap.size,0,M⟩) (xN _) _⟩;rintro(h | h)
  ·exact h.1 rfl
  rw[hc]at h;cases h.2
 case done=>
  rintro D W hD⟨b,d⟩m;have hc:=b.cell;have i:=rQ (T:=T) (bC bs) s0 y;obtain⟨g,j⟩:∃g,(bC bs).foldl (λa h=>cH T a h.toNat) s0=g:=⟨_,rfl⟩;rw[j]at i hc;have R:=H j;have Ju:=oR g i;clear j b;gi_wp2;refine dh m (.int .u32 ((4294967295 ^^^ g:Nat):Int)) (by simp[results,results202,go_sem]) ?_;exact⟨by rw[R.out],cp d (hD:=by omega) _⟩
 case stop=>
  rintro D c f W _ _ h _;exact h.elim
theorem qq(v:Value)(l:List Int)(w:World)(h:Is w v l)(hn:aG l=true)(hl:V l<=2000000):Calls G 121 #[v] w (nu w l):=by
 obtain⟨A,c,rfl,h1,h2⟩:=xO h;obtain⟨L,J,B,D,I⟩:=info_parts dC;have Q:=H hn;go_enter func121,ntmps121
 go_wp2_with (go_at_call 183;refine(lB _ _ _ h).mono ?_;rintro e w' ⟨rfl,rfl⟩)
 go_loopw [4,5] (λE i wr=>∃k:Nat,k<=V l/\i=F O k/\wr.ownsRow w.heap.size 5 1 E (aF (l.take k)).length ((aF (l.take k)).map bv)/\Ext w wr) (λ_ i _=>V l-(intOf i).toNat)
 case atStart=>exact⟨0,Po _,rfl,World.ownsRow_nil _ _ _ _,xR _⟩
 case round=>
  obtain⟨k,E,rfl,q,o⟩:=hrel;by_cases H1:k<V l
  ·obtain⟨_,b,E,rfl,hc⟩:=Is.at_ (h.ext o) (by omega);have E:=hc k H1;obtain⟨X,R⟩:=my Q H1;obtain⟨N,r⟩:=Int.eq_ofNat_of_zero_le X;rw[r]at E R;have P:=H r;have Q:=eY (l.take k);have Kw:V (l.take k)<=k:=List.length_take_le _ _;have Q:b<wr.heap.size:=World.block_lt_of_cell? wr _ E;have E:cO N=hiB 5 (N / 128)++[P0 (N % 128)]:=q9 N (by omega);have S:=H E;go_wp2_with fail;obtain⟨n,rfl⟩:∃n:World,n=wr:=⟨_,rfl⟩;go_loopw [6,7] (λQ m E=>∃(f a:Nat) (d:List UInt8),a<128^f/\f<=5/\a<=1073741824/\m=F O a/\V d+f=6/\Hid (cO N=hiB f a++d)/\E.ownsRow n.heap.size 5 1 Q d.length (d.map bv)/\Ext n E) (λ_ m _=>(intOf m).toNat)
   case atStart=>
    refine⟨5,N / 128,[P0 (N % 128)],by omega,by omega,by omega,by simp,rfl,S.out,?_,(xR _).alloc _⟩;have h:=be n [F U ((N:Int) % 128)] 5 1 (xN _);have hm:Ph bv [P0 (N % 128)]=[F U ((N:Int) % 128)]:=by simp[bv];omega
    rw[hm];exact h
   case round=>
    obtain⟨f,a,d,z,E,Kp,rfl,E,x,y,j⟩:=hrel;obtain⟨g,Ke,rfl,E,E,E⟩:=ia y;by_cases p:a=0
    ·subst p;rw[lL,xI]at x;go_wp2_with (at_builtin;refine wpList_append_own _ rfl (.tmp 40) (.tmp 41) 33 rfl w.heap.size 5 L (F U 0) 1 1 underlying33 J B D I rfl (by decide) _ _ _ rfl (ai q j) ⟨g,0,M⟩ d.length Ke (d.map bv) rfl (by simp) (y.cells rfl) (de _) (by simp[maxLen];omega) (by omega) (by have:=o.size;have:=j.size;omega) ?_;intro Y Z t s _)
     go_roundw
     case rel=>
      refine⟨k+1,by omega,by go_num,?_,Ext.grownOwn (xT o j) (ai q j) s⟩;have r:=P.out;rw[tU H1,r,Int.toNat_natCast,x.out];simpa using t
     case measure=>simp[intOf];omega
    obtain⟨f',rfl⟩:∃f',f=f'+1:=⟨f-1,by cases f with | zero=>simp at z;omega | succ f=>omega⟩;have r:cO N=hiB f' (a / 128)++(P0 (a % 128+128)::d):=by
     have:=x.out;rw[hiB,if_neg p]at this;simpa using this
    have x:=H r;have p:a / 128<128^f':=by
     rw[Nat.div_lt_iff_lt_mul (by decide)];rw[Nat.pow_succ]at z;exact z
    have r:=H p;go_wp2_with (at_builtin;refine wpList_append_own _ rfl (.tmp 37) (.tmp 38) 33 rfl n.heap.size 5 L (F U 0) 1 1 underlying33 J B D I rfl (by decide) (C (K ⟨wr.heap.size,0,M⟩) 1 1) 1 [F U ((a:Int) % 128+128)] rfl (be wr [F U ((a:Int) % 128+128)] 5 1 j.size) ⟨g,0,M⟩ d.length Ke (d.map bv) rfl (by simp) ((y.alloc _).cells rfl) (de _) (by simp[maxLen];omega) (by omega) (by have:=o.size;have:=j.size;simp;omega) ?_;intro Y Z t s _)
    go_roundw
    case rel=>
     refine⟨f',a / 128,P0 (a % 128+128)::d,r.out,by omega,by omega,by simp,by simp;omega,x.out,?_,?_⟩
     ·have e:Ph bv (P0 (a % 128+128)::d)=[F U ((a:Int) % 128+128)]++d.map bv:=by simp[bv];omega
      rw[e];simpa[Nat.add_comm]using t
     refine(Below.grown (xA j _) s (by have:=j.size;simp;omega) (λk a=>?_));have:wr.heap.size=k:=by simpa[Value.ownBlock]using a
     have:=j.size;omega
    case measure=>simp[intOf];omega
  ·have a:l.take k=l:=P1 (by omega);rw[a]at q;go_wp2_with fail
   go_ret2;exact⟨_,rfl,q,o⟩
def cK(first:Int):Int×List UInt8:=if aB first=true/\first≠0 then(0,2::aF [first])else(2,[])
theorem L3(first:Int):V (cK first).2<=6:=by
 unfold cK;split
 ·have:=eY [first];simp at *;omega
 ·simp
theorem PM{c d:Value}{a b:List UInt8}(e:Bs W c a)(hb:Bs W d b):Parts (W.alloc (E #[c,d] 33)) (C (K ⟨W.heap.size,0,M⟩) 2 2) [a,b]:=by
 refine⟨[c,d],rfl,xW (be W [c,d] 33 2 (xN _)),λi c d=>?_⟩;match i,c with
 |0,_=>exact Bs.ext e (xA (xR _) _)
 |1,_=>exact Bs.ext hb (xA (xR _) _)
theorem lU{b:Value}{a:List UInt8}(c:Bs W b a):Parts (W.alloc (E #[b] 33)) (C (K ⟨W.heap.size,0,M⟩) 1 1) [a]:=by
 refine⟨[b],rfl,xW (be W [b] 33 1 (xN _)),λi b d=>?_⟩;match i,b with
 |0,_=>exact Bs.ext c (xA (xR _) _)
def dv(e:Ent):List UInt8:=aF [e.t,e.k,e.v]
def fh(es:List Ent):Bool:=decide (0<V es/\V es<=4)&&bQ es
def bp(es:List Ent):List UInt8:=P0 (V es)::es.flatMap dv
def dI(p:Nat×Nat)(es:List Ent):List UInt8:=bp es++aW (aD p (bp es))
theorem AA(e:Ent):V (dv e)<=15:=by have:=eY [e.t,e.k,e.v];simpa[dv]using this
theorem zI(es:List Ent):V (es.flatMap dv)<=15*V es:=by
 induction es with
 |nil=>simp
 |cons e es ih=>have:=AA e;rw[List.flatMap_cons,xL,xC];omega
theorem BJ{e:Ent}(h:e.ok=true):aG [e.t,e.k,e.v]=true:=by
 have:=okB_true.1 h;unfold Ent.okP at this;simp only[aG,List.all_cons,List.all_nil,Bool.and_true,Bool.and_eq_true,numB_true];omega
theorem Mr{es:List Ent}(h:bQ es=true)(k:Nat)(a:k<V es):es[k].ok=true:=by
 unfold bQ at h;exact List.all_eq_true.1 h _ (List.getElem_mem a)
theorem OO(es:List Ent)(k:Nat)(h:k<V es):(es.take (k+1)).flatMap dv=(es.take k).flatMap dv++dv es[k]:=by
 rw[P2 h,List.flatMap_append];simp
def Oo(p:Nat×Nat)(es:List Ent)(w:World)(e:Ending)(w':World):Prop:=
 ∃v a,e=.returned (.tuple #[v,a,F O 0])/\PtV a (aD p (bp es))/\w'.ownsRow w.heap.size 5 1 v (dI p es).length ((dI p es).map bv)/\Ext w w'
def M6(w:World)(e:Ending)(w':World):Prop:=e=.returned (.tuple #[C none 0 0,.complex .f64 0 0,F O 2])/\Ext w w'
theorem Mb:Tryz.prog.underlying 54=K (.struct (Tryz.prog.fieldsOf 54)):=by kernel_rfl
theorem OM:Tryz.prog.stoodInHeld 54=false:=by kernel_rfl
theorem Az:Tryz.prog.eqGuardType Tryz.prog.depth 54=false:=by kernel_rfl
theorem zH(a b:Ent)(W:World):(Op.equalIn 10000 54 (.agg #[F O a.t,F O a.k,F O a.v]) (.agg #[F O b.t,F O b.k,F O b.v])).run G W=.ok (decide (a=b)) W:=by
 have e:decide (a=b)=(a.t==b.t&&a.k==b.k&&a.v==b.v):=by
  rw[Bool.eq_iff_iff];cases a;cases b;simp[and_assoc]
 rw[run_equalIn_struct W 9999 54 _ _ Mb OM,e];cases c:(a.t==b.t)<;>cases h1:(a.k==b.k)<;>cases h2:(a.v==b.v)<;>simp[go_sem,c,h1,h2]
theorem Mj(n o:Value)(a b:List Ent)(w:World)(f:Es w n a)(hb:Es w o b):
  Calls G 45 #[n,o] w λe w'=>e=.returned (S (decide (a=b)))/\Below w.heap.size w w':=by
 obtain⟨A,R,rfl,h1,h2⟩:=xO f;obtain⟨B,U,rfl,h3,h4⟩:=xO hb;have s:=SlR.len_le f;have Kp:=SlR.len_le hb;unfold maxLen at s Kp;by_cases hl:a.length=b.length
 case neg=>
  go_enter func45,ntmps45
  have t:((a.length:Int) != (b.length:Int))=true:=by simp;omega
  have q:=H hl;clear hl;go_wp2;go_ret;refine⟨ret_bool ?_,Below.refl _ _⟩;simp;intro e;exact q.out (by rw[e])
 case pos=>
  have t:((a.length:Int) != (b.length:Int))=false:=by simp;omega
  have Hl:=H hl;have N:b.length<=a.length:=by omega
  have v:a.length<=b.length:=by omega
  clear hl;go_enter func45,ntmps45
  go_wp2_with fail
  go_loopw [5] (λi wr=>∃k:Nat,k<=a.length/\i=F O k/\Hid (a.take k=b.take k)/\Below w.heap.size w wr) (λi _=>a.length-(intOf i).toNat)
  case atStart=>exact⟨0,Po _,rfl,rfl,Below.refl _ _⟩
  case round=>
   obtain⟨k,V,rfl,g,c⟩:=hrel;by_cases H1:k<a.length
   ·obtain⟨_,P,x,rfl,j⟩:=Es.at_ (f.ext c) (by omega);obtain⟨_,Q,y,rfl,l⟩:=Es.at_ (hb.ext c) (by omega);obtain⟨z,C,D⟩:=j k H1;obtain⟨E,I,J⟩:=l k (by omega);clear j l;have K:(0:Int)<=(k:Int):=by omega
    have L:(k:Int)<(a.length:Int):=by omega
    have M:(k:Int)<(b.length:Int):=by omega
    have m:=zH a[k] b[k];have r:=Az;have p:∃d,decide (a[k]=b[k])=d:=⟨_,rfl⟩;obtain⟨d,hd⟩:=p;have h:=H hd;rw[hd]at m;clear hd;go_wp2_with fail
    go_quiet (fail)
    clear m r;cases d
    ·go_wp2_with fail
     go_ret;refine⟨ret_bool ?_,o8 c _⟩;have hd:=h.out;symm
     simp only[decide_eq_false_iff_not]at hd⊢;intro e;subst e;exact hd rfl
    go_wp2_with fail
    go_roundw
    case rel=>
     have hd:a[k]=b[k]:=by simpa using h.out
     refine⟨k+1,by omega,by go_num,?_,o8 c _⟩;show Pg (k+1) a=Pg (k+1) b;rw[P2 H1,P2 (by omega),g.out,hd]
    case measure=>simp[intOf];omega
   ·go_wp2_with fail
    go_ret;refine⟨ret_bool ?_,c⟩;have:=g.out;rw[P1 (by omega),P1 (by omega)]at this;simpa using this
