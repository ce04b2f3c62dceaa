/- Merged -/
import Derived.Test.YteggfecbjgbndaaGreatDoorZy22
import Derived.Test.YteggfecbjgbndaaGreatDoorZy36
set_option linter.all false
set_option maxHeartbeats 8000000
set_option maxRecDepth 100000
open Go.Proofs.Tryz
open List renaming length->T
open Go.Value renaming int->C,pointer->H,slice->O,bool->S
open Go.IntKind renaming i64->F
open Go.Proofs.Tryz renaming prog->G
open Option renaming none->I,some->L
open Go.Mv renaming aN->N
open Go.Obj renaming cells->Q
open Array renaming replicate->P0,replicate_zero->P1,replicate_succ->P2
open Go.Mv.Ext renaming grown->P3,cell->P4
open List renaming append_toArray->P5,size_toArray->P6,push_toArray->P7,cons_append->P8,length_nil->P9,drop_left->Pa
open Nat renaming reduceSub->Pb,reduceAdd->Pc,le_trans->Pd
namespace Go.Proofs.YteggfecbjgbndaaGreatDoor
open Go.RowKit Go.Mv
variable {t:Tup}
theorem mcTRighta0{P:Prop}(h:P:=by
 gi_wp2_with (first|(refine⟨trivial,?_⟩;gi_at_call 154;refine(callsIn_wd.2 (ik t.s _)).mono ?_;rintro e w1⟨rfl,H1⟩;have Hc:=HB.ext H1;have eb:=l8 Hc) | (refine⟨trivial,?_⟩;gi_at_call 153;(first|refine(callsIn_wd.2 (ln _)).mono ?_ | refine(callsIn_wd.2 (pJ (by omega) _)).mono ?_);rintro e w2⟨he,rfl⟩;obtain rfl:e=.panicked (fz 2):=he) | (refine⟨trivial,?_⟩))
 exact⟨rfl,xT HX H1⟩):P:=h
theorem mcTRighta1{P:Prop}(h:P:=by
 gi_wp2_with (first|(refine⟨trivial,?_⟩;gi_at_call 153;refine(callsIn_wd.2 (ln _)).mono ?_;rintro e w2⟨he,rfl⟩;obtain rfl:e=.panicked (fz 2):=he))
 exact⟨rfl,Hm.out⟩):P:=h
theorem oQ(w:World):Calls G 153 #[.bool true] w λa w'=>a=.returned (.tuple #[])/\w=w':=by
 go_enter func153,ntmps153
 go_wp2;go_end0;exact⟨rfl,rfl⟩
theorem ln(w:World):Calls G 153 #[.bool false] w λa w'=>a=pan 2/\w=w':=by
 go_enter func153,ntmps153
 go_wp2;exact⟨rfl,rfl,rfl⟩
theorem pJ{p:Prop}{a:Decidable p}(h:¬p)(w:World):Calls G 153 #[.bool (@decide p a)] w λa w'=>a=pan 2/\w=w':=by
 rw[decide_eq_false h];exact ln w
theorem Ir(p:Addr)(y:Value)(e:Int)(a:List PanicEntry)(w:World)(hc:w.cell? p=L y)(c:w.frozen? p=false):
  CallsD G 152 #[H (some p)] (.panicking ({ v:=.iface 45 (C F e),recovered:=false }::a)) w λb d w'=>
   b=.returned (.tuple #[])/\d=.panicking ({ v:=.iface 45 (C F e),recovered:=true }::a)/\w'=w.setCell p (C F e):=by
 refine callsD_of_wpS func152 rfl λa cs a=>?_;have h1:=AY e;apply wpS_seq;apply wpS_region;simp[wpOpsS,go_sem,recoverD,a,ntmps152,Exit.thenS,h1];apply wpS_seq;apply wpS_region;simp[wpOpsS,go_sem,Exit.thenS,P0];refine wpS_cond (t:=true) (by simp[Act.eval,P0]) ?_;simp only[if_true];apply wpS_region;simp[wpOpsS,go_sem,hc,c,bodyPostS,results,results152,P0]
theorem EO(p:Addr)(w:World):
  CallsD G 152 #[H (some p)] .returning w λb c w'=>b=.returned (.tuple #[])/\c=.returning/\w'=w:=by
 refine callsD_of_wpS func152 rfl λa cs b=>?_;have h1:=Cc;apply wpS_seq;apply wpS_region;simp[wpOpsS,go_sem,recoverD,b,ntmps152,Exit.thenS,h1];apply wpS_seq;apply wpS_region;simp[wpOpsS,go_sem,Exit.thenS,P0];refine wpS_cond (t:=false) (by simp[Act.eval,P0]) ?_;simp only[Bool.false_eq_true,if_false];refine wpS_of_wp ?_;cases a;simp_all[wp_skip,bodyPostS,results,results152]
theorem DS(cs:Array Value)(hs:cs.size=8)(w:World):Calls G 155 #[.agg cs] w λe w'=>e=.returned (.func (.func 208) #[] #[H (L ⟨w.heap.size,0,I⟩)])/\w.alloc (Q cs 44)=w':=by
 obtain⟨a,a1,a2,a3,b,c,d,f,rfl⟩:∃a a1 a2 a3 b c d f,cs = #[a,a1,a2,a3,b,c,d,f]:=by
  obtain⟨l⟩:=cs;match l,hs with
  |[a,a1,a2,a3,b,c,d,f],_=>exact⟨_,_,_,_,_,_,_,_,rfl⟩
 go_enter func155,ntmps155
 go_wp2;go_ret;exact⟨rfl,rfl⟩
attribute [local go_sem] Oper.semAt_some in
theorem Do(h g:World)(t:Tup)(v:Value)(w:Es h v t.log)(p:T t.log<=4000000)(hH:Hold h g)(B p:Nat)(r:Blk g B 44 (bE t v))(KT:B≠p)(h1:h.heap.size<=p):
  py G 208 #[H (L ⟨B,0,I⟩)] (λ(x:Ent) av _=>∃n,av = #[C F n,x.val]) (λk o=>k≠p/\o.isCells=true) (λ_ _=>False) t.log none g:=by
 intro l J p p hJ p p y h0;obtain⟨A,c,rfl,p,p⟩:=xO w;refine(callsIn_wd (ro:=none) (n:=9)).1 ?_;refine callsIn_of_wp func208 rfl trivial ?_ rfl;simp only[ntmps208,P6,xC,P9,Pc,Pb,P2,P1,P7,P5,xI,P8];have KQ:=N w;clear w;obtain⟨s,a,R,S⟩:=t;dsimp only at *;have p:g.cell? ⟨B,5,I⟩=L (O A a.length c):=r.cell 5 rfl;have i:=N r;clear r;gi_wp2;clear p;gi_loopw [8] (λj W=>∃k:Nat,j=C F k/\k<=T a/\Hid (J (a.take k) W)/\Hold h W/\Hid (Blk W B 44 (bE ⟨s,a,R,S⟩ (O A a.length c)))/\g.heap.size<=W.heap.size) (λj _=>T a+1-(intOf j).toNat)
 case atStart=>exact⟨0,rfl,by omega,h0,hH,i,xN _⟩
 case round=>
  clear i;obtain⟨k,rfl,p,m,z,i,V⟩:=hrel;by_cases f:k<T a
  ·obtain⟨_,b,X,rfl,hc⟩:=Es.at_ (KQ.keep z) (by omega);have M:=hc k f;have r:a.take (k+1)=a.take k++[a[k]]:=List.take_succ_eq_append_getElem f;have p:a=a.take k++a[k]::a.drop (k+1):=by rw[<-List.drop_eq_getElem_cons f,List.take_append_drop]
   have w:=N y;have Z:=N r;have E:=N p;clear hc y r p;generalize a[k]=x at *;have H8:Ext wr (wr.alloc (Q #[C F x.t,C F x.k,C F x.v] 54)):=xA (xR _) _;have Kw:=hJ _ wr (wr.alloc (Q #[C F x.t,C F x.k,C F x.v] 54)) m (Moves.refl.alloc _);have D:=Pd V H8.size;have f:=i.ext H8;have i:Hold h (wr.alloc (Q #[C F x.t,C F x.k,C F x.v] 54)):=λq u h=>P4 H8 (z q u h);have p:=λn=>w.out _ x _ E _ #[C F n,x.val] Kw D ⟨n,rfl⟩;have r:=N p;have Y:=N i;have h:=Blk.new wr 54 #[C F x.t,C F x.k,C F x.v];have P:=ez h;have K:(wr.alloc (Q #[C F x.t,C F x.k,C F x.v] 54)).cell? ⟨B,0,I⟩=L (C F s.idx):=f.cell 0 rfl;have U:=N f;clear p Kw i H8 h f;gi_wp2;refine C3 (r _) ?_;rintro e W' (⟨hk',⟨rfl,d⟩|⟨rfl,d⟩⟩|⟨cc,rfl,d⟩)
   ·refine .inl ⟨true,rfl,?_⟩;have f:Blk W' B 44 (bE ⟨s,a,R,S⟩ (O (L ⟨b,X,I⟩) a.length c)):=hk'.same _ _ U (.inl ⟨KT,rfl⟩);have i:g.heap.size<=W'.heap.size:=Pd D hk'.size;have h:=N (Hold.keptK Y (λ_ _ g g=>⟨by omega,g⟩) hk');have Hl:=N d;have g:=N f;clear d hk' K f M P;gi_wp2;exact⟨⟨k+1,by go_num,by omega,by rw[Z.out];exact Hl.out,h.out,g,i⟩,by simp[intOf];omega⟩
   ·refine .inl ⟨false,rfl,?_⟩;have Hl:=N d;clear d hk' K M P;gi_wp2;refine bodyPost_ret (results_none rfl _ _ _) rfl ?_;refine .inr (.inr (.inl ⟨⟨_,rfl⟩,a.take k++[x],⟨a.drop (k+1),?_⟩,Hl.out⟩));rw[List.append_assoc];exact E.symm
   refine .inr ⟨cc,rfl,?_⟩;exact⟨rfl,.inr (.inr (.inr ⟨cc,rfl,d⟩))⟩
  ·obtain rfl:k=T a:=by omega
   have d:=m.out;rw[List.take_length]at d;have m:=N d;clear y d;gi_wp2;refine bodyPost_end (results_none rfl _ _ _) rfl ?_;exact .inl ⟨trivial,⟨_,rfl⟩,m.out⟩
def iZ(t:Tup):Ending:=if cT t then .returned (.tuple #[])else pan 2
theorem l8{W:World}{b:Nat}{ty:TypeId}{v:Value}(h:Blk W b ty (bE t v)):W.cell? ⟨b,0,I⟩=L (C F t.s.idx)/\W.cell? ⟨b,1,I⟩=L (C F t.s.term)/\W.cell? ⟨b,2,I⟩=L (C F t.s.sum)/\W.cell? ⟨b,3,I⟩=L (C F t.s.lvl)/\W.cell? ⟨b,4,I⟩=L (S t.s.fin)/\W.cell? ⟨b,5,I⟩=L v/\W.cell? ⟨b,6,I⟩=L (C F t.term)/\W.cell? ⟨b,7,I⟩=L (C F t.vote):=aU h
structure CkI (w:World) (bl:Nat) (t:Tup) (v:Value) (Hb:List Ent) (W:World):Prop where
 bx:Blk W w.heap.size 44 (bE t v)
 la:∃ c,Boxed W bl 3 (C F c)/\goT t.s.term t.log=goT c (t.log.drop Hb.length)
 e:Ext w W
theorem Ca:∀(l:List Ent) (c x:Int),goT c l=L x->c<=x
 |[],c,x,h=>by unfold goT at h;cases h;exact Int.le_refl _
 | e::l,c,x,h=>by
  unfold goT at h;split at h
  ·rename_i hc;have:=Ca l _ _ h;simp at hc;omega
  ·cases h
theorem nN{P:Program}{n:Nat}{fn:Func}{tmps:Array Value}{R:Ending->World->Prop}{D:Nat}{W:World}{c:List PanicEntry}(a:W.heap[D]?=L (.deferred (some [])))(b:R (.panicked c) (W.putObj D (.deferred none))):
  bodyPostM (Wd none) n P fn R (.panic c) ⟨tmps,[{ target:=.collected D,args:=#[] }]⟩ W:=
 ⟨by simp,.inl ⟨_,_,rfl,run_takeDeferred a,b⟩⟩
def fz(e:Int):List PanicEntry:=[{ v:=.iface 45 (C F e),recovered:=false }]
theorem iY(h:cT t=false):iZ t=pan 2:=by unfold iZ;rw[h];rfl
theorem rZ(h:cT t=true):iZ t=.returned (.tuple #[]):=by unfold iZ;rw[h];rfl
attribute [local go_sem] Oper.semAt_some in
theorem LJ(t:Tup)(v:Value)(w:World)(d:Es w v t.log)(H2:T t.log<=4000000):
  Calls G 88 #[.agg (bE t v)] w λZ w'=>Z=iZ t/\Ext w w':=by
 obtain⟨A,c,rfl,Hc,KU⟩:=xO d;obtain⟨E,Hq⟩:∃E,iZ t=E:=⟨_,rfl⟩;rw[Hq];have z:=N Hq;have HE:=N d;clear Hq d;refine(callsIn_wd (ro:=none) (n:=9)).1 ?_;refine CK func88 rfl ?_;simp only[ntmps88,P6,xC,P9,Pc,Pb,P2,P1,P7,P5,xI,P8];have Hs:Blk _ w.heap.size 44 (bE t (O A t.log.length c)):=Blk.new w 44 (bE t (O A t.log.length c));have hX:Ext w (w.alloc (Q (bE t (O A t.log.length c)) 44)):=xA (xR _) _;have ea:=l8 Hs;have HX:=N hX;have HB:=N Hs;clear Hs hX;have Hg:dF t=false->pan 2=E:=λh=>by rw[<-z.out];exact(iY (by unfold cT;rw[h];rfl)).symm
 have H3:=N Hg;clear Hg;unfold bE at *;refine lM (lR (n:=9) ?_);gi_wp2;refine lM (lR (n:=9) ?_);by_cases h1:t.s.ok=true
 case neg=>
  obtain rfl:=H3 (by unfold dF;simp[h1]);have h1:t.s.ok=false:=by simpa using h1
  exact mcTRighta0
 by_cases h2:t.s.idx<=1073740824
 case neg=>
  obtain rfl:=H3 (by unfold dF;simp[h2]);exact mcTRighta0
 by_cases h3:(T t.log:Int)<=200
 case neg=>
  obtain rfl:=H3 (by unfold dF;simp;omega);have J3:¬(T t.log<=200):=by omega
  exact mcTRighta0
 gi_wp2_with (first|(refine⟨trivial,?_⟩;gi_at_call 154;refine(callsIn_wd.2 (ik t.s _)).mono ?_;rintro e w1⟨rfl,H1⟩;have Hc:=HB.ext H1;have eb:=l8 Hc) | (refine⟨trivial,?_⟩;gi_at_call 153;refine(callsIn_wd.2 (oQ _)).mono ?_;rintro e w2⟨rfl,rfl⟩))
 have Kx:=xT HX H1;have Hm:=N Kx;have Hf:=N Hc;have HL:=N h3;clear H1 Hc HX HB Kx ea;refine lM (lR (n:=9) ?_);by_cases h4:0<=t.vote
 case neg=>
  obtain rfl:=H3 (by unfold dF;simp[h4]);exact mcTRighta1
 by_cases h5:t.vote<=5
 case neg=>
  obtain rfl:=H3 (by unfold dF;simp[h5]);exact mcTRighta1
 have Ha:dF t=true:=by unfold dF;simp[h1,h2,h4,h5];omega
 have Ht:cT t=(match goT t.s.term t.log with | none=>false | some x=>decide (x<=t.term)&&decide (0<=t.term)&&decide (t.term<=1073741824)):=by unfold cT;rw[Ha,Bool.true_and];cases goT t.s.term t.log<;>rfl
 have KB:0<=t.s.term:=by have:=(Sta.okP h1).2.1;unfold aB at this;simp at this;exact this.1
 by_cases h6:t.term<=1073741824
 case neg=>
  obtain rfl:pan 2=E:=by
   rw[<-z.out];refine(iY ?_).symm;rw[Ht];cases goT t.s.term t.log<;>simp[h6]
  exact mcTRighta1
 gi_wp2_with (first|(refine⟨trivial,?_⟩;gi_at_call 153;refine(callsIn_wd.2 (oQ _)).mono ?_;rintro e w2⟨rfl,rfl⟩))
 have Hk:=N Ht;have KM:=N KB;have H6:=N h6;clear h1 h2 h3 h4 h5 h6 Ha H3 Ht KB;refine lM (lR (n:=9) ?_);gi_wp2;have Hr:Ext w1 (w1.alloc (Q #[C F t.s.term] 3)):=xA (xR _) _;have Ky:=Boxed.new w1 3 (C F t.s.term);have KW:w.heap.size<w1.heap.size:=Hf.lt;have KF:=N Ky;have KO:=N (xT Hm Hr);have Kr:=N (Hf.ext Hr);have J1:w1.heap.size<(w1.alloc (Q #[C F t.s.term] 3)).heap.size:=by simp
 clear Hr Ky Hm Hf eb;have eb:=l8 Kr;refine lM (lM (lR (n:=9) ?_));generalize w1.alloc (Q #[C F t.s.term] 3)=w3 at *;gi_wp2_with (refine⟨trivial,?_⟩;gi_at_call 155;refine(callsIn_wd.2 (DS _ rfl _)).mono ?_;rintro e j⟨rfl,Hv⟩)
 have Hp:Ext w3 j:=by rw[<-Hv];exact xA (xR _) _
 have Ho:Blk j w3.heap.size 44 (bE t (O A t.log.length c)):=by rw[<-Hv];exact Blk.new w3 _ _
 have h0:CkI w w1.heap.size t (O A t.log.length c) [] j:=⟨Kr.ext Hp,⟨t.s.term,KF.kept (row:=none) (P3 Hp none) (by simp),rfl⟩,xT KO Hp⟩;have KX:w3.heap.size<j.heap.size:=Ho.lt;have Ja:w.heap.size<=j.heap.size:=h0.e.size;have KE:=N Ho;clear Hv Ho eb;have J0:Hid (∀W1,Below j.heap.size j W1->py G 208 #[H (L ⟨w3.heap.size,0,I⟩)] (λ(x:Ent) V _=>∃n,V = #[C F n,x.val]) (λk o=>k≠w1.heap.size/\o.isCells=true) (λ_ _=>False) t.log none W1):=λW1 hb=>Do w W1 t (O A t.log.length c) HE H2 (λq u hq=>P4 (xT h0.e hb) hq) w3.heap.size w1.heap.size (KE.ext hb) (by omega) (by omega);refine Iv ?_;refine MU (n:=9) (Rp:=λ(x:Ent) V _=>∃n,V = #[C F n,x.val]) (K:=λk o=>k≠w1.heap.size/\o.isCells=true) (M:=λ_ _=>False) (xs:=t.log) (pn:=none) (gf:=208) (lb:=#[H (L ⟨w3.heap.size,0,I⟩)]) ?hf0 (a:=⟨_,_⟩) ?hg ?eg ?hseq ?h1 ?h2 ?h3 (CkI w w1.heap.size t (O A t.log.length c)) (λ_ _ _=>False) (λc W=>c=fz 2/\pan 2=E/\Ext w W) ?hI (λ_ _ _ _ h _=>h) ?hIp h0
  (λx a' W=>∃(J:Nat) (u0 u3 u5 u6 u7 u8 u9 Hw Hx Hz HA HD HF HI HK HM HN HO HP HQ HR HS HT HU HV HW HY HZ K0 K1 K2 K3 K4 K5 K6 K7 K8 K9 Ka Kb Kc Kd Ke Kf Kg Kh Ki Kj Kk Kl Km Kn Ko Kp Kq:Value),a'=⟨#[u0,H (L ⟨w.heap.size,0,I⟩),H (L ⟨w1.heap.size,0,I⟩),u3,H (L ⟨J,0,I⟩),u5,u6,u7,u8,u9,Hw,Hx,Hz,HA,HD,HF,HI,HK,HM,HN,HO,HP,HQ,HR,HS,HT,HU,HV,HW,HY,HZ,K0,K1,K2,K3,K4,K5,K6,K7,K8,K9,Ka,Kb,Kc,Kd,Ke,Kf,Kg,Kh,Ki,Kj,Kk,Kl,Km,Kn,Ko,Kp,Kq],[]⟩/\Blk W J 54 #[C F x.t,C F x.k,C F x.v])
  ?hAx ?assign ?body ?done ?pan ?pan2 ?stop
 case hf0=>exact⟨_,func88⟩
 case hg=>exact rfl
 case eg=>exact enters_of func208 (by kernel_rfl) rfl
 case hseq=>exact λW1 hb hs=>J0.out W1 hb
 case h1=>exact λk o h=>h.elim
 case h2=>exact λk o h r e=>by rw[e]at h;cases h.2
 case h3=>exact λx V W h=>by obtain⟨n,rfl⟩:=h;rfl
 case hI=>
  rintro s X Y⟨l,⟨g,hb,hg⟩,d⟩hm;refine⟨hm.same _ _ l ?_,⟨g,hm.boxed hb ?_,hg⟩,hm.belowOf d ?_ (xN _)⟩
  ·rintro(h | h)
   ·exact h
   cases h.2
  ·rintro(h | h)
   ·exact h
   cases h.2
  rintro k o hk(h | h)
  ·exact h
  have:=h.1;omega
 case hIp=>
  rintro g X Y⟨rfl,h1,d⟩hm;refine⟨rfl,h1,hm.belowOf d ?_ (xN _)⟩;rintro k o hk(h | h)
  ·exact h
  have:=h.1;omega
 case hAx=>
  rintro x a' X Y⟨J,u0,u3,u5,u6,u7,u8,u9,Hw,Hx,Hz,HA,HD,HF,HI,HK,HM,HN,HO,HP,HQ,HR,HS,HT,HU,HV,HW,HY,HZ,K0,K1,K2,K3,K4,K5,K6,K7,K8,K9,Ka,Kb,Kc,Kd,Ke,Kf,Kg,Kh,Ki,Kj,Kk,Kl,Km,Kn,Ko,Kp,Kq,rfl,hb⟩hm;refine⟨J,_,_,_,_,_,_,_,_,_,_,_,_,_,_,_,_,_,_,_,_,_,_,_,_,_,_,_,_,_,_,_,_,_,_,_,_,_,_,_,_,_,_,_,_,_,_,_,_,_,_,_,_,_,_,_,rfl,hm.same _ _ hb ?_⟩;rintro(h | h)
  ·exact h
  cases h.2
 case assign=>
  rintro l' y x S W V V hx⟨l,⟨g,hb,hg⟩,d⟩Hu⟨n,rfl⟩B;clear hx;unfold Ent.val at *;gi_wp2;have H8:Ext W (W.alloc (Q #[C F x.t,C F x.k,C F x.v] 54)):=xA (xR _) _;exact B _ _ (Kept.refl.alloc _) ⟨l.ext H8,⟨g,hb.kept (row:=none) (P3 H8 none) (by simp),hg⟩,xT d H8⟩ ⟨_,_,_,_,_,_,_,_,_,_,_,_,_,_,_,_,_,_,_,_,_,_,_,_,_,_,_,_,_,_,_,_,_,_,_,_,_,_,_,_,_,_,_,_,_,_,_,_,_,_,_,_,_,_,_,_,rfl,Blk.new _ _ _⟩
 case body=>
  rintro l' y x S a' W hx V hr⟨l,⟨g,hb,hg⟩,d⟩Hu⟨J,u0,u3,u5,u6,u7,u8,u9,Hw,Hx,Hz,HA,HD,HF,HI,HK,HM,HN,HO,HP,HQ,HR,HS,HT,HU,HV,HW,HY,HZ,K0,K1,K2,K3,K4,K5,K6,K7,K8,K9,Ka,Kb,Kc,Kd,Ke,Kf,Kg,Kh,Ki,Kj,Kk,Kl,Km,Kn,Ko,Kp,Kq,rfl,U⟩;have Kz:t.log.drop (T y)=x::S:=by rw[hx,Pa]
  have Hh:t.log.drop (T (y++[x]))=S:=by rw[hx,show y++x::S=(y++[x])++S from by simp,Pa]
  rw[Kz,goT]at hg;have m:=N hg;have KI:=N Hh;have S:=ez U;have cl:=hb.cell;have S:J≠w1.heap.size:=by
   rintro rfl;have h1:W.heap[w1.heap.size]?=L (Obj.cells #[C F x.t,C F x.k,C F x.v] 54 (0,0)):=U;have h2:W.heap[w1.heap.size]?=L (Obj.cells #[C F g] 3 (0,0)):=hb;rw[h2]at h1;simp at h1
  clear hg Kz Hh hx hr;cases ho:okB x.t x.k x.v with
  |false=>
   obtain rfl:pan 2=E:=by
    rw[<-z.out];refine(iY ?_).symm;rw[Hk.out,m.out,ho];rfl
   gi_wp2_with (first|(refine⟨trivial,?_⟩;gi_at_call 156;refine(callsIn_wd.2 (mI x.t x.k x.v _)).mono ?_;rintro e P⟨rfl,b⟩;have b:Ext W P:=b;have q5:=U.ext b;have i:=hb.kept (row:=none) (P3 b none) (by simp);have ed:=ez q5;have Kt:=i.cell;have Ku:=i.frozen) | (refine⟨trivial,?_⟩;gi_at_call 153;refine(callsIn_wd.2 (ln _)).mono ?_;rintro e w2⟨he,rfl⟩;obtain rfl:e=.panicked (fz 2):=he))
   (refine⟨rfl,Kept.refl.below b (xN _),?_⟩;first | exact⟨rfl,rfl,xT d b⟩ | exact⟨rfl,xT d b⟩)
  |true=>
   by_cases f:g<=x.t
   ·gi_wp2_with (first|(refine⟨trivial,?_⟩;gi_at_call 156;refine(callsIn_wd.2 (mI x.t x.k x.v _)).mono ?_;rintro e P⟨rfl,b⟩;have b:Ext W P:=b;have q5:=U.ext b;have i:=hb.kept (row:=none) (P3 b none) (by simp);have ed:=ez q5;have Kt:=i.cell;have Ku:=i.frozen) | (refine⟨trivial,?_⟩;gi_at_call 153;refine(callsIn_wd.2 (oQ _)).mono ?_;rintro e w2⟨rfl,rfl⟩))
    have J:Kept (am (λk o=>k≠w1.heap.size/\o.isCells=true) j.heap.size) W P:=Kept.refl.below b (xN _);refine⟨J.setCell (λo _ _=>?_) _,?_⟩
    ·rintro(⟨h,_⟩|⟨h,_⟩)
     ·exact h rfl
     dsimp only at h;omega
    refine⟨(l.ext b).other (by omega) 0 _,⟨x.t,i.set _,?_⟩,Below.setCell (p:=⟨w1.heap.size,0,I⟩) (xT d b) (by show w.heap.size<=w1.heap.size;omega) _⟩;rw[m.out,KI.out,ho];simp[f]
   obtain rfl:pan 2=E:=by
    rw[<-z.out];refine(iY ?_).symm;rw[Hk.out,m.out,ho];simp[f]
   gi_wp2_with (first|(refine⟨trivial,?_⟩;gi_at_call 156;refine(callsIn_wd.2 (mI x.t x.k x.v _)).mono ?_;rintro e P⟨rfl,b⟩;have b:Ext W P:=b;have q5:=U.ext b;have i:=hb.kept (row:=none) (P3 b none) (by simp);have ed:=ez q5;have Kt:=i.cell;have Ku:=i.frozen) | (refine⟨trivial,?_⟩;gi_at_call 153;refine(callsIn_wd.2 (pJ (by omega) _)).mono ?_;rintro e w2⟨he,rfl⟩;obtain rfl:e=.panicked (fz 2):=he) | (refine⟨trivial,?_⟩;gi_at_call 153;refine(callsIn_wd.2 (ln _)).mono ?_;rintro e w2⟨he,rfl⟩;obtain rfl:e=.panicked (fz 2):=he))
   (refine⟨rfl,Kept.refl.below b (xN _),?_⟩;first | exact⟨rfl,rfl,xT d b⟩ | exact⟨rfl,xT d b⟩)
 case done=>
  rintro D W _ hD⟨l,⟨g,hb,hg⟩,d⟩B;rw[List.drop_length,goT]at hg;have cl:=hb.cell;have eb:=l8 l;have b:t.s.term<=g:=Ca _ _ _ hg;have KD:w.heap.size<=D:=by omega
  have m:=N hg;refine lR (n:=9) ?_;by_cases f:g<=t.term
  ·obtain rfl:Ending.returned (.tuple #[])=E:=by
    rw[<-z.out];refine(rZ ?_).symm;rw[Hk.out,m.out];have:=H6.out;have:=KM.out;simp;omega
   gi_wp2_with (first|(refine⟨trivial,?_⟩;gi_at_call 153;refine(callsIn_wd.2 (oQ _)).mono ?_;rintro e w2⟨rfl,rfl⟩))
   exact rO B (.tuple #[]) (results_none rfl _ _ _) ⟨rfl,cp d (hD:=KD) _⟩
  obtain rfl:pan 2=E:=by
   rw[<-z.out];refine(iY ?_).symm;rw[Hk.out,m.out];simp[f]
  have b:=N f;clear f;gi_wp2_with (first|(refine⟨trivial,?_⟩;gi_at_call 153;refine(callsIn_wd.2 (pJ b _)).mono ?_;rintro e w2⟨he,rfl⟩;obtain rfl:e=.panicked (fz 2):=he) | (refine⟨trivial,?_⟩;gi_at_call 153;refine(callsIn_wd.2 (ln _)).mono ?_;rintro e w2⟨he,rfl⟩;obtain rfl:e=.panicked (fz 2):=he))
  refine nN (R:=λZ w'=>Z=pan 2/\Ext w w') (c:=fz 2) B ?_;exact⟨rfl,cp d (hD:=KD) _⟩
 case pan=>
  rintro D c' W h;cases h
 case pan2=>
  rintro D c' W hD⟨rfl,rfl,d⟩B;refine nN (R:=λZ w'=>Z=pan 2/\Ext w w') (c:=fz 2) B ?_;exact⟨rfl,cp d _⟩
 case stop=>
  rintro D b y W _ _ h _;exact h.elim
theorem D5(t:Tup)(v:Value)(p:Nat)(w:World)(b:Es w v t.log)(f:T t.log<=4000000)(i:Blk w p 44 (bE t v)):
  Calls G 87 #[H (L ⟨p,0,I⟩)] w λh w'=>h=iZ t/\Ext w w':=by
 obtain⟨A,c,rfl,_,_⟩:=xO b;have g:=l8 i;have key:=LJ t _ w b f;unfold bE at key;have a:=N key;clear key;cases d:cT t with
 |true=>
  rw[rZ d]at a⊢;go_enter func87,ntmps87
  go_wp2_with fail
  refine a.mono ?_;rintro e j⟨rfl,H1⟩;clear g;go_wp2_with fail
  go_end0;exact⟨rfl,H1⟩
 |false=>
  rw[iY d]at a⊢;go_enter func87,ntmps87
  go_wp2_with fail
  refine a.mono ?_;rintro e j⟨rfl,H1⟩;exact⟨rfl,rfl,H1⟩
theorem MQ(t:Tup)(v:Value)(p:Nat)(w:World)(j:Es w v t.log)(l:T t.log<=4000000)(i:Blk w p 44 (bE t v)):
  Calls G 86 #[.func (.func 87) #[] #[H (L ⟨p,0,I⟩)]] w λb w'=>b=.returned (C F (if cT t then 0 else 2))/\Ext w w':=by
 have b:∀(fn:Fn) (first cap:Array Value) (w:World),(Instr.makeFunc fn first cap).run G w=.ok (.func fn first cap) w:=λ_ _ _ _=>rfl;have b:Ext w (w.alloc (Q #[C F 0] 45)):=xA (xR _) _;have he:=Blk.new w 45 #[C F 0];have key:=D5 t v p _ (SlR.ext j b) l (i.ext b);have g:=N b;have h:=N he;clear i b he j;cases c:cT t with
 |false=>
  rw[iY c]at key;have d:=N key;clear key c;go_enter_defers func86,ntmps86
  go_wp2_with fail
  refine d.mono ?_;rintro e k⟨rfl,H1⟩;have a:=h.ext H1;refine leaves_cons (f:=152) (args:=#[H (L ⟨w.heap.size,0,I⟩)]) (by simp) (by simp[go_sem]) ?_;refine(Ir ⟨w.heap.size,0,I⟩ _ 2 [] _ (a.cell 0 rfl) (a.frozen 0)).mono ?_;rintro e o b⟨rfl,rfl,rfl⟩;have hs:=a.set 0 (C F 2);have hc:=hs.cell 0 rfl;simp[Leaves,settle,results,results86,go_sem,hc];exact Below.setCell (p:=⟨w.heap.size,0,I⟩) (xT g H1) (xN _) _
 |true=>
  rw[rZ c]at key;have d:=N key;clear key c;go_enter_defers func86,ntmps86
  go_wp2_with fail
  refine d.mono ?_;rintro e k⟨rfl,H1⟩;have a:=h.ext H1;have b:=a.frozen 0;have b:=a.cell 0 rfl;have m:=N (xT g H1);have n:=N a;clear H1 a;go_wp2_with fail
  refine leaves_cons (f:=152) (args:=#[H (L ⟨w.heap.size,0,I⟩)]) (by simp) (by simp[go_sem]) ?_;refine(EO ⟨w.heap.size,0,I⟩ _).mono ?_;rintro e o a⟨rfl,rfl,rfl⟩;have hs:=n.set 0 (C F 0);have hc:(k.setCell ⟨w.heap.size,0,I⟩ (C F 0)).cell? ⟨w.heap.size,0,I⟩=L (C F 0):=hs.cell 0 rfl;simp[Leaves,settle,results,results86,go_sem,hc];exact Below.setCell (p:=⟨w.heap.size,0,I⟩) m (xN _) _
theorem FC(t:Tup)(v:Value)(w:World)(d:Es w v t.log)(h:T t.log<=4000000):
  Calls G 39 #[.agg #[C F t.s.idx,C F t.s.term,C F t.s.sum,C F t.s.lvl,S t.s.fin,v,C F t.term,C F t.vote]] w λf w'=>f=.returned (S (cT t))/\Ext w w':=by
 have f:∀(fn:Fn) (first cap:Array Value) (w:World),(Instr.makeFunc fn first cap).run G w=.ok (.func fn first cap) w:=λ_ _ _ _=>rfl;obtain⟨A,c,rfl,_,_⟩:=xO d;have f:Ext w (w.alloc (Q (bE t (O A t.log.length c)) 44)):=xA (xR _) _;have key:=MQ t _ w.heap.size _ (SlR.ext d f) h (Blk.new w 44 (bE t (O A t.log.length c)));unfold bE at *;have g:=N f;clear f d;cases a:cT t with
 |false=>
  rw[a]at key;have b:=N key;clear key a;go_enter func39,ntmps39
  go_wp2_with fail
  refine b.mono ?_;rintro e i⟨rfl,H1⟩;simp only[Bool.false_eq_true,if_false];go_wp2_with fail;go_ret;exact⟨rfl,xT g H1⟩
 |true=>
  rw[a]at key;have b:=N key;clear key a;go_enter func39,ntmps39
  go_wp2_with fail
  refine b.mono ?_;rintro e i⟨rfl,H1⟩;simp only[if_true];go_wp2_with fail;go_ret;exact⟨rfl,xT g H1⟩
