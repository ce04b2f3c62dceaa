/- Merged -/
import Derived.Test.YteggfecbjgbndaaGreatDoorZx26
import Derived.Sort.OwnSorted
set_option linter.all false
set_option maxHeartbeats 8000000
set_option maxRecDepth 100000
open Go.Proofs.Tryz
open Go.Value renaming slice->D,int->G,bool->Q,string->V
open Go.Mv renaming aN->E
open Go.Proofs.Tryz renaming prog->H
open Option renaming some->I,none->U
open Go.IntKind renaming i64->O,u8->Y
open Go.Obj renaming cells->X
open Array renaming getElem?_eq_some_iff->P0,replicate_zero->P1,replicate_succ->P2
open List renaming getElem?_eq_getElem->P3,drop_eq_getElem_cons->P4,length_map->P5,length_mergeSort->P6,append_toArray->P7,getElem?_drop->P8,size_toArray->P9,push_toArray->Pa,getElem?_map->Pb,append_assoc->Pc,length_drop->Pd,cons_append->Pe,length_nil->Pf
open Nat renaming le_trans->Pg,zero_le->Ph,reduceSub->Pi,reduceAdd->Pj
open Bool renaming eq_false_iff->Pk,true_and->Pl
open Go.Mv.Blk renaming new->Pm
open Go.Op renaming equalIn->Pn,bytesLess->Po,maxDepth->Pp,equal->Pq
namespace Go.Proofs.YteggfecbjgbndaaGreatDoor
open Go.RowKit Go.Mv Go.Shelf
variable {L l:List Fil} {bo i n r:Nat} {P:Prop} {t:TypeId} {v:Value} {W W' W0:World}
theorem mcDDonea0(h:P:=by
 all_goals
  refine wpIn_goto ?_;try simp only[Exit.then]
  refine bI ⟨⟨q1,_,_,bW l1 ⟨ok,on,ot,ob⟩,_,_,_,_,_,_,_,_,_,_,_,_,_,_,_,_,_,_,_,_,_,?_,rfl⟩,by simp[lenOf]⟩;refine⟨Ki,?_,KE.out,Hu.trans Hx,by have h9:=tc l1 ⟨ok,on,ot,ob⟩;have:=Kr.out;dsimp only at h9;omega,Kx⟩;first
   |exact Qs.tail (Hx.qs Ke) _ (λ_=>rfl)
   |(have h9:=Qs.tail (Hx.qs Ke) (I ⟨b,Hc,U⟩) (λh=>by omega);rwa[show c1-1=0 from by omega]at h9)):P:=h
theorem Qs.tail{b a c:Nat}{o:Oq}{q:List Oq}(h:Qs W (D (I ⟨b,a,U⟩) (o::q).length c) (o::q))(A:Option Addr)(g:0<q.length->A=I ⟨b,a+4,U⟩):Qs W (D A q.length (c-1)) q:=by
 obtain⟨xs,h1,h2⟩:=h;obtain⟨hl,A',c',e,d,m,f⟩:=h1;cases e;have hx:xs.length=(q.length+1)*4:=by rw[hl];rfl
 refine⟨xs.drop 4,⟨by rw[Pd,hx];omega,A,c-1,rfl,by simp at d;omega,by omega,λhn=>?_⟩,by rw[Pd,hx];omega,λk hk=>?_⟩
 ·obtain⟨d,d,e',hc⟩:=f (Nat.succ_pos _);cases e';refine⟨b,a+4,g hn,λj u a=>?_⟩;rw[P8]at a;have:=hc (4+j) u a;rwa[<-Nat.add_assoc]at this
 ·have:=h2.2 (k+1) (by simpa using hk);have e:(λi=>if i<4 then(xs.drop 4)[k*4+i]? else none)=λi=>if i<4 then xs[(k+1)*4+i]? else none:=by
   funext i
   split
   ·rw[P8];congr 1
    omega
   rfl
  rw[e];simpa using this
theorem OH(r:Nat)(l:List Fil)(o:Oq)(v:Value)(w:World)(c:FMap w r l)(a:Bs w v o.b)(hk:o.k=1):Calls H 251 #[.map (some r),.agg #[G Y o.k,sv o.n,sv o.t,v]] w (iA w r (bW l o)):=by
 have:=LO r l o v w c a;unfold bW;rwa[if_pos hk]
theorem OI(r:Nat)(l:List Fil)(o:Oq)(v:Value)(w:World)(c:FMap w r l)(a:Bs w v o.b)(hl:tot l+o.b.length<=70000000)(hk:o.k=2):Calls H 252 #[.map (some r),.agg #[G Y o.k,sv o.n,sv o.t,v]] w (iA w r (bW l o)):=by
 have:=LP r l o v w c a (by have:=FV o.n l;omega);unfold bW;rwa[if_neg (by omega),if_pos hk]
theorem OJ(r:Nat)(l:List Fil)(o:Oq)(v:Value)(w:World)(c:FMap w r l)(a:Bs w v o.b)(hk:o.k=3):Calls H 253 #[.map (some r),.agg #[G Y o.k,sv o.n,sv o.t,v]] w (iA w r (bW l o)):=by
 have:=LQ r l o v w c a;unfold bW;rwa[if_neg (by omega),if_neg (by omega),if_pos hk]
theorem OK(r:Nat)(l:List Fil)(o:Oq)(v:Value)(w:World)(c:FMap w r l)(a:Bs w v o.b)(hk:o.k=4):Calls H 254 #[.map (some r),.agg #[G Y o.k,sv o.n,sv o.t,v]] w (iA w r (bW l o)):=by
 have:=LR r l o v w c a;unfold bW;rwa[if_neg (by omega),if_neg (by omega),if_neg (by omega),if_pos hk]
theorem FQ{o:Oq}(h1:o.k≠1)(h2:o.k≠2)(h3:o.k≠3)(h4:o.k≠4):bW l o=l:=by
 unfold bW;rw[if_neg h1,if_neg h2,if_neg h3,if_neg h4]
theorem BB(f:Nat)(W:World):(binOp BinOp.neq 261 (.func (.func f) #[] #[]) .nilFunc).run H W=.ok (Q true) W:=by
 have h:∀d:Nat,(Pn (d+1) 261 (.func (.func f) #[] #[]) .nilFunc).run H W=.ok false W:=λd=>by
  simp[Pn,run_underlying underlying261]
 simp only[binOp];simp[Pq,Pp,h 9999]
theorem BG(W:World):(binOp BinOp.neq 261 .nilFunc .nilFunc).run H W=.ok (Q false) W:=by
 have h:∀d:Nat,(Pn (d+1) 261 .nilFunc .nilFunc).run H W=.ok true W:=λd=>by
  simp[Pn,run_underlying underlying261]
 simp only[binOp];simp[Pq,Pp,h 9999]
def lenOf:Value->Nat
 |D _ n _=>n
 |_=>0
structure DnI (r:Nat) (T:List Fil) (w:World) (q:List Oq) (v:Value) (l:List Fil) (W:World):Prop where
 fm:FMap W r l
 qs:Qs W v q
 ft:q.foldl bW l=T
 mg:Mg w W r
 bb:tot l+aL q<=70000000
 ll:q.length<=2000000
def DnR(r:Nat)(T:List Fil)(w:World)(a:Act)(W:World):Prop:=
 ∃(q:List Oq) (A:Option Addr) (c:Nat) (l:List Fil) (u5 u6 u7 u8 u9 J9 Ja Jb Jc Jd Je Jf Jg Jh Ji Jj Jk Jl Jm Jn Jo:Value),Hid (DnI r T w q (D A q.length c) l W)/\a=⟨#[.map (some r),D A q.length c,undef,undef,.map none,u5,u6,u7,u8,u9,J9,Ja,Jb,Jc,Jd,Je,Jf,Jg,Jh,Ji,Jj,Jk,Jl,Jm,Jn,Jo],[]⟩
theorem LN(r:Nat)(l:List Fil)(q:List Oq)(O:Value)(w:World)(J:FMap w r l)(M:Qs w O q)(hb:tot l+aL q<=70000000)(hl:q.length<=2000000):
  Calls H 163 #[.map (some r),O] w λe w'=>e=.returned (.map (some r))/\FMap w' r (q.foldl bW l)/\Mg w w' r:=by
 obtain⟨A,c,rfl,_,_⟩:=Qs.open_ M;obtain⟨T,O⟩:∃T,q.foldl bW l=T:=⟨_,rfl⟩;have H0:=E (show DnI r T w q (D A q.length c) l w from⟨J,M,O,Mg.of_ext (xR _) J,hb,hl⟩);rw[O];clear J M O hb;refine(callsIn_wd (ro:=none) (n:=9)).1 ?_;refine callsIn_of_wp func163 rfl trivial ?_ rfl;simp only[ntmps163,P9,xC,Pf,Pj,Pi,P2,P1,Pa,P7,xI,Pe];gi_wp2;refine eU 0 (DnR r T w) (λa _=>lenOf (a.tmps.getD 1 undef)) rfl (λl' h=>by cases l'<;>first | exact absurd rfl h | rfl) ?_ ?_
 ·intro J;have M:=E J;clear J;gi_wp2;refine wpIn_label ?_;gi_step;gi_step;exact M _ _ ⟨q,A,c,l,_,_,_,_,_,_,_,_,_,_,_,_,_,_,_,_,_,_,_,_,_,H0,rfl⟩
 ·clear H0 hl;rintro a Z⟨q1,J,c1,l1,J,J,J,J,J,J,J,J,J,J,J,J,J,J,J,J,J,J,J,J,J,g,rfl⟩;cases q1 with
  |nil=>
   gi_wp2;refine bJ ?_;go_ret;have:=g.ft;exact⟨rfl,by rw[<-this];exact g.fm,g.mg⟩
  |cons o q1=>
   obtain⟨_,b,Hc,rfl,hc⟩:=g.qs.at_ (by simp);obtain⟨z,Q,R,B,d,X,C⟩:=hc 0 (by simp);simp only[List.getElem_cons_zero,Nat.zero_mul,Nat.add_zero]at z Q R X C;have J:=g.ll;have J:(((q1.length:Nat):Int)+1==0)=false:=by simp;omega
   have Kb:=E C;obtain⟨_,_,e,J,J⟩:=Qs.open_ g.qs;cases e;clear hc C;obtain⟨ok,on,ot,ob⟩:=o;dsimp only at *;simp only[xC]at *;gi_wp2;refine mq (S:=λW=>W.cell? ⟨b,Hc,U⟩=I (G Y ok)) (by kernel_rfl) z (λ_=>?_);refine ab 1 ?_;refine ab 2 ?_;refine ab 3 ?_;refine ab 4 ?_;refine ah 0 (λK F=>?_);go_simp;refine(yo _).mono ?_;rintro e s⟨rfl,C⟩;have H3:Ext Z s:=by rw[<-C];exact xA (xD (xR _)) _
   have J:s.heap[Z.drew.heap.size]?=I (.map ddMap 4):=by rw[<-C];exact World.alloc_heap_new _ _
   have M:=tA ok s _ J;clear C J;generalize Z.drew.heap.size=N at *;have C:=H3.cell z;refine af F _ _ C (λ_=>?_);refine ah 5 (λK F=>?_);go_simp;refine af F _ _ C (λ_=>?_);refine ab 6 ?_;refine aq ?_;refine mC ?_;have C:s.cell? ⟨b,Hc+1,U⟩=I (V ⟨on.toArray⟩):=H3.cell Q;have C:s.cell? ⟨b,Hc+2,U⟩=I (V ⟨ot.toArray⟩):=H3.cell R;have C:=H3.cell X;have C:=E H3;have Hq:=E (g.fm.ext H3);have y:=E (Bs.ext Kb H3);have Ke:=E (g.qs.ext H3);have Hu:=E (g.mg.trans (Mg.of_ext H3 g.fm));have KE:=E g.ft;have C:tot l1+(ob.length+aL q1)<=70000000:=by have:=g.bb;rw[eH]at this;exact this
   have Kr:=E C;have Kx:q1.length<=2000000:=by omega
   clear M z Q R X H3 Kb g C;have g:=BB;have g:=BG;by_cases j:ok=1
   ·have f:eC ok=.func (.func 251) #[] #[]:=by subst j;rfl
    have x:=E j;rw[f];clear j f;gi_wp2_with (refine⟨trivial,?_⟩;gi_at_call 251;refine(callsIn_wd.2 (OH r l1 ⟨ok,on,ot,ob⟩ _ s Hq y x)).mono ?_;rintro e w3⟨rfl,Ki,Hx⟩)
    all_goals exact mcDDonea0
   by_cases k:ok=2
   ·have f:eC ok=.func (.func 252) #[] #[]:=by subst k;rfl
    have x:=E k;rw[f];clear k f;gi_wp2_with (refine⟨trivial,?_⟩;gi_at_call 252;refine(callsIn_wd.2 (OI r l1 ⟨ok,on,ot,ob⟩ _ s Hq y (by have:=Kr.out;dsimp only;omega) x)).mono ?_;rintro e w3⟨rfl,Ki,Hx⟩)
    all_goals exact mcDDonea0
   by_cases m:ok=3
   ·have f:eC ok=.func (.func 253) #[] #[]:=by subst m;rfl
    have x:=E m;rw[f];clear m f;gi_wp2_with (refine⟨trivial,?_⟩;gi_at_call 253;refine(callsIn_wd.2 (OJ r l1 ⟨ok,on,ot,ob⟩ _ s Hq y x)).mono ?_;rintro e w3⟨rfl,Ki,Hx⟩)
    all_goals exact mcDDonea0
   by_cases p:ok=4
   ·have f:eC ok=.func (.func 254) #[] #[]:=by subst p;rfl
    have x:=E p;rw[f];clear p f;gi_wp2_with (refine⟨trivial,?_⟩;gi_at_call 254;refine(callsIn_wd.2 (OK r l1 ⟨ok,on,ot,ob⟩ _ s Hq y x)).mono ?_;rintro e w3⟨rfl,Ki,Hx⟩)
    all_goals exact mcDDonea0
   have f:eC ok=.nilFunc:=by unfold eC;rw[if_neg j,if_neg k,if_neg m,if_neg p]
   rw[f];clear f;gi_wp2
   all_goals
    refine wpIn_goto ?_;try simp only[Exit.then]
    refine bI ⟨⟨q1,_,_,l1,_,_,_,_,_,_,_,_,_,_,_,_,_,_,_,_,_,_,_,_,_,?_,rfl⟩,by simp[lenOf]⟩;refine⟨Hq.out,?_,by have h9:=KE.out;rw[List.foldl_cons,FQ j k m p]at h9;exact h9,Hu.out,by have:=Kr.out;omega,Kx⟩;first
     |exact Qs.tail Ke _ (λ_=>rfl)
     |(have h9:=Qs.tail Ke (I ⟨b,Hc,U⟩) (λh=>by omega);rwa[show c1-1=0 from by omega]at h9)
theorem rM(v:Value)(d:Dk)(w:World)(hD:DkV w v d)(J:d.fs.length<=2000000)(M:d.q.length<=2000000)(hb:tot d.fs+aL d.q<=70000000):
  Calls H 96 #[v] w λe w'=>∃r,e=.returned (.map (some r))/\FMap w' r (bD d.fs d.q)/\w.heap.size<=r/\Ext w w':=by
 obtain⟨b,b,rfl,k,o⟩:=hD;obtain⟨A,c,rfl,_,_⟩:=Fs.open_ k;obtain⟨B,f,rfl,_,_⟩:=Qs.open_ o;have b:Ext w (w.alloc (X #[D A d.fs.length c,D B d.q.length f,G O d.quota,G O d.fuse,Q d.dead] 25)):=xA (xR _) _;have p:=Pm w 25 #[D A d.fs.length c,D B d.q.length f,G O d.quota,G O d.fuse,Q d.dead];have F:=E (k.ext b);have HQ:=E (o.ext b);have s:=E b;have N:=E p;have C:=E hb;clear k o b p hb;obtain⟨g,j,R,T,V⟩:=ae N;go_enter func96,ntmps96
 go_wp2_with fail
 refine wp_region_held_drew (S:=λW=>W.cell? ⟨w.heap.size,0,U⟩=I (D A d.fs.length c)/\W.cell? ⟨w.heap.size,1,U⟩=I (D B d.q.length f)) (by kernel_rfl) ⟨g,j⟩ (λ_=>?_);refine ab 0 ?_;refine ab 1 ?_;refine ab 3 ?_;refine ab 4 ?_;refine ah 2 (λK m=>?_);go_simp;refine(Ik _ d.fs _ (Fs.ext F (xD (xR _))) J).mono ?_;rintro e Y⟨r,rfl,K3,f,b⟩;have H4:=xT (xD (xR _)) b;have Km:=E K3;have a:=E H4;have x:=E g;have y:=E j;have z:w.heap.size<=r:=Pg s.size f;clear g j R T V K3 H4 b f;refine af m _ _ ⟨a.cell x,a.cell y⟩ (λ_=>?_);refine ah 5 (λK m=>?_);go_simp;refine(LN r (dq d.fs) d.q _ Y Km (HQ.ext a) (by have:=rp d.fs;have:=C.out;omega) M).mono ?_;rintro e b⟨rfl,g,f⟩;have Hq:=E g;have b:=E f;clear g f;refine af m _ _ ⟨b.cell (a.cell x),b.cell (a.cell y)⟩ (λ_=>?_);refine ab 6 ?_;refine aq ?_;go_wp2_with fail;go_ret;exact⟨r,rfl,Hq.out,z,b.ext (xT s a) z⟩
def ld(W:World)(r i:Nat):Nat:=match W.heap[i]?,W.heap[r]? with
 |some (.mapIter _ _ seen _),some (.map es _)=>(es.toList.filter λe=>!seen.contains e.born).length
 |_,_=>0
theorem FIt.left(h:FIt W r i l L):ld W r i=L.length:=by
 obtain⟨es,a,a,seen,a,Z,h1,h2,h3,h4,h5,a,a,b,h8,b⟩:=h;unfold ld;rw[h2,h1];dsimp only;rw[a,b,P5,List.filter_map,P5];rfl
structure UsI (r i:Nat) (l:List Fil) (w:World) (n:Nat) (W:World):Prop where
 ex:∃ L,FIt W r i l L/\n+tot L=tot l
 e:Ext w W
theorem Bc(r:Nat)(l:List Fil)(w:World)(g:FMap w r l)(hb:tot l<=2000000000):Calls H 173 #[.map (some r)] w λe w'=>e=.returned (G O (tot l))/\Ext w w':=by
 go_enter func173,ntmps173
 go_wp2_with (at_range;refine CM rfl (.tmp 5) rfl underlying142 r l rfl g ?_;intro j d H4)
 have f:=E (show UsI r w.heap.size l w 0 j from⟨⟨l,d,by omega⟩,H4⟩);clear d H4 g;go_frame
 go_loopw [2,4] (λn b wr=>∃k:Nat,n=G O k/\Hid (UsI r w.heap.size l w k wr)) (λ_ _ wr=>ld wr r w.heap.size)
 case atStart=>exact⟨0,rfl,f⟩
 case round=>
  obtain⟨k,rfl,d⟩:=hrel;obtain⟨L,hI,o⟩:=d.ex;have a:=E d.e;have m:=E hI.left;clear d f;go_wp2_with (at_next;refine C6 rfl (.tmp 6) rfl r w.heap.size l L rfl hI ?_ ?_)
  ·intro h;subst h;have hk:k=tot l:=by simp[tot]at o⊢;omega
   subst hk;go_wp2_with fail;go_ret;exact⟨rfl,a.out⟩
  ·intro n b A c B p g d z h q s;have f:=Bb g;rw[fy]at f;dsimp only at f;have j:=g.length_eq;rw[xC]at j;have x:=E (show ld p r w.heap.size<ld wr r w.heap.size by rw[d.left,m.out];omega);have y:=E (show UsI r w.heap.size l w (k+b.length) p from⟨⟨B,d,by omega⟩,h.ext a (xN _)⟩);have hk:k+b.length<=2000000000:=by omega
   clear hI d h g j f o m a z q;simp only[sv]at s⊢;go_wp2_with fail
   go_roundw
   case rel=>exact⟨k+b.length,by go_num,y⟩
   case measure=>exact x.out
theorem Mo(v:Value)(d:Dk)(w:World)(hD:DkV w v d)(o:d.fs.length<=2000000)(p:d.q.length<=2000000)(hb:tot d.fs+aL d.q<=70000000):
  Calls H 275 #[v] w λe w'=>e=.returned (G O (tot d.now))/\Ext w w':=by
 obtain⟨a,a,rfl,b,f⟩:=hD;obtain⟨A,c,rfl,_,_⟩:=Fs.open_ b;obtain⟨B,h,rfl,_,_⟩:=Qs.open_ f;have a:Ext w (w.alloc (X #[D A d.fs.length c,D B d.q.length h,G O d.quota,G O d.fuse,Q d.dead] 25)):=xA (xR _) _;have g:=Pm w 25 #[D A d.fs.length c,D B d.q.length h,G O d.quota,G O d.fuse,Q d.dead];have hc:=rM _ d _ (show DkV _ _ d from⟨_,_,rfl,b.ext a,f.ext a⟩) o p hb;have HC:=E hc;have s:=E a;have o:=mT d.fs d.q;have h:tot d.now=tot (bD d.fs d.q):=oW d.fs d.q;have k:=E h;have m:=E (show tot (bD d.fs d.q)<=2000000000 by omega);clear b f a hc o h hb;have x:=ae g;clear g;go_enter func275,ntmps275
 go_wp2_with fail
 refine HC.mono ?_;rintro e y⟨r,rfl,K3,a,H4⟩;have Km:=E K3;have j:=E (xT s H4);clear K3 a H4 HC x;go_wp2_with fail
 refine(Bc r _ y Km m).mono ?_;rintro e a⟨rfl,H3⟩;go_wp2_with fail;go_ret;exact⟨by rw[k.out];rfl,xT j H3⟩
theorem mcDFinea0(h:P:=by
 subst hf;have HT:=E ht;clear ht;refine ab 4 ?_;refine ab 5 ?_;refine ab 6 ?_;refine ab 7 ?_;refine ab 8 ?_;refine ab 9 ?_;refine ab 10 ?_;refine ab 11 ?_;refine ab 12 ?_;refine ab 13 ?_;refine ab 14 ?_;refine ab 15 ?_;refine ab 16 ?_;refine ab 17 ?_;refine ab 18 ?_;refine ab 19 ?_;refine ab 20 ?_;refine aq ?_;go_wp2_with fail;go_ret;exact⟨rfl,HE.out⟩):P:=h
theorem mcDFinea1(h:P:=by
 refine ab 9 ?_;refine ab 10 ?_;refine ag 11 ?_;refine ag 12 ?_;refine ag 13 ?_;refine ag 14 ?_;refine ag 15 ?_;refine ag 16 ?_;refine ag 17 ?_;refine ag 18 ?_;refine ab 19 ?_;refine ab 20 ?_;refine aq ?_;go_wp2_with fail;go_ret;exact⟨rfl,HE.out⟩):P:=h
theorem LS{k:Int}(h:k=1\/k=2\/k=3\/k=4):∃f,eC k=.func (.func f) #[] #[]:=by
 unfold eC;rcases h with rfl | rfl | rfl | rfl<;>exact⟨_,rfl⟩
theorem FO{k:Int}(h:¬(k=1\/k=2\/k=3\/k=4)):eC k=.nilFunc:=by
 unfold eC;rw[if_neg (by omega),if_neg (by omega),if_neg (by omega),if_neg (by omega)]
theorem yT(o:Oq)(v:Value)(w:World)(q:Bs w v o.b):Calls H 172 #[.agg #[G Y o.k,sv o.n,sv o.t,v]] w λe w'=>e=.returned (Q (bO o))/\Ext w w':=by
 obtain⟨A,c,rfl,_,_⟩:=xO q;obtain⟨k,n,t,b⟩:=o;dsimp only at *;have C:Ext w (w.alloc (X #[G Y k,sv n,sv t,D A b.length c] 98)):=xA (xR _) _;have j:=Pm w 98 #[G Y k,sv n,sv t,D A b.length c];have O:=E C;have x:=E j;have M:=E (λW r h=>tA k W r h);have Z:=BB;have Z:=BG;clear C j q;simp only[sv]at *;obtain⟨F,j⟩:∃F,bO ⟨k,n,t,b⟩=F:=⟨_,rfl⟩;rw[j];have d:=E j;clear j;obtain⟨y,z,B,T⟩:=blk4 x;go_enter func172,ntmps172
 go_wp2_with fail
 refine wp_region_held_drew (S:=λW=>W.cell? ⟨w.heap.size,0,U⟩=I (G Y k)/\W.cell? ⟨w.heap.size,1,U⟩=I (V ⟨n.toArray⟩)/\W.cell? ⟨w.heap.size,2,U⟩=I (V ⟨t.toArray⟩)) (by kernel_rfl) ⟨y,z,B⟩ (λ_=>?_);refine ab 1 ?_;refine ab 2 ?_;refine ah 0 (λK m=>?_);go_simp;refine(yo _).mono ?_;rintro e p⟨rfl,j⟩;have H3:Ext (w.alloc (X #[G Y k,V ⟨n.toArray⟩,V ⟨t.toArray⟩,D A b.length c] 98)) p:=by rw[<-j];exact xA (xD (xR _)) _
 have q:p.heap[(w.alloc (X #[G Y k,V ⟨n.toArray⟩,V ⟨t.toArray⟩,D A b.length c] 98)).drew.heap.size]?=I (.map ddMap 4):=by rw[<-j];exact World.alloc_heap_new _ _
 have C:=M p _ q;clear j q;generalize(w.alloc (X #[G Y k,V ⟨n.toArray⟩,V ⟨t.toArray⟩,D A b.length c] 98)).drew.heap.size=N at *;obtain⟨j,p,q,_⟩:=blk4 (x.ext H3);have HE:=E (xT O H3);clear y z B T H3;refine af m _ _ ⟨j,p,q⟩ (λ_=>?_);refine ah 3 (λK m=>?_);go_simp;refine af m _ _ ⟨j,p,q⟩ (λ_=>?_);by_cases hk:k=1\/k=2\/k=3\/k=4
 case neg=>
  rw[FO hk];have hf:false=F:=by
   rw[<-d.out];symm
   rw[Pk];intro h;exact hk ((lK _).1 h).1
  subst hf;clear hk;refine ab 4 ?_;refine ab 5 ?_;refine ag 6 ?_;refine ag 7 ?_;refine ag 8 ?_;exact mcDFinea1
 obtain⟨f,hf⟩:=LS hk;rw[hf];have s:=E hk;clear hf hk;by_cases hn:n=[]
 case pos=>
  have J:(n==[])=true:=by simpa using hn
  have hf:false=F:=by
   rw[<-d.out];symm
   rw[Pk];intro h;exact((lK _).1 h).2.1 hn
  subst hf;have g:=E hn;clear hn;refine ab 4 ?_;refine ab 5 ?_;refine ab 6 ?_;refine ab 7 ?_;refine ab 8 ?_;exact mcDFinea1
 have J:(n==[])=false:=by simpa using hn
 have g:=E hn;clear hn;by_cases a:k=3
 case neg=>
  have R:(k != 3)=true:=by simp[a]
  have hf:true=F:=by
   rw[<-d.out];exact((lK _).2 ⟨s.out,g.out,λh=>absurd h a⟩).symm
  subst hf;clear a;refine ab 4 ?_;refine ab 5 ?_;refine ab 6 ?_;refine ab 7 ?_;refine ab 8 ?_;refine ab 9 ?_;refine ab 10 ?_;refine ab 11 ?_;refine ab 12 ?_;refine ab 13 ?_;refine ab 14 ?_;refine ag 15 ?_;refine ag 16 ?_;refine ag 17 ?_;refine ab 18 ?_;refine ab 19 ?_;refine ab 20 ?_;refine aq ?_;go_wp2_with fail;go_ret;exact⟨rfl,HE.out⟩
 have R:(k != 3)=false:=by simp[a]
 have j:=E a;clear a;by_cases ht:t=[]
 case pos=>
  have a:(t==[])=true:=by simpa using ht
  have hf:false=F:=by
   rw[<-d.out];symm
   rw[Pk];intro h;exact((lK _).1 h).2.2 j ht
  exact mcDFinea0
 have a:(t==[])=false:=by simpa using ht
 have hf:true=F:=by
  rw[<-d.out];exact((lK _).2 ⟨s.out,g.out,λ_=>ht⟩).symm
 exact mcDFinea0
/-! Right's test of the queue -/
theorem ER(o:Oq)(v:Value)(w:World)(a:Bs w v o.b):Calls H 274 #[.agg #[G Y o.k,sv o.n,sv o.t,v]] w λe w'=>e=.returned (Q (!bO o))/\Ext w w':=by
 obtain⟨A,c,rfl,_,_⟩:=xO a;have d:Ext w (w.alloc (X #[G Y o.k,sv o.n,sv o.t,D A o.b.length c] 98)):=xA (xR _) _;have g:=blk4 (Pm w 98 #[G Y o.k,sv o.n,sv o.t,D A o.b.length c]);have HC:=E (yT o _ _ (a.ext d));have f:=E d;clear d a;simp only[sv]at *;go_enter func274,ntmps274
 go_wp2_with fail
 refine HC.mono ?_;rintro e a⟨rfl,a⟩;go_wp2_with fail;go_ret;exact⟨rfl,xT f a⟩
def fW:List Oq->Nat->Int
 |[],_=>-1
 |o::q,i=>if bO o then fW q (i+1)else i
theorem Ea(q:List Oq)(i:Nat):(0<=fW q i↔q.all bO=false)/\-1<=fW q i:=by
 induction q generalizing i with
 |nil=>simp[fW]
 |cons o q ih=>
  have:=ih (i+1);unfold fW;rw[List.all_cons];cases h:bO o<;>simp[h]at this⊢<;>first | omega | exact this
theorem CR(v:Value)(q:List Oq)(w:World)(h:Qs w v q)(hl:q.length<=2000000):
  Calls H 295 #[v,.func (.func 274) #[] #[]] w λe w'=>e=.returned (G O (fW q 0))/\Ext w w':=by
 obtain⟨A,c,rfl,h1,h2⟩:=Qs.open_ h;have HQ:=E h;clear h;go_enter func295,ntmps295
 go_wp2_with fail
 go_loopw [8] (λi wr=>∃k:Nat,k<=q.length/\i=G O k/\Hid (fW q 0=fW (q.drop k) k)/\Ext w wr) (λi _=>q.length-(intOf i).toNat)
 case atStart=>exact⟨0,Ph _,rfl,rfl,xR _⟩
 case round=>
  obtain⟨k,hk,rfl,g,f⟩:=hrel;by_cases a:k<q.length
  ·obtain⟨_,b,j,rfl,hc⟩:=(HQ.ext f).at_ (by omega);obtain⟨j,j,j,B,d,j,j⟩:=hc k a;have hbd:=g.out;rw[P4 a,fW]at hbd;have m:=E hbd;have HC:=E (λW a=>ER q[k] _ W (Bs.ext j a));clear hc j hbd g;generalize q[k]=o at *;simp only[sv]at *;go_wp2_with (go_at_call 274;refine(HC _ (xR _)).mono ?_;rintro e w' ⟨rfl,hb⟩)
   ·go_ret;have a:bO o=false:=by simpa using(by assumption:(!bO o)=true)
    have:=m.out;rw[a]at this;exact⟨by rw[this];rfl,xT f hb⟩
   go_roundw
   case rel=>
    have a:bO o=true:=by simpa using(by assumption:(!bO o)=false)
    have:=m.out;rw[a]at this;exact⟨k+1,by omega,by go_num,this,xT f hb⟩
   case measure=>simp[intOf];omega
  ·go_wp2_with fail
   go_ret;have:=g.out;rw[List.drop_of_length_le (by omega)]at this;exact⟨by rw[this];rfl,f⟩
theorem Cz(v:Value)(q:List Oq)(w:World)(h:Qs w v q)(hl:q.length<=2000000):
  Calls H 273 #[v,.func (.func 274) #[] #[]] w λe w'=>e=.returned (Q (!q.all bO))/\Ext w w':=by
 obtain⟨h1,h2⟩:=Ea q 0;have a:=E h1;have b:=E h2;have HC:=E (CR v q w h hl);clear h1 h2;go_enter func273,ntmps273
 go_wp2_with fail
 refine HC.mono ?_;rintro e b⟨rfl,b⟩;go_wp2_with fail;go_ret;refine⟨ret_bool ?_,b⟩;have:=a.out;cases h:q.all bO<;>simp[h]at this⊢<;>omega
theorem mcDRighta0(h:P:=by
 refine ab 15 ?_;refine ab 16 ?_;refine ag 17 ?_;refine ag 18 ?_;refine ag 19 ?_;refine ag 20 ?_;refine ag 21 ?_;refine ab 22 ?_;refine ab 23 ?_;refine aq ?_;go_wp2_with fail;go_ret;exact⟨rfl,xD H5⟩):P:=h
theorem N2{l n:List UInt8}(h:ltB l n=true):Po n l=false/\(n==l)=false:=by
 constructor
 ·rw[Pk];intro h2;have:=qY h h2;rw[qO]at this;cases this
 ·simpa using(sj h).symm
theorem L6{l n:List UInt8}(h:ltB l n=false):(Po n l||n==l)=true:=by
 by_cases he:n=l
 ·simp[he]
 ·rw[show Po n l=true from Bz h (Ne.symm he)];rfl
structure RiI (w:World) (d:Dk) (b:Nat) (cs:Array Value) (l:List UInt8) (k:Nat) (W:World):Prop where
 ri:dj [] d.fs=dj l (d.fs.drop k)
 bl:Blk W b 25 cs
 e:Ext w W
theorem FR(v:Value)(d:Dk)(w:World)(hD:DkV w v d)(Hl:d.fs.length<=2000000)(Hm:d.q.length<=2000000)(hb:tot d.fs+aL d.q<=70000000):
  Calls H 221 #[v] w λe w'=>e=.returned (Q d.right)/\Ext w w':=by
 obtain⟨vf,vq,rfl,hF,hQ⟩:=hD;obtain⟨A,c,rfl,_,_⟩:=Fs.open_ hF;obtain⟨B,F,rfl,_,_⟩:=Qs.open_ hQ;have H6:Ext w (w.alloc (X #[D A d.fs.length c,D B d.q.length F,G O d.quota,G O d.fuse,Q d.dead] 25)):=xA (xR _) _;have Y:=Pm w 25 #[D A d.fs.length c,D B d.q.length F,G O d.quota,G O d.fuse,Q d.dead];have HF:=E hF;have HQ:=E hQ;have HB:=E hb;have g:=E (show RiI w d w.heap.size #[D A d.fs.length c,D B d.q.length F,G O d.quota,G O d.fuse,Q d.dead] [] 0 _ from⟨rfl,Y,H6⟩);obtain⟨R,hR⟩:∃R,d.right=R:=⟨_,rfl⟩;have Z:=E hR;rw[hR];clear hF hQ hb H6 hR;obtain⟨j,m,o,p,s⟩:=ae Y;clear Y;go_enter func221,ntmps221
 go_wp2_with fail;clear j m o p s;go_loopw [3,10] (λvl i wr=>∃(k:Nat) (l:List UInt8),k<=d.fs.length/\i=G O k/\vl=V ⟨l.toArray⟩/\Hid (RiI w d w.heap.size #[D A d.fs.length c,D B d.q.length F,G O d.quota,G O d.fuse,Q d.dead] l k wr)) (λ_ i _=>d.fs.length-(intOf i).toNat)
 case atStart=>exact⟨0,[],Ph _,rfl,rfl,g⟩
 case round=>
  clear g;obtain⟨k,l,hk,rfl,rfl,g⟩:=hrel;by_cases N:k<d.fs.length
  ·obtain⟨_,b,Hc,rfl,hc⟩:=(HF.out.ext g.out.e).at_ (by omega);obtain⟨Kg,B2,d2,JR,_⟩:=hc k N;have z:=g.out.ri;rw[P4 N,dj]at z;have M:=E z;have J:=E g.out.bl;have C:=E g.out.e;clear hc z g;generalize d.fs[k]=x at *;obtain⟨n,bb⟩:=x;dsimp only at *;have HX:=E (Pm wr 68 #[sv n,D B2 bb.length d2]);obtain⟨x0,x1⟩:=iF HX;simp only[sv]at *;cases a:ltB l n with
   |false=>
    have JC:=L6 a;have hf:false=R:=by
     rw[<-Z.out];unfold Dk.right;rw[M.out,a];rfl
    subst hf;clear a;go_wp2_with fail;go_ret;exact⟨rfl,xA C _⟩
   |true=>
    obtain⟨JC,JS⟩:=N2 a;have Kn:=E (show dj [] d.fs=dj n (d.fs.drop (k+1))from by rw[M.out,a,Pl]);clear a;go_wp2_with fail
    go_roundw
    case rel=>exact⟨k+1,n,by omega,by go_num,rfl,⟨Kn.out,J.out.alloc _,xA C _⟩⟩
    case measure=>simp[intOf];omega
  ·obtain rfl:k=d.fs.length:=by omega
   have z:=g.out.ri;rw[List.drop_length,dj]at z;have M:=E z;have J:=E g.out.bl;have C:=E g.out.e;clear g z;obtain⟨j,m,o,p,s⟩:=ae J;go_wp2_with fail
   refine(Cz _ d.q _ (HQ.out.ext C) Hm).mono ?_;rintro e w1⟨rfl,H4⟩;clear j m o p s;have Ho:=E (J.out.ext H4);have H5:=E (xT C H4);clear J C H4;obtain⟨j,m,o,p,s⟩:=ae Ho;have Kf:=E (show(d.q.all bO&&decide (d.q.length<=400)&&decide (0<=d.quota)&&decide (0<=d.fuse)&&decide ((tot d.now:Int)<=d.quota))=R from by rw[<-Z.out];unfold Dk.right;rw[M.out,Pl]);clear Z M;cases f:d.q.all bO with
   |false=>
    have hf:false=R:=by rw[<-Kf.out,f];rfl
    subst hf;clear Kf f;go_wp2_with fail
    refine wp_region_held_drew (S:=λW=>W.cell? ⟨w.heap.size,0,U⟩=I (D A d.fs.length c)/\W.cell? ⟨w.heap.size,1,U⟩=I (D B d.q.length F)/\W.cell? ⟨w.heap.size,2,U⟩=I (G O d.quota)/\W.cell? ⟨w.heap.size,3,U⟩=I (G O d.fuse)/\W.cell? ⟨w.heap.size,4,U⟩=I (Q d.dead)) (by kernel_rfl) ⟨j,m,o,p,s⟩ (λ_=>?_);refine ab 0 ?_;refine ab 1 ?_;refine ab 2 ?_;refine ag 3 ?_;refine ag 4 ?_;refine ag 5 ?_;refine ag 6 ?_;refine ab 7 ?_;refine ab 8 ?_;refine ag 9 ?_;refine ag 10 ?_;refine ag 11 ?_;refine ag 12 ?_;refine ag 13 ?_;refine ag 14 ?_;exact mcDRighta0
   |true=>
    have T:=E (show(decide (d.q.length<=400)&&decide (0<=d.quota)&&decide (0<=d.fuse)&&decide ((tot d.now:Int)<=d.quota))=R from by rw[<-Kf.out,f,Pl]);clear Kf f;go_wp2_with fail
    refine wp_region_held_drew (S:=λW=>W.cell? ⟨w.heap.size,0,U⟩=I (D A d.fs.length c)/\W.cell? ⟨w.heap.size,1,U⟩=I (D B d.q.length F)/\W.cell? ⟨w.heap.size,2,U⟩=I (G O d.quota)/\W.cell? ⟨w.heap.size,3,U⟩=I (G O d.fuse)/\W.cell? ⟨w.heap.size,4,U⟩=I (Q d.dead)) (by kernel_rfl) ⟨j,m,o,p,s⟩ (λ_=>?_);by_cases h4:d.q.length<=400
    case neg=>
     have Jz:decide (((d.q.length:Nat):Int)<=400)=false:=by simp;omega
     have hf:false=R:=by rw[<-T.out];simp[h4]
     subst hf;clear T h4;refine ab 0 ?_;refine ab 1 ?_;refine ab 2 ?_;refine ab 3 ?_;refine ab 4 ?_;refine ab 5 ?_;refine ab 6 ?_;refine ab 7 ?_;refine ab 8 ?_;refine ag 9 ?_;refine ag 10 ?_;refine ag 11 ?_;refine ag 12 ?_;refine ag 13 ?_;refine ag 14 ?_;exact mcDRighta0
    have Jz:decide (((d.q.length:Nat):Int)<=400)=true:=by simp;omega
    have Hk:=E (show(decide (0<=d.quota)&&decide (0<=d.fuse)&&decide ((tot d.now:Int)<=d.quota))=R from by rw[<-T.out];simp[h4]);clear T h4;by_cases y:0<=min d.quota d.fuse
    case neg=>
     have JF:decide (0<=min d.quota d.fuse)=false:=by simpa using y
     have hf:false=R:=by
      rw[<-Hk.out];by_cases h1:0<=d.quota
      ·have h2:¬0<=d.fuse:=by omega
       simp[h2]
      simp[h1]
     subst hf;clear Hk y;refine ab 0 ?_;refine ab 1 ?_;refine ab 2 ?_;refine ab 3 ?_;refine ab 4 ?_;refine ab 5 ?_;refine ab 6 ?_;refine ab 7 ?_;refine ab 8 ?_;refine ab 9 ?_;refine ab 10 ?_;refine ab 11 ?_;refine ab 12 ?_;refine ab 13 ?_;refine ab 14 ?_;exact mcDRighta0
    have JF:decide (0<=min d.quota d.fuse)=true:=by simpa using y
    have Ko:=E (show decide ((tot d.now:Int)<=d.quota)=R from by
     rw[<-Hk.out];have h1:0<=d.quota:=by omega
     have h2:0<=d.fuse:=by omega
     simp[h1,h2])
    clear Hk y;refine ab 0 ?_;refine ab 1 ?_;refine ab 2 ?_;refine ab 3 ?_;refine ab 4 ?_;refine ab 5 ?_;refine ab 6 ?_;refine ab 7 ?_;refine ab 8 ?_;refine ab 9 ?_;refine ab 10 ?_;refine ab 11 ?_;refine ab 12 ?_;refine ab 13 ?_;refine ab 14 ?_;refine ab 15 ?_;refine ab 16 ?_;refine ab 17 ?_;refine ab 19 ?_;refine ab 20 ?_;refine ah 18 (λK hK=>?_);go_simp;refine(Mo _ d _ (show DkV _ _ d from⟨_,_,rfl,HF.out.ext (xD H5),HQ.out.ext (xD H5)⟩) Hl Hm HB).mono ?_;rintro e w2⟨rfl,HS⟩;have H3:=xT (xD (xR _)) HS;have HD:=E (xT H5 H3);clear j m o p s;obtain⟨j,m,o,p,s⟩:=ae (Ho.out.ext H3);clear H3 HS;refine af hK _ _ ⟨j,m,o,p,s⟩ (λ_=>?_);refine ab 21 ?_;refine ab 22 ?_;refine ab 23 ?_;refine aq ?_;go_wp2_with fail;go_ret;exact⟨by rw[<-Ko.out];rfl,HD.out⟩
theorem L9(v:Value)(d:Dk)(w:World)(hD:DkV w v d)(s:d.fs.length<=2000000)(x:d.q.length<=2000000)(hb:tot d.fs+aL d.q<=70000000):
  Calls H 171 #[v] w λe w'=>e=.returned (G O d.may)/\Ext w w':=by
 obtain⟨f,f,rfl,o,p⟩:=hD;obtain⟨A,c,rfl,_,_⟩:=Fs.open_ o;obtain⟨B,m,rfl,_,_⟩:=Qs.open_ p;have f:Ext w (w.alloc (X #[D A d.fs.length c,D B d.q.length m,G O d.quota,G O d.fuse,Q d.dead] 25)):=xA (xR _) _;have k:=Pm w 25 #[D A d.fs.length c,D B d.q.length m,G O d.quota,G O d.fuse,Q d.dead];have HC:=E (FR _ d _ (show DkV _ _ d from⟨_,_,rfl,o.ext f,p.ext f⟩) s x hb);have y:=E f;have z:=E k;obtain⟨M,f⟩:∃M,d.may=M:=⟨_,rfl⟩;rw[f];have g:=E f;obtain⟨C,F,I,J,h⟩:=ae k;go_enter func171,ntmps171
 go_wp2_with fail
 refine HC.mono ?_;rintro e f⟨rfl,H4⟩;have f:=E (z.ext H4);have b:=E (xT y H4);obtain⟨C,F,I,J,h⟩:=ae f;cases j:d.right with
 |false=>
  have hm:(2:Int)=M:=by rw[<-g.out];unfold Dk.may;rw[if_pos j]
  subst hm;go_wp2_with fail;go_ret;exact⟨rfl,b.out⟩
 |true=>
  cases a:d.dead with
  |true=>
   have hm:(40:Int)=M:=by rw[<-g.out];unfold Dk.may;rw[if_neg (by rw[j];simp),if_pos a]
   subst hm;rw[a]at h;go_wp2_with fail;go_ret;exact⟨rfl,b.out⟩
  |false=>
   have hm:(0:Int)=M:=by rw[<-g.out];unfold Dk.may;rw[if_neg (by rw[j];simp),if_neg (by rw[a];simp)]
   subst hm;rw[a]at h;go_wp2_with fail;go_ret;exact⟨rfl,b.out⟩
def iC(W:World)(b:Nat)(f:Int):World:=if 0<f then(W.setCell ⟨b,3,U⟩ (G O (f-1))).setCell ⟨b,4,U⟩ (Q (f-1==0))else W
theorem AV(b:Nat)(d g:Value)(q f:Int)(c:Bool)(w:World)(a:Blk w b 25 #[d,g,G O q,G O f,Q c])(hf:f<=9223372036854775807):
  Calls H 174 #[.pointer (I ⟨b,0,U⟩)] w λe w'=>e=.returned (.tuple #[])/\iC w b f=w':=by
 have c:=ae a;have c:=a.frozen 3;have c:=a.frozen 4;unfold iC;by_cases a:0<f
 ·rw[if_pos a];have c:wrap64 (f-1)=f-1:=by unfold wrap64;omega
  go_enter func174,ntmps174
  go_wp2_with fail
  refine bodyPost_end (results_none rfl _ _ _) rfl ?_;exact⟨rfl,rfl⟩
 ·rw[if_neg a];go_enter func174,ntmps174
  go_wp2_with fail
  refine bodyPost_end (results_none rfl _ _ _) rfl ?_;exact⟨rfl,rfl⟩
theorem MF(base:Nat)(v:Value)(a:List (List UInt8))(w:World)(f:w.ownsRow base 9 1 v a.length (a.map sv))(hl:a.length<=2000000):
  Calls H 165 #[v] w λe w'=>e=.returned (.tuple #[])/\w'.ownsRow base 9 1 v a.length ((a.mergeSort leB).map sv)/\w.grownBy w' v.ownBlock:=by
 rcases f.2 with⟨rfl,hx⟩|⟨g,cap,k,rfl,c,hg,d,h,j,b⟩
 ·have m:a=[]:=List.eq_nil_of_length_eq_zero hx;subst m;refine(Tryz.slices_Sort_string_none none 0 w).mono ?_;rintro e w' ⟨rfl,rfl⟩;exact⟨rfl,by simpa using f,⟨rfl,rfl,rfl,xN _,λ_ _ _=>rfl⟩⟩
 ·have f:Go.Sort.Holds encStr w g 0 a.toArray:=holds_of_block hg (by have:=b;rw[Nat.mul_one]at this;exact this);refine(Tryz.slices_Sort_string g 0 cap a w f (P0.1 hg).1 (by omega)).mono ?_;rintro e w' ⟨rfl,n,b,rfl⟩;refine⟨rfl,?_,grownBy_sorted _⟩;exact ownsRow_sorted (ts:=a.mergeSort leB) (P6 a) c hg d h j
theorem rS:(Tryz.prog.info? 9).map (λi=>(i.zero,i.size,i.bytes))=I (some (V ⟨#[]⟩),1,16):=by kernel_rfl
theorem sr(l:List (List UInt8)):∀u∈l.map sv,u.oneCell'=true:=by
 intro u a;obtain⟨n,_,rfl⟩:=List.mem_map.1 a;rfl
def SoK(a bo:Nat)(k:Nat)(o:Obj):Prop:=(∀r,o≠.loop r)/\((k<a/\k≠bo)\/(a<=k/\o.ty=I 9))
theorem Bu{w w':World}{cs:Array Value}(b:Blk w bo t cs)(a:∀(k:Nat) (n:Int),cs[k]?≠some (G Y n))(hk:∀p x,w.cell? p=I x->p.block≠bo->w'.cell? p=I x):∀ {es:List MapEntry} {l:List Fil},E2 w es l->E2 w' es l
 |[],[],_=>trivial
 |_::_,_::_,h=>⟨h.1,Bs.away h.2.1 (Bs.awayBlk h.2.1 b a) hk,Bu b a hk h.2.2⟩
 |[],_::_,h=>h.elim
 |_::_,[],h=>h.elim
structure SoO (W0:World) (bo:Nat) (W:World):Prop where
 old:∀ k o,W0.heap[k]?=I o->(∀ r,o≠.loop r)->k≠bo->W.heap[k]?=I o
 sz:W0.heap.size<=W.heap.size
theorem SoO.cell(h:SoO W0 bo W){p:Addr}{x:Value}(hc:W0.cell? p=I x)(c:p.block≠bo):W.cell? p=I x:=by
 obtain⟨o,b,a⟩:=cells_of_cell hc;exact(World.cell?_of_block ((h.old _ o b (λr e=>by rw[e]at a;cases a) c).trans b.symm)).trans hc
theorem SoO.fmap{cs:Array Value}(h:SoO W0 bo W)(f:FMap W0 r l)(a:Blk W0 bo t cs)(d:∀(k:Nat) (n:Int),cs[k]?≠some (G Y n)):FMap W r l:=by
 obtain⟨es,c,hb,hs,he⟩:=f;have b:r≠bo:=by
  rintro rfl;rw[show W0.heap[r]?=_ from a]at hb;cases hb
 exact⟨es,c,h.old r _ hb (λr e=>(by cases e)) b,hs,Bu a d (λp x hc a=>h.cell hc a) he⟩
theorem SoO.boxed{b:Nat}(h:SoO W0 bo W)(c:Boxed W0 b t v)(a:b≠bo):Boxed W b t v:=h.old b _ c (λr e=>by cases e) a
theorem SoO.kept(h:SoO W0 bo W)(hk:Kept (am (SoK W0.heap.size bo) n) W W'):SoO W0 bo W':=by
 refine⟨λk o b hl a=>?_,Pg h.sz hk.size⟩;exact hk.same k _ (h.old k o b hl a) (.inl ⟨hl,.inl ⟨(P0.1 b).1,a⟩⟩)
theorem SoO.ext(h:SoO W0 bo W)(a:Ext W W'):SoO W0 bo W':=
 ⟨λk o c hl b=>by
   have h1:=h.old k o c hl b;exact(a.block k (P0.1 h1).1).trans h1,Pg h.sz a.size⟩
theorem SoO.of_ext(bo:Nat)(a:Ext W0 W):SoO W0 bo W:=⟨λk o b _ _=>(a.block k (P0.1 b).1).trans b,a.size⟩
theorem IQ{b n1:Nat}(hn:b<=n1){xs:List Value}(h:W.ownsRow n1 9 1 v n xs)(hk:Kept (am (SoK b bo) n1) W W'):W'.ownsRow n1 9 1 v n xs:=by
 refine⟨h.1,?_⟩;rcases h.2 with hn | ⟨g,cap,a,rfl,hb,b,rest⟩
 ·exact .inl hn
 ·exact .inr ⟨g,cap,a,rfl,hb,hk.same _ _ b (.inl ⟨λr e=>(by cases e),.inr ⟨Pg hn hb,rfl⟩⟩),rest⟩
def SoR(x:Fil)(a:Array Value)(W:World):Prop:=∃C d,a = #[.agg #[sv x.1,D C x.2.length d]]/\OwnB W 0 (D C x.2.length d) x.2
theorem Ch{w:World}:∀ {Z:List Ze},E2 w (Z.map (·.1)) (Z.map (·.2))->∀z∈Z,Bs w z.1.val z.2.2
 | z::Z,h,y,a=>by
  rcases List.mem_cons.1 a with rfl | a
  ·exact h.2.1
  ·exact Ch h.2.2 y a
theorem FIt.with_(h:FIt W r i l L)(e:W'.heap[r]?=W.heap[r]?)(hi:W'.heap[i]?=W.heap[i]?)(o:FMap W' r l):FIt W' r i l L:=by
 obtain⟨es,f,g,seen,k,Z,h1,h2,h3,h4,h5,j,c,d,h8,m⟩:=h;obtain⟨p,c',a,_,b⟩:=o;rw[e,h1]at a;cases a;rw[c,d]at b;exact⟨es,f,g,seen,k,Z,e.trans h1,hi.trans h2,h3,h4,h5,j,c,d,λz a=>⟨(h8 z a).1,Ch b z a⟩,m⟩
structure SoC (r i:Nat) (l:List Fil) (W0:World) (v:Value) (ss:List (List UInt8)) (W:World):Prop where
 e:Ext W0 W
 ex:∃ L,FIt W r i l L/\(ss++L.map (·.1)).Perm (l.map (·.1))
 ow:W.ownsRow W0.heap.size 9 1 v ss.length (ss.map sv)
theorem pR{base:Nat}{e:TypeId}{a:Nat}{xs:List Value}(h:W.ownsRow base e a v n xs){k:Nat}{o:Obj}(hk:W.heap[k]?=I o)(hc:o.isCells=false):some k≠v.ownBlock:=by
 intro he;rcases h.2 with⟨rfl,_⟩|⟨g,cap,a,rfl,_,hg,_⟩
 ·cases he
 ·cases he;rw[hk]at hg;cases hg;cases hc
theorem FIt.objs(h:FIt W r i l L):(∃es c,W.heap[r]?=I (.map es c))/\∃m a s c,W.heap[i]?=I (.mapIter m a s c):=by
 obtain⟨es,b,b,seen,b,Z,h1,h2,_⟩:=h;exact⟨⟨_,_,h1⟩,⟨_,_,_,_,h2⟩⟩
attribute [local go_sem] Oper.semAt_some in
theorem EH(q W0:World)(C:Ext q W0)(r B bo:Nat)(l:List Fil)(hM:FMap q r l)(hB:Boxed q B 142 (.map (some r)))(JA:B≠bo){tb:TypeId}{cb:Array Value}(KT:Blk q bo tb cb)(Hz:∀(k:Nat) (n:Int),cb[k]?≠some (G Y n))(hl:l.length<=2000000)(JB:∀p∈l,p.2.length<=2000000):
  Seq H 164 #[.pointer (I ⟨B,0,U⟩)] SoR (SoK q.heap.size bo) (λ_ _=>False) (bP l) W0:=by
 intro lp J Jx hJ JQ hY h0;refine(callsIn_wd (ro:=none) (n:=9)).1 ?_;refine callsIn_of_wp func164 rfl trivial ?_ rfl;simp only[ntmps164,P9,xC,Pf,Pj,Pi,P2,P1,Pa,P7,xI,Pe];have V:=(hB.kept (row:=none) (Ext.grown C none) (by simp)).cell;have HM:=E hM;have HY:=E hY;have Kc:=E hB;have Jp:=E KT;clear hM hY hB KT;gi_wp2_with (gi_at_range;refine CJ rfl (.tmp 7) rfl underlying142 r l rfl (HM.ext C) ?_;intro w1 K0 H4)
 have HC:=E (show SoC r W0.heap.size l W0 (D none 0 0) [] w1 from⟨H4,⟨l,K0,by simp⟩,⟨by simp,.inl ⟨rfl,rfl⟩⟩⟩);clear K0 H4 V;obtain⟨i0,hi,J6,J7,J8⟩:=info_parts rS;go_frame
 gi_loopw [3,4] (λvs _ W=>∃(d:List (List UInt8)) (A:Option Addr) (c:Nat),vs=D A d.length c/\Hid (SoC r W0.heap.size l W0 (D A d.length c) d W)) (λ_ _ W=>ld W r W0.heap.size)
 case atStart=>exact⟨[],none,0,rfl,HC⟩
 case round=>
  clear HC;obtain⟨d,A,c,rfl,HC⟩:=hrel;obtain⟨L,hI,hp⟩:=HC.ex;have y:=E hI;have z:=E hp;have Z:=E HC.e;have g:=E HC.ow;clear hI hp HC;gi_wp2_with (gi_at_next;refine CP rfl (.tmp 8) rfl r W0.heap.size l L rfl y ?_ ?_)
  ·intro hL;subst hL;have Hg:d.Perm (l.map (·.1)):=by simpa using z.out
   have J1:bP l=(d.mergeSort leB).map λn=>(n,(ak n l).getD []):=by unfold bP;rw[mergeSort_of_perm Hg]
   have Ky:(d.mergeSort leB).length=d.length:=P6 d;have J2:d.length<=2000000:=by have:=Hg.length_eq;rw[P5]at this;omega
   have KM:=E J1;have Js:=E Ky;clear Hg J1 Ky z y;gi_wp2_with (refine⟨trivial,?_⟩;gi_at_call 165;refine(callsIn_wd.2 (MF W0.heap.size _ d wr g J2)).mono ?_;rintro e w⟨rfl,K,HZ⟩)
   have H3:Ext W0 w:=Ext.grownOwn Z g HZ;have KX:=hJ [] W0 w h0 ⟨H3.os,H3.tape,H3.output,H3.size,λk o hk _=>(H3.block k (P0.1 hk).1).trans hk⟩;have KJ:=E KX;have j:=E K;have h:=E (SoO.of_ext bo (xT C H3));have KC:=H3.size;clear H3 KX K HZ g Z h0 hi J6 J7 J8;generalize d.mergeSort leB=N at *;gi_loopw [6,21] (λ_ i W=>∃k:Nat,k<=N.length/\i=G O k/\Hid (J ((bP l).take k) W)/\Hid (SoO q bo W)/\Hid (W.ownsRow W0.heap.size 9 1 (D A d.length c) d.length (N.map sv))/\W0.heap.size<=W.heap.size) (λ_ i _=>N.length-(intOf i).toNat)
   case atStart=>exact⟨0,Ph _,rfl,KJ,h,j,KC⟩
   case round=>
    clear KJ h j;obtain⟨k,hk,rfl,HJ,h,g,KQ⟩:=hrel;have Ky:=Js.out;by_cases S:k<N.length
    ·have K8:SlR wr 1 (D A d.length c) d.length (N.map sv):=xW g;obtain⟨_,b,q,rfl,KV⟩:=K8.at_ (by omega);have Kg:=KV k (sv N[k]) (by rw[Pb,P3 S];rfl);obtain⟨bs,T⟩:∃bs,(ak N[k] l).getD []=bs:=⟨_,rfl⟩;have Kv:bs.length<=2000000:=by
      rw[<-T];cases hg:ak N[k] l with
      |none=>simp
      |some b0=>exact JB _ (ib hg)
     have hx:(bP l)[k]?=I (N[k],bs):=by rw[KM.out,Pb,P3 S,Option.map_some,T]
     have q:k<(bP l).length:=(List.getElem?_eq_some_iff.1 hx).1;have S:bP l=(bP l).take k++(N[k],bs)::(bP l).drop (k+1):=by
      have h9:(bP l)[k]=(N[k],bs):=by rw[P3 q]at hx;exact Option.some.inj hx
      rw[<-h9];rw[<-P4 q,List.take_append_drop]
     have J5:(bP l).take (k+1)=(bP l).take k++[(N[k],bs)]:=by
      rw[List.take_succ_eq_append_getElem q];congr 2
      rw[P3 q]at hx;exact Option.some.inj hx
     have KN:=E S;have Jw:=E J5;have Kb:=E T;have KL:=E (h.fmap HM Jp Hz);have V:=(h.boxed Kc JA).cell;clear KV K8 T hx S J5 q;generalize N[k]=n at *;simp only[sv]at Kg;gi_wp2_with (first
      |(gi_at_lookup;refine CC rfl (.tmp 27) (.tmp 28) false rfl underlying142 underlying9 (nq _) r l rfl KL n rfl ?_;rw[Kb.out];intro A1 q q;have Ho:=E q;clear q)
      |(refine⟨trivial,?_⟩;gi_at_call 146;refine(callsIn_wd.2 (oY _ bs wr Ho Kv)).mono ?_;rintro e x⟨A2,c2,rfl,M,f⟩))
     have q:Moves (am (λ_ _=>False) W0.heap.size) wr x:=⟨f.os,f.tape,f.output,f.size,λk o hk _=>(f.block k (P0.1 hk).1).trans hk⟩;have S:=HY ((bP l).take k) (n,bs) _ KN x #[.agg #[sv n,D A2 bs.length c2]] (hJ _ _ _ HJ q) (Pg KQ f.size) ⟨A2,c2,rfl,ay M (Ph _)⟩;have Hy:=E S;have Kp:=E (h.ext f);have Jt:=E (ai g f);have Ks:=Pg KQ f.size;clear S q M f V Ho KL;refine ew Hy ?_;rintro e W' ⟨F,⟨rfl,R⟩|⟨rfl,R⟩⟩
     ·refine⟨true,rfl,?_⟩;have h:=E R;have S:=E (Kp.kept F);have q:=E (IQ C.size Jt F);have T:=Pg Ks F.size;clear R F Hy Kg;gi_wp2;exact⟨⟨k+1,by omega,by go_num,by rw[Jw.out];exact h.out,S,q,T⟩,by simp[intOf];omega⟩
     refine⟨false,rfl,?_⟩;have h:=E R;clear R F Hy Kg;gi_wp2;refine bodyPost_ret (results_none rfl _ _ _) rfl ?_;refine⟨⟨_,rfl⟩,.inr ⟨(bP l).take k++[(n,bs)],⟨(bP l).drop (k+1),?_⟩,h.out⟩⟩;rw[Pc];exact KN.symm
    have q:k=N.length:=by omega
    have h:J (bP l) wr:=by
     have:=HJ.out;rwa[List.take_of_length_le (by rw[KM.out,P5];omega)]at this
    have F:=E h;have J:d.length<=k:=by omega
    clear h q;gi_wp2;refine bodyPost_end (results_none rfl _ _ _) rfl ?_;exact⟨⟨_,rfl⟩,.inl F⟩
  ·intro n b A1 V Q w q J V h S T;have J2:d.length+L.length=l.length:=by have:=z.length_eq;simpa using this
   have Kx:L.length=Q.length+1:=by have:=q.length_eq;simpa using this
   have F:=E (h.ext Z (xN _));have K:=g.kept (row:=I W0.heap.size) ⟨h.os,h.tape,h.output,Nat.le_of_eq h.size.symm,λk hk R=>h.block k (λe=>R (by rw[e]))⟩ (.inr (by obtain⟨m,a,s,c',R⟩:=y.objs.2;exact(pR g R rfl).symm));have j:=E K;have KI:=E J;have Jv:=E (show(d++[n]++Q.map (·.1)).Perm (l.map (·.1))from by
    refine List.Perm.trans ?_ z;rw[Pc];refine List.Perm.append_left d ?_;exact(q.map (·.1)).symm)
   have Kd:=E (show Q.length<ld wr r W0.heap.size by rw[y.out.left];omega);clear q J V h S K y z g;simp only[sv]at T⊢;gi_wp2_with (gi_at_builtin;refine lk _ rfl (.tmp 13) (.tmp 15) 102 rfl W0.heap.size 9 i0 _ 1 16 underlying102 hi J6 J7 J8 rfl (by decide) _ d.length (d.map sv) rfl (ai j (xA (xR _) _)) _ 1 [sv n] rfl (fu w [sv n] 9 1 rfl) (sr [n]) (by unfold maxLen;omega) (by omega) (by have:=F.size;simp;omega) ?_;intro g x M h)
   have g:Ext w (w.alloc (X #[sv n] 9)):=xA (xR _) _;have f:Ext W0 x:=Ext.grownOwn (xT F g) (ai j g) h;have KP:FIt x r W0.heap.size l Q:=by
    obtain⟨⟨es,q,q⟩,m,w,w,w,w⟩:=(KI.ext g).objs;exact(KI.ext g).with_ (h.block _ (P0.1 q).1 (pR (ai j g) q rfl)) (h.block _ (P0.1 w).1 (pR (ai j g) w rfl)) (HM.ext (xT C f))
   obtain⟨A3,c3,rfl,_,_⟩:=xO (xW M);have g:x.ownsRow W0.heap.size 9 1 (D A3 (d++[n]).length c3) (d++[n]).length ((d++[n]).map sv):=by
    rw[xL,List.map_append];exact M
   exact⟨⟨d++[n],A3,c3,by rw[xL];rfl,⟨f,⟨Q,KP,Jv.out⟩,g⟩⟩,by rw[KP.left];exact Kd.out⟩
