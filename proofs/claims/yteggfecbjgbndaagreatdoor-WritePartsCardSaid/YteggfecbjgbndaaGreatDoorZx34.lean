/- Merged -/
import Derived.Test.YteggfecbjgbndaaGreatDoorZx26
import Derived.Test.YteggfecbjgbndaaGreatDoorZx28
set_option linter.all false
set_option maxHeartbeats 8000000
set_option maxRecDepth 100000
open Go.Proofs.Tryz
open List renaming length->M
open Go.Value renaming string->B,slice->C,int->H
open Go.Obj renaming cells->D
open Go.Mv renaming aN->E
open Option renaming none->F,some->G
open Go.Proofs.Tryz renaming prog->I
open Go.IntKind renaming u8->J,i64->L
open Nat renaming zero_add->P0,min_eq_left->P1,add_zero->P2
open List renaming length_take->P3,length_drop->P4,append_assoc->P5,append_nil->P6,getElem?_drop->P7,getElem?_take_of_lt->P8,singleton_append->P9,findIdx?_cons->Pa,map_toArray->Pb,map_cons->Pc,map_nil->Pd
open Go.Proofs.YteggfecbjgbndaaGreatDoor.FRow renaming append->Pe,one'->Pf
open Go.Mv.AllReadyH renaming two->Pg
open Go.Value renaming ownBlock->Ph
open Go.Mv.Blk renaming new->Pi
namespace Go.Proofs.YteggfecbjgbndaaGreatDoor
open Go.RowKit Go.Mv Go.Shelf
variable {l:List Fil} {xs:List Value} {b c n:Nat} {v:Value} {W w:World}
def KB(b:Nat)(W W':World):Prop:=Kept (λk _=>k≠b) W W'
theorem om(v:Value)(fs:List Fil)(n:List UInt8)(w:World)(f:Fs w v fs)(hl:M fs<=4000000):Calls I 113 #[v,sv n] w λe w'=>e=.returned (H L (bS fs n))/\w=w':=by
 obtain⟨A,c,rfl,h1,h2⟩:=Fs.open_ f;have o:=E f;unfold sv;clear f;go_enter func113,ntmps113
 go_wp2_with fail
 go_loopw [5] (λi wr=>∃j:Nat,j<=M fs/\i=H L j/\Hid (∀q (_:q<j) (h2:q<M fs),fs[q].1≠n)/\w=wr) (λi _=>M fs-(intOf i).toNat)
 case atStart=>exact⟨0,by omega,rfl,λq g=>by omega,rfl⟩
 case round=>
  obtain⟨j,f,rfl,a,rfl⟩:=hrel;by_cases k:j<M fs
  ·obtain⟨_,b,f,rfl,hc⟩:=o.at_ (by omega);obtain⟨p,_⟩:=hc j k;have m:fs[j].1=n->bS fs n=j:=λh=>rW k h a;have g:fs[j].1≠n->∀q (_:q<j+1) (h2:q<M fs),fs[q].1≠n:=λh q h3 h2=>by
    by_cases e:q=j
    ·subst e;exact h
    exact a q (by omega) h2
   have f:=E m;have Hq:=E g;clear hc m g;generalize fs[j].1=x at *;simp only[sv]at p;by_cases hx:x=n
   ·have g:(x==n)=true:=by simpa using hx
    have d:=E (f hx);go_wp2_with fail;go_ret;exact⟨by rw[d.out];rfl,rfl⟩
   have g:(x==n)=false:=by simpa using hx
   have f:=E (Hq hx);go_wp2_with fail
   go_roundw
   case rel=>exact⟨j+1,by omega,by go_num,f,trivial⟩
   case measure=>simp[intOf];omega
  ·obtain rfl:j=M fs:=by omega
   have d:=E (show bS fs n = -1 from qQ λq h2=>a.out q h2 h2);go_wp2_with fail;go_ret;exact⟨by rw[d.out];rfl,rfl⟩
/-! Parts of rows of files -/
theorem mf(W:World):FRow W [] []:=⟨rfl,λi hi=>by simp at hi⟩
theorem qF(h:FRow W xs l)(k:Nat)(hk:k<=M l):FRow W (xs.take (k*2)) (l.take k):=by
 obtain⟨h1,h2⟩:=h;refine⟨by rw[P3,P3,h1];omega,λi hi=>?_⟩;have d:i<k:=by rw[P3]at hi;omega
 obtain⟨a,u,b,c⟩:=h2 i (by omega);rw[P8 (by omega),P8 (by omega)];simp only[List.getElem_take];exact⟨a,u,b,c⟩
theorem qE(h:FRow W xs l)(k:Nat)(hk:k<=M l):FRow W (xs.drop (k*2)) (l.drop k):=by
 obtain⟨h1,h2⟩:=h;refine⟨by rw[P4,P4,h1];omega,λi hi=>?_⟩;rw[P4]at hi;obtain⟨a,u,b,c⟩:=h2 (k+i) (by omega);rw[P7,P7];simp only[List.getElem_drop];rw[show k*2+i*2=(k+i)*2 by omega,show k*2+(i*2+1)=(k+i)*2+1 by omega];exact⟨a,u,b,c⟩
theorem re{A:Option Addr}(h:SlR w 2 (C A n c) n xs)(k:Nat)(hk:k<=n):SlR w 2 (C A k c) k (xs.take (k*2)):=by
 obtain⟨hl,A',c',e,h1,h2,h3⟩:=h;cases e;refine⟨by rw[P3,hl];omega,A,c,rfl,by omega,h2,λhn=>?_⟩;obtain⟨b,d,rfl,hc⟩:=h3 (by omega);exact⟨b,d,rfl,λj u a=>hc j u (by
  rw[List.getElem?_take]at a;split at a
  ·exact a
  ·cases a)⟩
theorem ME{a:Nat}(h:SlR w 2 (C (G ⟨b,a,F⟩) n c) n xs)(k:Nat)(hk:k<=n):SlR w 2 (C (G ⟨b,a+k*2,F⟩) (n-k) (c-k)) (n-k) (xs.drop (k*2)):=by
 obtain⟨hl,A',c',e,h1,h2,h3⟩:=h;cases e;refine⟨by rw[P4,hl];omega,_,_,rfl,by omega,by omega,λhn=>?_⟩;obtain⟨d,d,e,hc⟩:=h3 (by omega);cases e;refine⟨b,a+k*2,rfl,λj u a=>?_⟩;rw[P7]at a;have:=hc _ u a;rwa[<-Nat.add_assoc]at this
theorem tg{a:Nat}(h:SlR w 2 (C (G ⟨b,a,F⟩) n c) n xs)(k:Nat)(hk:k<=n):SlR w 2 (C (if c=k then some ⟨b,a,F⟩else some ⟨b,a+k*2,F⟩) (n-k) (c-k)) (n-k) (xs.drop (k*2)):=by
 have d:=ME h k hk;split
 ·rename_i hc;obtain⟨hl,A',c',e,h1,h2,h3⟩:=h;cases e;obtain⟨j,m,o,f,g,i,p⟩:=d;cases f;exact⟨j,_,_,rfl,g,i,λhn=>by omega⟩
 ·exact d
theorem eF{o:Oper}{a:Act}{K:Act->World->Prop}{Q:Exit->Act->World->Prop}(s x:Operand)(ho:o.op=.call { callee:=.builtin .append,args:=#[s,x],argTypes:=#[22,22] })(W0:World)(Kf:Ext W0 w)(v:Value)(n:Nat)(xs:List Value)(Hb:w.ownsRow W0.heap.size 68 2 v n xs)(vx:Value)(m:Nat)(ys:List Value)(gs:List Fil)(hy:SlR w 2 vx m ys)(KA:FRow W0 ys gs)(h:∀A c w',w'.ownsRow W0.heap.size 68 2 (C A (n+m) c) (n+m) (xs++ys)->Ext W0 w'->w.grownBy w' v.ownBlock->K (a.put o.dst (C A (n+m) c)) w')(hs:a.eval s=v:=by exact rfl)(hx:a.eval x=vx:=by exact rfl)(K3:n+m<=4000000:=by omega):Oper.wp I o a w K Q:=by
 obtain⟨i0,hi,K6,K7,K8⟩:=info_parts NJ;obtain⟨v',w',HD,h1,h2⟩:=ep (P:=I) w W0.heap.size 22 o.type 68 i0 _ 2 40 Tryz.underlying22 hi K6 K7 K8 rfl (by decide) v n xs Hb vx m ys hy KA.one (by unfold maxLen;omega) (by omega) Kf.size;have hE:Ext W0 w':=Ext.grownOwn Kf (ay Hb (xN _)) h2;unfold Oper.wp execOp;simp only[ho,resolve,invoke,builtin,Sem.run_bind,Sem.run_pure,Result.andThen_ok,Pb,Pc,Pd,hs,hx,HD];obtain⟨A,c,rfl,_,_⟩:=xO (xW h1);exact h A c w' h1 hE h2
theorem pA{a:World}{base:Nat}(h:W.ownsRow base 68 2 v n xs)(e:FRow a xs l)(hn:n=M l)(d:Ext a W):Fs W v l:=by
 subst hn;exact⟨xs,xW h,(e.ext d).2⟩
def i8(l:List Fil)(at_:Int):List Fil:=if at_<0 then l else l.take at_.toNat++l.drop (at_.toNat+1)
theorem pW(v:Value)(fs:List Fil)(k:Int)(w:World)(g:Fs w v fs)(hl:M fs<=1000000)(hk:-1<=k/\k<M fs):Calls I 201 #[v,H L k] w λe w'=>(∃o,e=.returned o/\Fs w' o (i8 fs k))/\Ext w w':=by
 obtain⟨A,c,rfl,h1,h2⟩:=Fs.open_ g;obtain⟨o,o⟩:=hk;by_cases a:k<0
 ·have f:i8 fs k=fs:=by unfold i8;rw[if_pos a]
  rw[f];have o:=E g;clear g f;go_enter func201,ntmps201
  go_wp2;go_ret;exact⟨⟨_,rfl,o.out⟩,xR _⟩
 ·obtain⟨i,rfl⟩:∃i:Nat,k=(i:Int):=⟨k.toNat,by omega⟩;have f:i8 fs (i:Int)=fs.take i++fs.drop (i+1):=by unfold i8;rw[if_neg a];rfl
  rw[f];obtain⟨xs,d,m⟩:=g;have a:i<M fs:=by omega
  have j:FRow w xs fs:=⟨d.1,m⟩;obtain⟨_,b,a,rfl,_⟩:=Fs.at_ (show Fs w (C A fs.length c) fs from⟨xs,d,m⟩) (by omega);have a:Ext w (w.alloc (D #[] 68)):=xA (xR _) _;have p:=qF j i (by omega);have q:=qE j (i+1) (by omega);have r:=re d i (by omega);have s:=tg d (i+1) (by omega);have g:IntKind.i64.wrap ((i:Int)+1)=((i+1:Nat):Int):=by rw[IntKind.wrap_i64];omega
  have g:i<=c:=by omega
  have g:i+1<=M fs:=by omega
  have g:0<=(i:Int)+1/\(i:Int)+1<=(M fs:Int):=by omega
  have g:=E a;have g:=E p;have o:=E q;have t:=E r;have x:=E s;clear d m j a p q r s f;go_enter func201,ntmps201
  go_wp2_with fail
  refine wp_region_held_drew (S:=λ_=>True) (by kernel_rfl) trivial (λ_=>?_);refine ab 1 ?_;refine ab 2 ?_;refine ab 3 ?_;refine ab 5 ?_;refine ab 6 ?_;refine ab 7 ?_;refine ab 8 ?_;refine ah 0 (λK a=>?_);go_simp;refine af a _ _ trivial (λ_=>?_);refine ah 4 (λK a=>?_);refine eF (.tmp 8) (.tmp 11) rfl w (xD (xA (xR _) _)) _ 0 [] (ai (na w [] 0 rfl (xN _)) (xD (xR _))) _ i _ _ (t.ext (xD (xA (xR _) _))) g ?_;intro d d d f d _;refine af a _ _ trivial (λ_=>?_);refine ah 9 (λK a=>?_);refine eF (.tmp 12) (.tmp 16) rfl w d _ (0+i) _ f _ (M fs-(i+1)) _ _ (x.ext d) o ?_;intro d d d f d _;refine af a _ _ trivial (λ_=>?_);refine ab 10 ?_;refine aq ?_;have a:FRow w _ (fs.take i++fs.drop (i+1)):=Pe (Pe (mf w) g) o;simp only[P0]at f;have g:i+(M fs-(i+1))=M (fs.take i++fs.drop (i+1)):=by
   rw[xL,P3,P4,P1 (by omega)]
  have j:=E (pA f a g d);have m:=E d;clear a f g d;go_wp2_with fail
  all_goals go_ret
  all_goals exact⟨⟨_,rfl,j.out⟩,m.out⟩
theorem mcR4ba0{P:Prop}(h:P:=by
 refine ah 7 (λK hK=>?_);refine eF (.tmp 32) (.tmp 34) rfl wr Hg _ l.length _ (hs:=rfl) HA _ 1 _ [(n,b)] (hx:=rfl) hs (Pf (HB.out.ext (xT Ho H8))) (K3:=by omega) ?_;intro A5 c5 w5 HH Ha _;refine af hK _ _ (H0.out _ Ha) (λ_=>?_);refine ah 11 (λK hK=>?_);refine eF (.tmp 35) (.tmp 38) rfl wr Ha _ (l.length+1) _ (hs:=rfl) HH _ 0 [] [] (hx:=rfl) (Nr _ _ _ (by unfold maxLen;omega)) (mf wr) (K3:=by omega) ?_;intro A6 c6 w6 Hk H9 _;refine af hK _ _ (H0.out _ H9) (λ_=>?_);refine ab 12 ?_;refine aq ?_;have Hd:=Pe (Pe (Pe (mf wr) R1) (Pf (n1:=n) (HB.out.ext (xT Ho H8)))) (mf wr);simp only[xI,P5,P9,P6]at Hd;simp only[P0,P2,xI,P5,P6]at Hk;have Ht:l.length+1=(l.take l.length++[(n,b)]).length:=by rw[xL,List.take_length];rfl
 have Hy:=pA Hk Hd Ht H9;rw[<-show dn (n,b) l=l.take l.length++[(n,b)] by rw[HU.out,List.drop_length]]at Hy;have HI:=E Hy;have HS:=E H9;clear Hd Hk Ht H9 Hy;go_wp2_with fail
 all_goals go_ret
 all_goals exact⟨⟨_,rfl,HI.out⟩,xT Ho (xT H8 HS)⟩):P:=h
theorem mcR4ba1{P:Prop}(h:P:=by
 refine ah 7 (λK hK=>?_);refine eF (.tmp 32) (.tmp 34) rfl wr Hg _ j _ (hs:=rfl) HA _ 1 _ [(n,b)] (hx:=rfl) hs (Pf (HB.out.ext (xT Ho H8))) (K3:=by omega) ?_;intro A5 c5 w5 HH Ha _;refine af hK _ _ (H0.out _ Ha) (λ_=>?_);refine ah 11 (λK hK=>?_);refine eF (.tmp 35) (.tmp 38) rfl wr Ha _ (j+1) _ (hs:=rfl) HH _ (l.length-j) _ _ (hx:=rfl) ((tg Kc j hj).ext Ha) R2 (K3:=by omega) ?_;intro A6 c6 w6 Hk H9 _;refine af hK _ _ (H0.out _ H9) (λ_=>?_);refine ab 12 ?_;refine aq ?_;have Hd:=Pe (Pe (Pe (mf wr) R1) (Pf (n1:=n) (HB.out.ext (xT Ho H8)))) R2;simp only[xI,P5,P9,P6]at Hd;simp only[P0,P2,xI,P5,P6]at Hk;have Ht:j+1+(l.length-j)=(l.take j++(n,b)::l.drop j).length:=by
  rw[xL,xC,P3,P4,P1 (by omega)];omega
 have Hy:=pA Hk Hd Ht H9;rw[<-HU.out]at Hy;have HI:=E Hy;have HS:=E H9;clear Hd Hk Ht H9 Hy;go_wp2_with fail
 all_goals go_ret
 all_goals exact⟨⟨_,rfl,HI.out⟩,xT Ho (xT H8 HS)⟩):P:=h
theorem qZ(n:List UInt8):∀l:List Fil,i8 l (bS l n)=aV n l
 |[]=>rfl
 | p::l=>by
  have a:=qZ n l;unfold bS at a⊢;rw[Pa,aV];by_cases h:p.1=n
  ·rw[if_pos (by simpa using h),if_pos h];rfl
  ·rw[if_neg (by simpa using h),if_neg h,<-a];cases hf:l.findIdx? (λf=>f.1==n)with
   |none=>rfl
   |some i=>
    unfold i8;simp only[Option.map_some];rw[if_neg (by omega),if_neg (by omega)];rfl
theorem tM(n:List UInt8)(l:List Fil):-1<=bS l n/\bS l n<M l:=by
 unfold bS;cases hf:l.findIdx? (λf=>f.1==n)with
 |none=>exact⟨Int.le_refl _,by show(-1:Int)<_;omega⟩
 |some i=>
  have:=(List.findIdx?_eq_some_iff_getElem.1 hf).1;exact⟨by dsimp only;omega,by dsimp only;omega⟩
theorem sx(p:Fil):∀(l:List Fil) (j:Nat),j<=M l->(∀q (_:q<j) (h:q<M l),ltB l[q].1 p.1=true)->(∀h:j<M l,ltB l[j].1 p.1=false)->dn p l=l.take j++p::l.drop j
 | [],j,hj,_,_=>by
  obtain rfl:j=0:=by simpa using hj
  rfl
 | q::l,0,_,_,h2=>by
  have:=h2 (by simp);rw[dn,if_neg (by simpa using this)];rfl
 | q::l,j+1,hj,h1,h2=>by
  have a:ltB q.1 p.1=true:=h1 0 (by omega) (by simp);rw[dn,if_pos a,sx p l j (by simpa using hj) (λi hi h=>h1 (i+1) (by omega) (by simpa using h)) (λh=>h2 (by simpa using h))];rfl
theorem Nr(w:World)(X:Option Addr)(c:Nat)(h:c<=maxLen):SlR w 2 (C X 0 c) 0 []:=⟨rfl,X,c,rfl,by omega,h,λhn=>by omega⟩
theorem iX{t:TypeId}{a:Value}(h:Blk W b t #[a,v]):SlR W 2 (C (G ⟨b,0,F⟩) 1 1) 1 [a,v]:=by
 refine⟨rfl,_,1,rfl,xN _,by simp[maxLen],λ_=>⟨b,0,rfl,λj u d=>?_⟩⟩;rw[P0];match j,d with
 |0,d=>cases d;exact h.cell 0 rfl
 |1,d=>cases d;exact h.cell 1 rfl
 |j+2,d=>cases d
theorem nc{t:TypeId}{a:Value}(h:Blk W b t #[a,v]):W.cell? ⟨b,0,F⟩=G a/\W.cell? ⟨b,1,F⟩=G v:=⟨h.cell 0 rfl,h.cell 1 rfl⟩
theorem oh(v:Value)(fs:List Fil)(n b:List UInt8)(vb:Value)(w:World)(Q:Fs w v fs)(Z:Bs w vb b)(hl:fs.length<=1000000):Calls I 142 #[v,.agg #[sv n,vb]] w λe w'=>(∃v',e=.returned v'/\Fs w' v' (withS fs (n,b)))/\Ext w w':=by
 obtain⟨A,c,rfl,h1,h2⟩:=Fs.open_ Q;obtain⟨d,f,rfl,_,_⟩:=xO Z;unfold sv;have hX:Ext w (w.alloc (D #[B ⟨n.toArray⟩,C d b.length f] 68)):=xA (xR _) _;have hf:=Pi w 68 #[B ⟨n.toArray⟩,C d b.length f];obtain⟨y,O⟩:=nc hf;obtain⟨HP,HQ⟩:=tM n fs;have key:=om (C A fs.length c) fs n _ (Q.ext hX) (by omega);have R:=λW (h:Ext w W)=>pW (C A fs.length c) fs (bS fs n) W (Q.ext h) hl ⟨HP,HQ⟩;rw[qZ]at R;have KJ:(aV n fs).length<=fs.length:=(eX n fs).length_le;have Kl:withS fs (n,b)=dn (n,b) (aV n fs):=rfl;rw[Kl];generalize aV n fs=l at *;generalize bS fs n=pl at *;have HJ:=E key;have HY:=E R;have HX:=E hX;have Hf:=E hf;have HB:=E Z;clear key R hX hf Z Q Kl;unfold sv at HJ;go_enter func142,ntmps142
 go_wp2_with fail
 refine HJ.out.mono ?_;rintro e w1⟨rfl,rfl⟩;go_wp2_with fail
 refine(HY.out _ HX).mono ?_;rintro e w2⟨⟨v2,rfl,Y⟩,V⟩;obtain⟨A2,c2,rfl,KD,KE⟩:=Fs.open_ Y;have T:=E Y;have Ho:=E (xT HX V);have P:=E (Hf.out.ext V);clear y O Y V;obtain⟨y,O⟩:=nc P;go_wp2_with fail
 go_loopw [5] (λi wr=>∃j:Nat,j<=l.length/\i=H L j/\Hid (∀q (_:q<j) (h2:q<l.length),ltB l[q].1 n=true)/\Hid (Ext w2 wr)) (λi _=>l.length-(intOf i).toNat)
 case atStart=>exact⟨0,by omega,rfl,λq hq=>by omega,xR _⟩
 case round=>
  clear y O;obtain⟨j,hj,rfl,U,H8⟩:=hrel;obtain⟨y,O⟩:=nc (P.out.ext H8);by_cases HM:j<l.length
  ·obtain⟨_,b1,H2,rfl,hc⟩:=(T.out.ext H8).at_ (by omega);obtain⟨J,_⟩:=hc j HM;have hq:ltB l[j].1 n=true->∀q (_:q<j+1) (h2:q<l.length),ltB l[q].1 n=true:=λh q h3 h2=>by
    by_cases e:q=j
    ·subst e;exact h
    exact U.out q (by omega) h2
   have hi:ltB l[j].1 n=false->dn (n,b) l=l.take j++(n,b)::l.drop j:=λh=>sx _ _ _ hj U (λ_=>h);have Hq:=E hq;have Hi:=E hi;clear hc hq hi;generalize l[j].1=x at *;simp only[sv]at J;have Ku:(j:Int)<(l.length:Int):=by omega
   cases hx:ltB x n with
   |true=>
    have HV:=E (Hq.out hx);go_wp2_with fail
    refine wp_region_held_drew (S:=λW=>W.cell? ⟨b1,H2+j*2,F⟩=G (B ⟨x.toArray⟩)/\W.cell? ⟨w.heap.size,0,F⟩=G (B ⟨n.toArray⟩)) (by kernel_rfl) ⟨J,y⟩ (λ_=>?_);clear J y O;refine ab 0 ?_;refine ab 1 ?_;refine ab 2 ?_;refine ab 3 ?_;refine ab 4 ?_;refine ab 5 ?_;refine ab 6 ?_;refine ab 7 ?_;refine ab 8 ?_;refine ab 9 ?_;refine ab 10 ?_;refine ab 11 ?_;refine ab 12 ?_;refine ab 13 ?_;refine aq ?_;go_wp2_with fail
    go_roundw
    case rel=>exact⟨j+1,by omega,by go_num,HV,xD H8⟩
    case measure=>simp[intOf];omega
   |false=>
    have HU:=E (Hi.out hx);go_wp2_with fail
    refine wp_region_held_drew (S:=λW=>W.cell? ⟨b1,H2+j*2,F⟩=G (B ⟨x.toArray⟩)/\W.cell? ⟨w.heap.size,0,F⟩=G (B ⟨n.toArray⟩)) (by kernel_rfl) ⟨J,y⟩ (λ_=>?_);clear J;refine ab 0 ?_;refine ab 1 ?_;refine ab 2 ?_;refine ab 3 ?_;refine ab 4 ?_;refine ab 5 ?_;refine ab 6 ?_;refine ab 7 ?_;refine ab 8 ?_;refine ab 9 ?_;refine ab 10 ?_;refine ab 11 ?_;refine ab 12 ?_;refine ab 13 ?_;refine aq ?_;clear hx Ku;go_wp2_with fail;obtain⟨xs,o,M⟩:=T.out.ext H8;have s:FRow wr xs l:=⟨o.1,M⟩;have R1:=E (qF s j hj);have R2:=E (qE s j hj);have t:=E (re o j hj);have Kc:=E o;have Kt:j<=c2:=by omega
    have hold:∀X,Ext wr X->X.cell? ⟨w.heap.size,0,F⟩=G (B ⟨n.toArray⟩)/\X.cell? ⟨w.heap.size,1,F⟩=G (C d b.length f):=λX h=>nc ((P.out.ext H8).ext h);have H0:=E hold;clear s o M hold;refine wp_region_held_drew (S:=λW=>W.cell? ⟨w.heap.size,0,F⟩=G (B ⟨n.toArray⟩)/\W.cell? ⟨w.heap.size,1,F⟩=G (C d b.length f)) (by kernel_rfl) (H0.out _ (xD (xD (xR _)))) (λ_=>?_);refine ab 1 ?_;refine ab 2 ?_;refine ab 3 ?_;refine ab 5 ?_;refine ab 8 ?_;refine ab 9 ?_;refine ab 10 ?_;refine Pg (i:=0) (j:=6) rfl rfl (by kernel_rfl) (by rfl) (by rfl) (λK hK=>?_) (λK hK=>?_)
    ·go_simp;have a:Ext wr (wr.alloc (D #[] 68)).drew.drew:=xD (xD (xA (xR _) _));have k:=ai (na wr [] 0 rfl (hl:=by simp[maxLen]) (xN _)) (xD (xD (xR (wr.alloc (D #[] 68)))));refine af hK _ _ (H0.out _ a) (λ_=>?_);refine Pg (i:=4) (j:=6) rfl rfl (by kernel_rfl) (by rfl) (by rfl) (λK hK=>?_) (λK hK=>?_)
     ·refine eF (.tmp 28) (.tmp 31) rfl wr a (C (G ⟨wr.heap.size,0,F⟩) 0 0) 0 [] (hs:=rfl) k _ j _ _ (hx:=rfl) (t.out.ext a) R1 (K3:=by omega) ?_;intro z N m H4 H3 p;rw[P0]at H4⊢;refine af hK _ _ (H0.out _ H3) (λ_=>?_);refine ah 6 (λK hK=>?_);go_simp;have g:Ext m (m.alloc (D #[B ⟨n.toArray⟩,C d b.length f] 68)):=xA (xR _) _;have Hg:=xT H3 g;have HA:=ai H4 g;have hs:=iX (Pi m 68 #[B ⟨n.toArray⟩,C d b.length f]);refine af hK _ _ (H0.out _ Hg) (λ_=>?_);exact mcR4ba1
     go_simp;have g:Ext (wr.alloc (D #[] 68)).drew.drew ((wr.alloc (D #[] 68)).alloc (D #[B ⟨n.toArray⟩,C d b.length f] 68)).drew.drew:=xA (xR _) _;have r:=(Pi (wr.alloc (D #[] 68)) 68 #[B ⟨n.toArray⟩,C d b.length f]).ext (xD (xD (xR _)));rw[xS]at r;have k:=ai k g;have a:=xT a g;refine af hK _ _ (H0.out _ a) (λ_=>?_);refine ah 4 (λK hK=>?_);refine eF (.tmp 28) (.tmp 31) rfl wr a (C (G ⟨wr.heap.size,0,F⟩) 0 0) 0 [] (hs:=rfl) k _ j _ _ (hx:=rfl) (t.out.ext a) R1 (K3:=by omega) ?_;intro z N m H4 H3 p;rw[P0]at H4⊢;refine af hK _ _ (H0.out _ H3) (λ_=>?_);have hs:=iX (r.kept p (by simp[Ph]));have Hg:=H3;have HA:=H4;exact mcR4ba1
    go_simp;have g:Ext wr (wr.alloc (D #[B ⟨n.toArray⟩,C d b.length f] 68)).drew.drew:=xD (xD (xA (xR _) _));refine af hK _ _ (H0.out _ g) (λ_=>?_);refine ah 0 (λK hK=>?_);go_simp;have a:Ext wr ((wr.alloc (D #[B ⟨n.toArray⟩,C d b.length f] 68)).alloc (D #[] 68)).drew.drew:=xD (xD (xA (xA (xR _) _) _));have r:=((Pi wr 68 #[B ⟨n.toArray⟩,C d b.length f]).alloc (D #[] 68)).ext (xD (xD (xR _)));have k:=ai (na (wr.alloc (D #[B ⟨n.toArray⟩,C d b.length f] 68)) [] 0 rfl (hl:=by simp[maxLen]) (show wr.heap.size<=_ by rw[xS];omega)) (xD (xD (xR ((wr.alloc (D #[B ⟨n.toArray⟩,C d b.length f] 68)).alloc (D #[] 68)))));rw[xS]at k;refine af hK _ _ (H0.out _ a) (λ_=>?_);refine ah 4 (λK hK=>?_);refine eF (.tmp 28) (.tmp 31) rfl wr a (C (G ⟨wr.heap.size+1,0,F⟩) 0 0) 0 [] (hs:=rfl) k _ j _ _ (hx:=rfl) (t.out.ext a) R1 (K3:=by omega) ?_;intro z N m H4 H3 p;rw[P0]at H4⊢;refine af hK _ _ (H0.out _ H3) (λ_=>?_);have hs:=iX (r.kept p (by simp[Ph]));have Hg:=H3;have HA:=H4;exact mcR4ba1
  ·obtain rfl:j=l.length:=by omega
   have HU:=E (sx (n,b) l l.length (xN _) U (λh=>by omega));go_wp2_with fail
   refine wp_region_held_drew (S:=λ_=>True) (by kernel_rfl) trivial (λ_=>?_);refine ab 0 ?_;refine ab 1 ?_;refine ab 2 ?_;refine ab 3 ?_;refine ab 4 ?_;refine ag 5 ?_;refine ag 6 ?_;refine ag 7 ?_;refine ag 8 ?_;refine ag 9 ?_;refine ag 10 ?_;refine ag 11 ?_;refine ag 12 ?_;refine ab 13 ?_;refine aq ?_;go_wp2_with fail;obtain⟨xs,o,M⟩:=T.out.ext H8;have s:FRow wr xs l:=⟨o.1,M⟩;have R1:=E (qF s l.length hj);have R2:=E (qE s l.length hj);have t:=E (re o l.length hj);have Kc:=E o;have Kt:l.length<=c2:=by omega
   have hold:∀X,Ext wr X->X.cell? ⟨w.heap.size,0,F⟩=G (B ⟨n.toArray⟩)/\X.cell? ⟨w.heap.size,1,F⟩=G (C d b.length f):=λX h=>nc ((P.out.ext H8).ext h);have H0:=E hold;clear s o M hold;refine wp_region_held_drew (S:=λW=>W.cell? ⟨w.heap.size,0,F⟩=G (B ⟨n.toArray⟩)/\W.cell? ⟨w.heap.size,1,F⟩=G (C d b.length f)) (by kernel_rfl) (H0.out _ (xD (xD (xR _)))) (λ_=>?_);refine ab 1 ?_;refine ab 2 ?_;refine ab 3 ?_;refine ab 5 ?_;refine ab 8 ?_;refine ab 9 ?_;refine ab 10 ?_;refine Pg (i:=0) (j:=6) rfl rfl (by kernel_rfl) (by rfl) (by rfl) (λK hK=>?_) (λK hK=>?_)
   ·go_simp;have a:Ext wr (wr.alloc (D #[] 68)).drew.drew:=xD (xD (xA (xR _) _));have k:=ai (na wr [] 0 rfl (hl:=by simp[maxLen]) (xN _)) (xD (xD (xR (wr.alloc (D #[] 68)))));refine af hK _ _ (H0.out _ a) (λ_=>?_);refine Pg (i:=4) (j:=6) rfl rfl (by kernel_rfl) (by rfl) (by rfl) (λK hK=>?_) (λK hK=>?_)
    ·refine eF (.tmp 28) (.tmp 31) rfl wr a (C (G ⟨wr.heap.size,0,F⟩) 0 0) 0 [] (hs:=rfl) k _ l.length _ _ (hx:=rfl) (t.out.ext a) R1 (K3:=by omega) ?_;intro z N m H4 H3 p;rw[P0]at H4⊢;refine af hK _ _ (H0.out _ H3) (λ_=>?_);refine ah 6 (λK hK=>?_);go_simp;have g:Ext m (m.alloc (D #[B ⟨n.toArray⟩,C d b.length f] 68)):=xA (xR _) _;have Hg:=xT H3 g;have HA:=ai H4 g;have hs:=iX (Pi m 68 #[B ⟨n.toArray⟩,C d b.length f]);refine af hK _ _ (H0.out _ Hg) (λ_=>?_);exact mcR4ba0
    go_simp;have g:Ext (wr.alloc (D #[] 68)).drew.drew ((wr.alloc (D #[] 68)).alloc (D #[B ⟨n.toArray⟩,C d b.length f] 68)).drew.drew:=xA (xR _) _;have r:=(Pi (wr.alloc (D #[] 68)) 68 #[B ⟨n.toArray⟩,C d b.length f]).ext (xD (xD (xR _)));rw[xS]at r;have k:=ai k g;have a:=xT a g;refine af hK _ _ (H0.out _ a) (λ_=>?_);refine ah 4 (λK hK=>?_);refine eF (.tmp 28) (.tmp 31) rfl wr a (C (G ⟨wr.heap.size,0,F⟩) 0 0) 0 [] (hs:=rfl) k _ l.length _ _ (hx:=rfl) (t.out.ext a) R1 (K3:=by omega) ?_;intro z N m H4 H3 p;rw[P0]at H4⊢;refine af hK _ _ (H0.out _ H3) (λ_=>?_);have hs:=iX (r.kept p (by simp[Ph]));have Hg:=H3;have HA:=H4;exact mcR4ba0
   ·go_simp;have g:Ext wr (wr.alloc (D #[B ⟨n.toArray⟩,C d b.length f] 68)).drew.drew:=xD (xD (xA (xR _) _));refine af hK _ _ (H0.out _ g) (λ_=>?_);refine ah 0 (λK hK=>?_);go_simp;have a:Ext wr ((wr.alloc (D #[B ⟨n.toArray⟩,C d b.length f] 68)).alloc (D #[] 68)).drew.drew:=xD (xD (xA (xA (xR _) _) _));have r:=((Pi wr 68 #[B ⟨n.toArray⟩,C d b.length f]).alloc (D #[] 68)).ext (xD (xD (xR _)));have k:=ai (na (wr.alloc (D #[B ⟨n.toArray⟩,C d b.length f] 68)) [] 0 rfl (hl:=by simp[maxLen]) (show wr.heap.size<=_ by rw[xS];omega)) (xD (xD (xR ((wr.alloc (D #[B ⟨n.toArray⟩,C d b.length f] 68)).alloc (D #[] 68)))));rw[xS]at k;refine af hK _ _ (H0.out _ a) (λ_=>?_);refine ah 4 (λK hK=>?_);refine eF (.tmp 28) (.tmp 31) rfl wr a (C (G ⟨wr.heap.size+1,0,F⟩) 0 0) 0 [] (hs:=rfl) k _ l.length _ _ (hx:=rfl) (t.out.ext a) R1 (K3:=by omega) ?_;intro z N m H4 H3 p;rw[P0]at H4⊢;refine af hK _ _ (H0.out _ H3) (λ_=>?_);have hs:=iX (r.kept p (by simp[Ph]));have Hg:=H3;have HA:=H4;exact mcR4ba0
theorem rt{o:Oper}{a:Act}{K:Act->World->Prop}{Q:Exit->Act->World->Prop}(s x:Operand)(k:o.op=.call { callee:=.builtin .append,args:=#[s,x],argTypes:=#[33,33] })(base:Nat)(v:Value)(bs:List UInt8)(hs:a.eval s=v)(d:OwnB w base v bs)(vx:Value)(cs:List UInt8)(hx:a.eval x=vx)(m:Bs w vx cs)(K3:M bs+M cs<=4000000)(f:base<=w.heap.size)(h:∀A c w',OwnB w' base (C A (M bs+M cs) c) (bs++cs)->eP base w w'->K (a.put o.dst (C A (M bs+M cs) c)) w'):Oper.wp I o a w K Q:=by
 obtain⟨p,hi,g,i,j⟩:=info_parts dC;obtain⟨e,w',e,h1,h2⟩:=ep (P:=I) w base 33 o.type 5 p _ 1 1 underlying33 hi g i j rfl (by decide) v bs.length (bs.map bv) d vx cs.length (cs.map bv) m (de _) (by unfold maxLen;omega) (by omega) f;unfold Oper.wp execOp;simp only[k,resolve,invoke,builtin,Sem.run_bind,Sem.run_pure,Result.andThen_ok,Pb,Pc,Pd,hs,hx,e];obtain⟨A,c,rfl,_,_⟩:=xO (xW h1);refine h A c w' ?_ (λe e hb=>Ext.grownOwn e (ay d hb) h2);unfold OwnB;rw[xL,List.map_append];exact h1
theorem place_get{n:List UInt8}:∀ {l:List Fil},(bS l n<0/\ak n l=none)\/∃(i:Nat) (h:i<M l),bS l n=i/\ak n l=G l[i].2
 |[]=>.inl ⟨by show(-1:Int)<0;omega,rfl⟩
 | p::l=>by
  have a:=@place_get n l;unfold bS at a⊢;rw[Pa,ak];by_cases h:p.1=n
  ·rw[if_pos (by simpa using h),if_pos h];exact .inr ⟨0,by simp,rfl,rfl⟩
  ·rw[if_neg (by simpa using h),if_neg h];cases hf:l.findIdx? (λf=>f.1==n)with
   |none=>
    rw[hf]at a;rcases a with⟨_,h2⟩|⟨i,_,h2,_⟩
    ·exact .inl ⟨by show(-1:Int)<0;omega,h2⟩
    exact absurd h2 (by show ¬(-1:Int)=_;omega)
   |some j=>
    rw[hf]at a;rcases a with⟨h2,_⟩|⟨i,hi,h2,h3⟩
    ·exact absurd h2 (by show ¬((j:Nat):Int)<0;omega)
    ·have:j=i:=by have:((j:Nat):Int)=(i:Int):=h2;omega
     subst this;exact .inr ⟨j+1,by simpa using hi,rfl,by simpa using h3⟩
theorem LU(v:Value)(fs:List Fil)(o:Oq)(vo:Value)(w:World)(hF:Fs w v fs)(hB:Bs w vo o.b)(hl:fs.length<=1000000)(K2:∀f∈fs,f.2.length+o.b.length<=2000000):
  Calls I 143 #[v,.agg #[H J o.k,sv o.n,sv o.t,vo]] w λe w'=>(∃v',e=.returned v'/\Fs w' v' (dE fs o))/\Ext w w':=by
 obtain⟨A,c,rfl,h1,h2⟩:=Fs.open_ hF;obtain⟨d,g,rfl,_,_⟩:=xO hB;obtain⟨k,n,t,b⟩:=o;dsimp only at hB K2⊢;obtain⟨R,a⟩:∃R,dE fs ⟨k,n,t,b⟩=R:=⟨_,rfl⟩;rw[a];unfold sv;have Z:Ext w (w.alloc (D #[H J k,B ⟨n.toArray⟩,B ⟨t.toArray⟩,C d b.length g] 98)):=xA (xR _) _;have hf:=Pi w 98 #[H J k,B ⟨n.toArray⟩,B ⟨t.toArray⟩,C d b.length g];obtain⟨o0,N,O,P⟩:=aM hf;have key:=om (C A fs.length c) fs n _ (hF.ext Z) (by omega);have Kk:=@place_get n fs;obtain⟨HP,HQ⟩:=tM n fs;have Kj:=qZ n fs;unfold dE at a;dsimp only at a;have M:=E Z;have Hf:=E hf;have x:=E (hF.ext Z);have HB:=E (Bs.ext hB Z);have U:=E a;have Km:=E K2;have T:=E hl;have Ka:=E Kj;have Kb:=E (And.intro HP HQ);unfold sv at key;have HJ:=E key;clear Z hf hF hB a K2 Kj key HP HQ hl;generalize bS fs n=pl at *;go_enter func143,ntmps143
 go_wp2_with fail
 refine HJ.out.mono ?_;rintro e w1⟨rfl,rfl⟩;by_cases m:k=1
 ·subst m;have a:=U.out;rw[if_pos rfl]at a;have U:=E a;clear a Kk;have hw:=oh _ fs n [] (C none 0 0) _ x (SlR.nil _ 1) T;unfold sv at hw;rw[U.out]at hw;have V:=E hw;clear hw;go_wp2_with fail
  refine V.out.mono ?_;rintro e w9⟨⟨v9,rfl,Hx⟩,r⟩;clear o0 N O P;go_wp2_with fail;go_ret;exact⟨⟨_,rfl,Hx⟩,xT M r⟩
 have a:=U.out;rw[if_neg m]at a;have Kv:(k==1)=false:=by simpa using m
 rcases Kk with⟨hneg,hg⟩|⟨i,hi,hpi,hg⟩
 ·rw[hg]at a;obtain rfl:fs=R:=a;clear m hg;go_wp2_with fail;go_ret;exact⟨⟨_,rfl,x.out⟩,M.out⟩
 rw[hg]at a;subst hpi;dsimp only at a;obtain⟨_,b1,H2,rfl,hc⟩:=x.out.at_ (by omega);obtain⟨Hh,Q,Y,z,Ke⟩:=hc i hi;have Kh:=Km.out _ (List.getElem_mem hi);generalize fs[i].2=c0 at *;have Kr:¬((i:Int)<0):=by omega
 have KI:(i:Int)<(fs.length:Int):=by omega
 have K9:=E Ke;have Kd:=E Kh;have y:=E a;clear m hg hc Hh Ke Kh a U hi HJ;by_cases p:k=2
 ·subst p;have a:=y.out;rw[if_pos rfl]at a;have hw:=λW (h:Ext (w.alloc (D #[H J 2,B ⟨n.toArray⟩,B ⟨t.toArray⟩,C d b.length g] 98)) W) A0 c0' (hb:Bs W (C A0 (c0.length+b.length) c0') (c0++b))=>oh _ fs n (c0++b) (C A0 (c0.length+b.length) c0') W (x.out.ext h) hb T;unfold sv at hw;rw[a]at hw;have V:=E hw;have hold:∀X,Ext (w.alloc (D #[H J 2,B ⟨n.toArray⟩,B ⟨t.toArray⟩,C d b.length g] 98)) X->X.cell? ⟨w.heap.size,1,F⟩=G (B ⟨n.toArray⟩)/\X.cell? ⟨w.heap.size,3,F⟩=G (C d b.length g)/\X.cell? ⟨b1,H2+i*2+1,F⟩=G (C Q c0.length Y):=λX h=>⟨h.cell N,h.cell P,h.cell z⟩;have H0:=E hold;clear hw a y hold;go_wp2_with fail
  refine wp_region_held_drew (S:=λW=>W.cell? ⟨w.heap.size,1,F⟩=G (B ⟨n.toArray⟩)/\W.cell? ⟨w.heap.size,3,F⟩=G (C d b.length g)/\W.cell? ⟨b1,H2+i*2+1,F⟩=G (C Q c0.length Y)) (by kernel_rfl) ⟨N,P,z⟩ (λ_=>?_);clear o0 N O P z;refine ab 0 ?_;refine ab 1 ?_;refine ab 2 ?_;refine ab 4 ?_;refine ab 5 ?_;refine ab 6 ?_;refine ab 7 ?_;refine ab 8 ?_;refine ab 10 ?_;refine ab 11 ?_;refine ah 3 (λK j=>?_);go_simp;have HO:Ext (w.alloc (D #[H J 2,B ⟨n.toArray⟩,B ⟨t.toArray⟩,C d b.length g] 98)) ((w.alloc (D #[H J 2,B ⟨n.toArray⟩,B ⟨t.toArray⟩,C d b.length g] 98)).alloc (D #[] 5)).drew:=xD (xA (xR _) _);have Ki:OwnB ((w.alloc (D #[H J 2,B ⟨n.toArray⟩,B ⟨t.toArray⟩,C d b.length g] 98)).alloc (D #[] 5)).drew (w.alloc (D #[H J 2,B ⟨n.toArray⟩,B ⟨t.toArray⟩,C d b.length g] 98)).heap.size (C (G ⟨(w.alloc (D #[H J 2,B ⟨n.toArray⟩,B ⟨t.toArray⟩,C d b.length g] 98)).heap.size,0,F⟩) 0 0) []:=ai (iI (w.alloc (D #[H J 2,B ⟨n.toArray⟩,B ⟨t.toArray⟩,C d b.length g] 98))) (xD (xR _));rw[show(w.alloc (D #[H J 2,B ⟨n.toArray⟩,B ⟨t.toArray⟩,C d b.length g] 98)).heap.size=w.heap.size+1 by rw[xS]]at Ki;refine af j _ _ (H0.out _ HO) (λ_=>?_);refine ah 9 (λK j=>?_);refine rt (.tmp 29) (.tmp 34) rfl (w.heap.size+1) _ [] rfl Ki _ c0 rfl (K9.out.ext HO) (by have:=Kd.out;simp;omega) (by have:=HO.size;rw[xS]at this;exact this) ?_;intro A5 c5 w5 HH Ko;have Ha:=Ko _ HO (by rw[xS];omega);simp only[List.length_nil,P0,xI]at HH⊢;refine af j _ _ (H0.out _ Ha) (λ_=>?_);refine ah 12 (λK j=>?_);refine rt (.tmp 35) (.tmp 37) rfl (w.heap.size+1) _ c0 rfl HH _ b rfl (Bs.ext HB Ha) (by have:=Kd.out;omega) (by have:=Ha.size;rw[xS]at this;exact this) ?_;intro A6 c6 w6 Hk Kp;have H9:=Kp _ Ha (by rw[xS];omega);have Kq:Bs w6 (C A6 (c0.length+b.length) c6) (c0++b):=xW Hk;refine af j _ _ (H0.out _ H9) (λ_=>?_);refine ab 13 ?_;refine ah 14 (λK j=>?_);go_simp;refine(V.out _ H9 _ _ Kq).mono ?_;rintro e w9⟨⟨v9,rfl,Hx⟩,Hv⟩;have r:=xT H9 Hv;refine af j _ _ (H0.out _ r) (λ_=>?_);refine ab 15 ?_;refine aq ?_;go_wp2_with fail;go_ret;exact⟨⟨_,rfl,Hx⟩,xT M r⟩
 rw[if_neg p]at y;have Kw:(k==2)=false:=by simpa using p
 by_cases q:k=3/\t≠n
 ·obtain⟨rfl,K5⟩:=q;have a:=y.out;rw[if_pos ⟨rfl,K5⟩]at a;have KK:(t==n)=false:=by simpa using K5
  have L:=λW (h:Ext (w.alloc (D #[H J 3,B ⟨n.toArray⟩,B ⟨t.toArray⟩,C d b.length g] 98)) W)=>pW _ fs (i:Int) W (x.out.ext h) T Kb;rw[Ka.out]at L;have hw:=λW v (h:Ext (w.alloc (D #[H J 3,B ⟨n.toArray⟩,B ⟨t.toArray⟩,C d b.length g] 98)) W) (hv:Fs W v (aV n fs))=>oh v (aV n fs) t c0 (C Q c0.length Y) W hv (K9.out.ext h) (by have:=(eX n fs).length_le;have:=T.out;omega);unfold sv at hw;rw[a]at hw;have HW:=E L;have V:=E hw;have hold:∀X,Ext (w.alloc (D #[H J 3,B ⟨n.toArray⟩,B ⟨t.toArray⟩,C d b.length g] 98)) X->X.cell? ⟨w.heap.size,2,F⟩=G (B ⟨t.toArray⟩)/\X.cell? ⟨b1,H2+i*2+1,F⟩=G (C Q c0.length Y):=λX h=>⟨h.cell O,h.cell z⟩;have H0:=E hold;clear hw L a y hold K5;go_wp2_with fail
  refine wp_region_held_drew (S:=λW=>W.cell? ⟨w.heap.size,2,F⟩=G (B ⟨t.toArray⟩)/\W.cell? ⟨b1,H2+i*2+1,F⟩=G (C Q c0.length Y)) (by kernel_rfl) ⟨O,z⟩ (λ_=>?_);clear o0 N O P z;refine ab 0 ?_;refine ab 1 ?_;refine ab 3 ?_;refine ab 4 ?_;refine ab 5 ?_;refine ab 6 ?_;refine ab 7 ?_;refine ab 8 ?_;refine ab 9 ?_;refine ab 10 ?_;refine ah 2 (λK j=>?_);go_simp;refine(HW.out _ (xD (xR _))).mono ?_;rintro e w8⟨⟨v8,rfl,Kn⟩,K0⟩;have HZ:=xT (xD (xR (w.alloc (D #[H J 3,B ⟨n.toArray⟩,B ⟨t.toArray⟩,C d b.length g] 98)))) K0;refine af j _ _ (H0.out _ HZ) (λ_=>?_);refine ah 11 (λK j=>?_);go_simp;refine(V.out _ _ HZ Kn).mono ?_;rintro e w9⟨⟨v9,rfl,Hx⟩,Hv⟩;have r:=xT HZ Hv;refine af j _ _ (H0.out _ r) (λ_=>?_);refine ab 12 ?_;refine aq ?_;go_wp2_with fail;go_ret;exact⟨⟨_,rfl,Hx⟩,xT M r⟩
 have a:=y.out;rw[if_neg q]at a;have h3:((k==3)=true/\(t==n)=true)\/(k==3)=false:=by
  by_cases h:k=3
  ·exact .inl ⟨by simpa using h,by
    by_cases h2:t=n
    ·simpa using h2
    exact absurd ⟨h,h2⟩ q⟩
  exact .inr (by simpa using h)
 by_cases s:k=4
 ·subst s;rw[if_pos rfl]at a;have L:=λW (h:Ext (w.alloc (D #[H J 4,B ⟨n.toArray⟩,B ⟨t.toArray⟩,C d b.length g] 98)) W)=>pW _ fs (i:Int) W (x.out.ext h) T Kb;rw[Ka.out,a]at L;have HW:=E L;clear L a y h3 q p z;go_wp2_with fail
  refine(HW.out _ (xR _)).mono ?_;rintro e w9⟨⟨v9,rfl,Hx⟩,r⟩;clear o0 N O P;go_wp2_with fail;go_ret;exact⟨⟨_,rfl,Hx⟩,xT M r⟩
 ·rw[if_neg s]at a;obtain rfl:fs=R:=a;have Kx:(k==4)=false:=by simpa using s
  clear y q p s z;rcases h3 with⟨h31,h32⟩ | h31
  ·go_wp2_with fail
   go_ret;exact⟨⟨_,rfl,x.out⟩,M.out⟩
  ·go_wp2_with fail
   go_ret;exact⟨⟨_,rfl,x.out⟩,M.out⟩
