/- Merged -/
import Derived.Test.YteggfecbjgbndaaGreatDoorZx10
set_option linter.all false
set_option maxHeartbeats 8000000
set_option maxRecDepth 100000
open Go.Proofs.Tryz
open List renaming length->X
open Go.Value renaming int->C,slice->E,pointer->O,bool->Q,agg->V
open Go.IntKind renaming i64->D,u8->G
open Option renaming none->F,some->N
open Go.Mv renaming aN->I
open Go.Obj renaming cells->L
open Go.Proofs.Tryz renaming prog->M
open Go.RowKit.Below renaming setCell->P0
open List renaming length_drop->P1,length_take->P2,append_assoc->P3,length_nil->P4,append_nil->P5,map_cons->P6,getElem?_eq_getElem->P7,map_nil->P8,append_toArray->P9,size_toArray->Pa,push_toArray->Pb,flatMap_cons->Pc,cons_append->Pd,map_append->Pe
open UInt8 renaming ofNat->Pf
open Go.World.ownsRow renaming kept->Pg
open Go.Mv.Blk renaming new->Ph
open Array renaming replicate_zero->Pi,replicate_succ->Pj
open Nat renaming zero_le->Pk,reduceSub->Pl,reduceAdd->Pm,le_trans->Pn
namespace Go.Proofs.YteggfecbjgbndaaGreatDoor
open Go.RowKit Go.Mv
variable {b p:List UInt8}
variable {T:Tab}
theorem oK(s:Nat)(bs:List UInt8)(h:s<4294967296):cR T s bs<4294967296:=nV _ (rQ _ _ (nV _ h))
theorem mx(p:Nat)(A:Option Addr)(c:Nat)(bs:List UInt8)(w:World)(hc:w.cell? ⟨p,0,F⟩=N (E A bs.length c))(h:Bs w (E A bs.length c) bs)(g:X bs<=2000000)(m:TabW T w):
  Calls M 145 #[E (N ⟨p,0,F⟩) 1 1] w λe w'=>e=.returned (.int .u32 (cR T 0 bs))/\Ext w w':=by
 have j:=I h;have l:=I m;go_enter func145,ntmps145
 go_wp2_with fail
 go_loopw [2,7] (λs i wr=>∃k d:Nat,k<=1/\s=.int .u32 d/\i=C D k/\Hid (d=if k=0 then 0 else cR T 0 bs)/\Ext w wr) (λ_ i _=>1-(intOf i).toNat)
 case atStart=>exact⟨0,0,by omega,rfl,rfl,rfl,xR _⟩
 case round=>
  obtain⟨k,d,hk,rfl,rfl,f,a⟩:=hrel;have m:=a.cell hc;by_cases Hq:k<1
  ·obtain rfl:k=0:=by omega
   obtain rfl:d=0:=f.out;go_wp2_with (go_at_call 202;refine(DL 0 (by decide) _ bs wr (j.ext a) g (l.ext a)).mono ?_;rintro e g⟨rfl,H0⟩)
   go_roundw
   case rel=>exact⟨1,cR T 0 bs,by omega,rfl,rfl,rfl,xT a H0⟩
   case measure=>simp[intOf]
  ·obtain rfl:k=1:=by omega
   obtain rfl:d=cR T 0 bs:=f.out;go_wp2_with fail;go_ret;exact⟨rfl,a⟩
def ed(s:Nat):List UInt8:=[Pf s,Pf (s / 256),Pf (s / 65536),Pf (s / 16777216)]
def sJ(s k:Nat):Array Value:=#[if 0<k then C G ((s:Int) % 256)else C G 0,if 1<k then C G ((s:Int) / 256 % 256)else C G 0,if 2<k then C G ((s:Int) / 65536 % 256)else C G 0,if 3<k then C G ((s:Int) / 16777216 % 256)else C G 0]
theorem FT(s:Nat):sJ s 4=((ed s).map bv).toArray:=by simp[sJ,ed,bv]
theorem mE(s:Nat)(hs:s<4294967296)(w:World):Calls M 144 #[.int .u32 s] w λe w'=>e=.returned (.agg ((ed s).map bv).toArray)/\Ext w w':=by
 go_enter func144,ntmps144
 go_wp2_with fail
 go_loopw [4] (λi wr=>∃k:Nat,k<=4/\i=C D k/\Blk wr w.heap.size 188 (sJ s k)/\Ext w wr) (λi _=>4-(intOf i).toNat)
 case atStart=>exact⟨0,by omega,rfl,Ph w _ _,xA (xR _) _⟩
 case round=>
  obtain⟨k,hk,rfl,c,d⟩:=hrel;rcases(by omega:k=0\/k=1\/k=2\/k=3\/k=4)with rfl | rfl | rfl | rfl | rfl
  ·have a:Blk wr w.heap.size 188 #[C G 0,C G 0,C G 0,C G 0]:=c;have f:=blk4 a;go_wp2_with fail
   go_roundw
   case rel=>exact⟨1,by omega,rfl,a.set 0 _,P0 (p:=⟨w.heap.size,0,F⟩) d (xN _) _⟩
   case measure=>simp[intOf]
  ·have a:Blk wr w.heap.size 188 #[C G ((s:Int) % 256),C G 0,C G 0,C G 0]:=c;have f:=blk4 a;go_wp2_with fail
   go_roundw
   case rel=>exact⟨2,by omega,rfl,a.set 1 _,P0 (p:=⟨w.heap.size,1,F⟩) d (xN _) _⟩
   case measure=>simp[intOf]
  ·have a:Blk wr w.heap.size 188 #[C G ((s:Int) % 256),C G ((s:Int) / 256 % 256),C G 0,C G 0]:=c;have f:=blk4 a;go_wp2_with fail
   go_roundw
   case rel=>exact⟨3,by omega,rfl,a.set 2 _,P0 (p:=⟨w.heap.size,2,F⟩) d (xN _) _⟩
   case measure=>simp[intOf]
  ·have a:Blk wr w.heap.size 188 #[C G ((s:Int) % 256),C G ((s:Int) / 256 % 256),C G ((s:Int) / 65536 % 256),C G 0]:=c;have f:=blk4 a;go_wp2_with fail
   go_roundw
   case rel=>
    have e:(s:Int) / 16777216 % 256=(s:Int) / 16777216:=by omega
    have g:=a.set 3 (C G ((s:Int) / 16777216));refine⟨4,by omega,rfl,?_,P0 (p:=⟨w.heap.size,3,F⟩) d (xN _) _⟩;show Blk _ _ _ #[C G ((s:Int) % 256),C G ((s:Int) / 256 % 256),C G ((s:Int) / 65536 % 256),C G ((s:Int) / 16777216 % 256)];rw[e];exact g
   case measure=>simp[intOf]
  ·have a:Blk wr w.heap.size 188 #[C G ((s:Int) % 256),C G ((s:Int) / 256 % 256),C G ((s:Int) / 65536 % 256),C G ((s:Int) / 16777216 % 256)]:=c;have f:=blk4 a;go_wp2_with fail;have c:=(((a.set 0 (C G ((s:Int) % 256))).set 1 (C G ((s:Int) / 256 % 256))).set 2 (C G ((s:Int) / 65536 % 256))).set 3 (C G ((s:Int) / 16777216 % 256));refine bodyPost_ret (results_cell_row rfl _ _ _ 188 _ _ _ rfl c underlying188 rfl (by kernel_rfl)) rfl ?_;refine⟨by rw[<-FT];rfl,?_⟩;exact P0 (p:=⟨w.heap.size,3,F⟩) (P0 (p:=⟨w.heap.size,2,F⟩) (P0 (p:=⟨w.heap.size,1,F⟩) (P0 (p:=⟨w.heap.size,0,F⟩) d (xN _) _) (xN _) _) (xN _) _) (xN _) _
theorem yz(v:Value)(bs:List UInt8)(w:World)(h:Bs w v bs)(a:0<X bs)(hl:X bs<=2000000):Calls M 146 #[v] w λe w'=>∃A c,e=.returned (E A bs.length c)/\OwnB w' w.heap.size (E A bs.length c) bs/\Ext w w':=by
 obtain⟨A,c,rfl,h1,h2⟩:=xO h;obtain⟨_,b,d,rfl,_⟩:=Bs.at_ h a;have a:=λ(W:World)=>Lib.run_eql_slice_nil (P:=M) W;have a:=I h;go_enter func146,ntmps146
 go_wp2_with (at_builtin;refine eu (.tmp 5) (.tmp 6) rfl w.heap.size _ [] (iI w) _ bs (a.ext (xA (xR _) _)) (by simp) ?_;intro a a a H3 G1;have H0:Ext w a:=G1 w (xA (xR _) _) (xN _);simp only[P4,Nat.zero_add,xI]at H3⊢)
 go_ret;exact⟨_,_,rfl,H3,H0⟩
def bh(T:Tab)(bs:List UInt8):List UInt8:=bs++ed (cR T 0 bs)
theorem lx(s:Nat):X (ed s)=4:=rfl
theorem sR(v:Value)(bs:List UInt8)(w:World)(h:Bs w v bs)(O:0<X bs)(hl:X bs<=100000)(l:TabW T w):Calls M 120 #[v] w λe w'=>∃A c,e=.returned (E A (bh T bs).length c)/\OwnB w' w.heap.size (E A (bh T bs).length c) (bh T bs)/\Ext w w':=by
 obtain⟨A,c,rfl,h1,h2⟩:=xO h;have q:=I h;have x:=I l;have s:=oK (T:=T) 0 bs (by decide);obtain⟨i,l⟩:∃i,cR T 0 bs=i:=⟨_,rfl⟩;rw[l]at s;have hps:bh T bs=bs++ed i:=by unfold bh;rw[l]
 have H:=I hps;have J:=I l;obtain⟨P,hi,z,B,D⟩:=info_parts dC;obtain⟨a,d,f,g,hf⟩:∃a d f g:UInt8,ed i=[a,d,f,g]:=⟨_,_,_,_,rfl⟩;have r:=I hf;go_enter func120,ntmps120
 go_wp2_with fail
 have m:Ext w (w.alloc (L #[E A bs.length c] 33)):=xA (xR _) _;refine(mx w.heap.size A c bs _ (Boxed.new w _ _).cell (q.ext m) (by omega) (x.ext m)).mono ?_;rw[J.out];rintro e l⟨rfl,H0⟩;go_wp2_with fail
 refine(mE i s _).mono ?_;rw[r.out];rintro e j⟨rfl,i⟩;simp only[P6,P8,bv];go_wp2_with fail
 have k:Ext w (j.alloc (L #[C G (a.toNat:Int),C G (d.toNat:Int),C G (f.toNat:Int),C G (g.toNat:Int)] 188)):=xA (xT m (xT H0 i)) _;have y:=Ph j 188 #[C G (a.toNat:Int),C G (d.toNat:Int),C G (f.toNat:Int),C G (g.toNat:Int)];refine wp_region_held_drew (S:=λ_=>True) (by kernel_rfl) trivial (λ_=>?_);refine ab 0 ?_;refine ab 2 ?_;refine ah 1 (λK n=>?_);go_simp;refine(yz _ bs _ (q.ext (xD k)) O (by omega)).mono ?_;rintro e o⟨t,N,rfl,q,l⟩;try(go_wp2_with fail)
 refine af n _ _ trivial (λ_=>?_);have i:Ext (j.alloc (L #[C G (a.toNat:Int),C G (d.toNat:Int),C G (f.toNat:Int),C G (g.toNat:Int)] 188)) o:=xT (xD (xR _)) l;have m:=y.ext i;have l:Ext w o:=xT k i;have i:o.ownsRow w.heap.size 5 1 (E t bs.length N) bs.length (bs.map bv):=ay q (xD k).size;refine ah 3 (λK n=>?_);refine wp_append_lies _ (.tmp 9) (.tmp 10) 33 (by rfl) w.heap.size 5 P (C G 0) 1 1 underlying33 hi z B D rfl (by decide) _ bs.length (bs.map bv) (by rfl) i ⟨j.heap.size,0,F⟩ 4 4 [C G (a.toNat:Int),C G (d.toNat:Int),C G (f.toNat:Int),C G (g.toNat:Int)] (by rfl) rfl (World.news_of_block m) (by simp[Value.oneCell']) (by omega) (by unfold maxLen;omega) (by omega) l.size _ rfl ?_;intro a a g f d _ _;refine af n _ _ trivial (λ_=>?_);refine ab 4 ?_;refine aq ?_;go_wp2_with fail;go_ret;have a:X (bh T bs)=X bs+4:=by unfold bh;rw[xL,lx]
 rw[a];refine⟨_,_,rfl,?_,Ext.grownOwn l i d⟩;show g.ownsRow w.heap.size 5 1 _ (bh T bs).length ((bh T bs).map bv);rw[a,H.out,r.out,Pe];exact f
variable {T:Tab}
def zxy(e:Ent):List UInt8:=cW e.t.toNat++([Pf e.k.toNat]++cW e.v.toNat)
def zyC(T:Tab)(e:Ent):List UInt8:=bh T (zxy e)
def zxa(T:Tab)(l:List Ent):List UInt8:=l.flatMap (zyC T)
def zxE(T:Tab)(l:List Ent):Int×List UInt8:=if bQ l=true then(0,zxa T l)else(2,[])
def zwU(first:Int):Int×List UInt8:=if aB first=true/\first≠0 then(0,1::cW first.toNat)else(2,[])
def zxW(T:Tab)(first:Int)(l:List Ent):Int×List UInt8:=if(zwU first).1=0 then(if bQ l=true then(0,(zwU first).2++zxa T l)else(2,[]))else(2,[])
theorem zxR(e:Ent):X (zxy e)=11:=by unfold zxy;simp[io]
theorem FN(b:List UInt8):X (bh T b)=X b+4:=by unfold bh;rw[xL,lx]
theorem zyD(e:Ent):X (zyC T e)=15:=by unfold zyC;rw[FN,zxR]
theorem zyB(l:List Ent):X (zxa T l)=15*X l:=by
 unfold zxa;induction l with
 |nil=>rfl
 |cons e l ih=>rw[Pc,xL,ih,zyD,xC];omega
theorem zzz{l:List Ent}{k:Nat}(h:k<X l):zxa T (l.take (k+1))=zxa T (l.take k)++zyC T l[k]:=by
 unfold zxa;rw[List.take_succ_eq_append_getElem h,List.flatMap_append,Pc,List.flatMap_nil,P5]
theorem zzu(x:Int):aP [x]=cW x.toNat:=by simp[aP]
theorem is1(w:World)(x:Int):Is (w.alloc (L #[C D x] 3)) (E (N ⟨w.heap.size,0,F⟩) 1 1) [x]:=xW (be w [C D x] 3 1 (xN _))
theorem zx7(x:Int)(hx:aB x=true)(w:World):Calls M 238 #[E (N ⟨w.heap.size,0,F⟩) 1 1] (w.alloc (L #[C D x] 3)) λe w'=>∃q c,e=.returned (.tuple #[E (N ⟨q,0,F⟩) 5 c,C D 0])/\OwnB w' w.heap.size (E (N ⟨q,0,F⟩) 5 c) (cW x.toNat)/\w.heap.size<=q/\q<w'.heap.size/\Ext w w':=by
 refine(M7 _ _ _ (is1 w x) (by simp[aG,hx]) (by simp)).mono ?_;rintro e w' ⟨v,rfl,d,h⟩;have g:OwnB w' (w.alloc (L #[C D x] 3)).heap.size v (cW x.toNat):=by rw[zzu]at d;exact d
 have a:=ay g (base':=w.heap.size) (by simp);have d:=io x.toNat;obtain⟨q,c,f,i,_,_⟩:=ia a;rw[d]at f;subst f;exact⟨q,c,rfl,a,i,(World.ownsRow.lt a q rfl).2,xT (xA (xR _) _) h⟩
theorem zyV(x:Int)(hx:aB x=false)(w:World):Calls M 238 #[E (N ⟨w.heap.size,0,F⟩) 1 1] (w.alloc (L #[C D x] 3)) λe w'=>e=.returned (.tuple #[E none 0 0,C D 2])/\Ext w w':=by
 refine(zzL _ _ _ (is1 w x) (by simp[aG,hx])).mono ?_;rintro e w' ⟨rfl,a⟩;exact⟨rfl,xT (xA (xR _) _) a⟩
def zxt(w:World)(r:Int×List UInt8)(e:Ending)(w':World):Prop:=∃A c,e=.returned (.tuple #[E A r.2.length c,C D r.1])/\OwnB w' w.heap.size (E A r.2.length c) r.2/\Ext w w'
theorem zw6{w w':World}{e:Ending}{n:Int}(he:e=.returned (.tuple #[E none 0 0,C D n]))(a:Ext w w'):zxt w (n,[]) e w':=⟨none,0,he,World.ownsRow_nil _ _ _ _,a⟩
theorem zzf(first:Int)(w:World):Calls M 350 #[C D first] w (zxt w (zwU first)):=by
 by_cases hn:aB first=true
 ·have c:=I (zx7 first hn w);by_cases f:first=0
  ·have d:zwU first=(2,[]):=by unfold zwU;rw[if_neg (λh=>h.2 f)]
   rw[d];subst f;go_enter func350,ntmps350
   go_wp2_with (go_at_call 238;refine c.mono ?_;rintro e a⟨g,i,rfl,H3,_,_,H0⟩)
   go_ret2;exact zw6 rfl H0
  have d:zwU first=(0,1::cW first.toNat):=by unfold zwU;rw[if_pos ⟨hn,f⟩]
  rw[d];have j:(first==0)=false:=by simpa using f
  have hl:=io first.toNat;obtain⟨bs,f⟩:∃bs,cW first.toNat=bs:=⟨_,rfl⟩
  rw[f]at hl c⊢;go_enter func350,ntmps350
  go_wp2_with (first
   |(go_at_call 238;refine c.mono ?_;rintro e a⟨g,i,rfl,H3,_,_,H0⟩)
   |(at_builtin;refine eu (.tmp 18) (.tmp 19) rfl a.heap.size _ [1] (be a [C G 1] 5 1 (xN _)) _ bs (H3.bs.ext (xA (xR _) _)) (by simp) ?_;intro f i l g j;have k:Ext a l:=j a (xA (xR _) _) (xN _)))
  go_ret2;have j:X [(1:UInt8)]+X bs=X (1::bs):=by simp;omega
  rw[j]at g;have j:X (1::bs)=6:=by simp;omega
  exact⟨f,i,by show _=Ending.returned (.tuple #[E f (1::bs).length i,C D 0]);rw[j];rfl,ay g H0.size,xT H0 k⟩
 ·have f:aB first=false:=by simpa using hn
  have c:=I (zyV first f w);have d:zwU first=(2,[]):=by unfold zwU;rw[if_neg (λh=>hn h.1)]
  rw[d];go_enter func350,ntmps350
  go_wp2_with (go_at_call 238;refine c.mono ?_;rintro e a⟨rfl,H0⟩)
  go_ret2;exact zw6 rfl H0
theorem bs1(W:World)(a:UInt8)(n:Int)(h:n=a.toNat):Bs (W.alloc (L #[C G n] 5)) (E (N ⟨W.heap.size,0,F⟩) 1 1) [a]:=by
 subst h;exact xW (be W [bv a] 5 1 (xN _))
theorem yal(k:Int)(h:0<=k/\k<5):IntKind.u8.wrap k=((Pf k.toNat).toNat:Int):=by
 rw[IntKind.wrap_u8,UInt8.toNat_ofNat'];omega
theorem zzN(v:Value)(l:List Ent)(w:World)(hT:TabW T w)(h:Es w v l)(hl:l.length<=100000):Calls M 348 #[v] w (zxt w (zxE T l)):=by
 obtain⟨A,c,rfl,_,_⟩:=xO h;have HL:=I h;have HT:=I hT;clear h hT;go_enter func348,ntmps348
 go_wp2_with fail
 go_loopw [2,12] (λvb i wr=>∃k:Nat,k<=l.length/\i=C D k/\OwnB wr w.heap.size vb (zxa T (l.take k))/\Hid (bQ (l.take k)=true)/\Ext w wr) (λ_ i _=>l.length-(intOf i).toNat)
 case atStart=>exact⟨0,Pk _,rfl,World.ownsRow_nil _ _ _ _,rfl,xR _⟩
 case round=>
  obtain⟨k,hk,rfl,g,s,j⟩:=hrel;by_cases Hq:k<l.length
  ·obtain⟨_,b,HY,rfl,hc⟩:=Es.at_ (HL.out.ext j) (by omega);obtain⟨G9,Ga,Gb⟩:=hc k Hq;clear hc;have Hx:=zzz (T:=T) Hq;have X:=FD Hq s;obtain⟨e,he⟩:∃e,l[k]=e:=⟨_,rfl⟩;rw[he]at G9 Ga Gb Hx X;have Jv:=zyD (T:=T) e;obtain⟨r,hr⟩:∃r,zyC T e=r:=⟨_,rfl⟩;rw[hr]at Hx Jv;have W:=zyB (T:=T) (l.take k);obtain⟨P,o⟩:∃P,zxa T (l.take k)=P:=⟨_,rfl⟩;rw[o]at g Hx W;rw[P2]at W;have JH:=I X;have JP:=I Hx;have Hr:=I hr;have Gx:P.length<=1500000:=by omega
   have KF:Hid (e.ok=false->zxE T l=(2,[])):=by
    intro h;unfold zxE;rw[if_neg];intro h2;have:l[k]∈l:=List.getElem_mem Hq;rw[he]at this;have:=(List.all_eq_true.1 h2) e this;rw[h]at this;cases this
   have Jm:w.heap.size<=wr.heap.size:=j.size;clear X Hx hr o W he;cases f:e.ok with
   |false=>
    have n:okB e.t e.k e.v=false:=f;have x:=I (KF.out f);clear f;go_wp2_with (go_at_call 156;refine(mI _ _ _ _).mono ?_;rw[n];rintro e1 d⟨rfl,H0⟩)
    go_ret2;have G0:Ext wr d:=xT (xA (xR _) _) H0;rw[x.out];exact zw6 rfl (xT j G0)
   |true=>
    have n:okB e.t e.k e.v=true:=f;obtain⟨q1,q2,q3,q4,q5,q6,_⟩:=okB_true.1 n;have Gi:aB e.t=true:=by simp[aB];omega
    have Gj:aB e.v=true:=by simp[aB];omega
    have Gg:=yal e.k ⟨q3,q4⟩;have J1:=io e.t.toNat;have J2:=io e.v.toNat;obtain⟨a,HQ⟩:∃a,Pf e.k.toNat=a:=⟨_,rfl⟩;have Kx:zxy e=cW e.t.toNat++([a]++cW e.v.toNat):=by unfold zxy;rw[HQ]
    rw[HQ]at Gg;clear f HQ q1 q2 q3 q4 q5 q6;have Y:=Ph wr 54 #[C D e.t,C D e.k,C D e.v];have hX:Ext wr (wr.alloc (L #[C D e.t,C D e.k,C D e.v] 54)):=xA (xR _) _;go_wp2_with (go_at_call 156;refine(mI _ _ _ _).mono ?_;rw[n];rintro e1 d⟨rfl,H0⟩;obtain⟨B,H,J,_,_,_⟩:=au (Y.ext H0))
    have Z:Ext wr d:=xT hX H0;refine(zx7 e.t Gi d).mono ?_;rintro e2 w2⟨m,y,rfl,H7,Gt,JU,O⟩;have X2:=xT Z O;clear B H J;obtain⟨B,H,J,_,_,_⟩:=au (Y.ext (xT H0 O));go_wp2_with fail
    refine(zx7 e.v Gj w2).mono ?_;rintro e3 q⟨K,c3,rfl,Ki,Gu,JV,S⟩;have X3:=xT X2 S;have Y3:=xT O S;clear B H J;obtain⟨B,H,J,_,_,_⟩:=au (Y.ext (xT H0 Y3));have Kh:OwnB q d.heap.size (E (N ⟨m,0,F⟩) 5 y) (cW e.t.toNat):=ai H7 S;obtain⟨Hk,Ht⟩:∃z,cW e.t.toNat=z:=⟨_,rfl⟩;obtain⟨Km,Hu⟩:∃z,cW e.v.toNat=z:=⟨_,rfl⟩;rw[Ht]at Kh J1 Kx;rw[Hu]at Ki J2 Kx;have Gy:(([a]:List UInt8).map bv).toArray = #[C G (a.toNat:Int)]:=rfl;clear Ht Hu H7;have Jq:Hk.length+([a]:List UInt8).length=6:=by simp;omega
    have Kg:(Hk++[a]).length+Km.length=11:=by simp;omega
    have KY:=bs1 q a _ (Eq.refl (a.toNat:Int));obtain⟨i0,hi,J4,J5,J6⟩:=info_parts dC;have U:OwnB (q.alloc (L #[C G (a.toNat:Int)] 5)) d.heap.size (E (N ⟨m,0,F⟩) 5 y) Hk:=Kh.ext (xA (xR _) _);have Jh:OwnB (q.alloc (L #[C G (a.toNat:Int)] 5)) w2.heap.size (E (N ⟨K,0,F⟩) 5 c3) Km:=Ki.ext (xA (xR _) _);have K0:d.heap.size<=(q.alloc (L #[C G (a.toNat:Int)] 5)).heap.size:=by have:=Y3.size;simp;omega
    have J0:(Hk++[a]).length=6:=by simp;omega
    obtain⟨Ab,cb,rfl,_,_⟩:=xO (xW g);have Ky:Hk++[a]++Km=zxy e:=by rw[Kx,P3]
    have JN:=I Ky;have JJ:=I J0;have JE:Hid (TabW T d):=HT.out.ext (xT j Z);have JL:=I g;have JG:=I Z;clear Kx Ky g;go_wp2_with (first
     | (at_builtin
        refine dT _ rfl (.tmp 34) (.tmp 38) 33 rfl d.heap.size 5 i0 (C G 0) 1 1 underlying33 hi J4 J5 J6 rfl (by decide) _ Hk.length (Hk.map bv) rfl U _ 1 ([a].map bv) rfl KY (de _) (by unfold maxLen;omega) (by omega) K0 ?_;intro v4 w4 Kv V;have Hm:Ext d w4:=Ext.grownOwn (xA Y3 _) U V;have Hc:OwnB w4 d.heap.size v4 (Hk++[a]):=by unfold OwnB;rw[xL,Pe];exact Kv
        have JT:OwnB w4 w2.heap.size (E (N ⟨K,0,F⟩) 5 c3) Km:=Pg Jh V (.inr (λe=>by have e':some K=N m:=e;cases e';omega));obtain⟨A4,c4,Jz,_,_⟩:=xO (xW Hc);rw[JJ.out]at Jz;subst Jz;clear Kv V U Jh)
     |(at_builtin;refine eu (Km:=rfl) (.tmp 39) (.tmp 40) rfl d.heap.size _ (Hk++[a]) (hs:=rfl) Hc _ Km (hx:=rfl) JT.bs (Kn:=by omega) Hm.size ?_;intro A5 c5 w5 Kw G4;have He:Ext d w5:=G4 d Hm (xN _)))
    rw[Kg,JN.out]at Kw;refine(sR _ (zxy e) w5 (xW Kw) (by rw[zxR];omega) (by rw[zxR];omega) (JE.out.ext He)).mono ?_;rw[show bh T (zxy e)=r from Hr.out,Jv];rintro e6 w6⟨A6,c6,rfl,Gk,JY⟩;have KL:Ext d w6:=xT He JY;have Q:Ext wr w6:=xT JG KL;go_wp2_with (at_builtin;refine eu (Km:=rfl) (.tmp 33) (.tmp 42) rfl w.heap.size _ P (hs:=rfl) (JL.out.ext Q) _ r (hx:=rfl) (xW Gk) (Kn:=by omega) (xT j Q).size ?_;intro A7 c7 w7 Jt G5;have JZ:Ext w w7:=G5 w (xT j Q) (xN _))
    refine⟨⟨k+1,by omega,by go_num,?_,JH.out.trans n,JZ⟩,by simp[intOf];omega⟩;rw[JP.out];have JQ:P.length+r.length=P.length+15:=by omega
    rw[JQ]at Jt;exact Jt
  ·have Hx:l.take k=l:=List.take_of_length_le (by omega);rw[Hx]at s g;have R:zxE T l=(0,zxa T l):=by unfold zxE;rw[if_pos s.out]
   obtain⟨P,o⟩:∃P,zxa T l=P:=⟨_,rfl⟩;rw[o]at R g;have x:=I R;obtain⟨m,y,rfl,_,_⟩:=xO (xW g);have GB:¬((k:Int)<(l.length:Int)):=by omega
   clear R Hx o s;go_wp2_with fail
   go_ret2;exact⟨m,y,by rw[x.out];rfl,by rw[x.out];exact g,j⟩
theorem zzc(first:Int)(v:Value)(l:List Ent)(w:World)(k:TabW T w)(h:Es w v l)(hl:l.length<=100000):Calls M 347 #[C D first,v] w (zxt w (zxW T first l)):=by
 obtain⟨A,c,rfl,_,_⟩:=xO h;have r:=I h;have s:=I k;have a:=I (zzf first w);have t:=zyB (T:=T) l;unfold zxW;have f:zwU first=(0,1::cW first.toNat)\/zwU first=(2,[]):=by unfold zwU;split;exact .inl rfl;exact .inr rfl
 have z:=io first.toNat;clear h k
 rcases f with f | f
 ·rw[f]at a⊢;rw[if_pos rfl];obtain⟨H,n⟩:∃H,1::cW first.toNat=H:=⟨_,rfl⟩
  have L:H.length=6:=by rw[<-n,xC,z]
  rw[n]at a⊢;clear f n z;have d:=I (λw (k:TabW T w) (h:Es w (E A l.length c) l)=>zzN (T:=T) _ l w k h hl);unfold zxE at d;by_cases g:bQ l=true
  ·rw[if_pos g];rw[if_pos g]at d;obtain⟨P,G⟩:∃P,zxa T l=P:=⟨_,rfl⟩;rw[G]at d t⊢;have U:P.length<=1500000:=by omega
   have V:H.length<=6:=by omega
   clear g G t L;go_enter func347,ntmps347
   go_wp2_with fail
   refine a.out.mono ?_;rintro e m⟨o,B,rfl,H3,H0⟩;dsimp only at H3⊢;go_wp2_with fail
   refine(d.out m (s.out.ext H0) (r.out.ext H0)).mono ?_;rintro e R⟨J,Q,rfl,j,i⟩;dsimp only at j⊢;have x:=xT H0 i;go_wp2_with (at_builtin;refine eu (Km:=rfl) (.tmp 25) (.tmp 26) rfl w.heap.size _ H (hs:=rfl) (OwnB.ext H3 i) _ P (hx:=rfl) (xW j) (Kn:=by omega) x.size ?_;intro q F S y K;have O:Ext w S:=K w x (xN _))
   go_ret2;have N:H.length+P.length=(H++P).length:=by simp
   rw[N]at y;refine⟨q,F,?_,y,O⟩;show _=Ending.returned (.tuple #[E q (H++P).length F,C D 0]);rw[xL];rfl
  rw[if_neg g];rw[if_neg g]at d;go_enter func347,ntmps347
  go_wp2_with fail
  refine a.out.mono ?_;rintro e m⟨o,B,rfl,H3,H0⟩;dsimp only at H3⊢;go_wp2_with fail
  refine(d.out m (s.out.ext H0) (r.out.ext H0)).mono ?_;rintro e R⟨J,Q,rfl,j,i⟩;dsimp only at j⊢;go_wp2_with fail
  go_ret2;exact zw6 rfl (xT H0 i)
 ·rw[f]at a⊢;rw[if_neg (by decide)];go_enter func347,ntmps347
  go_wp2_with fail
  refine a.out.mono ?_;rintro e m⟨o,B,rfl,H3,H0⟩;dsimp only at H3⊢;go_wp2_with fail
  go_ret2;exact zw6 rfl H0
variable {T:Tab}
def bN(T:Tab)(b:List UInt8):Option (List UInt8):=if ed (cR T 0 (b.take (X b-4)))=b.drop (X b-4)then some (b.take (X b-4))else none
theorem DM(v:Value)(bs:List UInt8)(w:World)(h:Bs w v bs)(hl:5<=bs.length)(KZ:bs.length<=100000)(Z:TabW T w):Calls M 78 #[v] w λe w'=>
  (match bN T bs with
  |some p=>∃A c,e=.returned (.tuple #[E A p.length c,Q true])/\OwnB w' w.heap.size (E A p.length c) p
  |none=>e=.returned (.tuple #[E none 0 0,Q false]))/\Ext w w':=by
 obtain⟨A,c,rfl,h1,h2⟩:=xO h;obtain⟨_,b,HY,rfl,hc⟩:=Bs.at_ h (by omega);obtain⟨n,hn⟩:∃n,bs.length-4=n:=⟨_,rfl⟩;have X:bs.length=n+4:=by omega
 have s:=Bs.take h n (by omega);have q:=Bs.cut h n (by omega) rfl;rw[show bs.length-n=4 from by omega]at q;have GG:1<=n:=by omega
 have GH:n<=100000:=by omega
 have y:(bs.take n).length=n:=by rw[P2];omega
 have H:(bs.drop n).length=4:=by rw[P1];omega
 unfold bN;rw[hn];obtain⟨p,hp⟩:∃p,bs.take n=p:=⟨_,rfl⟩;obtain⟨g,hg⟩:∃g,bs.drop n=g:=⟨_,rfl⟩;rw[hp]at s y⊢;rw[hg]at q H⊢;have B:=oK (T:=T) 0 p (by decide);obtain⟨o,z⟩:∃o,cR T 0 p=o:=⟨_,rfl⟩;rw[z]at B⊢;have R:=I Z;have t:=I s;have V:=I q;have Y:=I z;obtain⟨a,d,f,i,hf⟩:∃a d f i:UInt8,ed o=[a,d,f,i]:=⟨_,_,_,_,rfl⟩;have U:=I hf;rw[hf];have Gr:=I y;have Gq:=I H;rw[X]at h1⊢;clear hc h s q hp hg z Z hn hl KZ H X hf;subst y;have GI:(p.length:Int)<=(c:Int):=by omega
 have Ge:¬(c=p.length):=by omega
 have GK:(p.length:Int)<=(p.length:Int)+4:=by omega
 have m:Ext w (w.alloc (L #[E (N ⟨b,HY,F⟩) p.length c] 33)):=xA (xR _) _;by_cases k:[a,d,f,i]=g
 all_goals
  have W:=I k
 ·rw[if_pos k];clear k;go_enter func78,ntmps78
  go_wp2_with fail
  refine(mx (T:=T) w.heap.size _ c p _ (Boxed.new w _ _).cell (t.out.ext m) (by omega) (R.out.ext m)).mono ?_;rw[Y.out];rintro e w1⟨rfl,H0⟩;have J:=xT m H0;go_wp2_with fail
  refine(mE o B _).mono ?_;rw[U.out];rintro e j⟨rfl,r⟩;simp only[P6,P8,bv];have O:=xT J r;have x:Blk (j.alloc (L #[C G (a.toNat:Int),C G (d.toNat:Int),C G (f.toNat:Int),C G (i.toNat:Int)] 188)) j.heap.size 188 ([a,d,f,i].map bv).toArray:=Ph j _ _;have l:Ext w (j.alloc (L #[C G (a.toNat:Int),C G (d.toNat:Int),C G (f.toNat:Int),C G (i.toNat:Int)] 188)):=xA O _;have h4:Bs (j.alloc (L #[C G (a.toNat:Int),C G (d.toNat:Int),C G (f.toNat:Int),C G (i.toNat:Int)] 188)) (E (N ⟨j.heap.size,0,F⟩) 4 4) [a,d,f,i]:=fZ x rfl (by simp[maxLen]);go_wp2_with fail
  refine wp_region_held_drew (S:=λ_=>True) (by kernel_rfl) trivial (λ_=>?_);refine ab 0 ?_;refine ab 1 ?_;refine ab 2 ?_;refine ab 3 ?_;refine ah 4 (λK P=>?_);go_simp;have D:=fI _ _ _ _ _ (h4.ext (xD (xR _))) (V.out.ext (xD l));refine D.mono ?_;rw[decide_eq_true W.out];rintro e w4⟨rfl,rfl⟩;try(go_wp2_with fail)
  refine af P _ _ trivial (λ_=>?_);refine ab 5 ?_;refine aq ?_;go_wp2_with fail
  refine(yz _ p _ (t.out.ext (xD l)) (by omega) (by omega)).mono ?_;rintro e w5⟨A5,c5,rfl,Kw,He⟩;go_wp2_with fail
  go_ret2;exact⟨⟨A5,c5,rfl,ay Kw (xD l).size⟩,xT (xD l) He⟩
 ·rw[if_neg k];clear k;go_enter func78,ntmps78
  go_wp2_with fail
  refine(mx (T:=T) w.heap.size _ c p _ (Boxed.new w _ _).cell (t.out.ext m) (by omega) (R.out.ext m)).mono ?_;rw[Y.out];rintro e w1⟨rfl,H0⟩;have J:=xT m H0;go_wp2_with fail
  refine(mE o B _).mono ?_;rw[U.out];rintro e j⟨rfl,r⟩;simp only[P6,P8,bv];have O:=xT J r;have x:Blk (j.alloc (L #[C G (a.toNat:Int),C G (d.toNat:Int),C G (f.toNat:Int),C G (i.toNat:Int)] 188)) j.heap.size 188 ([a,d,f,i].map bv).toArray:=Ph j _ _;have l:Ext w (j.alloc (L #[C G (a.toNat:Int),C G (d.toNat:Int),C G (f.toNat:Int),C G (i.toNat:Int)] 188)):=xA O _;have h4:Bs (j.alloc (L #[C G (a.toNat:Int),C G (d.toNat:Int),C G (f.toNat:Int),C G (i.toNat:Int)] 188)) (E (N ⟨j.heap.size,0,F⟩) 4 4) [a,d,f,i]:=fZ x rfl (by simp[maxLen]);go_wp2_with fail
  refine wp_region_held_drew (S:=λ_=>True) (by kernel_rfl) trivial (λ_=>?_);refine ab 0 ?_;refine ab 1 ?_;refine ab 2 ?_;refine ab 3 ?_;refine ah 4 (λK P=>?_);go_simp;have D:=fI _ _ _ _ _ (h4.ext (xD (xR _))) (V.out.ext (xD l));refine D.mono ?_;rw[decide_eq_false W.out];rintro e w4⟨rfl,rfl⟩;try(go_wp2_with fail)
  refine af P _ _ trivial (λ_=>?_);refine ab 5 ?_;refine aq ?_;go_wp2_with fail
  go_ret2;exact⟨rfl,xD l⟩
def ei(T:Tab)(b:List UInt8):Option Ent:=
 match bN T b with
 |none=>none
 |some p=>
  if(az p).1=0 then
   (if(az ((az p).2.2.drop 1)).1=0 then
     (if okB (az p).2.1 (((az p).2.2.getD 0 0).toNat:Int) (az ((az p).2.2.drop 1)).2.1=true then some ⟨(az p).2.1,(((az p).2.2.getD 0 0).toNat:Int),(az ((az p).2.2.drop 1)).2.1⟩else none)
   else none)
  else none
def N0(w:World)(r:Option Ent)(e:Ending)(w':World):Prop:=(match r with
 |some x=>e=.returned (.tuple #[V #[C D x.t,C D x.k,C D x.v],Q true])
 |none=>e=.returned (.tuple #[V #[C D 0,C D 0,C D 0],Q false]))/\Ext w w'
theorem pY(h:bN T b=N p):X p=X b-4:=by
 unfold bN at h;split at h
 ·cases h;rw[P2];omega
 ·cases h
open Go.RowKit Go.Mv Go.Shelf
attribute [local go_sem] Oper.semAt_some
variable {T:Tab}
theorem Co:Tryz.prog.underlying 54=N (.struct (Tryz.prog.fieldsOf 54)):=by kernel_rfl
theorem Ag(tmps:Array Value)(W:World)(b:Nat)(cs:Array Value)(u:Value)(h2:tmps.getD 2 undef=O (N ⟨b,0,F⟩))(h3:tmps.getD 3 undef=u)(hb:Blk W b 54 cs)(hs:cs.size=3):(results Tryz.f353 tmps).run M W=.ok (.tuple #[.agg cs,u]) W:=by
 have hl:=hb.load (P:=M) Co rfl (by rw[hs];kernel_rfl);have a:tmps[2]?.getD undef=O (N ⟨b,0,F⟩):=by simpa using h2
 have c:tmps[3]?.getD undef=u:=by simpa using h3
 simp[results,results353,a,c,asAddr,hl]
theorem takeLong_rest(h:(az p).1=0):(az p).2.2=p.drop 5:=by
 unfold az at h⊢;split at h
 ·cases h
 ·rename_i h5;rw[if_neg h5];split at h
  ·rename_i hb;rw[if_pos hb]
  ·cases h
theorem tV:(az p).2.1<=1073741824:=by
 unfold az;split
 ·exact Pk _
 ·split
  ·assumption
  ·exact Pk _
def TkJ(w:World)(r:Option Ent)(a:Act)(W:World):Prop:=
 a.defers=[]/\a.tmps.size=46/\a.tmps.getD 2 undef=O (N ⟨w.heap.size,0,F⟩)/\(∃x y z,Blk W w.heap.size 54 #[x,y,z])/\Ext w W/\Hid (r=none)
theorem Ib(v:Value)(bs:List UInt8)(w:World)(hB:Bs w v bs)(hl:bs.length=15)(hT:TabW T w):Calls M 353 #[v] w (N0 w (ei T bs)):=by
 obtain⟨A,c,rfl,h1,h2⟩:=xO hB;have KR:=Ph w 54 #[C D 0,C D 0,C D 0];have hX:Ext w (w.alloc (L #[C D 0,C D 0,C D 0] 54)):=xA (xR _) _;have Jo:=DM (T:=T) _ bs _ (hB.ext hX) (by omega) (by omega) (hT.ext hX);have H5:∀p,bN T bs=N p->p.length=11:=λp h=>by rw[pY h,hl]
 have Gl:ei T bs=ei T bs:=rfl;obtain⟨R,f⟩:∃R,ei T bs=R:=⟨_,rfl⟩;have KP:=f;unfold ei at KP;rw[f];refine(callsIn_wd (ro:=none) (n:=9)).1 ?_;refine callsIn_of_wp_marks func353 rfl trivial ?_ rfl;simp only[ntmps353,Pa,xC,P4,Pm,Pl,Pj,Pi,Pb,P9,xI,Pd];have K3:=I Jo;have HE:=I H5;have HR:=I KP;have GM:w.heap.size<(w.alloc (L #[C D 0,C D 0,C D 0] 54)).heap.size:=by simp
 clear Jo H5 Gl f KP hB hT hl;gi_wp2;refine eU 0 (TkJ w R) (λa _=>0) rfl (λl' h=>by cases l'<;>first | exact absurd rfl h | rfl) ?_ ?_
 ·intro H2;clear H2;cases q:bN T bs with
  |none=>
   rw[q]at K3 HR;have J:Hid (R=none):=HR.out.symm;clear HR HE q;gi_wp2_with (refine⟨trivial,?_⟩;gi_at_call 78;refine(callsIn_wd.2 K3).mono ?_;rintro e B⟨rfl,H0⟩)
   refine wpIn_goto ?_;simp only[Exit.then];refine bI (h:=by simp) ?_;exact⟨rfl,rfl,rfl,⟨_,_,_,KR.ext H0⟩,xT hX H0,J.out⟩
  |some p=>
   have hp:=HE.out p q;rw[q]at K3 HR;clear HE q;have HW:=λ(w':World) (vv:Value) (h:Bs w' vv p)=>ml vv p w' h (by omega);have H2:=@takeLong_rest p;rcases htl:az p with⟨e1,t,rest⟩
   rw[htl]at HW H2;have K:=HR.out;simp only[htl]at K;have K5:=I HW;clear HR HW htl;by_cases Y:e1=0
   ·subst Y;have Ju:rest.length=6:=by
     have h:=H2 rfl;dsimp only at h;rw[h,P1,hp]
    simp only[if_true]at K;obtain⟨d,HQ⟩:∃d,rest.getD 0 0=d:=⟨_,rfl⟩;rw[HQ]at K;have Jp:rest[0]?=N d:=by
     rw[P7 (by omega),<-HQ];simp[List.getD_eq_getElem?_getD,P7 (show 0<rest.length by omega)]
    obtain⟨KX,Kf⟩:=List.getElem?_eq_some_iff.1 Jp;have HX:=λ(w':World) (vv:Value) (h:Bs w' vv (rest.drop 1))=>ml vv (rest.drop 1) w' h (by rw[P1];omega);rcases r:az (rest.drop 1)with⟨e2,s,rest2⟩
    rw[r]at HX;simp only[r]at K;have KI:=I HX;have JI:=I Kf;have K4:=I Ju;clear HX r HQ Jp H2 Kf Ju;have GE:IntKind.i64.wrap (d.toNat:Int)=(d.toNat:Int):=by
     have:=d.toNat_lt;rw[IntKind.wrap_i64];omega
    have Jb:=I K;have Hp:=I hp;clear K hp;gi_wp2_with (refine⟨trivial,?_⟩;gi_at_call 78;refine(callsIn_wd.2 K3).mono ?_;rintro e B⟨⟨A1,c1,rfl,H3⟩,H0⟩;have H9:Bs B (E A1 p.length c1) p:=xW H3;have HD:=I H9;have Kz:=I H0;have X:=KR.ext H0;have GN:w.heap.size<B.heap.size:=X.lt;clear H9 H3 H0;obtain⟨m,o,g,j,k,l⟩:=au X)
    refine⟨trivial,?_⟩;refine(callsIn_wd.2 (K5.out B _ HD)).mono ?_;rintro e H⟨vr,rfl,JA,S⟩;have HV:OwnB H B.heap.size vr rest:=JA;obtain⟨q2,c2,Jy,GL,KU,Gd⟩:=ia HV (hn:=by rw[K4.out];omega);rw[K4.out]at Jy KU;subst Jy;have HK:=X.ext S;have Kn:=I S;have Jg:=I HV;clear m o g j k l JA HV S X;obtain⟨m,o,g,j,k,l⟩:=au HK;have J3:some q2≠some w.heap.size:=λh=>by cases h;omega
    have o1:OwnB (H.setCell ⟨w.heap.size,0,F⟩ (C D t)) B.heap.size (E (N ⟨q2,0,F⟩) 6 c2) rest:=Pg Jg (ar _ _ 0 _) (.inr J3);have o2:OwnB ((H.setCell ⟨w.heap.size,0,F⟩ (C D t)).setCell ⟨w.heap.size,1,F⟩ (C D d.toNat)) B.heap.size (E (N ⟨q2,0,F⟩) 6 c2) rest:=Pg o1 (ar _ _ 1 _) (.inr J3);have Ky:(H.setCell ⟨w.heap.size,0,F⟩ (C D t)).cell? ⟨q2,0,F⟩=N (C G (d.toNat:Int)):=by
     obtain⟨_,b',Gp,e',hc⟩:=Bs.at_ (xW o1) (by rw[K4.out];omega);cases e';have:=hc 0 KX;rw[JI.out]at this;exact this
    have Ha:=(HK.set 0 (C D t)).set 1 (C D d.toNat);have Hl:Ext w ((H.setCell ⟨w.heap.size,0,F⟩ (C D t)).setCell ⟨w.heap.size,1,F⟩ (C D d.toNat)):=P0 (p:=⟨w.heap.size,1,F⟩) (P0 (p:=⟨w.heap.size,0,F⟩) (xT hX (xT Kz Kn)) (xN _) _) (xN _) _;have Jj:Bs ((H.setCell ⟨w.heap.size,0,F⟩ (C D t)).setCell ⟨w.heap.size,1,F⟩ (C D d.toNat)) (E (N ⟨q2,0+1,F⟩) (6-1) (c2-1)) (rest.drop 1):=Bs.cut (xW o2) 1 (by rw[K4.out];omega) K4.out.symm;have J7:=I Jj;have Jc:=I Ha;have Ko:=I Hl;clear Jj Ha Hl o1 o2;have Gc:¬(c2=1):=by omega
    gi_wp2;have K6:Bs ((H.setCell ⟨w.heap.size,0,F⟩ (C D t)).setCell ⟨w.heap.size,1,F⟩ (C D d.toNat)) (E (N ⟨q2,1,F⟩) 5 (c2-1)) (rest.drop 1):=J7.out;have Kb:Blk ((H.setCell ⟨w.heap.size,0,F⟩ (C D t)).setCell ⟨w.heap.size,1,F⟩ (C D d.toNat)) w.heap.size 54 #[C D t,C D d.toNat,C D 0]:=Jc.out;have K9:=Ko.out;clear J7 Jc Ko m o g j k l HK Kn Ky Jg;generalize(H.setCell ⟨w.heap.size,0,F⟩ (C D t)).setCell ⟨w.heap.size,1,F⟩ (C D d.toNat)=w3 at *;have Ko:=I K9;have key:=KI.out w3 _ K6;clear K9 K6;refine⟨trivial,?_⟩;refine(callsIn_wd.2 key).mono ?_;rintro e w4⟨GO,rfl,-,Hm⟩;have HM:=Kb.ext Hm;have J9:=I (xT Ko Hm);clear key Hm Kb;obtain⟨m,o,g,j,k,l⟩:=au HM;have f:=Jb.out;clear Jb;by_cases Z:e2=0
    ·subst Z;simp only[if_true]at f;have Jl:=HM.set 2 (C D s);have Kc:Blk (w4.setCell ⟨w.heap.size,2,F⟩ (C D s)) w.heap.size 54 #[C D t,C D d.toNat,C D s]:=Jl;have Ja:Hid (Ext w (w4.setCell ⟨w.heap.size,2,F⟩ (C D s))):=P0 (p:=⟨w.heap.size,2,F⟩) J9 (xN _) _;have HZ:=mI t d.toNat s (w4.setCell ⟨w.heap.size,2,F⟩ (C D s));have Jd:=I Kc;clear Jl Kc;cases P:okB t d.toNat s with
     |true=>
      rw[P]at f HZ;have KE:=I HZ;rw[if_pos rfl]at f;have JD:=I f;clear f HZ P;gi_wp2;refine⟨trivial,?_⟩;refine(callsIn_wd.2 KE).mono ?_;rintro e w5⟨rfl,He⟩;have H4:Ext (w4.setCell ⟨w.heap.size,2,F⟩ (C D s)) w5:=He;have K0:=Jd.out.ext H4;have KA:=I (xT Ja H4);clear m o g j k l He H4 HM;obtain⟨m,o,g,j,k,l⟩:=au K0;gi_wp2;refine bJ ?_;refine fp (.tuple #[V #[C D t,C D d.toNat,C D s],Q true]) (Ag _ _ _ _ _ rfl rfl (bV K0 _ _ _) rfl) ?_;rw[<-JD.out];refine⟨rfl,?_⟩;exact((P0 KA (p:=⟨w.heap.size,0,F⟩) (xN _) _).setCell (p:=⟨w.heap.size,1,F⟩) (xN _) _).setCell (p:=⟨w.heap.size,2,F⟩) (xN _) _
     |false=>
      rw[P]at f HZ;have KE:=I HZ;rw[if_neg (by decide)]at f;have J:Hid (R=none):=f.symm;clear f HZ P;gi_wp2;refine⟨trivial,?_⟩;refine(callsIn_wd.2 KE).mono ?_;rintro e w5⟨rfl,He⟩;have H4:Ext (w4.setCell ⟨w.heap.size,2,F⟩ (C D s)) w5:=He;have K0:=Jd.out.ext H4;have KA:=I (xT Ja H4);clear m o g j k l He H4 HM;gi_wp2;refine wpIn_goto ?_;simp only[Exit.then];refine bI (h:=by simp) ?_;exact⟨rfl,rfl,rfl,⟨_,_,_,K0⟩,KA.out,J.out⟩
    have Gh:((e2:Int) != 0)=true:=by simp[Z]
    rw[if_neg Z]at f;have J:Hid (R=none):=f.symm;clear f;gi_wp2;refine⟨trivial,?_⟩;gi_wp2;refine wpIn_goto ?_;simp only[Exit.then];refine bI (h:=by simp) ?_;exact⟨rfl,rfl,rfl,⟨_,_,_,HM.set 2 _⟩,P0 (p:=⟨w.heap.size,2,F⟩) J9 (xN _) _,J.out⟩
   have J3:((e1:Int) != 0)=true:=by simp[Y]
   rw[if_neg Y]at K;have J:Hid (R=none):=K.symm;have Hp:=I hp;clear K H2 hp;gi_wp2_with (first
    |(refine⟨trivial,?_⟩;gi_at_call 78;refine(callsIn_wd.2 K3).mono ?_;rintro e B⟨⟨A1,c1,rfl,H3⟩,H0⟩;have H9:Bs B (E A1 p.length c1) p:=xW H3;have HD:=I H9;have Kz:=I H0;have X:=KR.ext H0;clear H9 H3 H0;obtain⟨m,o,g,j,k,l⟩:=au X)
    |(refine⟨trivial,?_⟩;gi_at_call 204;refine(callsIn_wd.2 (K5.out B _ HD)).mono ?_;rintro e H⟨vr,rfl,-,S⟩;clear m o g j k l;have HK:=X.ext S;have Kn:=I S;clear S;obtain⟨m,o,g,j,k,l⟩:=au HK))
   refine wpIn_goto ?_;simp only[Exit.then];refine bI (h:=by simp) ?_;exact⟨rfl,rfl,rfl,⟨_,_,_,HK.set 0 _⟩,P0 (p:=⟨w.heap.size,0,F⟩) (xT hX (xT Kz Kn)) (xN _) _,J.out⟩
 ·rintro⟨TT,df⟩W⟨hd,Kk,h2,⟨x,y,z,hb⟩,hE,J⟩;cases hd;dsimp only at Kk h2;have hT:=fM 46 TT Kk;generalize hU:(λi=>TT.getD i undef)=U at hT;have g:U 2=O (N ⟨w.heap.size,0,F⟩):=by rw[<-hU];exact h2
  have G7:TT = #[U 0,U 1,O (N ⟨w.heap.size,0,F⟩),U 3,U 4,U 5,U 6,U 7,U 8,U 9,U 10,U 11,U 12,U 13,U 14,U 15,U 16,U 17,U 18,U 19,U 20,U 21,U 22,U 23,U 24,U 25,U 26,U 27,U 28,U 29,U 30,U 31,U 32,U 33,U 34,U 35,U 36,U 37,U 38,U 39,U 40,U 41,U 42,U 43,U 44,U 45]:=by rw[hT];show(#[U 0,U 1,U 2,U 3,U 4,U 5,U 6,U 7,U 8,U 9,U 10,U 11,U 12,U 13,U 14,U 15,U 16,U 17,U 18,U 19,U 20,U 21,U 22,U 23,U 24,U 25,U 26,U 27,U 28,U 29,U 30,U 31,U 32,U 33,U 34,U 35,U 36,U 37,U 38,U 39,U 40,U 41,U 42,U 43,U 44,U 45]:Array Value)=_;rw[g]
  clear hT hU Kk g h2;subst G7;obtain⟨m,o,g,j,k,l⟩:=au hb;gi_wp2;refine bJ ?_;refine fp (.tuple #[V #[C D 0,C D 0,C D 0],Q false]) (Ag _ _ _ _ _ rfl rfl (bV hb _ _ _) rfl) ?_;rw[J.out];refine⟨rfl,?_⟩;exact((P0 hE (p:=⟨w.heap.size,0,F⟩) (xN _) _).setCell (p:=⟨w.heap.size,1,F⟩) (xN _) _).setCell (p:=⟨w.heap.size,2,F⟩) (xN _) _
attribute [local go_sem] Oper.semAt_some
variable {T:Tab}
def cG(T:Tab)(b:List UInt8)(p:Nat):List (Nat×Ent):=
 if h:X b<15 then[]else
  match ei T (b.take 15)with
  |none=>[]
  |some e=>(p+15,e)::cG T (b.drop 15) (p+15)
termination_by (X b)
decreasing_by
 simp;omega
theorem qo{p:Nat}(h:X b<15):cG T b p=[]:=by rw[cG,dif_pos h]
theorem qS{p:Nat}(h:¬X b<15)(hn:ei T (b.take 15)=none):cG T b p=[]:=by rw[cG,dif_neg h,hn]
theorem qT{p:Nat}{e:Ent}(h:¬X b<15)(hn:ei T (b.take 15)=N e):cG T b p=(p+15,e)::cG T (b.drop 15) (p+15):=by rw[cG,dif_neg h,hn]
def RcK(a c:Nat)(k:Nat)(o:Obj):Prop:=o.isCells=true/\k≠a/\(k<c\/o.ty≠some 54)
theorem Hold.keptR{a W W':World}{d e n:Nat}(h:Hold a W)(g:a.heap.size<=d)(g:a.heap.size<=e)(hk:Kept (am (RcK d e) n) W W'):Hold a W':=by
 intro p u d;have Hq:=World.block_lt_of_cell? a p d;have hc:=h p u d;obtain⟨o,a,f⟩:=cells_of_cell hc;refine hk.cell hc (λd c=>.inl ?_);rw[a]at c;cases c;exact⟨f,by omega,.inl (by omega)⟩
theorem Ef(m o:World)(v:Value)(bs:List UInt8)(K1:Bs m v bs)(H5:bs.length<=2000000)(hH:Hold m o)(hT:TabW T m)(B bo n0:Nat)(hB:Boxed o B 33 v)(JX:B≠bo)(h1:m.heap.size<=bo)(h2:m.heap.size<=n0):
  Seq M 352 #[O (N ⟨B,0,F⟩)]
   (λ(x:Nat×Ent) av _=>av = #[C D x.1,V #[C D x.2.t,C D x.2.k,C D x.2.v]]/\x.1<=bs.length) (RcK bo n0) (λ_ _=>False) (cG T (bs.drop 6) 6) o:=by
 intro l J Jx hJ Gw y h0;obtain⟨A,c,rfl,Ho,HK⟩:=xO K1;refine(callsIn_wd (ro:=none) (n:=9)).1 ?_;refine callsIn_of_wp func352 rfl trivial ?_ rfl;simp only[ntmps352,Pa,xC,P4,Pm,Pl,Pj,Pi,Pb,P9,xI,Pd];have Jf:=I K1;have JF:=I hT;clear K1 hT;obtain⟨a,U⟩:∃a,cG T (bs.drop 6) 6=a:=⟨_,rfl⟩;rw[U]at y⊢;have HA:=I U;clear U;gi_wp2;gi_loopw [3] (λj W=>∃(k:Nat) (g:List (Nat×Ent)),j=C D k/\k<=bs.length+15/\Hid (a=g++cG T (bs.drop k) k)/\Hid (J g W)/\Hold m W/\Boxed W B 33 (E A bs.length c)/\o.heap.size<=W.heap.size) (λj _=>bs.length+30-(intOf j).toNat)
 case atStart=>exact⟨6,[],rfl,by omega,HA.out.symm,h0,hH,hB,xN _⟩
 case round=>
  obtain⟨k,g,rfl,GD,Y,X,S,bB,Kk⟩:=hrel;have Q:=bB.cell;by_cases Hq:k+15<=bs.length
  ·obtain⟨_,b,Z,rfl,hc⟩:=Bs.at_ Jf (by omega);have G:=f8 Jf k 15 Hq;obtain⟨p,r⟩:∃p,(bs.drop k).take 15=p:=⟨_,rfl⟩;have Hj:p.length=15:=by rw[<-r,P2,P1];omega
   rw[r]at G;have H:¬(bs.drop k).length<15:=by rw[P1];omega
   have KV:(bs.drop k).drop 15=bs.drop (k+15):=by rw[List.drop_drop]
   have R:Bs wr (E (N ⟨b,Z+k,F⟩) 15 (c-k)) p:=SlR.keep (SlR.capd G (by rw[Hj];omega) (by omega)) S;have G8:TabW T wr:=JF.out.hold S;have key:=Ib (T:=T) _ p wr R Hj G8;have d:=Y.out;cases s:ei T p with
   |none=>
    rw[s]at key;rw[qS H (by rw[r];exact s),P5]at d;subst d;have KH:=I key;have Gf:(k:Int)+15<=(c:Int):=by omega
    clear key s R G r hc KV H y;gi_wp2;refine⟨trivial,?_⟩;refine(callsIn_wd.2 KH).mono ?_;rintro e i⟨rfl,H0⟩;have K:=I (hJ _ wr (i.alloc (L #[C D 0,C D 0,C D 0] 54)) X ((Moves.refl.below H0 (xN _)).alloc _));clear H0;gi_wp2;refine⟨λf h=>(by cases h),?_⟩;gi_wp2;refine bodyPost_ret (results_none rfl _ _ _) rfl ?_;exact⟨⟨_,rfl⟩,.inl K⟩
   |some x=>
    rw[s]at key;rw[qT H (by rw[r];exact s),KV]at d;have KH:=I key;have KD:=I d;have Gf:(k:Int)+15<=(c:Int):=by omega
    have JK:=I y;clear key s R G r hc KV H y d;gi_wp2;refine⟨trivial,?_⟩;refine(callsIn_wd.2 KH).mono ?_;rintro e i⟨rfl,H0⟩;have Ha:=Ph i 54 #[C D x.t,C D x.k,C D x.v];have P:Ext wr (i.alloc (L #[C D x.t,C D x.k,C D x.v] 54)):=xA H0 _;have K:=hJ g wr (i.alloc (L #[C D x.t,C D x.k,C D x.v] 54)) X ((Moves.refl.below H0 (xN _)).alloc _);have Kl:o.heap.size<=(i.alloc (L #[C D x.t,C D x.k,C D x.v] 54)).heap.size:=Pn Kk P.size;have Ji:Boxed (i.alloc (L #[C D x.t,C D x.k,C D x.v] 54)) B 33 (E (N ⟨b,Z,F⟩) bs.length c):=bB.kept (row:=none) (Ext.grown P none) (by simp);have Jk:Hold m (i.alloc (L #[C D x.t,C D x.k,C D x.v] 54)):=λq u hq=>Ext.cell P (S q u hq);have hy:=JK.out g (k+15,x) _ KD _ #[C D ((k+15:Nat):Int),V #[C D x.t,C D x.k,C D x.v]] K Kl ⟨rfl,by show k+15<=bs.length;omega⟩;have Hy:=I hy;have JB:=I Jk;have ea:=au Ha;clear hy K H0 Jk Q P Ha;have Q:=Ji.cell;gi_wp2;refine ew Hy ?_;rintro e W' ⟨w,⟨rfl,z⟩|⟨rfl,z⟩⟩
    ·refine⟨true,rfl,?_⟩;have d1:Boxed W' B 33 (E (N ⟨b,Z,F⟩) bs.length c):=w.boxed Ji (.inl ⟨rfl,JX,.inr (by intro h;cases h)⟩);have e1:=d1.cell;have Gm:o.heap.size<=W'.heap.size:=Pn Kl w.size;have JC:=I (Hold.keptR JB h1 h2 w);have KC:=I z;have Jw:a=(g++[(k+15,x)])++cG T (bs.drop (k+15)) (k+15):=by rw[P3];exact KD.out
     have JO:=I Jw;clear z w Q Jw Hy ea;gi_wp2;exact⟨⟨k+15,g++[(k+15,x)],by go_num,by omega,JO.out,KC.out,JC.out,d1,Gm⟩,by simp[intOf];omega⟩
    refine⟨false,rfl,?_⟩;have KC:=I z;clear z w Q ea;gi_wp2;refine bodyPost_ret (results_none rfl _ _ _) rfl ?_;refine⟨⟨_,rfl⟩,.inr ⟨g++[(k+15,x)],?_,KC.out⟩⟩;exact⟨cG T (bs.drop (k+15)) (k+15),by rw[P3];exact KD.out.symm⟩
  ·have HS:cG T (bs.drop k) k=[]:=qo (by rw[P1];omega);have d:=Y.out;rw[HS,P5]at d;subst d;have GC:¬((k:Int)+15<=(bs.length:Int)):=by omega
   clear HS Y y;gi_wp2;refine bodyPost_end (results_none rfl _ _ _) rfl ?_;exact⟨⟨_,rfl⟩,.inl X⟩
