/- Merged -/
import Derived.Test.YteggfecbjgbndaaGreatDoorZy9
set_option linter.all false
set_option maxHeartbeats 8000000
set_option maxRecDepth 100000
open Go.Proofs.Tryz
open List renaming length->O
open Go.Value renaming int->C,slice->D,string->M
open Go.IntKind renaming i64->E,u8->H
open Go.Proofs.Tryz renaming prog->F
open Option renaming none->G,some->I
open Go.Obj renaming cells->J
open Go.Mv renaming aN->L
open Go.RowKit.Below renaming setCell->P0
open List renaming eq_nil_of_length_eq_zero->P1,length_drop->P2,getElem?_map->P3,length->P4,getElem_cons_zero->P5,drop_left->P6
open Go.Mv.Ext renaming cell->P7,grownOwn->P8
open Go.IntWalk renaming i64_in->P9
open Go.IntKind renaming i64->Pa
open Go.World renaming ownsRow_nil->Pb,block_lt_of_cell?->Pc,news_of_block->Pd
open UInt8 renaming ofNat->Pe
namespace Go.Proofs.YteggfecbjgbndaaGreatDoor
open Go.RowKit Go.Mv
variable {bs:List UInt8}
variable {T:Tab}
theorem oK(s:Nat)(bs:List UInt8)(h:s<4294967296):cR T s bs<4294967296:=nV _ (rQ _ _ (nV _ h))
theorem mx(p:Nat)(A:Option Addr)(c:Nat)(bs:List UInt8)(w:World)(hc:w.cell? ⟨p,0,G⟩=I (D A bs.length c))(h:Bs w (D A bs.length c) bs)(Kp:O bs<=2000000)(j:TabW T w):
  Calls F 145 #[D (I ⟨p,0,G⟩) 1 1] w λe w'=>e=.returned (.int .u32 (cR T 0 bs))/\Ext w w':=by
 have f:=L h;have g:=L j;go_enter func145,ntmps145
 go_wp2_with fail
 go_loopw [2,7] (λs i wr=>∃k b:Nat,k<=1/\s=.int .u32 b/\i=C E k/\Hid (b=if k=0 then 0 else cR T 0 bs)/\Ext w wr) (λ_ i _=>1-(intOf i).toNat)
 case atStart=>exact⟨0,0,by omega,rfl,rfl,rfl,xR _⟩
 case round=>
  obtain⟨k,b,j,rfl,rfl,d,a⟩:=hrel;have j:=a.cell hc;by_cases j:k<1
  ·obtain rfl:k=0:=by omega
   obtain rfl:b=0:=d.out;go_wp2_with (go_at_call 202;refine(DL 0 (by decide) _ bs wr (f.ext a) Kp (g.ext a)).mono ?_;rintro e f⟨rfl,f⟩)
   go_roundw
   case rel=>exact⟨1,cR T 0 bs,by omega,rfl,rfl,rfl,xT a f⟩
   case measure=>simp[intOf]
  ·obtain rfl:k=1:=by omega
   obtain rfl:b=cR T 0 bs:=d.out;go_wp2_with fail;go_ret;exact⟨rfl,a⟩
def ed(s:Nat):List UInt8:=[Pe s,Pe (s / 256),Pe (s / 65536),Pe (s / 16777216)]
def sJ(s k:Nat):Array Value:=#[if 0<k then C H ((s:Int) % 256)else C H 0,if 1<k then C H ((s:Int) / 256 % 256)else C H 0,if 2<k then C H ((s:Int) / 65536 % 256)else C H 0,if 3<k then C H ((s:Int) / 16777216 % 256)else C H 0]
theorem FT(s:Nat):sJ s 4=((ed s).map bv).toArray:=by simp[sJ,ed,bv]
theorem mE(s:Nat)(hs:s<4294967296)(w:World):Calls F 144 #[.int .u32 s] w λe w'=>e=.returned (.agg ((ed s).map bv).toArray)/\Ext w w':=by
 go_enter func144,ntmps144
 go_wp2_with fail
 go_loopw [4] (λi wr=>∃k:Nat,k<=4/\i=C E k/\Blk wr w.heap.size 188 (sJ s k)/\Ext w wr) (λi _=>4-(intOf i).toNat)
 case atStart=>exact⟨0,by omega,rfl,Blk.new w _ _,xA (xR _) _⟩
 case round=>
  obtain⟨k,c,rfl,a,b⟩:=hrel;rcases(by omega:k=0\/k=1\/k=2\/k=3\/k=4)with rfl | rfl | rfl | rfl | rfl
  ·have H8:Blk wr w.heap.size 188 #[C H 0,C H 0,C H 0,C H 0]:=a;obtain⟨c,d,f,g,h,j,l,m⟩:=blk4 H8;go_wp2_with fail
   go_roundw
   case rel=>exact⟨1,by omega,rfl,H8.set 0 _,P0 (p:=⟨w.heap.size,0,G⟩) b (xN _) _⟩
   case measure=>simp[intOf]
  ·have H8:Blk wr w.heap.size 188 #[C H ((s:Int) % 256),C H 0,C H 0,C H 0]:=a;obtain⟨c,d,f,g,h,j,l,m⟩:=blk4 H8;go_wp2_with fail
   go_roundw
   case rel=>exact⟨2,by omega,rfl,H8.set 1 _,P0 (p:=⟨w.heap.size,1,G⟩) b (xN _) _⟩
   case measure=>simp[intOf]
  ·have H8:Blk wr w.heap.size 188 #[C H ((s:Int) % 256),C H ((s:Int) / 256 % 256),C H 0,C H 0]:=a;obtain⟨c,d,f,g,h,j,l,m⟩:=blk4 H8;go_wp2_with fail
   go_roundw
   case rel=>exact⟨3,by omega,rfl,H8.set 2 _,P0 (p:=⟨w.heap.size,2,G⟩) b (xN _) _⟩
   case measure=>simp[intOf]
  ·have H8:Blk wr w.heap.size 188 #[C H ((s:Int) % 256),C H ((s:Int) / 256 % 256),C H ((s:Int) / 65536 % 256),C H 0]:=a;obtain⟨c,d,f,g,h,j,l,m⟩:=blk4 H8;go_wp2_with fail
   go_roundw
   case rel=>
    have e:(s:Int) / 16777216 % 256=(s:Int) / 16777216:=by omega
    have n:=H8.set 3 (C H ((s:Int) / 16777216));refine⟨4,by omega,rfl,?_,P0 (p:=⟨w.heap.size,3,G⟩) b (xN _) _⟩;show Blk _ _ _ #[C H ((s:Int) % 256),C H ((s:Int) / 256 % 256),C H ((s:Int) / 65536 % 256),C H ((s:Int) / 16777216 % 256)];rw[e];exact n
   case measure=>simp[intOf]
  ·have H8:Blk wr w.heap.size 188 #[C H ((s:Int) % 256),C H ((s:Int) / 256 % 256),C H ((s:Int) / 65536 % 256),C H ((s:Int) / 16777216 % 256)]:=a;obtain⟨c,d,f,g,h,j,l,m⟩:=blk4 H8;go_wp2_with fail;have a:=(((H8.set 0 (C H ((s:Int) % 256))).set 1 (C H ((s:Int) / 256 % 256))).set 2 (C H ((s:Int) / 65536 % 256))).set 3 (C H ((s:Int) / 16777216 % 256));refine bodyPost_ret (results_cell_row rfl _ _ _ 188 _ _ _ rfl a underlying188 rfl (by kernel_rfl)) rfl ?_;refine⟨by rw[<-FT];rfl,?_⟩;exact P0 (p:=⟨w.heap.size,3,G⟩) (P0 (p:=⟨w.heap.size,2,G⟩) (P0 (p:=⟨w.heap.size,1,G⟩) (P0 (p:=⟨w.heap.size,0,G⟩) b (xN _) _) (xN _) _) (xN _) _) (xN _) _
theorem yz(v:Value)(bs:List UInt8)(w:World)(h:Bs w v bs)(a:0<O bs)(hl:O bs<=2000000):Calls F 146 #[v] w λe w'=>∃A c,e=.returned (D A bs.length c)/\OwnB w' w.heap.size (D A bs.length c) bs/\Ext w w':=by
 obtain⟨A,c,rfl,h1,h2⟩:=xO h;obtain⟨_,b,H3,rfl,_⟩:=Bs.at_ h a;have a:=λ(W:World)=>Lib.run_eql_slice_nil (P:=F) W;have a:=L h;go_enter func146,ntmps146
 go_wp2_with (at_builtin;refine eu (.tmp 5) (.tmp 6) rfl w.heap.size _ [] (iI w) _ bs (a.ext (xA (xR _) _)) (by simp;omega) (by simp) ?_;intro a a g a f;have d:Ext w g:=f w (xA (xR _) _) (xN _);simp only[List.length_nil,Nat.zero_add,xI]at a⊢)
 go_ret;exact⟨_,_,rfl,a,d⟩
def bh(T:Tab)(bs:List UInt8):List UInt8:=bs++ed (cR T 0 bs)
theorem lx(s:Nat):O (ed s)=4:=rfl
theorem sR(v:Value)(bs:List UInt8)(w:World)(h:Bs w v bs)(M:0<O bs)(hl:O bs<=100000)(l:TabW T w):Calls F 120 #[v] w λe w'=>∃A c,e=.returned (D A (bh T bs).length c)/\OwnB w' w.heap.size (D A (bh T bs).length c) (bh T bs)/\Ext w w':=by
 obtain⟨A,c,rfl,h1,h2⟩:=xO h;have o:=L h;have t:=L l;have q:=oK (T:=T) 0 bs (by decide);obtain⟨g,l⟩:∃g,cR T 0 bs=g:=⟨_,rfl⟩;rw[l]at q;have hps:bh T bs=bs++ed g:=by unfold bh;rw[l]
 have B:=L hps;have E:=L l;obtain⟨P,N,x,y,z⟩:=info_parts dC;obtain⟨a,b,d,f,hf⟩:∃a b d f:UInt8,ed g=[a,b,d,f]:=⟨_,_,_,_,rfl⟩;have p:=L hf;go_enter func120,ntmps120
 go_wp2_with fail
 have j:Ext w (w.alloc (J #[D A bs.length c] 33)):=xA (xR _) _;refine(mx w.heap.size A c bs _ (Boxed.new w _ _).cell (o.ext j) (by omega) (t.ext j)).mono ?_;rw[E.out];rintro e l⟨rfl,s⟩;go_wp2_with fail
 refine(mE g q _).mono ?_;rw[p.out];rintro e i⟨rfl,g⟩;simp only[List.map_cons,List.map_nil,bv];go_wp2_with fail
 have k:Ext w (i.alloc (J #[C H (a.toNat:Int),C H (b.toNat:Int),C H (d.toNat:Int),C H (f.toNat:Int)] 188)):=xA (xT j (xT s g)) _;have hb3:=Blk.new i 188 #[C H (a.toNat:Int),C H (b.toNat:Int),C H (d.toNat:Int),C H (f.toNat:Int)];refine wp_region_held_drew (S:=λ_=>True) (by kernel_rfl) trivial (λ_=>?_);refine ab 0 ?_;refine ab 2 ?_;refine ah 1 (λK m=>?_);go_simp;refine(yz _ bs _ (o.ext (xD k)) M (by omega)).mono ?_;rintro e n⟨r,I,rfl,l,j⟩;try(go_wp2_with fail)
 refine af m _ _ trivial (λ_=>?_);have g:Ext (i.alloc (J #[C H (a.toNat:Int),C H (b.toNat:Int),C H (d.toNat:Int),C H (f.toNat:Int)] 188)) n:=xT (xD (xR _)) j;have o:=hb3.ext g;have j:Ext w n:=xT k g;have g:n.ownsRow w.heap.size 5 1 (D r bs.length I) bs.length (bs.map bv):=ay l (xD k).size;refine ah 3 (λK m=>?_);refine wp_append_lies _ (.tmp 9) (.tmp 10) 33 (by rfl) w.heap.size 5 P (C H 0) 1 1 underlying33 N x y z rfl (by decide) _ bs.length (bs.map bv) (by rfl) g ⟨i.heap.size,0,G⟩ 4 4 [C H (a.toNat:Int),C H (b.toNat:Int),C H (d.toNat:Int),C H (f.toNat:Int)] (by rfl) rfl (Pd o) (by simp[Value.oneCell']) (by omega) (by unfold maxLen;omega) (by omega) j.size _ rfl ?_;intro a a f d b _ _;refine af m _ _ trivial (λ_=>?_);refine ab 4 ?_;refine aq ?_;go_wp2_with fail;go_ret;have a:O (bh T bs)=O bs+4:=by unfold bh;rw[xL,lx]
 rw[a];refine⟨_,_,rfl,?_,P8 j g b⟩;show f.ownsRow w.heap.size 5 1 _ (bh T bs).length ((bh T bs).map bv);rw[a,B.out,p.out,List.map_append];exact d
def lj(p:Nat×Nat)(bs:List UInt8):List Ent×(Nat×Nat)×Nat:=match bX p bs with | none=>([],(0,0),0) | some x=>(x.1,aD p (bp x.1),O bs-O x.2)
def RBlkP(w:World)(r:List Ent×(Nat×Nat)×Nat)(e:Ending)(w':World):Prop:=
 ∃a b,e=.returned (.tuple #[a,b,C E r.2.2])/\w'.ownsRow w.heap.size 54 3 a r.1.length (ax r.1)/\PtV b r.2.1/\Ext w w'
theorem RBlkP.none{w w':World}{p:Nat×Nat}(h:bX p bs=none)(a:Ext w w'):RBlkP w (lj p bs) (.returned (.tuple #[D none 0 0,.complex .f64 0 0,C E 0])) w':=by
 unfold lj;rw[h];exact⟨_,_,rfl,Pb _ _ _ _,PtV.zero,a⟩
theorem od{p:Nat×Nat}(h:dO bs=none):bX p bs=none:=by unfold bX;rw[h]
theorem IZ{p:Nat×Nat}{es:List Ent}{r:List UInt8}(h:dO bs=I (es,r))(h4:4<=O r):
  ∃a,O bs-O r+4=a/\O r<=O bs/\a<=O bs/\((dI p es=bs.take a/\lj p bs=(es,aD p (bp es),a))\/(dI p es≠bs.take a/\bX p bs=none)):=by
 obtain⟨h1,h2⟩:=rj h;have hl:=congrArg P4 h2;rw[xL]at hl;have a:bs.take (O bs-O r+4)=bp es++r.take 4:=by
  rw[hl,Nat.add_sub_cancel,h2,List.take_length_add_append]
 refine⟨_,rfl,by omega,by omega,?_⟩;have hn:bX p bs=if 4<=O r/\r.take 4=aW (aD p (bp es))then some (es,r.drop 4)else none:=by unfold bX;rw[h]
 by_cases hf:r.take 4=aW (aD p (bp es))
 ·rw[if_pos ⟨h4,hf⟩]at hn;refine .inl ⟨by rw[a,hf];rfl,?_⟩;unfold lj;rw[hn];dsimp only;rw[P2,show O bs-(O r-4)=O bs-O r+4 from by omega]
 ·rw[if_neg (λh=>hf h.2)]at hn;refine .inr ⟨λe=>hf ?_,hn⟩;rw[a]at e;unfold dI at e;exact(List.append_cancel_left e).symm
theorem Gt(es:List Ent):∀(k:Nat) (a:k<O es),(bd es)[3*k]?=I es[k].t/\(bd es)[3*k+1]?=I es[k].k/\(bd es)[3*k+2]?=I es[k].v:=by
 induction es with
 |nil=>intro k a;simp at a
 |cons e es ih=>
  intro k a;rw[show bd (e::es)=e.t::e.k::e.v::bd es from rfl];cases k with
  |zero=>exact⟨rfl,rfl,rfl⟩
  |succ k=>
   obtain⟨b,h1,h2⟩:=ih k (by simpa using a);rw[show 3*(k+1)=3*k+1+1+1 from by omega,show 3*k+1+1+1+1=(3*k+1)+1+1+1 from rfl,show 3*k+1+1+1+2=(3*k+2)+1+1+1 from rfl];simp only[List.getElem?_cons_succ,List.getElem_cons_succ];exact⟨b,h1,h2⟩
theorem I3(za zb:Nat)(p:Nat×Nat)(v:Value)(bs:List UInt8)(w:World)(hz:PtV (.complex .f64 za zb) p)(H6:Bs w v bs)(hl:O bs<=2000000):Calls F 219 #[.complex .f64 za zb,v] w (RBlkP w (lj p bs)):=by
 obtain⟨A,c,rfl,h1,h2⟩:=xO H6;have Jz:=hz.pt;clear hz;by_cases h0:O bs=0
 ·have hb:bs=[]:=P1 h0;subst hb;have hN:=L (od (p:=p) (bs:=[]) rfl);go_enter func219,ntmps219
  go_wp2_with fail
  go_ret3;exact RBlkP.none hN (xR _)
 obtain⟨_,b,H3,rfl,hc⟩:=Bs.at_ H6 (by omega);have Hr:w.cell? ⟨b,H3,G⟩=I (C H (bs[0].toNat:Int)):=hc 0 (by omega);obtain⟨x,l,rfl⟩:∃x l,bs=x::l:=by cases bs with | nil=>exact absurd rfl h0 | cons x l=>exact⟨x,l,rfl⟩
 simp only[P5]at Hr;have Kk:b<w.heap.size:=Pc w _ Hr;have Hu:=L H6;have e0:¬((O l:Int)+1<1):=by omega
 clear hc H6 h0;simp only[xC]at *;have hx:=x.toNat_lt;by_cases o:x.toNat=0\/4<x.toNat
 ·have hN:=L (od (p:=p) (bs:=x::l) (by rw[dO,if_pos o]));by_cases J2:x.toNat=0
  ·rw[J2]at Hr;go_enter func219,ntmps219
   go_wp2_with fail
   go_ret3;exact RBlkP.none hN (xR _)
  have JF:(4:Int)<(x.toNat:Int):=by omega
  have JX:¬((x.toNat:Int)<1):=by omega
  go_enter func219,ntmps219
  go_wp2_with fail
  go_ret3;exact RBlkP.none hN (xR _)
 have J2:¬((x.toNat:Int)<1):=by omega
 have JF:¬((4:Int)<(x.toNat:Int)):=by omega
 have HT:Hid (∀(W:World) (u:Value),Bs W u l->Calls F 91 #[u,C E (3*(x.toNat:Int))] W (ir W (ao (3*x.toNat) [] l))):=by
  intro W u hu;have:=mA u l (3*x.toNat) W hu (by omega);rwa[show((3*x.toNat:Nat):Int)=3*(x.toNat:Int)from by omega]at this
 have V:Hid (dO (x::l)=if(ao (3*x.toNat) [] l).1=0/\bQ (dx (ao (3*x.toNat) [] l).2.1)=true then some (dx (ao (3*x.toNat) [] l).2.1,(ao (3*x.toNat) [] l).2.2)else none):=by
  show _=_;rw[dO,if_neg o]
 have Kz:=L (mQ (3*x.toNat) [] l);generalize ao (3*x.toNat) [] l=tk at *;obtain⟨er,li,r⟩:=tk;dsimp only at *;have HG:∀W:World,Ext w W->Bs W (D (I ⟨b,H3+1,G⟩) l.length (c-1)) l:=by
  intro W d;have h:=Bs.cut (Hu.ext d) 1 (by simp) rfl;simpa using h
 have Hl:=L HG;have Jo:∀W:World,Bs W (D (I ⟨b,H3,G⟩) 0 0) []:=λW=>SlR.empty W 1 (by simp);clear HG o;have Ku:∃vs:Value,(∀W,Ext w W->Bs W vs l)/\vs=D (if c=1 then some ⟨b,H3,G⟩else some ⟨b,H3+1,G⟩) l.length (c-1):=by
  by_cases hc1:c=1
  ·obtain rfl:l=[]:=P1 (by omega);exact⟨_,λW _=>SlR.empty W 1 (by omega),rfl⟩
  exact⟨_,λW d=>Hl.out W d,by rw[if_neg hc1]⟩
 obtain⟨vs,Hh,H2⟩:=Ku;have HZ:=L Hh;have Jm:(1:Int)<=(O l:Int)+1:=by omega
 have Kj:(1:Int)<=(c:Int):=by omega
 have JC:Pa.wrap (x.toNat:Int)=(x.toNat:Int):=P9 _ (by omega);have JD:Pa.wrap (3*(x.toNat:Int))=3*(x.toNat:Int):=P9 _ (by omega);have HV:=L H2;clear Hh Jo H2;go_enter func219,ntmps219
 go_wp2_with fail
 go_region_held3 (λw'=>w'.cell? ⟨b,H3,G⟩=I (C H (x.toNat:Int))) (first|go_keep | assumption)
  (first|(go_at_call 91;(try rw[JC,JD]);rw[<-HV.out];refine(HT _ _ (HZ _ (xD (xR _)))).mono ?_;rintro e g⟨vl,vr,rfl,H9,KX,H5⟩;have R:Ext w g:=xT (xD (xR _)) H5;have g0:=P7 R Hr;dsimp only at H9 KX;obtain⟨Al,cl,rfl,_,_⟩:=xO (xW H9);obtain⟨Ar,cr,rfl,_,_⟩:=xO (xW KX)))
 by_cases m:er=0
 case neg=>
  have e6:(er != 0)=true:=by simpa using m
  have J7:=L m;clear m;go_wp2_with fail
  go_ret3;exact RBlkP.none (od (by rw[V.out,if_neg (λh=>J7.out h.1)])) R
 subst m;by_cases hr4:(O r:Int)<4
 ·go_wp2_with fail
  go_ret3;refine RBlkP.none ?_ R;unfold bX;rw[V.out];split
  ·rfl
  rename_i y hy;split at hy
  ·cases hy;rw[if_neg (λh=>by have:=h.1;dsimp only at this;omega)]
  cases hy
 obtain⟨l',KR,h4,Ks,Kr⟩:=Kz li r rfl;rw[xI]at KR;subst KR;obtain⟨h7,h8⟩:=qG x.toNat li h4;obtain⟨es,KK⟩:∃es,dx li=es:=⟨_,rfl⟩;rw[KK]at V h7 h8;have Ht:=congrArg P4 Kr;rw[xL]at Ht;have JM:=L Kr;subst h7;have JK:=lr es;have HI:O es<=4:=by omega
 have Ko:0<O es:=by omega
 have KW:(x.toNat:Int)=(O es:Int):=by omega
 have HN:=L KW;have J3:x.toNat=O es:=by omega
 have HX:=L J3;have Kd:=L Ht;clear Kz h4 KK HT Ks Kr h8 KW J3 Ht;obtain⟨i0,hi,HU,HW,HY⟩:=info_parts ic;have Jk:Is g (D Al (bd es).length cl) (bd es):=xW H9;obtain⟨_,z,B,rfl,K5⟩:=SlR.at_ Jk (by omega);have J4:Hid (∀k,(hk:k<O es)->g.cell? ⟨z,B+3*k,G⟩=I (C E es[k].t)/\g.cell? ⟨z,B+(3*k+1),G⟩=I (C E es[k].k)/\g.cell? ⟨z,B+(3*k+2),G⟩=I (C E es[k].v)):=by
  intro k hk;obtain⟨e0,e1,e2⟩:=Gt es k hk;exact⟨K5 _ _ (by rw[P3,e0];rfl),K5 _ _ (by rw[P3,e1];rfl),K5 _ _ (by rw[P3,e2];rfl)⟩
 clear K5;go_wp2_with fail
 go_loopw [10,11] (λvo i wr=>∃k:Nat,Hid (k<=O es)/\i=C E k/\wr.ownsRow g.heap.size 54 3 vo k (ax (es.take k))/\Ext g wr) (λ_ i _=>x.toNat-(intOf i).toNat)
 case atStart=>exact⟨0,Nat.zero_le _,rfl,Pb _ _ _ _,xR _⟩
 case round=>
  obtain⟨k,Hk,rfl,H1,d⟩:=hrel;have g1:=P7 d g0;by_cases hlt:(k:Int)<(x.toNat:Int)
  ·have KP:k<O es:=by have:=HN.out;omega
   obtain⟨q0,q1,q2⟩:=J4 k KP;have Kw:=P7 d q0;have Kx:=P7 d q1;have Ky:=P7 d q2;have J1:ax (es.take (k+1))=ax (es.take k)++[C E es[k].t,C E es[k].k,C E es[k].v]:=by
    rw[List.take_succ_eq_append_getElem KP];show(es.take k++[es[k]]).flatMap Ent.cells=_;rw[List.flatMap_append];rfl
   have Je:=L J1;clear J1;generalize es[k].t=et at *;generalize es[k].k=ek at *;generalize es[k].v=ev at *;have JR:k<4:=by omega
   obtain⟨q,KL⟩:∃q,3*k=q:=⟨_,rfl⟩;obtain⟨Y,KM⟩:∃Y,3*k+1=Y:=⟨_,rfl⟩;obtain⟨Z,KN⟩:∃Z,3*k+2=Z:=⟨_,rfl⟩;rw[KL]at Kw q0;rw[KM]at Kx q1;rw[KN]at Ky q2;have y0:Pa.wrap (3*(k:Int))=(q:Int):=by rw[P9 _ (by omega)];omega
   have y1:Pa.wrap ((q:Int)+1)=(Y:Int):=by rw[P9 _ (by omega)];omega
   have y2:Pa.wrap ((q:Int)+2)=(Z:Int):=by rw[P9 _ (by omega)];omega
   have y3:(q:Int)<3*(O es:Int):=by omega
   have y4:(Y:Int)<3*(O es:Int):=by omega
   have y5:(Z:Int)<3*(O es:Int):=by omega
   clear KL KM KN;go_wp2_with fail
   refine wp_region_held_drew (S:=λw'=>w'.cell? ⟨z,B+q,G⟩=I (C E et)/\w'.cell? ⟨z,B+Y,G⟩=I (C E ek)/\w'.cell? ⟨z,B+Z,G⟩=I (C E ev)) (by kernel_rfl) ⟨Kw,Kx,Ky⟩ (λ_=>?_);refine ab 0 ?_;refine ab 1 ?_;refine ab 2 ?_;refine ab 3 ?_;refine ab 4 ?_;refine ab 5 ?_;refine ab 6 ?_;refine ab 7 ?_;refine ab 8 ?_;refine ab 9 ?_;refine ab 10 ?_;refine ab 11 ?_;refine ab 12 ?_;refine ab 13 ?_;refine ab 14 ?_;refine ab 15 ?_;refine ab 16 ?_;refine ab 17 ?_;refine ab 18 ?_;refine ah 19 (λK hK=>?_);go_simp;have Q:Ext wr (wr.drew.alloc (J #[C E et,C E ek,C E ev] 54)):=xA (xD (xR _)) _;refine af hK _ _ ⟨P7 Q Kw,P7 Q Kx,P7 Q Ky⟩ (λ_=>?_);refine ah 20 (λK hK=>?_);have KY:=ai H1 Q;refine wp_append_lies _ (.tmp 58) (.tmp 77) 42 (by rfl) g.heap.size 54 i0 _ 3 24 underlying42 hi HU HW HY rfl (by decide) _ k (ax (es.take k)) (by rfl) KY ⟨wr.heap.size,0,G⟩ 1 1 [C E et,C E ek,C E ev] (by rfl) rfl (Pd (heap_alloc_new _ _)) (by simp[Value.oneCell']) (by omega) (by unfold maxLen;omega) (by omega) (by have:=d.size;simp;omega) _ rfl ?_;intro g' Jf w3 He Hd _ _;have K1:Ext g w3:=P8 (xT d Q) KY Hd;refine af hK _ _ ⟨P7 K1 q0,P7 K1 q1,P7 K1 q2⟩ (λ_=>?_);refine ab 21 ?_;refine aq ?_;go_wp2_with fail
   go_roundw
   case rel=>
    refine⟨k+1,by show _<=_;omega,by go_num,?_,K1⟩;rw[Je.out];exact He
   case measure=>simp[intOf];omega
  ·have Jr:k=O es:=by have h1:=Hk.out;have h2:=HN.out;omega
   subst Jr;rw[List.take_of_length_le (xN _)]at H1;have U:Es wr u10 es:=xW H1;have Kh:Ext w wr:=xT R d;obtain⟨Ao,co,rfl,_,_⟩:=xO U;go_wp2_with fail
   have Kt:O r<=O l:=by have:=Kd.out;omega
   cases a:fh es with
   |false=>
    have Jx:Hid (bX p (x::l)=none):=by
     show _=_;refine od ?_;rw[V.out,if_neg];rintro⟨_,h⟩;rw[(lw es).2 ⟨⟨Ko,HI⟩,h⟩]at a;cases a
    refine(Eg _ _ es wr U a).mono ?_;rintro e s⟨rfl,N⟩;clear a;go_wp2_with fail
    refine wp_region_held_drew (S:=λ_=>True) (by kernel_rfl) trivial (λ_=>?_);refine ab 0 ?_;refine ab 1 ?_;refine ab 2 ?_;refine ag 3 ?_;refine ag 4 ?_;refine ag 5 ?_;refine ag 6 ?_;refine ag 7 ?_;refine ag 8 ?_;refine ag 9 ?_;refine ab 10 ?_;refine aq ?_;go_wp2_with fail
    go_ret3;exact RBlkP.none Jx (xD (xT Kh N))
   |true=>
    have HR:dO (x::l)=I (es,r):=by rw[V.out,if_pos (by simp[((lw es).1 a).2])]
    obtain⟨n,HJ,_,KV,KJ⟩:=IZ (p:=p) HR (by omega);rw[xC]at HJ KV;have Jv:(O l:Int)+1-(O r:Int)+4=(n:Int):=by omega
    refine(Ew za zb _ es wr U a).mono ?_;rw[Jz];rintro e s⟨v4,vz,rfl,HO,Hj,N⟩;clear a HR HJ;obtain⟨j,Ki⟩:∃j,dI p es=j:=⟨_,rfl⟩;rw[Ki]at Hj KJ;have K2:Bs s v4 j:=xW Hj;obtain⟨A4,c4,rfl,_,_⟩:=xO K2;obtain⟨z3,z4,rfl,JG,JH⟩:=HO;have Kl:Bs s (D (I ⟨b,H3,G⟩) n c) ((x::l).take n):=Bs.take (Hu.ext (xT Kh N)) n (by simpa using KV);have KI:=eh (P:=F) s.drew 33 9 5 underlying33 underlying5 underlying9 (SlR.ext K2 (xD (xR _)));have K4:=eh (P:=F) s.drew 33 9 5 underlying33 underlying5 underlying9 (SlR.ext Kl (xD (xR _)));have JW:(n:Int)<=(c:Int):=by omega
    have HA:Ext w s:=xT Kh N;have Jy:s.ownsRow g.heap.size 54 3 (D Ao es.length co) es.length (ax es):=ai H1 N;rcases KJ with⟨X,f⟩|⟨X,f⟩
    ·have Kc:=L f;rw[<-X]at K4;clear f X Ki K2 Kl U H1;go_wp2_with fail
     refine wp_region_held_drew (S:=λW=>(convert 33 9 (D A4 j.length c4)).run F W=.ok (M ⟨j.toArray⟩) W/\(convert 33 9 (D (I ⟨b,H3,G⟩) n c)).run F W=.ok (M ⟨j.toArray⟩) W) (by kernel_rfl) ⟨KI,K4⟩ (λ_=>?_);refine ab 0 ?_;refine ab 1 ?_;refine ab 2 ?_;refine ab 3 ?_;refine ab 4 ?_;refine ab 5 ?_;refine ab 6 ?_;refine ab 7 ?_;refine ab 8 ?_;refine ab 9 ?_;refine ab 10 ?_;refine aq ?_;go_wp2_with fail
     go_ret3;rw[Kc.out];exact⟨_,_,rfl,ay (ai Jy (xD (xR _))) R.size,⟨_,_,rfl,JG,JH⟩,xD HA⟩
    ·have Kc:=L f;obtain⟨TB,KH⟩:∃TB,(x::l).take n=TB:=⟨_,rfl⟩;rw[KH]at K4 X;have Ju:(j==TB)=false:=by rw[beq_eq_false_iff_ne];exact X
     clear f Ki K2 Kl U H1 KH;go_wp2_with fail
     refine wp_region_held_drew (S:=λW=>(convert 33 9 (D A4 j.length c4)).run F W=.ok (M ⟨j.toArray⟩) W/\(convert 33 9 (D (I ⟨b,H3,G⟩) n c)).run F W=.ok (M ⟨TB.toArray⟩) W) (by kernel_rfl) ⟨KI,K4⟩ (λ_=>?_);refine ab 0 ?_;refine ab 1 ?_;refine ab 2 ?_;refine ab 3 ?_;refine ab 4 ?_;refine ab 5 ?_;refine ab 6 ?_;refine ab 7 ?_;refine ab 8 ?_;refine ab 9 ?_;refine ab 10 ?_;refine aq ?_;go_wp2_with fail
     go_ret3;exact RBlkP.none Kc (xD HA)
theorem mcRefScana0{P:Prop}(h:P:=by
 go_enter Tryz.func169,Tryz.ntmps169
 go_wp2_with (go_at_call 157;rw[<-HV.out];refine(HT _ _ (HZ _ Hi)).mono ?_;rintro e w1⟨v1,rfl,H9,H5⟩;have Hn:=Hm.ext H5;obtain⟨c0,c1,c2,f0,f1,f2⟩:=au Hn)
 exact bodyPost_ret (nQ _ _ _ _ _ _ _ _ rfl rfl rfl (bV Hn _ _ _)) rfl (iT (iH Hw.out) (cZ (xT Hi H5) (xN _) _ _ _))):P:=h
theorem nQ(tmps:Array Value)(W:World)(N:Nat)(a v u c b:Value)(h2:tmps.getD 2 undef=.pointer (I ⟨N,0,G⟩))(h3:tmps.getD 3 undef=c)(h4:tmps.getD 4 undef=b)(hb:Blk W N 90 #[a,v,u]):
  (results Tryz.f169 tmps).run F W=.ok (.tuple #[.agg #[a,v,u],c,b]) W:=by
 obtain⟨b,c,d,_⟩:=au hb;simp only[Array.getD_eq_getD_getElem?]at h2 h3 h4;simp[results,results169,go_sem,h2,h3,h4,b,c,d]
theorem Lw{k:Nat}{q:Nat×Nat}{es:List Ent}{r:List UInt8}(a:k<=O bs)(h:bX q (bs.drop k)=I (es,r)):
  ∃a,O (bs.drop k)-O r=a/\0<a/\k+a<=O bs/\O es<=a/\O es<=4/\bs.drop (k+a)=r /\
   bZ q (bs.drop k)=(es++(bZ (aD q (bp es)) (bs.drop (k+a))).1,(bZ (aD q (bp es)) (bs.drop (k+a))).2):=by
 obtain⟨h1,h2⟩:=(zR _ _ _ _).1 h;have hl:=congrArg P4 h2;have a:=tZ es;have K3:O (dI q es)=O (bp es)+4:=by unfold dI;rw[xL];rfl
 rw[xL,P2]at hl;have hd:bs.drop (k+O (dI q es))=r:=by rw[<-List.drop_drop,h2,P6]
 refine⟨O (dI q es),by rw[P2];omega,by omega,by omega,by omega,((lw es).1 h1).1.2,hd,?_⟩;rw[hd];exact zj h
def iU(W:World)(B:Nat):Nat:=match W.cell? ⟨B,2,G⟩with | some (.int _ k)=>k.toNat | _=>0
theorem Ez(v:Value)(bs:List UInt8)(w:World)(N:Bs w v bs)(hl:bs.length<=2000000):Calls F 169 #[v] w (LookP w (cz bs)):=by
 obtain⟨A,c,rfl,h1,h2⟩:=xO N;obtain⟨i0,hi,HU,HW,HY⟩:=info_parts ic;have Hi:Ext w (w.alloc (J #[C E 0,D none 0 0,C E 0] 90)):=xA (xR _) _;have Hm:Blk (w.alloc (J #[C E 0,D none 0 0,C E 0] 90)) w.heap.size 90 #[C E 0,D none 0 0,C E 0]:=Blk.new w _ _;by_cases h0:bs.length=0
 ·obtain rfl:bs=[]:=P1 h0;obtain⟨c0,c1,c2,f0,f1,f2⟩:=au Hm;go_enter func169,ntmps169
  go_wp2_with fail
  exact bodyPost_ret (nQ _ _ _ _ _ _ _ _ rfl rfl rfl Hm) rfl (iT (iH rfl) Hi)
 obtain⟨_,b,H3,rfl,hc⟩:=Bs.at_ N (by omega);have Hr:w.cell? ⟨b,H3,G⟩=I (C H (bs[0].toNat:Int)):=hc 0 (by omega);obtain⟨x,l,rfl⟩:∃x l,bs=x::l:=by cases bs with | nil=>exact absurd rfl h0 | cons x l=>exact⟨x,l,rfl⟩
 simp only[P5]at Hr;have Kk:b<w.heap.size:=Pc w _ Hr;have Hu:=L N;have e0:¬((l.length:Int)+1<1):=by omega
 clear hc N h0;simp only[xC]at *;by_cases hx:x.toNat=2
 case neg=>
  have e1:((x.toNat:Int) != 2)=true:=by simp;omega
  obtain⟨c0,c1,c2,f0,f1,f2⟩:=au Hm;have hN:Hid (cV (x::l)=none):=by show _=_;rw[cV,if_neg (λh=>hx (by rw[h.1];rfl))]
  clear hx;go_enter func169,ntmps169
  go_wp2_with fail
  exact bodyPost_ret (nQ _ _ _ _ _ _ _ _ rfl rfl rfl Hm) rfl (iT (iH hN.out) Hi)
 have JE:x=2:=UInt8.toNat_inj.1 (by simpa using hx);subst JE;have HT:Hid (∀(W:World) (u:Value),Bs W u l->Calls F 157 #[u] W (iB W (aJ l))):=λW u hu=>tO u l W hu (by omega);have s:Hid (cV (2::l)=if(aJ l).1=0/\(aJ l).2.1≠0 then some (aJ l).2 else none):=by show _=_;rw[cV];simp
 have Kt:=oA l;have K9:Hid (l=[]->(aJ l).1≠0):=by rintro rfl;decide
 rcases HR:aJ l with⟨er,m,r⟩
 rw[HR]at HT s Kt K9;dsimp only at s Kt K9;clear HR hx;have Hl:Hid (∀W:World,Ext w W->Bs W (D (I ⟨b,H3+1,G⟩) l.length (c-1)) l):=by
  intro W j;have h:=Bs.cut (Hu.out.ext j) 1 (by simp) rfl;simpa using h
 have Ku:∃vs:Value,(∀W,Ext w W->Bs W vs l)/\vs=D (if c=1 then some ⟨b,H3,G⟩else some ⟨b,H3+1,G⟩) l.length (c-1):=by
  by_cases hc1:c=1
  ·obtain rfl:l=[]:=P1 (by omega);exact⟨_,λW _=>SlR.empty W 1 (by omega),rfl⟩
  exact⟨_,λW j=>Hl.out W j,by rw[if_neg hc1]⟩
 obtain⟨vs,Hh,o⟩:=Ku;have HZ:=L Hh;have HV:=L o;have Jm:(1:Int)<=(l.length:Int)+1:=by omega
 have Kj:(1:Int)<=(c:Int):=by omega
 clear Hh o;by_cases d:er=0/\m≠0
 case neg=>
  have Hw:Hid (cV (2::l)=none):=by show _=_;rw[s.out,if_neg d]
  by_cases t:er=0
  ·subst t;have hm:m=0:=Decidable.byContradiction (λh=>d ⟨rfl,h⟩);subst hm;clear d s;exact mcRefScana0
  have e6:(er != 0)=true:=by simpa using t
  clear d s t;exact mcRefScana0
 obtain⟨rfl,hm⟩:=d;have JV:¬((m:Int)<1):=by omega
 have Hw:Hid (cV (2::l)=I (m,r)):=by show _=_;rw[s.out,if_pos ⟨rfl,hm⟩]
 obtain⟨f,KO⟩:∃k,l.length+1-r.length=k:=⟨_,rfl⟩;have Jp:f<=l.length+1:=by omega
 have JB:(l.length:Int)+1-(r.length:Int)=(f:Int):=by omega
 have Km:(2::l).drop f=r:=by
  have h:=((zM _ _ _).1 Hw.out).2;have Js:=congrArg P4 h;rw[xC,xL]at Js;rw[h,show f=(cK (m:Int)).2.length from by omega,P6]
 have J8:Hid ((2::l).take f=(cK (m:Int)).2):=by
  have:=(zN Hw.out).2;simp only[xC]at this;rw[KO]at this;exact this
 have Kq:=zP Hw.out;rw[<-Km]at Kq;have J9:=L Kq;have JL:=L Km;have JS:(f:Int)<=(c:Int):=by omega
 clear hm s K9 KO Kq Km;go_enter func169,ntmps169
 go_wp2_with (first
  |(go_at_call 157;rw[<-HV.out];refine(HT.out _ _ (HZ.out _ Hi)).mono ?_;rintro e w1⟨v1,rfl,H9,H5⟩;have Hn:=Hm.ext H5;obtain⟨c0,c1,c2,f0,f1,f2⟩:=au Hn;obtain⟨Ar,cr,rfl,_,_⟩:=xO (xW H9))
  | (go_at_call 218
     have X:Ext w (w1.alloc (J #[C E m,D none 0 0,C E f] 90)):=xA (xT Hi H5) _;have K3:=Bs.take (Hu.out.ext X) f (by simp;omega);rw[J8.out]at K3;have hp:=lU K3;rw[xS]at hp;refine(Dh _ _ _ hp).mono ?_;rintro e w3⟨vz,rfl,Y,rfl⟩;rw[show[(cK (m:Int)).2].flatten=(cK (m:Int)).2 from by simp]at Y;have J6:=L Y;obtain⟨z1,z2,rfl,_,_⟩:=Y))
 have KD:Blk ((w1.alloc (J #[C E m,D none 0 0,C E f] 90)).alloc (J #[D (I ⟨b,H3,G⟩) f c] 33)) w1.heap.size 90 #[C E m,D none 0 0,C E f]:=(Blk.new w1 _ _).alloc _;have KF:Blk ((w1.alloc (J #[C E m,D none 0 0,C E f] 90)).alloc (J #[D (I ⟨b,H3,G⟩) f c] 33)) w.heap.size 90 #[C E 0,D none 0 0,C E 0]:=(Hn.alloc _).alloc _;have KE:Ext w ((w1.alloc (J #[C E m,D none 0 0,C E f] 90)).alloc (J #[D (I ⟨b,H3,G⟩) f c] 33)):=xA X _;have JN:w.heap.size<w1.heap.size:=Hn.lt;clear c0 c1 c2 f0 f1 f2 Hn X H9 hp K3 Hm;go_loopw [9] (λzv wr=>∃(a:List Ent) (k:Nat) (q:Nat×Nat) (vl:Value),Hid (PtV zv q)/\Hid (k<=l.length+1/\a.length<=k) /\
   Hid (cz (2::l)=⟨0,m,a++(bZ q ((2::l).drop k)).1,(2::l).length-(bZ q ((2::l).drop k)).2.2.length,(bZ q ((2::l).drop k)).2.1⟩) /\
   Hid (Blk wr w1.heap.size 90 #[C E m,vl,C E k])/\Hid (Blk wr w.heap.size 90 #[C E 0,D none 0 0,C E 0])/\wr.ownsRow w.heap.size 54 3 vl a.length (ax a)/\Ext w wr) (λ_ wr=>l.length+1-iU wr w1.heap.size)
 case atStart=>exact⟨[],f,aD (0,0) (cK (m:Int)).2,D none 0 0,J6.out,⟨Jp,Nat.zero_le _⟩,J9.out,KD,KF,Pb _ _ _ _,KE⟩
 case round=>
  clear KD KF KE;obtain⟨a,k,q,vl,Hz,Hk,Hq,Kb,KA,H1,j⟩:=hrel;have Kv:=Hz.out;obtain⟨z3,z4,rfl,_,_⟩:=Kv;obtain⟨Av,cv,rfl,_,_⟩:=xO (xW H1);obtain⟨c0,c1,c2,f0,f1,f2⟩:=au Kb.out;have hk:=Hk.out.1;have JU:=Hk.out.2;have JT:(k:Int)<=(l.length:Int)+1:=by omega
  have Jq:(k:Int)<=(c:Int):=by omega
  have o:∃S:Value,Bs wr S ((2::l).drop k)/\S=D (if c=k then some ⟨b,H3,G⟩else some ⟨b,H3+k,G⟩) (l.length+1-k) (c-k):=by
   by_cases M:c=k
   ·exact⟨_,Bs.cut0 (A:=I ⟨b,H3,G⟩) (n:=l.length+1) (k:=k) (c:=c-k) (bs:=2::l) (by simp;omega) (by simp) (by omega),by rw[if_pos M]⟩
   exact⟨_,Bs.cut (Hu.out.ext j) k (by simp;omega) (by simp),by rw[if_neg M]⟩
  obtain⟨S,o,HS⟩:=o;have KC:=L HS;have g:=I3 z3 z4 q S _ wr Hz.out o (by rw[P2,xC];omega);clear HS o;cases hn:bX q ((2::l).drop k)with
  |none=>
   have HM:cz (2::l)=⟨0,m,a,k,q⟩:=by
    rw[Hq.out,zi hn];simp only[List.append_nil,P2,xC];rw[show l.length+1-(l.length+1-k)=k from by omega]
   have Ke:=L HM;unfold lj at g;rw[hn]at g;have Ka:=L g;clear HM g hn;go_wp2_with (go_at_call 219;rw[<-KC.out];refine Ka.out.mono ?_;rintro e w4⟨JI,JJ,rfl,P,R,i⟩;obtain⟨z5,z6,rfl,_,_⟩:=R;have K:=Kb.out.ext i;have z:=KA.out.ext i;obtain⟨d0,d1,d2,Jg,Jh,Ji⟩:=au K;obtain⟨r0,r1,r2,s0,s1,s2⟩:=au z)
   refine bodyPost_ret (nQ _ _ _ _ _ _ _ _ rfl rfl rfl (bV z _ _ _)) rfl ?_;rw[Ke.out];exact⟨_,_,rfl,fK z (Kp:=by decide) (ai H1 i) _ _ _,Hz.out,cZ (xT j i) (xN _) _ _ _⟩
  |some y=>
   obtain⟨es,r'⟩:=y;obtain⟨B,HJ,KU,KQ,JQ,HI,Kn,KZ⟩:=Lw (bs:=2::l) (k:=k) (by simp;omega) hn;rw[xC]at KQ;unfold lj at g;rw[hn]at g;dsimp only at g;rw[HJ]at g;have Ka:=L g;have Jc:=L KZ;have Ja:=L KU;have Ju:((B:Int)==0)=false:=by rw[beq_eq_false_iff_ne];omega
   have Jv:(k:Int)+(B:Int)<=2000000:=by omega
   clear g hn KZ HJ Kn KU;go_wp2_with (first
    | (go_at_call 219
       rw[<-KC.out];refine Ka.out.mono ?_;rintro e w4⟨JI,JJ,rfl,P,R,i⟩;dsimp only at P;have J5:=L R;obtain⟨z5,z6,rfl,_,_⟩:=R;obtain⟨A4,c4,rfl,_,_⟩:=xO (xW P);have K:=Kb.out.ext i;have z:=KA.out.ext i;have O:=ai H1 i;obtain⟨d0,d1,d2,Jg,Jh,Ji⟩:=au K)
    | (at_builtin
       refine dT _ rfl (.tmp 65) (.tmp 66) 42 rfl w.heap.size 54 i0 _ 3 24 underlying42 hi HU HW HY rfl (by decide) _ a.length (ax a) rfl O _ es.length (ax es) rfl (xW P) (ie _) (by unfold maxLen;omega) (by omega) (xT j i).size ?_;intro v5 w5 Z V;obtain⟨U,Kf,rfl,_,_⟩:=xO (xW Z);have Kg:=K.kept V (K.not_row (by decide) O);have Jl:=z.kept V (z.not_row (by decide) O);have Q:=Kg.set 1 (D U (a.length+es.length) Kf);obtain⟨m0,m1,m2,n0,n1,n2⟩:=au Kg;obtain⟨p0,p1,p2,q0,q1,q2⟩:=au Q))
   go_roundw
   case rel=>
    have r1:=Z.kept (ar w5 w1.heap.size 1 (D U (a.length+es.length) Kf)) (.inr (Kg.not_row (by decide) Z).symm);have r2:=r1.kept (ar _ w1.heap.size 2 (C E ((k:Int)+B))) (.inr (Q.not_row (by decide) r1).symm);refine⟨a++es,k+B,aD q (bp es),D U (a.length+es.length) Kf,J5.out,⟨KQ,by rw[xL];omega⟩,?_,Q.set 2 (C E ((k:Int)+B)),(Jl.other (by omega) 1 _).other (by omega) 2 _,?_,?_⟩
    ·show _=_;rw[Hq.out,Jc.out];dsimp only;rw[List.append_assoc]
    ·rw[xL,show ax (a++es)=ax a++ax es from by simp[ax]];exact r2
    exact P0 (p:=⟨w1.heap.size,2,G⟩) (P0 (p:=⟨w1.heap.size,1,G⟩) (P8 (xT j i) O V) (by show _<=w1.heap.size;omega) _) (by show _<=w1.heap.size;omega) _
   case measure=>
    have Jt:=(au (Q.set 2 (C E ((k:Int)+B)))).2.2.1;have:=Ja.out;unfold iU;rw[Jt,c2];dsimp only;omega
theorem EA(v:Value)(bs:List UInt8)(w:World)(a:Bs w v bs)(hl:O bs<=2000000):∀W,Ext w W->Calls F 169 #[v] W (LookP W (cz bs)):=λW b=>Ez v bs W (Bs.ext a b) hl
theorem ED(v:Value)(bs:List UInt8)(w:World)(g:Bs w v bs)(hl:O bs<=2000000):Calls F 100 #[v] w (eB w (cz bs)):=by
 have j:=L (EA v bs w g hl);obtain⟨A,c,rfl,_,_⟩:=xO g;generalize cz bs=R at *;obtain⟨l,first,b,a,pt⟩:=R;go_enter func100,ntmps100
 go_wp2_with (go_at_call 169;refine(j _ (xA (xR _) _)).mono ?_;rintro e m⟨g,g,rfl,h,k,i⟩;dsimp only at h;obtain⟨d,f,rfl,_,_⟩:=xO (xW h);obtain⟨z1,z2,rfl,_,_⟩:=k;have g:=((Blk.new w 90 #[C E 0,D none 0 0,C E 0]).ext i).alloc (J #[C E first,D d b.length f,C E a] 90);obtain⟨j,j,j,j,j,j⟩:=au g)
 have k:=bV g (C E first) (D d b.length f) (C E a);have j:=ai h (xA (xR m) (J #[C E first,D d b.length f,C E a] 90));have h:=j.kept (ar _ w.heap.size 0 (C E first)) (.inr (g.not_row (by decide) j).symm);have b1:=g.set 0 (C E first);have g:=h.kept (ar _ w.heap.size 1 (D d b.length f)) (.inr (b1.not_row (by decide) h).symm);have b2:=b1.set 1 (D d b.length f);have m:=g.kept (ar _ w.heap.size 2 (C E a)) (.inr (b2.not_row (by decide) g).symm);obtain⟨g,h,j,_,_,_⟩:=au k;refine bodyPost_ret (v:=.tuple #[.agg #[C E first,D d b.length f,C E a],C E l]) (by simp[results,results100,go_sem,g,h,j]) rfl ⟨_,rfl,ay m (by simp),?_⟩;exact P0 (p:=⟨w.heap.size,2,G⟩) (P0 (p:=⟨w.heap.size,1,G⟩) (P0 (p:=⟨w.heap.size,0,G⟩) (xA (xT (xA (xR _) _) i) _) (xN _) _) (xN _) _) (xN _) _
