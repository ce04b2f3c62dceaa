/- Merged -/
import Derived.Test.YteggfecbjgbndaaGreatDoorZx22
set_option linter.all false
set_option maxHeartbeats 8000000
set_option maxRecDepth 100000
open Go.Proofs.Tryz
open List renaming length->R
open Go.Value renaming int->B,slice->E,agg->N,pointer->O
open Go.IntKind renaming i64->C,u8->M
open Go.Obj renaming cells->F
open Go.Mv renaming aN->G
open Go.Proofs.Tryz renaming prog->H
open Option renaming some->I,none->J
open Go.RowKit.Below renaming heap_setCell->P0
open List renaming take_succ_eq_append_getElem->P1,take_length->P2,append_assoc->P3,map_append->P4,getElem?_append_right->P5,getElem?_append_left->P6,getElem?_eq_getElem->P7
open Go.Mv.Ext renaming grownOwn->P8
open Nat renaming zero_le->P9,le_succ->Pa
namespace Go.Proofs.YteggfecbjgbndaaGreatDoor
open Go.RowKit Go.Mv
variable {fs:List Fil} {xs:List Value} {W:World}
theorem zyU(v:Value)(l:List Sg4)(w:World)(h:Sgs w v l)(hl:R l<=1000000):Calls H 231 #[v] w λe w'=>∃f,e=.returned f/\OwnS w' w.heap.size f l/\Ext w w':=by
 obtain⟨A,c,rfl,h1,h2⟩:=xO h;obtain⟨j,hi,g,i,Hk⟩:=info_parts yI;have d:=λ(W:World)=>Lib.run_eql_slice_nil (P:=H) W;cases A with
 |none=>
  have hb:l=[]:=by
   cases d:l with
   |nil=>rfl
   |cons b l'=>
    have:=(SlR.at_ h (by rw[d];simp)).2;obtain⟨_,_,e,_⟩:=this;cases e
  subst hb;go_enter func231,ntmps231
  go_wp2;go_ret;exact⟨_,rfl,World.ownsRow_nil _ _ _ _,xR _⟩
 |some a=>
  have d:(w.alloc (F #[] 36)).ownsRow w.heap.size 36 4 (E (I ⟨w.heap.size,0,J⟩) 0 0) 0 []:=⟨by simp,.inr ⟨w.heap.size,0,#[],rfl,xN _,heap_alloc_new w _,xN _,by simp[maxLen],by simp,by simp⟩⟩;go_enter func231,ntmps231
  go_wp2_with (at_builtin;go_loud (refine dT _ rfl (.tmp 5) (.tmp 6) 28 rfl w.heap.size 36 j _ 4 32 underlying28 hi g i Hk rfl (by decide) (E (I ⟨w.heap.size,0,J⟩) 0 0) 0 [] rfl d (E (some a) l.length c) l.length (bM l) rfl (h.ext (xA (xR _) _)) (yY _) (by unfold maxLen;omega) (by omega) (by simp) ?_);intro f w' f d)
  go_ret;refine⟨_,rfl,by unfold OwnS;simpa using f,?_⟩;refine Below.grown (xA (xR w) _) d (by simp) (λk d=>?_);have:w.heap.size=k:=by simpa[Value.ownBlock]using d
  omega
theorem yan(tmps:Array Value)(W:World)(b:Nat)(cs:Array Value)(h4:tmps.getD 2 undef=O (I ⟨b,0,J⟩))(hb:Blk W b 30 cs)(hs:cs.size=6):(results Tryz.f198 tmps).run H W=.ok (.agg cs) W:=by
 have hl:=hb.load (P:=H) lP rfl (by rw[hs];kernel_rfl);have HQ:tmps[2]?.getD undef=O (I ⟨b,0,J⟩):=by simpa using h4
 simp[results,results198,HQ,asAddr,hl]
theorem zzM(m:Mf)(v:Value)(w:World)(j:Sgs w v m.segs)(hl:R m.segs<=1000000):Calls H 198 #[N #[B C m.next,B C m.term,B C m.vote,B C m.sq,B C m.sf,v]] w λe w'=>
  ∃r,e=.returned (N #[B C m.next,B C m.term,B C m.vote,B C m.sq,B C m.sf,r])/\OwnS w' w.heap.size r m.segs/\Ext w w':=by
 obtain⟨A,c,rfl,_,_⟩:=j.open_;have g:=(Blk.new w 30 #[B C m.next,B C m.term,B C m.vote,B C m.sq,B C m.sf,E A m.segs.length c]).alloc (F #[B C 0,B C 0,B C 0,B C 0,B C 0,E none 0 0] 30);have f:=Blk.new (w.alloc (F #[B C m.next,B C m.term,B C m.vote,B C m.sq,B C m.sf,E A m.segs.length c] 30)) 30 #[B C 0,B C 0,B C 0,B C 0,B C 0,E none 0 0];rw[xS]at f;have i:Ext w ((w.alloc (F #[B C m.next,B C m.term,B C m.vote,B C m.sq,B C m.sf,E A m.segs.length c] 30)).alloc (F #[B C 0,B C 0,B C 0,B C 0,B C 0,E none 0 0] 30)):=xA (xA (xR _) _) _;have key:=zyU _ m.segs _ (j.ext i) hl;have o:=aj g;have z:=G key;have x:=G g;have y:=G f;have l:=G i;clear key g f i j;go_enter func198,ntmps198
 go_wp2_with fail
 refine z.mono ?_;rintro e V⟨U,rfl,k,a⟩;obtain⟨d,h,rfl,_,_⟩:=xO (xW k);have b:=x.ext a;have h1:=y.ext a;have t:=G (xT l a);have n:=G k;clear a k o;have o:=aj b;have T:=aj h1;have X:=b.frozen 5;obtain⟨L,M,O,P,Q,S,_,_⟩:=cS h1;have H0:=G b;have s:=G h1;clear b h1;go_wp2_with fail
 have D:w.heap.size≠w.heap.size+1:=by omega
 have q:=s.other D.symm 5 (E d m.segs.length h);have I:=cQ q (B C m.next) (B C m.term) (B C m.vote) (B C m.sq) (B C m.sf) (E d m.segs.length h);refine bodyPost_ret (yan _ _ _ _ rfl I rfl) rfl ?_;refine⟨_,rfl,?_,dD (Below.setCell (p:=⟨w.heap.size,5,J⟩) t (xN _) _) (Pa w.heap.size) _ _ _ _ _ _⟩;have K:=n.kept (ar _ w.heap.size 5 (E d m.segs.length h)) (.inr (H0.not_row (by decide) n).symm);exact ay (cU q K _ _ _ _ _ _) (by have:=l.size;exact this)
open Go.RowKit Go.Mv Go.Shelf
attribute [local go_sem] Oper.semAt_some
theorem ze{base:Nat}{e:TypeId}{a:Nat}{v:Value}{n:Nat}(h:W.ownsRow base e a v n xs){D:Nat}{o:Obj}(hD:W.heap[D]?=I o)(hc:o.isCells=false)(c:Obj):(W.putObj D c).ownsRow base e a v n xs:=by
 refine⟨h.1,?_⟩;rcases h.2 with hn | ⟨g,cap,a,d,hb,hg,rest⟩
 ·exact .inl hn
 ·exact .inr ⟨g,cap,a,d,hb,pM (W:=W) (b:=g) (t:=e) (cs:=a) hg hD hc c,rest⟩
/-! Names -/
/-! Files -/
theorem DH(f:Fil)(fs:List Fil)(n:List UInt8):bu (f::fs) (some n)=if f.1=n then some f.2 else bu fs (some n):=by
 unfold bu eb bS;simp only[List.findIdx?_cons];by_cases h:f.1=n
 ·simp[h]
 ·have hb:(f.1==n)=false:=by simpa using h
  rw[if_neg h,hb];simp only[Bool.false_eq_true,if_false];cases hi:fs.findIdx? (λf=>f.1==n)with
  |none=>simp
  |some i=>
   simp only[Option.map_some];rw[if_neg (by omega),if_neg (by omega)];have a:((i+1:Nat):Int).toNat=i+1:=by omega
   have b:((i:Nat):Int).toNat=i:=by omega
   rw[a,b,List.getElem?_cons_succ]
/-! Manifests -/
/-! Segments -/
/-! A step -/
/-! What a shadow says -/
theorem B0(W:World):Fs W (E none 0 0) []:=⟨[],SlR.nil W 2,λi hi=>absurd hi (by simp)⟩
theorem NJ:(Tryz.prog.info? 68).map (λi=>(i.zero,i.size,i.bytes))=I (some (N #[.string ⟨#[]⟩,E none 0 0]),2,40):=by kernel_rfl
def FRow(W:World)(xs:List Value)(fs:List Fil):Prop:=R xs=R fs*2/\∀(i:Nat) (hi:i<R fs),xs[i*2]?=I (sv fs[i].1)/\∃u,xs[i*2+1]?=I u/\Bs W u fs[i].2
theorem FRow.ext{W':World}(h:FRow W xs fs)(a:Ext W W'):FRow W' xs fs:=⟨h.1,λi hi=>by
 obtain⟨h3,u,h4,h5⟩:=h.2 i hi;exact⟨h3,u,h4,h5.ext a⟩⟩
theorem FRow.one(h:FRow W xs fs):∀u∈xs,u.oneCell'=true:=by
 intro u b;obtain⟨j,a,rfl⟩:=List.mem_iff_getElem.1 b;have hl:=h.1;obtain⟨h3,v,h4,h5⟩:=h.2 (j / 2) (by omega);rcases Nat.mod_two_eq_zero_or_one j with hm | hm
 ·have e:j / 2*2=j:=by omega
  rw[e,P7 a]at h3;injection h3 with h3
  rw[h3];rfl
 ·have e:j / 2*2+1=j:=by omega
  rw[e,P7 a]at h4;injection h4 with h4
  rw[h4];obtain⟨A,c,rfl,_,_⟩:=xO h5;rfl
theorem FRow.append{b:List Value}{a:List Fil}(h1:FRow W xs fs)(h2:FRow W b a):FRow W (xs++b) (fs++a):=by
 refine⟨by rw[xL,xL,h1.1,h2.1];omega,λi hi=>?_⟩;have hl:=h1.1;rw[xL]at hi;by_cases h:i<R fs
 ·rw[P6 (by omega),P6 (by omega)];simp only[List.getElem_append_left h];exact h1.2 i h
 ·have a:i*2-R xs=(i-R fs)*2:=by omega
  have b:i*2+1-R xs=(i-R fs)*2+1:=by omega
  rw[P5 (by omega),P5 (by omega),a,b];simp only[List.getElem_append_right (Nat.le_of_not_lt h)];exact h2.2 (i-R fs) (by omega)
theorem FRow.one'{n1 b:List UInt8}{a:Value}(h1:Bs W a b):FRow W [sv n1,a] [(n1,b)]:=by
 refine⟨rfl,λi hi=>?_⟩;match i,hi with
 |0,_=>exact⟨rfl,a,rfl,h1⟩
theorem na(w:World)(cs:List Value)(m:Nat)(hm:cs.length=m*2){base:Nat}(hb:base<=w.heap.size)(hl:m<=maxLen:=by simp[maxLen]):(w.alloc (F cs.toArray 68)).ownsRow base 68 2 (E (I ⟨w.heap.size,0,J⟩) m m) m cs:=
 ⟨hm,.inr ⟨w.heap.size,m,cs.toArray,rfl,hb,heap_alloc_new w _,xN _,hl,by simp[hm],by simp[<-hm]⟩⟩
/-! A manifest laid into an old box -/
theorem mJ{b:Nat}{p:Addr}{u:Value}(h:W.cell? p=I u)(a:p.block≠b)(c e d f g i:Value):(aO W b c e d f g i).cell? p=I u:=by
 have j:(aO W b c e d f g i).heap[p.block]?=W.heap[p.block]?:=by
  unfold aO;rw[P0 _ _ _ _ a,P0 _ _ _ _ a,P0 _ _ _ _ a,P0 _ _ _ _ a,P0 _ _ _ _ a,P0 _ _ _ _ a]
 unfold World.cell? at h⊢;rw[j];exact h
theorem nv{b:Nat}{t:TypeId}{cs:Array Value}(h:Blk W b t cs){k:Nat}{u:Value}(hc:W.cell? ⟨b,k,J⟩=I u):cs[k]?=I u:=by
 simpa[World.cell?,show W.heap[b]?=_ from h]using hc
theorem mcKeepa0{P:Prop}(h:P:=by
 rw[H3]at H5;obtain⟨_,bs,of,rfl,H2⟩:=Sgs.at_ HS (by omega);obtain⟨d0,d1,_,_⟩:=H2 k hlt;have c0:=H4.cell d0;have c1:=H4.cell d1;have D0:=G d0;have D1:=G d1;go_wp2_with fail
 refine wp_region_held_drew (S:=λW=>W.cell? ⟨w.heap.size,5,J⟩=I (E (I ⟨bs,of,J⟩) sg.length c)/\W.cell? ⟨bs,of+k*4,J⟩=I (B C sg[k].seq)/\W.cell? ⟨bs,of+k*4+1,J⟩=I (B C sg[k].fmt)) (by kernel_rfl) ⟨m5,c0,c1⟩ (λ_=>?_);refine ab 0 ?_;refine ab 1 ?_;refine ab 2 ?_;refine ab 3 ?_;refine ab 4 ?_;refine ab 5 ?_;refine ab 6 ?_;refine ab 7 ?_;refine ab 8 ?_;refine ab 9 ?_;refine ab 10 ?_;refine ab 11 ?_;refine ab 12 ?_;refine ab 13 ?_;refine ah 14 (λK hK=>?_);go_simp;have X1:Ext wr (wr.alloc (F #[B M 3,B C sg[k].seq,B C sg[k].fmt] 32)).drew:=xD (xA (xR _) _);have HD:SlR (wr.alloc (F #[B M 3,B C sg[k].seq,B C sg[k].fmt] 32)).drew 3 (E (I ⟨wr.heap.size,0,J⟩) 1 1) 1 (bH [bc sg[k]]):=SlR.ext (xW (lF wr (bc sg[k]))) (xD (xR _));have X2:=xT H4 X1;have Hn:=ai H5 X1;have Hr:=Hl.ext X1;refine af hK _ _ ⟨X1.cell m5,X1.cell c0,X1.cell c1⟩ (λ_=>?_);obtain⟨i0,hi,Hi,Hj,Hk⟩:=info_parts yX;refine ah 15 (λK hK=>?_);refine fJ _ (.tmp 28) (.tmp 42) 34 (by rfl) w.heap.size 32 i0 _ 3 24 Tryz.underlying34 hi Hi Hj Hk rfl _ _ _ Hn _ 1 (bH [bc sg[k]]) HD (Ai _) (HQ:=by rw[H3];unfold maxLen;omega) (H0:=by rw[H3];omega) X2.size ?_;intro v7 w7 Hu Ht;have E7:Ext w w7:=P8 X2 Hn Ht;have Hs:=Hr.kept Ht (Hr.not_row (by decide) Hn);refine af hK _ _ ⟨Hs.cell 5 rfl,E7.cell D0,E7.cell D1⟩ (λ_=>?_);obtain⟨A7,c7,rfl,_,_⟩:=xO (xW Hu);refine ab 16 ?_;refine aq ?_;have HH:=G E7;have HF:=G Hs;have HJ:=G Hu;go_wp2_with fail
 go_roundw
 case rel=>
  refine⟨k+1,by omega,by go_num,?_,HF,HH⟩;have:=HJ.out;rw[H3]at this;unfold Hid dH;rw[P1 hlt,P4,List.map_cons,List.map_nil,<-P3,xL,H3,show ∀a b:List (Int×Int×Int),bH (a++b)=bH a++bH b from λa b=>by simp[bH]];exact this
 case measure=>simp[intOf];omega):P:=h
def idC(x:Int×Int×Int):List Value:=[B M x.1,B C x.2.1,B C x.2.2]
def bH(l:List (Int×Int×Int)):List Value:=l.flatMap idC
def dH(w:World)(base:Nat)(v:Value)(l:List (Int×Int×Int)):Prop:=w.ownsRow base 32 3 v l.length (bH l)
theorem yX:(Tryz.prog.info? 32).map (λi=>(i.zero,i.size,i.bytes))=I (some (N #[B M 0,B C 0,B C 0]),3,24):=by kernel_rfl
theorem Ai(l:List (Int×Int×Int)):∀u∈bH l,u.oneCell'=true:=by
 intro u a;obtain⟨s,_,a⟩:=List.mem_flatMap.1 a;simp only[idC,List.mem_cons,List.not_mem_nil,or_false]at a;rcases a with rfl | rfl | rfl<;>rfl
theorem lF(W:World)(x:Int×Int×Int):dH (W.alloc (F #[B M x.1,B C x.2.1,B C x.2.2] 32)) W.heap.size (E (I ⟨W.heap.size,0,J⟩) 1 1) [x]:=
 ⟨rfl,.inr ⟨W.heap.size,1,#[B M x.1,B C x.2.1,B C x.2.2],rfl,xN _,heap_alloc_new W _,xN _,by simp[maxLen],rfl,rfl⟩⟩
theorem pF{b:Array Oper}{rest:List Oper}{o:Oper}{a:Act}{w:World}{Q:Exit->Act->World->Prop}(e:o.guard=none)(s x:Operand)(j:o.op=.call { callee:=.builtin .append,args:=#[s,x],argTypes:=#[34,34] })(base:Nat)(v:Value)(bs:List (Int×Int×Int))(hs:a.eval s=v)(f:dH w base v bs)(vx:Value)(c:Int×Int×Int)(hx:a.eval x=vx)(k:SlR w 3 vx 1 (bH [c]))(H3:R bs<=2000000)(g:base<=w.heap.size)(h:∀A d w',dH w' base (E A (R bs+1) d) (bs++[c])->w.grownBy w' v.ownBlock->wpList H b Q rest (a.put o.dst (E A (R bs+1) d)) w'):wpList H b Q (o::rest) a w:=by
 obtain⟨l,hi,b,i,Hk⟩:=info_parts yX;refine dT _ e s x 34 j base 32 l _ 3 24 underlying34 hi b i Hk rfl (by decide) v bs.length (bH bs) hs f vx 1 (bH [c]) hx k (Ai _) (by unfold maxLen;omega) (by omega) g ?_;intro b w' h1 h2;obtain⟨A,d,rfl,_,_⟩:=xO (xW h1);refine h A d w' ?_ h2;unfold dH;rw[xL,show bH (bs++[c])=bH bs++bH [c]from by simp[bH]];exact h1
def i6(m:Mf):List (Int×Int×Int):=(1,0,0)::(if m.sq=0 then[]else[(4,m.sq,m.sf)])
def bc(s:Sg4):Int×Int×Int:=(3,s.seq,s.fmt)
def cY(m:Mf):List (Int×Int×Int):=i6 m++m.segs.map bc
theorem MZ(m:Mf)(v:Value)(w:World)(T:Sgs w v m.segs)(hl:R m.segs<=1000000):
  Calls H 63 #[N #[B C m.next,B C m.term,B C m.vote,B C m.sq,B C m.sf,v]] w λe w'=>∃Z,e=.returned Z/\dH w' w.heap.size Z (cY m)/\Ext w w':=by
 obtain⟨A,c,rfl,_,_⟩:=T.open_;have HS:=G T;clear T;obtain⟨g,h,i,f,d,sg⟩:=m;dsimp only at *;have hb:=Blk.new w 30 #[B C g,B C h,B C i,B C f,B C d,E A sg.length c];have O:Ext w ((w.alloc (F #[B C g,B C h,B C i,B C f,B C d,E A sg.length c] 30)).alloc (F #[B M 1,B C 0,B C 0] 32)):=xA (xA (xR _) _) _;have n:Blk ((w.alloc (F #[B C g,B C h,B C i,B C f,B C d,E A sg.length c] 30)).alloc (F #[B M 1,B C 0,B C 0] 32)) w.heap.size 30 #[B C g,B C h,B C i,B C f,B C d,E A sg.length c]:=hb.alloc _;have L:dH ((w.alloc (F #[B C g,B C h,B C i,B C f,B C d,E A sg.length c] 30)).alloc (F #[B M 1,B C 0,B C 0] 32)) w.heap.size (E (I ⟨w.heap.size+1,0,J⟩) 1 1) [(1,0,0)]:=by
  have:=lF (w.alloc (F #[B C g,B C h,B C i,B C f,B C d,E A sg.length c] 30)) (1,0,0);rw[xS]at this;exact ay this (Pa _)
 by_cases U:f=0
 ·subst U;have q:cY ⟨g,h,i,0,d,sg⟩=[(1,0,0)]++sg.map bc:=by unfold cY i6;rw[if_pos rfl]
  rw[q];obtain⟨t,x,y,z,D,m5⟩:=aj n;have p:=G O;have o:=G n;have j:=G L;clear hb O n L q;go_enter func63,ntmps63
  go_wp2_with fail;clear t x y z D m5;go_loopw [3,4] (λV l wr=>∃k:Nat,k<=R sg/\l=B C k/\Hid (dH wr w.heap.size V ([(1,0,0)]++(sg.take k).map bc))/\Hid (Blk wr w.heap.size 30 #[B C g,B C h,B C i,B C 0,B C d,E A sg.length c])/\Hid (Ext w wr)) (λ_ l _=>R sg-(intOf l).toNat)
  case atStart=>exact⟨0,P9 _,rfl,j,o,p⟩
  case round=>
   obtain⟨k,hk,rfl,H5,Hl,H4⟩:=hrel;obtain⟨t,x,y,z,D,m5⟩:=aj Hl;obtain⟨Ao,co,rfl,_,_⟩:=xO (xW H5);by_cases hlt:k<R sg
   ·have H3:R ([(1,0,0)]++(sg.take k).map bc)=k+1:=by simp;omega
    exact mcKeepa0
   obtain rfl:k=R sg:=by omega
   have s:[(1,0,0)]++(sg.take (R sg)).map bc=[(1,0,0)]++sg.map bc:=by rw[P2]
   have P:=G s;clear s;go_wp2_with fail;go_ret;refine⟨_,rfl,?_,H4.out⟩;show dH _ _ _ ([(1,0,0)]++sg.map bc);rw[<-P.out];exact H5.out
 ·have q:cY ⟨g,h,i,f,d,sg⟩=[(1,0,0),(4,f,d)]++sg.map bc:=by unfold cY i6;rw[if_neg U]
  rw[q];have hn:=lF ((w.alloc (F #[B C g,B C h,B C i,B C f,B C d,E A sg.length c] 30)).alloc (F #[B M 1,B C 0,B C 0] 32)) (4,f,d);have X1:Ext ((w.alloc (F #[B C g,B C h,B C i,B C f,B C d,E A sg.length c] 30)).alloc (F #[B M 1,B C 0,B C 0] 32)) (((w.alloc (F #[B C g,B C h,B C i,B C f,B C d,E A sg.length c] 30)).alloc (F #[B M 1,B C 0,B C 0] 32)).alloc (F #[B M 4,B C f,B C d] 32)):=xA (xR _) _;have Y:=n.ext X1;have r:=ai L X1;obtain⟨t,x,y,z,D,m5⟩:=aj n;have p:=G (xT O X1);have o:=G Y;have j:=G r;rw[xS,xS]at hn;have X:=G (xW hn);have Hq:=G U;clear hb O n L q hn X1 Y r;go_enter func63,ntmps63
  go_wp2_with (at_builtin;refine pF rfl (.tmp 11) (.tmp 19) rfl w.heap.size _ [(1,0,0)] rfl j _ (4,f,d) rfl X (by decide) p.size ?_;intro A1 c1 w1 r Q)
  replace o:=G (o.kept Q (o.not_row (by decide) j));replace p:=G (P8 p j Q);replace j:=G r;clear t x y z D m5 r Q X;go_loopw [3,4] (λV l wr=>∃k:Nat,k<=R sg/\l=B C k/\Hid (dH wr w.heap.size V ([(1,0,0),(4,f,d)]++(sg.take k).map bc))/\Hid (Blk wr w.heap.size 30 #[B C g,B C h,B C i,B C f,B C d,E A sg.length c])/\Hid (Ext w wr)) (λ_ l _=>R sg-(intOf l).toNat)
  case atStart=>exact⟨0,P9 _,rfl,j,o,p⟩
  case round=>
   obtain⟨k,hk,rfl,H5,Hl,H4⟩:=hrel;obtain⟨t,x,y,z,D,m5⟩:=aj Hl;obtain⟨Ao,co,rfl,_,_⟩:=xO (xW H5);by_cases hlt:k<R sg
   ·have H3:R ([(1,0,0),(4,f,d)]++(sg.take k).map bc)=k+2:=by simp;omega
    exact mcKeepa0
   ·obtain rfl:k=R sg:=by omega
    have s:[(1,0,0),(4,f,d)]++(sg.take (R sg)).map bc=[(1,0,0),(4,f,d)]++sg.map bc:=by rw[P2]
    have P:=G s;clear s;go_wp2_with fail;go_ret;refine⟨_,rfl,?_,H4.out⟩;show dH _ _ _ ([(1,0,0),(4,f,d)]++sg.map bc);rw[<-P.out];exact H5.out
theorem mcMKeepa0{P:Prop}(h:P:=by
 generalize sg[k]=s at *;have X1:Ext wr (wr.alloc (F #[B C s.seq,B C s.fmt,B C s.first,B C s.count] 36)):=xA (xR _) _;have X2:Ext wr ((wr.alloc (F #[B C s.seq,B C s.fmt,B C s.first,B C s.count] 36)).alloc (F #[B M 3,B C s.seq,B C s.fmt] 32)):=xA X1 _;have hn:=lF (wr.alloc (F #[B C s.seq,B C s.fmt,B C s.first,B C s.count] 36)) (3,s.seq,s.fmt);rw[xS]at hn;have HN:=G (xW hn);have Hw:=G (ai H5 X2);have Hy:=G (xT H4 X2);have HA:=Blk.new wr 36 #[B C s.seq,B C s.fmt,B C s.first,B C s.count];have ec:=aM HA;clear X1 X2 hn HA;go_wp2_with (at_builtin;refine pF rfl (.tmp 29) (.tmp 35) rfl w.heap.size _ L rfl Hw _ (3,s.seq,s.fmt) rfl HN (by rw[Hv.out];omega) Hy.size ?_;intro A1 HV w1 H7 H9)
 have HK:=G (P8 Hy Hw H9);have HI:=G H7;clear H7 H9 c0 c1 c2 c3 ec;go_wp2_with fail
 go_roundw
 case rel=>exact⟨k+1,by omega,by go_num,by rw[Hx.out];exact HI,HK⟩
 case measure=>simp[intOf];omega):P:=h
theorem qK(m:Mf)(v:Value)(w:World)(O:Sgs w v m.segs)(hl:R m.segs<=1000000):
  Calls H 61 #[N #[B C m.next,B C m.term,B C m.vote,B C m.sq,B C m.sf,v]] w λe w'=>∃Y,e=.returned Y/\dH w' w.heap.size Y (cY m)/\Ext w w':=by
 obtain⟨A,c,rfl,_,_⟩:=O.open_;have S:=G O;clear O;obtain⟨d,f,g,b,a,sg⟩:=m;dsimp only at *;have hb:=Blk.new w 30 #[B C d,B C f,B C g,B C b,B C a,E A sg.length c];have X:Ext w ((w.alloc (F #[B C d,B C f,B C g,B C b,B C a,E A sg.length c] 30)).alloc (F #[B M 1,B C 0,B C 0] 32)):=xA (xA (xR _) _) _;have K:Blk ((w.alloc (F #[B C d,B C f,B C g,B C b,B C a,E A sg.length c] 30)).alloc (F #[B M 1,B C 0,B C 0] 32)) w.heap.size 30 #[B C d,B C f,B C g,B C b,B C a,E A sg.length c]:=hb.alloc _;have T:dH ((w.alloc (F #[B C d,B C f,B C g,B C b,B C a,E A sg.length c] 30)).alloc (F #[B M 1,B C 0,B C 0] 32)) w.heap.size (E (I ⟨w.heap.size+1,0,J⟩) 1 1) [(1,0,0)]:=by
  have:=lF (w.alloc (F #[B C d,B C f,B C g,B C b,B C a,E A sg.length c] 30)) (1,0,0);rw[xS]at this;exact ay this (Pa _)
 have V:=aj K;have j:=G X;have p:=G K;have i:=G T;obtain⟨W1,U⟩:∃W1,(w.alloc (F #[B C d,B C f,B C g,B C b,B C a,E A sg.length c] 30)).alloc (F #[B M 1,B C 0,B C 0] 32)=W1:=⟨_,rfl⟩;clear hb X K T;by_cases P:b=0
 ·subst P;have o:cY ⟨d,f,g,0,a,sg⟩=[(1,0,0)]++sg.map bc:=by unfold cY i6;rw[if_pos rfl]
  rw[o];clear o U;go_enter func61,ntmps61
  go_wp2_with fail;clear V;go_loopw [3,25] (λQ l wr=>∃k:Nat,k<=R sg/\l=B C k/\Hid (dH wr w.heap.size Q ([(1,0,0)]++(sg.take k).map bc))/\Hid (Ext w wr)) (λ_ l _=>R sg-(intOf l).toNat)
  case atStart=>exact⟨0,P9 _,rfl,i,j⟩
  case round=>
   obtain⟨k,hk,rfl,H5,H4⟩:=hrel;obtain⟨Z,co,rfl,_,_⟩:=xO (xW H5);by_cases h:k<R sg
   ·have H3:R ([(1,0,0)]++(sg.take k).map bc)=k+1:=by simp;omega
    obtain⟨_,bs,of,rfl,n⟩:=Sgs.at_ S (by omega);obtain⟨r,t,x,y⟩:=n k h;have c0:=H4.cell r;have c1:=H4.cell t;have c2:=H4.cell x;have c3:=H4.cell y;have q:[(1,0,0)]++(sg.take (k+1)).map bc=([(1,0,0)]++(sg.take k).map bc)++[bc sg[k]]:=by rw[P1 h,P4,P3];rfl
    have Hx:=G q;have Hv:=G H3;clear n r t x y q H3;generalize[(1,0,0)]++(sg.take k).map bc=L at *;exact mcMKeepa0
   obtain rfl:k=R sg:=by omega
   have z:[(1,0,0)]++(sg.take (R sg)).map bc=[(1,0,0)]++sg.map bc:=by rw[P2]
   have D:=G z;clear z;go_wp2_with fail;go_ret;refine⟨_,rfl,?_,H4.out⟩;show dH _ _ _ ([(1,0,0)]++sg.map bc);rw[<-D.out];exact H5.out
 ·have o:cY ⟨d,f,g,b,a,sg⟩=[(1,0,0),(4,b,a)]++sg.map bc:=by unfold cY i6;rw[if_neg P]
  rw[o];have hn:=lF ((w.alloc (F #[B C d,B C f,B C g,B C b,B C a,E A sg.length c] 30)).alloc (F #[B M 1,B C 0,B C 0] 32)) (4,b,a);have X1:Ext ((w.alloc (F #[B C d,B C f,B C g,B C b,B C a,E A sg.length c] 30)).alloc (F #[B M 1,B C 0,B C 0] 32)) (((w.alloc (F #[B C d,B C f,B C g,B C b,B C a,E A sg.length c] 30)).alloc (F #[B M 1,B C 0,B C 0] 32)).alloc (F #[B M 4,B C b,B C a] 32)):=xA (xR _) _;replace j:=G (xT j X1);replace p:=G (p.ext X1);replace i:=G (ai i X1);rw[xS,xS]at hn;have HN:=G (xW hn);have Hq:=G P;clear o hn X1 U;go_enter func61,ntmps61
  go_wp2_with (at_builtin;refine pF rfl (.tmp 12) (.tmp 20) rfl w.heap.size _ [(1,0,0)] rfl i _ (4,b,a) rfl HN (by decide) j.size ?_;intro A1 c1 w1 H7 H9;have eb:=aj (p.kept H9 (p.not_row (by decide) i)))
  replace j:=G (P8 j i H9);replace i:=G H7;clear H7 H9 HN p V eb;go_loopw [3,25] (λQ l wr=>∃k:Nat,k<=R sg/\l=B C k/\Hid (dH wr w.heap.size Q ([(1,0,0),(4,b,a)]++(sg.take k).map bc))/\Hid (Ext w wr)) (λ_ l _=>R sg-(intOf l).toNat)
  case atStart=>exact⟨0,P9 _,rfl,i,j⟩
  case round=>
   obtain⟨k,hk,rfl,H5,H4⟩:=hrel;obtain⟨Z,co,rfl,_,_⟩:=xO (xW H5);by_cases h:k<R sg
   ·have H3:R ([(1,0,0),(4,b,a)]++(sg.take k).map bc)=k+2:=by simp;omega
    obtain⟨_,bs,of,rfl,n⟩:=Sgs.at_ S (by omega);obtain⟨r,t,x,y⟩:=n k h;have c0:=H4.cell r;have c1:=H4.cell t;have c2:=H4.cell x;have c3:=H4.cell y;have q:[(1,0,0),(4,b,a)]++(sg.take (k+1)).map bc=([(1,0,0),(4,b,a)]++(sg.take k).map bc)++[bc sg[k]]:=by rw[P1 h,P4,P3];rfl
    have Hx:=G q;have Hv:=G H3;clear n r t x y q H3;generalize[(1,0,0),(4,b,a)]++(sg.take k).map bc=L at *;exact mcMKeepa0
   ·obtain rfl:k=R sg:=by omega
    have z:[(1,0,0),(4,b,a)]++(sg.take (R sg)).map bc=[(1,0,0),(4,b,a)]++sg.map bc:=by rw[P2]
    have D:=G z;clear z;go_wp2_with fail;go_ret;refine⟨_,rfl,?_,H4.out⟩;show dH _ _ _ ([(1,0,0),(4,b,a)]++sg.map bc);rw[<-D.out];exact H5.out
