/- Merged -/
import Derived.Test.YteggfecbjgbndaaGreatDoorZx12
set_option linter.all false
set_option maxHeartbeats 8000000
set_option maxRecDepth 100000
open Go.Proofs.Tryz
open List renaming length->N
open Go.Value renaming int->B,slice->D,bool->L,string->M
open Go.Proofs.Tryz renaming prog->C
open Go.IntKind renaming u8->E,i64->I
open Go.Obj renaming cells->F
open Option renaming some->G,none->J
open Go.Mv renaming aN->H
open Nat renaming xor_assoc->P0,shiftRight_xor_distrib->P1,shiftRight_eq_div_pow->P2,xor_zero->P3,xor_comm->P4,xor_mod_two_pow->P5,xor_lt_two_pow->P6,zero_add->P7
open List renaming length_take->P8,foldl_cons->P9,map_cons->Pa,map_nil->Pb
namespace Go.Mv
open Go.RowKit
theorem fJ{P:Program}(w:World){o:Oper}{a:Act}{K:Act->World->Prop}{Q:Exit->Act->World->Prop}(s x:Operand)(t:TypeId)(ho:o.op=.call { callee:=.builtin .append,args:=#[s,x],argTypes:=#[t,t] })(base:Nat)(e:TypeId)(i:TypeInfo)(z:Value)(size bytes:Nat)(ht:P.underlying t=G (.slice e))(hi:P.info? e=G i)(hz:i.zero=G z)(Hb:i.size=size)(HV:i.bytes=bytes)(K5:z.cells.size=size)(v:Value)(n:Nat)(xs:List Value)(Hp:w.ownsRow base e size v n xs)(vx:Value)(m:Nat)(news:List Value)(hr:SlR w size vx m news)(h1:∀u∈news,u.oneCell'=true)(H8:base<=w.heap.size)(h:∀v' w',w'.ownsRow base e size v' (n+m) (xs++news)->w.grownBy w' v.ownBlock->K (a.put o.dst v') w')(K3:0<size:=by decide)(hs:a.eval s=v:=by rfl)(hx:a.eval x=vx:=by rfl)(HQ:n+m<=maxLen:=by unfold maxLen;omega)(H0:(n+m)*bytes<=140737488355328:=by omega):Oper.wp P o a w K Q:=by
 obtain⟨v',w',H1,h2,h3⟩:=ep (P:=P) w base t o.type e i z size bytes ht hi hz Hb HV K5 K3 v n xs Hp vx m news hr h1 HQ H0 H8;unfold Oper.wp execOp;simp only[ho,resolve,invoke,builtin,Sem.run_bind,Sem.run_pure,Result.andThen_ok,List.map_toArray,Pa,Pb,hs,hx,H1];exact h v' w' h2 h3
theorem C7{P:Program}(w:World){o:Oper}{a:Act}{K:Act->World->Prop}{Q:Exit->Act->World->Prop}(c b e:TypeId)(x:Operand)(g:o.op=.convert c b x)(hs:P.underlying c=G (.slice e))(he:P.underlying e=G (.int .u8))(f:P.underlying b=G .string){v:Value}{bs:List UInt8}(hx:a.eval x=v)(hb:Bs w v bs)(h:K (a.put o.dst (M ⟨bs.toArray⟩)) w):Oper.wp P o a w K Q:=by
 have d:=eh (P:=P) w c b e hs he f hb;unfold Oper.wp execOp;simp only[g,Sem.run_bind,Sem.run_pure,Result.andThen_ok,hx,d];exact h
end Go.Mv
namespace Go.Proofs.YteggfecbjgbndaaGreatDoor
open Go.RowKit Go.Mv
def bU(x:Nat):Nat:=if x % 2=1 then(x / 2) ^^^ 2197175160 else x / 2
theorem Nx(a b:Nat):(a ^^^ b) / 2=(a / 2) ^^^ (b / 2):=by
 have:=P1 (a:=a) (b:=b) (i:=1);simpa[P2]using this
theorem zG(a b:Nat):(a ^^^ b) / 16=(a / 16) ^^^ (b / 16):=by
 have:=P1 (a:=a) (b:=b) (i:=4);simpa[P2]using this
theorem Ny(a b:Nat):(a ^^^ b) % 2=(a % 2) ^^^ (b % 2):=P5 (n:=1)
theorem Om(a b:Nat):(a ^^^ b) % 16=(a % 16) ^^^ (b % 16):=P5 (n:=4)
theorem ou(a b:Nat):bU (a ^^^ b)=bU a ^^^ bU b:=by
 unfold bU;rw[Ny,Nx];have c:a % 2=0\/a % 2=1:=by omega
 have hb:b % 2=0\/b % 2=1:=by omega
 rcases c with c | c<;>rcases hb with hb | hb<;>rw[c,hb]<;>simp
 ·rw[P0]
 ·rw[P0,P0,P4 (b / 2)]
 ·rw[P0,<-P0 2197175160,P4 2197175160 (b / 2),P0,Nat.xor_self,P3]
theorem nU(q:Nat):bU (2*q)=q:=by
 unfold bU;rw[if_neg (by omega)];omega
theorem MV(x:Nat):x=(16*(x / 16)) ^^^ (x % 16):=by
 have h1:((16*(x / 16)) ^^^ (x % 16)) / 16=x / 16:=by
  rw[zG,show x % 16 / 16=0 from by omega,P3];omega
 have h2:((16*(x / 16)) ^^^ (x % 16)) % 16=x % 16:=by
  rw[Om,show 16*(x / 16) % 16=0 from by omega,Nat.zero_xor];omega
 omega
theorem Qf(x:Nat):bU (bU (bU (bU x)))=crcTab.getD (x % 16) 0 ^^^ (x / 16):=by
 have key:∀r,r<16->bU (bU (bU (bU r)))=crcTab.getD r 0:=by decide
 conv=>lhs;rw[MV x]
 rw[ou,ou,ou,ou,key _ (Nat.mod_lt _ (by decide)),show 16*(x / 16)=2*(2*(2*(2*(x / 16))))from by omega,nU,nU,nU,nU,P4]
theorem Fr(s h:Nat)(a:h<16):bU (bU (bU (bU (s ^^^ h))))=cH rT s h:=by
 rw[Qf,zG,show h / 16=0 from by omega,P3];rfl
theorem NG{x:Nat}(h:x<4294967296):bU x<4294967296:=by
 unfold bU;split
 ·have:(x / 2) ^^^ 2197175160<2^32:=P6 (by omega) (by omega);simpa using this
 ·omega
def nB:Nat->Nat->Nat
 |0,x=>x
 |k+1,x=>bU (nB k x)
theorem tN(s h:Nat)(hs:s<4294967296)(b:h<16)(w:World):Calls C 276 #[.int .u32 s,B E h] w λe w'=>e=.returned (.int .u32 (cH rT s h))/\w=w':=by
 have hx:=mo s h hs (by omega);have d:s ^^^ h<2^32:=P6 (by omega) (by omega);have H3:=Fr s h b;obtain⟨x,b⟩:∃x,s ^^^ h=x:=⟨_,rfl⟩;rw[b]at hx d H3;have b:(h:Int) % 16=(h:Int):=by omega
 have g:Hid (nB 4 x=cH rT s h):=H3;go_enter func276,ntmps276
 go_wp2_with fail
 go_loopw [0,5,6] (λa i o wr=>∃k y:Nat,k<=4/\a=.int .u32 y/\i=B I k/\Hid (nB k x=y)/\y<4294967296/\w=wr) (λ_ i _ _=>4-(intOf i).toNat)
 case atStart=>exact⟨0,x,by omega,rfl,rfl,rfl,by omega,rfl⟩
 case round=>
  obtain⟨k,y,hk,rfl,rfl,c,l,rfl⟩:=hrel;by_cases b:k<4
  ·by_cases f:y % 2=1
   ·have h1:((y:Int) % 2==1)=true:=by simp;omega
    have j:(y:Int) % 2=1:=by omega
    have b:bits .xor .u32 ((y:Int) / 2) 2197175160=(((y / 2) ^^^ 2197175160:Nat):Int):=by simpa using mo (y / 2) 2197175160 (by omega) (by decide)
    have hn:bU y=(y / 2) ^^^ 2197175160:=by unfold bU;rw[if_pos f]
    have d:=NG l;rw[hn]at d;have b:=H hn;generalize(y / 2) ^^^ 2197175160=z at *;go_wp2_with fail
    go_roundw
    case rel=>exact⟨k+1,z,by omega,rfl,by go_num,by show bU (nB k x)=z;rw[c.out];exact b.out,d,trivial⟩
    case measure=>simp[intOf];omega
   have h1:((y:Int) % 2==1)=false:=by simp;omega
   have j:(y:Int) % 2=0:=by omega
   have hn:bU y=y / 2:=by unfold bU;rw[if_neg f]
   have b:=H hn;go_wp2_with fail
   go_roundw
   case rel=>exact⟨k+1,y / 2,by omega,by go_num,by go_num,by show bU (nB k x)=y / 2;rw[c.out];exact b.out,by omega,trivial⟩
   case measure=>simp[intOf];omega
  ·obtain rfl:k=4:=by omega
   go_wp2_with fail;go_ret;exact⟨by rw[<-g.out,c.out];rfl,rfl⟩
theorem IS{T:Tab}(s:Nat)(a:List UInt8)(b:UInt8):lf T s (a++[b])=cH T (cH T (lf T s a) (b.toNat % 16)) (b.toNat / 16):=by
 have hb:=b.toNat_lt;have c:(UInt8.ofNat (b.toNat % 16)).toNat=b.toNat % 16:=by simp;omega
 have d:(UInt8.ofNat (b.toNat / 16)).toNat=b.toNat / 16:=by simp;omega
 unfold lf bC;rw[List.flatMap_append,List.foldl_append,List.flatMap_cons,List.flatMap_nil,List.append_nil,P9,P9,List.foldl_nil,c,d]
theorem Ei(s:Nat)(hs:s<4294967296)(v:Value)(bs:List UInt8)(w:World)(h:Bs w v bs)(N:bs.length<=2000000):
  Calls C 223 #[.int .u32 s,v] w λe w'=>e=.returned (.int .u32 (cR rT s bs))/\Ext w w':=by
 obtain⟨A,c,rfl,h1,h2⟩:=xO h;have F:=H h;clear h;have hn:=oR s hs;have K:=nV s hs;unfold cR;generalize 4294967295 ^^^ s=s0 at *;go_enter func223,ntmps223
 go_wp2_with fail
 go_loopw [0,5] (λa i wr=>∃k y:Nat,k<=bs.length/\a=.int .u32 y/\i=B I k/\Hid (lf rT s0 (bs.take k)=y)/\y<4294967296/\Ext w wr) (λ_ i _=>bs.length-(intOf i).toNat)
 case atStart=>exact⟨0,s0,by omega,rfl,rfl,rfl,K,xR _⟩
 case round=>
  obtain⟨k,y,hk,rfl,rfl,n,j,o⟩:=hrel;by_cases d:k<bs.length
  ·obtain⟨_,b,z,rfl,hc⟩:=Bs.at_ (F.out.ext o) (by omega);have O:=hc k d;have V:=bs[k].toNat_lt;have H3:lf rT s0 (bs.take (k+1))=cH rT (cH rT y (bs[k].toNat % 16)) (bs[k].toNat / 16):=by
    rw[List.take_succ_eq_append_getElem d,IS,n.out]
   have g:=H H3;clear hc H3;generalize bs[k].toNat=q at *;have l:=rC (T:=rT) (q % 16) j;have m:=rC (T:=rT) (q / 16) l;have p:=λW=>tN y (q % 16) j (by omega) W;have f:=λW=>tN (cH rT y (q % 16)) (q / 16) l (by omega) W;obtain⟨r,x⟩:∃r,cH rT y (q % 16)=r:=⟨_,rfl⟩;rw[x]at p f m g;obtain⟨t,H4⟩:∃t,cH rT r (q / 16)=t:=⟨_,rfl⟩;rw[H4]at f m g;have Q:(q:Int).tmod 16=((q % 16:Nat):Int):=by rw[Int.tmod_eq_emod_of_nonneg (by omega)];omega
   have R:IntKind.u8.wrap ((q:Int) / 16)=((q / 16:Nat):Int):=by rw[IntKind.wrap_u8];omega
   have S:(q:Int).tdiv 16=((q / 16:Nat):Int):=by rw[Int.tdiv_eq_ediv_of_nonneg (by omega)];omega
   have U:IntKind.u8.wrap ((q / 16:Nat):Int)=((q / 16:Nat):Int):=by rw[IntKind.wrap_u8];omega
   generalize q % 16=q0 at *;generalize q / 16=q1 at *;have L:=H p;have M:=H f;clear p f x H4 l;go_wp2_with fail
   go_region_held3 (λw'=>w'.cell? ⟨b,z+k,J⟩=G (B E q)) (first|go_keep | assumption)
    (first
      |(go_at_call 276;with_reducible refine(L.out _).mono ?_;rintro e X⟨rfl,rfl⟩)
      |(go_at_call 276;with_reducible refine(M.out _).mono ?_;rintro e Y⟨rfl,rfl⟩))
   go_wp2_with fail
   go_roundw
   case rel=>exact⟨k+1,t,by omega,rfl,by go_num,g.out,m,xD o⟩
   case measure=>simp[intOf];omega
  ·obtain rfl:k=bs.length:=by omega
   have H4:=n.out;rw[List.take_length]at H4;have D:=H H4;have P:=oR y j;clear H4 n;go_wp2_with fail;go_ret;exact⟨by rw[D.out];rfl,o⟩
theorem I5(p:Nat)(A:Option Addr)(c:Nat)(bs:List UInt8)(w:World)(hc:w.cell? ⟨p,0,J⟩=G (D A bs.length c))(h:Bs w (D A bs.length c) bs)(f:N bs<=2000000):
  Calls C 185 #[D (G ⟨p,0,J⟩) 1 1] w λe w'=>e=.returned (.int .u32 (cR rT 0 bs))/\Ext w w':=by
 have g:=H h;go_enter func185,ntmps185
 go_wp2_with fail
 go_loopw [3,4] (λs i wr=>∃k a:Nat,k<=1/\s=.int .u32 a/\i=B I k/\Hid (a=if k=0 then 0 else cR rT 0 bs)/\Ext w wr) (λ_ i _=>1-(intOf i).toNat)
 case atStart=>exact⟨0,0,by omega,rfl,rfl,rfl,xR _⟩
 case round=>
  obtain⟨k,a,hk,rfl,rfl,d,b⟩:=hrel;have j:=b.cell hc;by_cases j:k<1
  ·obtain rfl:k=0:=by omega
   obtain rfl:a=0:=d.out;go_wp2_with (go_at_call 223;refine(Ei 0 (by decide) _ bs wr (g.ext b) f).mono ?_;rintro e f⟨rfl,Hk⟩)
   go_roundw
   case rel=>exact⟨1,cR rT 0 bs,by omega,rfl,rfl,rfl,xT b Hk⟩
   case measure=>simp[intOf]
  ·obtain rfl:k=1:=by omega
   obtain rfl:a=cR rT 0 bs:=d.out;go_wp2_with fail;go_ret;exact⟨rfl,b⟩
theorem Eh(s:Nat)(hs:s<4294967296)(w:World):Calls C 184 #[.int .u32 s] w λe w'=>e=.returned (.agg ((ed s).map bv).toArray)/\Ext w w':=by
 go_enter func184,ntmps184
 go_wp2_with fail
 refine bodyPost_ret (results_cell_row rfl _ _ _ 188 _ _ _ rfl (heap_alloc_new _ _) underlying188 rfl (by kernel_rfl)) rfl ⟨?_,xA (xR _) _⟩;congr 3
 simp[ed,bv];omega
theorem qU(v:Value)(bs:List UInt8)(w:World)(h:Bs w v bs)(hl:N bs<=2000000):Calls C 122 #[v] w λe w'=>∃A c,e=.returned (D A (bh rT bs).length c)/\OwnB w' w.heap.size (D A (bh rT bs).length c) (bh rT bs)/\Ext w w':=by
 obtain⟨A,c,rfl,h1,h2⟩:=xO h;have n:=H h;have l:=oK (T:=rT) 0 bs (by decide);obtain⟨i,j⟩:∃i,cR rT 0 bs=i:=⟨_,rfl⟩;rw[j]at l;have hps:bh rT bs=bs++ed i:=by unfold bh;rw[j]
 have M:=H hps;have s:=H j;obtain⟨z,hi,o,p,q⟩:=info_parts dC;obtain⟨a,b,d,f,hf⟩:∃a b d f:UInt8,ed i=[a,b,d,f]:=⟨_,_,_,_,rfl⟩;have r:=H hf;go_enter func122,ntmps122
 go_wp2_with fail
 have m:Ext w (w.alloc (F #[D A bs.length c] 33)):=xA (xR _) _;refine(I5 w.heap.size A c bs _ (Boxed.new w _ _).cell (n.ext m) (by omega)).mono ?_;rw[s.out];rintro e j⟨rfl,Hk⟩;go_wp2_with fail
 refine(Eh i l _).mono ?_;rw[r.out];rintro e g⟨rfl,i⟩;simp only[Pa,Pb,bv];go_wp2_with fail
 have j:Ext w (g.alloc (F #[B E (a.toNat:Int),B E (b.toNat:Int),B E (d.toNat:Int),B E (f.toNat:Int)] 188)):=xA (xT m (xT Hk i)) _;have i:Blk (g.alloc (F #[B E (a.toNat:Int),B E (b.toNat:Int),B E (d.toNat:Int),B E (f.toNat:Int)] 188)) g.heap.size 188 ([a,b,d,f].map bv).toArray:=Blk.new g _ _;have h4:Bs (g.alloc (F #[B E (a.toNat:Int),B E (b.toNat:Int),B E (d.toNat:Int),B E (f.toNat:Int)] 188)) (D (G ⟨g.heap.size,0,J⟩) 4 4) [a,b,d,f]:=fZ i rfl (by simp[maxLen]);refine wp_region_held_drew (S:=λ_=>True) (by kernel_rfl) trivial (λ_=>?_);refine ab 1 ?_;refine ab 3 ?_;refine ah 0 (λK i=>?_);go_simp;refine af i _ _ trivial (λ_=>?_);have l:(g.alloc (F #[B E (a.toNat:Int),B E (b.toNat:Int),B E (d.toNat:Int),B E (f.toNat:Int)] 188)).heap.size=g.heap.size+1:=by simp
 generalize m:g.alloc (F #[B E (a.toNat:Int),B E (b.toNat:Int),B E (d.toNat:Int),B E (f.toNat:Int)] 188)=w3 at *;have m:=be w3 [] 5 0 j.size;rw[l]at m;have l:Ext w3 (w3.alloc (F #[] 5)).drew:=xD (xA (xR _) _);have s:=ai m (xD (xR (w3.alloc (F #[] 5))));have m:=xT j l;refine ah 2 (λK i=>?_);refine fJ _ (.tmp 8) (.tmp 9) 33 (by rfl) w.heap.size 5 z (B E 0) 1 1 underlying33 hi o p q rfl _ 0 [] s _ bs.length (bs.map bv) (n.ext m) (de _) m.size ?_;intro j I j n;refine af i _ _ trivial (λ_=>?_);have y:Ext w I:=Ext.grownOwn m s n;have m:Ext w3 I:=by
  refine Below.grown l n l.size (λk l=>?_);have:g.heap.size+1=k:=by simpa[Value.ownBlock,Act.eval]using l
  omega
 simp only[P7,xI]at j;refine ah 4 (λK i=>?_);refine fJ _ (.tmp 10) (.tmp 11) 33 (by rfl) w.heap.size 5 z (B E 0) 1 1 underlying33 hi o p q rfl _ bs.length (bs.map bv) j _ 4 ([a,b,d,f].map bv) (h4.ext m) (de _) y.size ?_;intro a L x a;refine af i _ _ trivial (λ_=>?_);have O:Ext w L:=Ext.grownOwn y j a;refine ab 5 ?_;refine aq ?_;go_wp2_with fail;go_ret;have t:N (bh rT bs)=N bs+4:=by unfold bh;rw[xL,lx]
 obtain⟨a,a,rfl,_,_⟩:=xO (xW x);rw[t];refine⟨_,_,rfl,?_,O⟩;show L.ownsRow w.heap.size 5 1 _ (bh rT bs).length ((bh rT bs).map bv);rw[t,M.out,r.out,List.map_append];exact x
def Ou(w:World)(r:Option (List UInt8))(e:Ending)(w':World):Prop:=(∃v,e=.returned (.tuple #[v,L r.isSome])/\OwnB w' w.heap.size v (r.getD []))/\Ext w w'
theorem CS{T:Tab}{b:List UInt8}(h:N b<4):bN T b=none:=by
 unfold bN;rw[if_neg];intro e;have:=congrArg List.length e;rw[lx,List.length_drop]at this;omega
theorem Dw{T:Tab}{b:List UInt8}(h:4<=N b):bN T b=if bh T (b.take (N b-4))=b then some (b.take (N b-4))else none:=by
 unfold bN bh;by_cases e:ed (cR T 0 (b.take (N b-4)))=b.drop (N b-4)
 ·rw[if_pos e,if_pos (by rw[e,List.take_append_drop])]
 ·rw[if_neg e,if_neg];intro a;apply e;have:=congrArg (List.drop (N b-4)) a;rw[List.drop_append_of_le_length (by rw[P8];omega)]at this;rw[<-this,List.drop_of_length_le (by rw[P8];omega),xI]
theorem yi(v:Value)(bs:List UInt8)(w:World)(h:Bs w v bs)(hl:bs.length<=2000000):Calls C 90 #[v] w (Ou w (bN rT bs)):=by
 obtain⟨A,c,rfl,h1,h2⟩:=xO h;by_cases h4:bs.length<4
 ·have hn:((bs.length:Int)-4<0):=by omega
  have g:=H (CS (T:=rT) h4);clear h;go_enter func90,ntmps90
  go_wp2_with fail
  refine wp_region_held_drew (S:=λ_=>True) (by kernel_rfl) trivial (λ_=>?_);refine ab 0 ?_;refine ab 1 ?_;refine ab 2 ?_;refine ag 3 ?_;refine ag 4 ?_;refine ag 5 ?_;refine ag 6 ?_;refine ag 7 ?_;refine ag 8 ?_;refine ag 9 ?_;refine ag 10 ?_;refine ab 11 ?_;refine aq ?_;go_wp2_with fail
  go_ret2;exact⟨⟨_,by rw[g.out];rfl,by rw[g.out];exact World.ownsRow_nil _ _ _ _⟩,xD (xR _)⟩
 ·obtain⟨_,b,V,rfl,_⟩:=Bs.at_ h (by omega);obtain⟨n,hn⟩:∃n,bs.length-4=n:=⟨_,rfl⟩;have I:bs.length=n+4:=by omega
  have m:=Bs.take h n (by omega);have k:=Dw (T:=rT) (b:=bs) (by omega);rw[hn]at k;obtain⟨p,r⟩:∃p,bs.take n=p:=⟨_,rfl⟩;have x:p.length=n:=by rw[<-r,P8];omega
  rw[r]at m k;have z:=H h;have Hq:=H m;have g:=H k;have y:=H x;have e1:¬((bs.length:Int)-4<0):=by omega
  have e2:(bs.length:Int)-4=(n:Int):=by omega
  have e3:(n:Int)<=(c:Int):=by omega
  have e4:((n:Int)<0)=False:=by simp
  have e5:decide ((n:Int)<0)=false:=by simp
  clear h m k r x;go_enter func90,ntmps90
  go_wp2_with fail
  refine wp_region_held_drew (S:=λW=>Ext w W) (by kernel_rfl) (xD (xR _)) (λ_=>?_);refine ab 0 ?_;refine ab 1 ?_;refine ab 2 ?_;refine ab 3 ?_;refine ab 4 ?_;refine ab 5 ?_;refine ab 8 ?_;refine nZ (i:=9) (v:=M ⟨bs.toArray⟩) rfl (by kernel_rfl) (by kernel_rfl) (by kernel_rfl) (λ_ _ _ h=>h) (by rfl) (by assumption) (λw' hw=>?hc) ?rc
  case hc=>
   have L:=eh (P:=C) w' 33 9 5 underlying33 underlying5 underlying9 (z.out.ext hw);rw[I]at L;go_simp;try with_reducible rfl
  case' rc=>skip
  try simp only[Act.put,sA,sZ,sS]
  refine ah 6 (λK o=>?_);go_simp;refine(qU _ _ _ (Hq.out.ext (xD (xR _))) (by rw[y.out];omega)).mono ?_;rintro e l⟨R,Y,rfl,Hx,O⟩;try(go_wp2_with fail)
  have a:Ext w l:=xT (xD (xR _)) O;refine af o _ _ a (λ_=>?_);refine ah 7 (λK o=>?_);refine C7 _ 33 9 5 (.tmp 14) (by rfl) underlying33 underlying5 underlying9 (by rfl) Hx.bs ?_;refine af o _ _ a (λ_=>?_);obtain⟨q,s⟩:∃q,bh rT p=q:=⟨_,rfl⟩;have j:Hid (bN rT bs=if q=bs then some p else none):=by rw[Hid,<-s];exact g.out
  rw[s];clear s Hx g;by_cases d:q=bs
  ·subst d;have f:Hid (bN rT q=G p):=by rw[Hid,j.out,if_pos rfl]
   clear j;refine ab 10 ?_;refine ab 11 ?_;refine aq ?_;have N:(l.alloc (F #[] 5)).ownsRow w.heap.size 5 1 (D (G ⟨l.heap.size,0,J⟩) 0 0) 0 []:=be l [] 5 0 (hm:=rfl) (hl:=by simp[maxLen]) a.size;go_wp2_with (at_builtin;refine eu (Km:=rfl) (.tmp 20) (.tmp 23) rfl w.heap.size _ [] (hs:=rfl) N _ p (hx:=rfl) (Hq.out.ext (xA a _)) (Kn:=by have:=y.out;simp;omega) (by have:=a.size;simp;omega) ?_;intro U Z Q t E;have B:Ext w Q:=E w (xA a _) (xN _);simp only[List.length_nil,P7,xI]at t⊢)
   go_ret2;exact⟨⟨_,by rw[f.out];rfl,by rw[f.out];exact t⟩,B⟩
  ·have f:Hid (bN rT bs=none):=by rw[Hid,j.out,if_neg d]
   have X:(q==bs)=false:=by simpa using d
   clear j;refine ab 10 ?_;refine ab 11 ?_;refine aq ?_;go_wp2_with fail
   go_ret2;exact⟨⟨_,by rw[f.out];rfl,by rw[f.out];exact World.ownsRow_nil _ _ _ _⟩,a⟩
def sO(w:World)(r:Option Sta)(e:Ending)(w':World):Prop:=e=.returned (.tuple #[.agg #[B I (r.getD staZ).idx,B I (r.getD staZ).term,B I (r.getD staZ).sum,B I (r.getD staZ).lvl,L (r.getD staZ).fin],L r.isSome])/\Ext w w'
