/- Merged -/
import Derived.Test.YteggfecbjgbndaaGreatDoorZw9
set_option linter.all false
set_option maxHeartbeats 8000000
set_option maxRecDepth 100000
open Go.Value renaming int→B,bool→I,slice→N,agg→O,pointer→U,string→V
open Go.IntKind renaming i64→C,u8→J
open Go.Proofs.Tryz renaming prog→D
open Go.Mv renaming zhd→E
open Option renaming none→F,some→M
open Go.Obj renaming cells→G
open List renaming length_drop→P0,length_take→P1,drop_drop→P2,take_of_length_le→P3,map_append→P4,getD_eq_getElem?_getD→P5,drop_eq_getElem_cons→P6,getElem?_eq_getElem→P7,drop_of_length_le→P8,foldl_cons→P9,append_nil→Pa,map_cons→Pb,map_nil→Pc
open Nat renaming xor_assoc→Pd,shiftRight_xor_distrib→Pe,shiftRight_eq_div_pow→Pf,xor_zero→Pg,xor_comm→Ph,xor_mod_two_pow→Pi,xor_lt_two_pow→Pj,zero_add→Pk
open Go.Mv.Ext renaming grownOwn→Pl,cell→Pm
open UInt8 renaming ofNat→Pn
open Go.World renaming ownsRow_nil→Po
open Go.IntKind renaming wrap_i64→Pp,i64→Pq,u8→Pr,wrap_u8→Ps
namespace Go.Mv
open Go.RowKit
theorem zbv {P:Program} (w:World) {o:Oper} {a:Act} {K:Act→World→Prop} {Q:Exit→Act→World→Prop} (s x:Operand) (t:TypeId)
  (ho:o.op=.call { callee:=.builtin .append,args:=#[s,x],argTypes:=#[t,t] })
  (base:Nat) (e:TypeId) (i:TypeInfo) (z:Value) (size bytes:Nat) (ht:P.underlying t=M (.slice e)) (hi:P.info? e=M i) (hz:i.zero=M z)
  (Kh:i.size=size) (JE:i.bytes=bytes) (JQ:z.cells.size=size) (JN:0<size)
  (v:Value) (n:Nat) (xs:List Value) (hs:a.eval s=v) (KQ:w.ownsRow base e size v n xs)
  (vx:Value) (m:Nat) (news:List Value) (hx:a.eval x=vx) (hr:SlR w size vx m news) (h1:∀ u∈news,u.oneCell'=true)
  (Jz:n+m≤maxLen) (Hx:(n+m)*bytes≤140737488355328) (K6:base≤w.heap.size)
  (h:∀ v' w',w'.ownsRow base e size v' (n+m) (xs++news)→w.grownBy w' v.ownBlock→K (a.put o.dst v') w'):Oper.wp P o a w K Q:=by
 obtain ⟨v',w',HG,h2,h3⟩:=zbD (P:=P) w base t o.type e i z size bytes ht hi hz Kh JE JQ JN v n xs KQ vx m news hr h1 Jz Hx K6;unfold Oper.wp execOp;simp only[ho,resolve,invoke,builtin,Sem.run_bind,Sem.run_pure,Result.andThen_ok,List.map_toArray,Pb,Pc,hs,hx,HG]
 exact h v' w' h2 h3
theorem zlz {P:Program} (w:World) {o:Oper} {a:Act} {K:Act→World→Prop} {Q:Exit→Act→World→Prop} (src dst e:TypeId) (x:Operand) (ho:o.op=.convert src dst x)
  (hs:P.underlying src=M (.slice e)) (he:P.underlying e=M (.int .u8)) (hd:P.underlying dst=M .string) {v:Value} {bs:List UInt8} (hx:a.eval x=v) (hb:Bs w v bs)
  (h:K (a.put o.dst (V ⟨bs.toArray⟩)) w):Oper.wp P o a w K Q:=by
 have HG:=zaE (P:=P) w src dst e hs he hd hb;unfold Oper.wp execOp;simp only[ho,Sem.run_bind,Sem.run_pure,Result.andThen_ok,hx,HG]
 exact h
end Go.Mv
namespace Go.Proofs.YteggfecbjgbndaaGreatDoor
open Go.RowKit Go.Mv
def zbx (x:Nat):Nat:=if x % 2=1 then (x / 2) ^^^ 2197175160 else x / 2
theorem zto (a b:Nat):(a ^^^ b) / 2=(a / 2) ^^^ (b / 2):=by
 have:=Pe (a:=a) (b:=b) (i:=1)
 simpa [Pf] using this
theorem zle (a b:Nat):(a ^^^ b) / 16=(a / 16) ^^^ (b / 16):=by
 have:=Pe (a:=a) (b:=b) (i:=4)
 simpa [Pf] using this
theorem ztp (a b:Nat):(a ^^^ b) % 2=(a % 2) ^^^ (b % 2):=Pi (n:=1)
theorem zug (a b:Nat):(a ^^^ b) % 16=(a % 16) ^^^ (b % 16):=Pi (n:=4)
theorem zfY (a b:Nat):zbx (a ^^^ b)=zbx a ^^^ zbx b:=by
 unfold zbx;rw[ztp,zto]
 have ha:a % 2=0∨a % 2=1:=by omega
 have hb:b % 2=0∨b % 2=1:=by omega
 rcases ha with ha | ha <;> rcases hb with hb | hb <;> rw[ha,hb] <;> simp
 ·rw[Pd]
 ·rw[Pd,Pd,Ph (b / 2)]
 ·rw[Pd,←Pd 2197175160,Ph 2197175160 (b / 2),Pd,Nat.xor_self,Pg]
theorem ze2 (q:Nat):zbx (2*q)=q:=by
 unfold zbx;rw[if_neg (by omega)];omega
theorem zr0 (x:Nat):x=(16*(x / 16)) ^^^ (x % 16):=by
 have h1:((16*(x / 16)) ^^^ (x % 16)) / 16=x / 16:=by
  rw[zle,show x % 16 / 16=0 from by omega,Pg];omega
 have h2:((16*(x / 16)) ^^^ (x % 16)) % 16=x % 16:=by
  rw[zug,show 16*(x / 16) % 16=0 from by omega,Nat.zero_xor];omega
 omega
theorem zuX (x:Nat):zbx (zbx (zbx (zbx x)))=crcTab.getD (x % 16) 0 ^^^ (x / 16):=by
 have key:∀ r,r<16→zbx (zbx (zbx (zbx r)))=crcTab.getD r 0:=by decide
 conv=>lhs;rw[zr0 x]
 rw[zfY,zfY,zfY,zfY,key _ (Nat.mod_lt _ (by decide)),show 16*(x / 16)=2*(2*(2*(2*(x / 16)))) from by omega,ze2,ze2,ze2,ze2,Ph]
theorem zpp (s h:Nat) (hh:h<16):zbx (zbx (zbx (zbx (s ^^^ h))))=zbQ rT s h:=by
 rw[zuX,zle,show h / 16=0 from by omega,Pg]
 rfl
theorem zsK {x:Nat} (h:x<4294967296):zbx x<4294967296:=by
 unfold zbx
 split
 ·have:(x / 2) ^^^ 2197175160<2^32:=Pj (by omega) (by omega)
  simpa using this
 ·omega
def zjL:Nat→Nat→Nat
 | 0,x=>x
 | k+1,x=>zbx (zjL k x)
theorem ziQ (s h:Nat) (hs:s<4294967296) (hh:h<16) (w:World):Calls D 276 #[.int .u32 s,B J h] w fun e w'=>e=.returned (.int .u32 (zbQ rT s h))∧w=w':=by
 have hx:=zdl s h hs (by omega)
 have Ki:s ^^^ h<2^32:=Pj (by omega) (by omega)
 have Hg:=zpp s h hh;obtain ⟨x,Jf⟩:∃ x,s ^^^ h=x:=⟨_,rfl⟩;rw[Jf] at hx Ki Hg
 have JI:(h:Int) % 16=(h:Int):=by omega
 have Hv:Hid (zjL 4 x=zbQ rT s h):=Hg
 clear Hg Jf
 go_enter Tryz.func276,Tryz.ntmps276
 go_wp2_with fail
 go_loopw [0,5,6] (fun a i o wr=>∃ k y:Nat,k≤4∧a=.int .u32 y∧i=B C k∧Hid (zjL k x=y)∧y<4294967296∧w=wr) (fun _ i _ _=>4-(intOf i).toNat)
 case atStart=>exact ⟨0,x,by omega,rfl,rfl,rfl,by omega,rfl⟩
 case round =>
  obtain ⟨k,y,hk,rfl,rfl,Hy,Kj,rfl⟩:=hrel
  by_cases hlt:k<4
  ·by_cases ho:y % 2=1
   ·have h1:((y:Int) % 2==1)=true:=by simp;omega
    have Jv:(y:Int) % 2=1:=by omega
    have Gn:bits .xor .u32 ((y:Int) / 2) 2197175160=(((y / 2) ^^^ 2197175160:Nat):Int):=by simpa using zdl (y / 2) 2197175160 (by omega) (by decide)
    have hn:zbx y=(y / 2) ^^^ 2197175160:=by unfold zbx;rw[if_pos ho]
    have Kq:=zsK Kj;rw[hn] at Kq;have Hn:=E hn
    generalize (y / 2) ^^^ 2197175160=z at *
    clear hn ho;go_wp2_with fail
    go_roundw
    case rel=>exact ⟨k+1,z,by omega,rfl,by go_num,by show zbx (zjL k x)=z;rw[Hy.out];exact Hn.out,Kq,trivial⟩
    case measure=>simp[intOf];omega
   ·have h1:((y:Int) % 2==1)=false:=by simp;omega
    have Jv:(y:Int) % 2=0:=by omega
    have hn:zbx y=y / 2:=by unfold zbx;rw[if_neg ho]
    have Hn:=E hn;clear hn ho;go_wp2_with fail
    go_roundw
    case rel=>exact ⟨k+1,y / 2,by omega,by go_num,by go_num,by show zbx (zjL k x)=y / 2;rw[Hy.out];exact Hn.out,by omega,trivial⟩
    case measure=>simp[intOf];omega
  ·obtain rfl:k=4:=by omega
   go_wp2_with fail;go_ret
   exact ⟨by rw[←Hv.out,Hy.out];rfl,rfl⟩
theorem zpG {T:Tab} (s:Nat) (a:List UInt8) (b:UInt8):zg7 T s (a++[b])=zbQ T (zbQ T (zg7 T s a) (b.toNat % 16)) (b.toNat / 16):=by
 have hb:=b.toNat_lt
 have e1:(Pn (b.toNat % 16)).toNat=b.toNat % 16:=by simp;omega
 have e2:(Pn (b.toNat / 16)).toNat=b.toNat / 16:=by simp;omega
 unfold zg7 zaJ;rw[List.flatMap_append,List.foldl_append,List.flatMap_cons,List.flatMap_nil,Pa,P9,P9,List.foldl_nil,e1,e2]
theorem zmC (s:Nat) (hs:s<4294967296) (v:Value) (bs:List UInt8) (w:World) (h:Bs w v bs) (HD:bs.length≤2000000) :
  Calls D 223 #[.int .u32 s,v] w fun e w'=>e=.returned (.int .u32 (zcb rT s bs))∧Ext w w':=by
 obtain ⟨A,c,rfl,h1,h2⟩:=xO h;have HP:=E h;clear h;have hn:=zir s hs;have Kq:=ze5 s hs;unfold zcb
 generalize 4294967295 ^^^ s=s0 at *
 go_enter Tryz.func223,Tryz.ntmps223
 go_wp2_with fail
 go_loopw [0,5] (fun a i wr=>∃ k y:Nat,k≤bs.length∧a=.int .u32 y∧i=B C k∧Hid (zg7 rT s0 (bs.take k)=y)∧y<4294967296∧Ext w wr) (fun _ i _=>bs.length-(intOf i).toNat)
 case atStart=>exact ⟨0,s0,by omega,rfl,rfl,rfl,Kq,xR _⟩
 case round =>
  obtain ⟨k,y,hk,rfl,rfl,Hy,Kj,hE⟩:=hrel
  by_cases hlt:k<bs.length
  ·obtain ⟨_,b,Kx,rfl,hc⟩:=Bs.at_ (HP.out.ext hE) (by omega)
   have G8:=hc k hlt;have hq:=bs[k].toNat_lt
   have Hg:zg7 rT s0 (bs.take (k+1))=zbQ rT (zbQ rT y (bs[k].toNat % 16)) (bs[k].toNat / 16):=by
    rw[List.take_succ_eq_append_getElem hlt,zpG,Hy.out]
   have Hv:=E Hg;clear hc Hg
   generalize bs[k].toNat=q at *
   have KM:=zji (T:=rT) (q % 16) Kj;have KN:=zji (T:=rT) (q / 16) KM
   have k1:=fun W=>ziQ y (q % 16) Kj (by omega) W
   have k2:=fun W=>ziQ (zbQ rT y (q % 16)) (q / 16) KM (by omega) W
   obtain ⟨y1,Jg⟩:∃ y1,zbQ rT y (q % 16)=y1:=⟨_,rfl⟩;rw[Jg] at k1 k2 KN Hv;obtain ⟨y2,HS⟩:∃ y2,zbQ rT y1 (q / 16)=y2:=⟨_,rfl⟩;rw[HS] at k2 KN Hv
   have e1:(q:Int).tmod 16=((q % 16:Nat):Int):=by rw[Int.tmod_eq_emod_of_nonneg (by omega)];omega
   have e2:Pr.wrap ((q:Int) / 16)=((q / 16:Nat):Int):=by rw[Ps];omega
   have e3:(q:Int).tdiv 16=((q / 16:Nat):Int):=by rw[Int.tdiv_eq_ediv_of_nonneg (by omega)];omega
   have e4:Pr.wrap ((q / 16:Nat):Int)=((q / 16:Nat):Int):=by rw[Ps];omega
   generalize q % 16=q0 at *
   generalize q / 16=q1 at *
   have K1:=E k1;have K2:=E k2;clear k1 k2 Jg HS KM;go_wp2_with fail
   go_region_held3 (fun w'=>w'.cell? ⟨b,Kx+k,F⟩=M (B J q)) (first | go_keep | assumption)
    (first
      | (go_at_call 276;with_reducible refine (K1.out _).mono ?_;rintro e w2 ⟨rfl,rfl⟩)
      | (go_at_call 276;with_reducible refine (K2.out _).mono ?_;rintro e w3 ⟨rfl,rfl⟩))
   go_wp2_with fail
   go_roundw
   case rel=>exact ⟨k+1,y2,by omega,rfl,by go_num,Hv.out,KN,xD hE⟩
   case measure=>simp[intOf];omega
  ·obtain rfl:k=bs.length:=by omega
   have HS:=Hy.out;rw[List.take_length] at HS;have Ju:=E HS;have Gh:=zir y Kj;clear HS Hy;go_wp2_with fail;go_ret
   exact ⟨by rw[Ju.out];rfl,hE⟩
theorem zpS (p:Nat) (A:Option Addr) (c:Nat) (bs:List UInt8) (w:World) (hc:w.cell? ⟨p,0,F⟩=M (N A bs.length c)) (h:Bs w (N A bs.length c) bs) (HD:bs.length≤2000000) :
  Calls D 185 #[N (M ⟨p,0,F⟩) 1 1] w fun e w'=>e=.returned (.int .u32 (zcb rT 0 bs))∧Ext w w':=by
 have HP:=E h;clear h
 go_enter Tryz.func185,Tryz.ntmps185
 go_wp2_with fail
 go_loopw [3,4] (fun s i wr=>∃ k sn:Nat,k≤1∧s=.int .u32 sn∧i=B C k∧Hid (sn=if k=0 then 0 else zcb rT 0 bs)∧Ext w wr) (fun _ i _=>1-(intOf i).toNat)
 case atStart=>exact ⟨0,0,by omega,rfl,rfl,rfl,xR _⟩
 case round =>
  obtain ⟨k,sn,hk,rfl,rfl,Hs,hE⟩:=hrel;have G7:=hE.cell hc
  by_cases hlt:k<1
  ·obtain rfl:k=0:=by omega
   obtain rfl:sn=0:=Hs.out
   go_wp2_with (go_at_call 223;refine (zmC 0 (by decide) _ bs wr (HP.out.ext hE) HD).mono ?_;rintro e w1 ⟨rfl,H1⟩)
   go_roundw
   case rel=>exact ⟨1,zcb rT 0 bs,by omega,rfl,rfl,rfl,xT hE H1⟩
   case measure=>simp[intOf]
  ·obtain rfl:k=1:=by omega
   obtain rfl:sn=zcb rT 0 bs:=Hs.out
   go_wp2_with fail;go_ret
   exact ⟨rfl,hE⟩
theorem zmB (s:Nat) (hs:s<4294967296) (w:World):Calls D 184 #[.int .u32 s] w fun e w'=>e=.returned (.agg ((zdh s).map bv).toArray)∧Ext w w':=by
 go_enter Tryz.func184,Tryz.ntmps184
 go_wp2_with fail
 refine bodyPost_ret (results_cell_row rfl _ _ _ 188 _ _ _ rfl (heap_alloc_new _ _) Tryz.underlying188 rfl (by kernel_rfl)) rfl ⟨?_,xA (xR _) _⟩
 congr 3
 simp[zdh,bv]
 omega
theorem zhj (v:Value) (bs:List UInt8) (w:World) (h:Bs w v bs) (hl:bs.length≤2000000):Calls D 122 #[v] w fun e w'=>∃ A c,e=.returned (N A (zaY rT bs).length c)∧OwnB w' w.heap.size (N A (zaY rT bs).length c) (zaY rT bs)∧Ext w w':=by
 obtain ⟨A,c,rfl,h1,h2⟩:=xO h;have HB:=E h;have Je:=zjb (T:=rT) 0 bs (by decide);obtain ⟨sm,Kw⟩:∃ sm,zcb rT 0 bs=sm:=⟨_,rfl⟩;rw[Kw] at Je
 have hps:zaY rT bs=bs++zdh sm:=by unfold zaY;rw[Kw]
 have HJ:=E hps;have Jt:=E Kw;obtain ⟨i0,hi,Hm,Hp,Hq⟩:=info_parts zb0;obtain ⟨f0,f1,f2,f3,hf⟩:∃ f0 f1 f2 f3:UInt8,zdh sm=[f0,f1,f2,f3]:=⟨_,_,_,_,rfl⟩;have Hf:=E hf;clear h hps Kw hf
 go_enter Tryz.func122,Tryz.ntmps122
 go_wp2_with fail
 have J3:Ext w (w.alloc (G #[N A bs.length c] 33)):=xA (xR _) _
 refine (zpS w.heap.size A c bs _ (Boxed.new w _ _).cell (HB.out.ext J3) (by omega)).mono ?_
 rw[Jt.out];rintro e w1 ⟨rfl,H1⟩;go_wp2_with fail
 refine (zmB sm Je _).mono ?_
 rw[Hf.out];rintro e w2 ⟨rfl,H8⟩;simp only[Pb,Pc,bv];go_wp2_with fail
 have H0:Ext w (w2.alloc (G #[B J (f0.toNat:Int),B J (f1.toNat:Int),B J (f2.toNat:Int),B J (f3.toNat:Int)] 188)):=xA (xT J3 (xT H1 H8)) _
 have hb3:Blk (w2.alloc (G #[B J (f0.toNat:Int),B J (f1.toNat:Int),B J (f2.toNat:Int),B J (f3.toNat:Int)] 188)) w2.heap.size 188 ([f0,f1,f2,f3].map bv).toArray:=Blk.new w2 _ _
 have h4:Bs (w2.alloc (G #[B J (f0.toNat:Int),B J (f1.toNat:Int),B J (f2.toNat:Int),B J (f3.toNat:Int)] 188)) (N (M ⟨w2.heap.size,0,F⟩) 4 4) [f0,f1,f2,f3]:=zdZ hb3 rfl (by simp[maxLen])
 refine wp_region_held_drew (S:=fun _=>True) (by kernel_rfl) trivial (fun _=>?_)
 refine tkN 1 ?_;refine tkN 3 ?_
 refine ar1 0 (fun K hK=>?_)
 go_simp
 refine shK hK _ _ trivial (fun _=>?_)
 have JM:(w2.alloc (G #[B J (f0.toNat:Int),B J (f1.toNat:Int),B J (f2.toNat:Int),B J (f3.toNat:Int)] 188)).heap.size=w2.heap.size+1:=by simp
 generalize G6:w2.alloc (G #[B J (f0.toNat:Int),B J (f1.toNat:Int),B J (f2.toNat:Int),B J (f3.toNat:Int)] 188)=w3 at *
 have Ke:=zaG w3 [] 5 0 rfl (by simp[maxLen]) H0.size;rw[JM] at Ke
 have Ky:Ext w3 (w3.alloc (G #[] 5)).drew:=xD (xA (xR _) _)
 have Kr:=zab Ke (xD (xR (w3.alloc (G #[] 5))));have X3:=xT H0 Ky
 refine ar1 2 (fun K hK=>?_)
 refine zbv _ (.tmp 8) (.tmp 9) 33 (by rfl) w.heap.size 5 i0 (B J 0) 1 1 Tryz.underlying33 hi Hm Hp Hq rfl (by decide) _ 0 [] (by rfl) Kr _ bs.length (bs.map bv) (by rfl) (HB.out.ext X3) (zbI _) (by unfold maxLen;omega) (by omega) X3.size ?_
 intro v5 w5 H9 HM
 refine shK hK _ _ trivial (fun _=>?_)
 have X5:Ext w w5:=Pl X3 Kr HM
 have Jh:Ext w3 w5:=by
  refine Below.grown Ky HM Ky.size (fun k ek=>?_)
  have:w2.heap.size+1=k:=by simpa [Value.ownBlock,Act.eval] using ek
  omega
 simp only[Pk,xI] at H9
 refine ar1 4 (fun K hK=>?_)
 refine zbv _ (.tmp 10) (.tmp 11) 33 (by rfl) w.heap.size 5 i0 (B J 0) 1 1 Tryz.underlying33 hi Hm Hp Hq rfl (by decide) _ bs.length (bs.map bv) (by rfl) H9 _ 4 ([f0,f1,f2,f3].map bv) (by rfl) (h4.ext Jh) (zbI _) (by unfold maxLen;omega) (by omega) X5.size ?_
 intro v6 w6 He HN
 refine shK hK _ _ trivial (fun _=>?_)
 have X6:Ext w w6:=Pl X5 H9 HN
 refine tkN 5 ?_;refine wdD ?_;go_wp2_with fail;go_ret
 have K9:(zaY rT bs).length=bs.length+4:=by unfold zaY;rw[xL,zfX]
 obtain ⟨A6,c6,rfl,_,_⟩:=xO (xW He);rw[K9]
 refine ⟨_,_,rfl,?_,X6⟩
 show w6.ownsRow w.heap.size 5 1 _ (zaY rT bs).length ((zaY rT bs).map bv)
 rw[K9,HJ.out,Hf.out,P4]
 exact He
def zum (w:World) (r:Option (List UInt8)) (e:Ending) (w':World):Prop:=(∃ v,e=.returned (.tuple #[v,I r.isSome])∧OwnB w' w.heap.size v (r.getD []))∧Ext w w'
theorem zkc {T:Tab} {b:List UInt8} (h:b.length<4):za6 T b=none:=by
 unfold za6;rw[if_neg];intro e
 have:=congrArg List.length e
 rw[zfX,P0] at this;omega
theorem zl1 {T:Tab} {b:List UInt8} (h:4≤b.length):za6 T b=if zaY T (b.take (b.length-4))=b then some (b.take (b.length-4)) else none:=by
 unfold za6 zaY
 by_cases e:zdh (zcb T 0 (b.take (b.length-4)))=b.drop (b.length-4)
 ·rw[if_pos e,if_pos (by rw[e,List.take_append_drop])]
 ·rw[if_neg e,if_neg]
  intro e2
  apply e
  have:=congrArg (List.drop (b.length-4)) e2
  rw[List.drop_append_of_le_length (by rw[P1];omega)] at this
  rw[←this,P8 (by rw[P1];omega),xI]
theorem zh0 (v:Value) (bs:List UInt8) (w:World) (h:Bs w v bs) (hl:bs.length≤2000000):Calls D 90 #[v] w (zum w (za6 rT bs)):=by
 obtain ⟨A,c,rfl,h1,h2⟩:=xO h
 by_cases h4:bs.length<4
 ·have hn:((bs.length:Int)-4<0):=by omega
  have Hr:=E (zkc (T:=rT) h4);clear h
  go_enter Tryz.func90,Tryz.ntmps90
  go_wp2_with fail
  refine wp_region_held_drew (S:=fun _=>True) (by kernel_rfl) trivial (fun _=>?_)
  refine tkN 0 ?_;refine tkN 1 ?_;refine tkN 2 ?_;refine tkS 3 ?_;refine tkS 4 ?_;refine tkS 5 ?_;refine tkS 6 ?_;refine tkS 7 ?_;refine tkS 8 ?_;refine tkS 9 ?_;refine tkS 10 ?_;refine tkN 11 ?_;refine wdD ?_;go_wp2_with fail
  go_ret2
  exact ⟨⟨_,by rw[Hr.out];rfl,by rw[Hr.out];exact Po _ _ _ _⟩,xD (xR _)⟩
 ·obtain ⟨_,b,Kx,rfl,_⟩:=Bs.at_ h (by omega)
  obtain ⟨n,hn⟩:∃ n,bs.length-4=n:=⟨_,rfl⟩
  have JD:bs.length=n+4:=by omega
  have KF:=Bs.take h n (by omega);have hr:=zl1 (T:=rT) (b:=bs) (by omega);rw[hn] at hr;obtain ⟨p,hp⟩:∃ p,bs.take n=p:=⟨_,rfl⟩
  have Ks:p.length=n:=by rw[←hp,P1];omega
  rw[hp] at KF hr;have HB:=E h;have KW:=E KF;have Hr:=E hr;have Kl:=E Ks
  have e1:¬ ((bs.length:Int)-4<0):=by omega
  have e2:(bs.length:Int)-4=(n:Int):=by omega
  have e3:(n:Int)≤(c:Int):=by omega
  have e4:((n:Int)<0)=False:=by simp
  have e5:decide ((n:Int)<0)=false:=by simp
  clear h KF hr hp Ks
  go_enter Tryz.func90,Tryz.ntmps90
  go_wp2_with fail
  refine wp_region_held_drew (S:=fun W=>Ext w W) (by kernel_rfl) (xD (xR _)) (fun _=>?_)
  refine tkN 0 ?_;refine tkN 1 ?_;refine tkN 2 ?_;refine tkN 3 ?_;refine tkN 4 ?_;refine tkN 5 ?_;refine tkN 8 ?_
  refine zej (i:=9) (v:=V ⟨bs.toArray⟩) rfl (by kernel_rfl) (by kernel_rfl) (by kernel_rfl) (fun _ _ _ h=>h) (by rfl) (by assumption) (fun w' hw=>?hc) ?rc
  case hc =>
   have J7:=zaE (P:=D) w' 33 9 5 Tryz.underlying33 Tryz.underlying5 Tryz.underlying9 (HB.out.ext hw);rw[JD] at J7
   go_simp
   try with_reducible rfl
  case' rc=>skip
  try simp only[Act.put,sA,sZ,sS]
  refine ar1 6 (fun K hK=>?_)
  go_simp
  refine (zhj _ _ _ (KW.out.ext (xD (xR _))) (by rw[Kl.out];omega)).mono ?_
  rintro e w2 ⟨A2,c2,rfl,H4,H8⟩
  try (go_wp2_with fail)
  have X2:Ext w w2:=xT (xD (xR _)) H8
  refine shK hK _ _ X2 (fun _=>?_)
  refine ar1 7 (fun K hK=>?_)
  refine zlz _ 33 9 5 (.tmp 14) (by rfl) Tryz.underlying33 Tryz.underlying5 Tryz.underlying9 (by rfl) H4.bs ?_
  refine shK hK _ _ X2 (fun _=>?_)
  obtain ⟨q,hq⟩:∃ q,zaY rT p=q:=⟨_,rfl⟩
  have Hu:Hid (za6 rT bs=if q=bs then some p else none):=by rw[Hid,←hq];exact Hr.out
  rw[hq];clear hq H4 Hr
  by_cases hqb:q=bs
  ·subst hqb
   have Hj:Hid (za6 rT q=M p):=by rw[Hid,Hu.out,if_pos rfl]
   clear Hu;refine tkN 10 ?_;refine tkN 11 ?_;refine wdD ?_
   have Kr:(w2.alloc (G #[] 5)).ownsRow w.heap.size 5 1 (N (M ⟨w2.heap.size,0,F⟩) 0 0) 0 []:=zaG w2 [] 5 0 rfl (by simp[maxLen]) X2.size
   go_wp2_with (at_builtin;refine zaX rfl (.tmp 20) (.tmp 23) rfl w.heap.size _ [] rfl Kr _ p rfl (KW.out.ext (xA X2 _)) (by have:=Kl.out;simp;omega) (by have:=X2.size;simp;omega) ?_;intro A5 c5 w5 H9 JB;have KJ:Ext w w5:=JB w (xA X2 _) (xN _);simp only[List.length_nil,Pk,xI] at H9 ⊢)
   go_ret2
   exact ⟨⟨_,by rw[Hj.out];rfl,by rw[Hj.out];exact H9⟩,KJ⟩
  ·have Hj:Hid (za6 rT bs=none):=by rw[Hid,Hu.out,if_neg hqb]
   have JL:(q==bs)=false:=by simpa using hqb
   clear Hu;refine tkN 10 ?_;refine tkN 11 ?_;refine wdD ?_;go_wp2_with fail
   go_ret2
   exact ⟨⟨_,by rw[Hj.out];rfl,by rw[Hj.out];exact Po _ _ _ _⟩,X2⟩
theorem mcSnapRa0 {P:Prop} (h:P:=by
 rw[show [q].flatten=q from by simp,Jp.out] at Kg
 have Jn:=E Kg;have Ja:=Kg.pt;obtain ⟨a1,b1,rfl,_,_⟩:=Kg;obtain ⟨f0,f1,f2,f3,hf⟩:∃ f0 f1 f2 f3:UInt8,zaT (zas z q)=[f0,f1,f2,f3]:=⟨_,_,_,_,rfl⟩;have Hf:=E hf
 have HF:Hid (∀ W,Calls D 249 #[.complex .f64 a1 b1] W fun e w'=>e=.returned (O #[B J f0.toNat,B J f1.toNat,B J f2.toNat,B J f3.toNat])∧Ext W w'):=by
  intro W
  refine (zgm a1 b1 W).mono ?_
  rintro e w' ⟨rfl,hE⟩
  exact ⟨by rw[Ja,hf];rfl,hE⟩
 clear hf Ja;go_wp2_with fail
 refine (HF.out _).mono ?_
 rintro e w3 ⟨rfl,Hc⟩;go_wp2_with fail
 have H0:Ext wr (w3.alloc (G #[B J (f0.toNat:Int),B J (f1.toNat:Int),B J (f2.toNat:Int),B J (f3.toNat:Int)] 188)):=xA (xT (xA (xR _) _) Hc) _
 have hb3:Blk (w3.alloc (G #[B J (f0.toNat:Int),B J (f1.toNat:Int),B J (f2.toNat:Int),B J (f3.toNat:Int)] 188)) w3.heap.size 188 ([f0,f1,f2,f3].map bv).toArray:=Blk.new w3 _ _
 generalize JC:w3.alloc (G #[B J (f0.toNat:Int),B J (f1.toNat:Int),B J (f2.toNat:Int),B J (f3.toNat:Int)] 188)=w4 at *
 clear JC;have X4:=xT J0.out H0;have JU:=E X4
 refine wp_region_held_drew (S:=fun _=>True) (by kernel_rfl) trivial (fun _=>?_)
 refine tkN 0 ?_;refine tkN 1 ?_;refine tkN 3 ?_
 refine ar1 2 (fun K hK=>?_)
 refine zbv _ (.tmp 28) (.tmp 29) 33 (by rfl) w.heap.size 5 i0 (B J 0) 1 1 Tryz.underlying33 hi Hm Hp Hq rfl (by decide) _ out.length (out.map bv) (by rfl) (zab (zab HO.out H0) (xD (xR _))) _ q.length (q.map bv) (by rfl) (HW.out.ext (xD X4)) (zbI _) (by unfold maxLen;omega) (by omega) (xD X4).size ?_
 intro v5 w5 H9 HM;have H5:=zab (zab HO.out H0) (xD (xR w4));have Kp:=(hb3.ext (xD (xR _))).kept HM ((hb3.ext (xD (xR _))).not_row (by decide) H5)
 have X5:Ext w w5:=Pl (xD X4) H5 HM
 refine shK hK _ _ trivial (fun _=>?_)
 refine ar1 4 (fun K hK=>?_)
 refine zbv _ (.tmp 30) (.tmp 31) 33 (by rfl) w.heap.size 5 i0 (B J 0) 1 1 Tryz.underlying33 hi Hm Hp Hq rfl (by decide) _ (out.length+q.length) _ (by rfl) H9 _ 4 ([f0,f1,f2,f3].map bv) (by rfl) (zdZ Kp rfl (by simp[maxLen])) (zbI _) (by unfold maxLen;omega) (by omega) X5.size ?_
 intro v6 w6 He HN
 have X6:Ext w w6:=Pl X5 H9 HN
 refine shK hK _ _ trivial (fun _=>?_)
 refine tkN 5 ?_;refine wdD ?_;obtain ⟨A6,c6,rfl,_,_⟩:=xO (xW He)
 have Hk:out.length+q.length+4=(out++q++[f0,f1,f2,f3]).length:=by simp;try omega
 have Kc:OwnB w6 w.heap.size (N A6 (out.length+q.length+4) c6) (out++q++[f0,f1,f2,f3]):=by
  unfold OwnB;rw[←Hk,P4,P4]
  exact He
 have Jr:=E Kc;clear He Kc H9 H5 Kp hb3 HM HN X4 X5 Hc H0;go_wp2_with fail
 go_roundw
 case rel =>
  refine ⟨k+4,A6,c6,out++q++[f0,f1,f2,f3],a1,b1,zas z q,by omega,by go_num,by rw[Hk],rfl,Jn,E ?_,by rw[←Hk];omega,by rw[←Hk];exact Jr,X6⟩
  rw[←Hv.out,Hf.out]
  simp
 case measure=>simp[intOf];omega):P:=h
theorem zlT (b:Bool) (w:World):Calls D 213 #[.bool b] w fun e w'=>e=.returned (B J (if b then 1 else 0))∧w=w':=by
 go_enter Tryz.func213,Tryz.ntmps213
 cases b
 ·go_wp2_with fail
  go_ret
  exact ⟨rfl,rfl⟩
 ·go_wp2_with fail
  go_ret
  exact ⟨rfl,rfl⟩
theorem zqy (s:Sta) (w:World) (h:s.ok=false):Calls D 210 #[O #[B C s.idx,B C s.term,B C s.sum,B C s.lvl,I s.fin]] w (zi0 w):=by
 have H:=E h;clear h
 go_enter Tryz.func210,Tryz.ntmps210
 go_wp2_with fail
 refine (zhz s _).mono ?_
 rw[H.out];rintro e w1 ⟨rfl,H1⟩;go_wp2_with fail
 go_ret2
 exact ⟨rfl,xT (xA (xR _) _) H1⟩
theorem ziZ (s:Sta) (w:World) (h:s.ok=true):Calls D 210 #[O #[B C s.idx,B C s.term,B C s.sum,B C s.lvl,I s.fin]] w (zgy w s.ints):=by
 have H:=E h;have Hn:=E (Sta.nums h)
 have Hi:Hid (s.ints=[s.idx,s.term,s.sum,s.lvl,s.finI]):=rfl
 have G9:s.finI=0∨s.finI=1:=by unfold Sta.finI;split <;> simp
 have J7:Pq.wrap s.finI=s.finI:=by rw[Pp];omega
 clear h;have hb:=Blk.new w 41 #[B C s.idx,B C s.term,B C s.sum,B C s.lvl,I s.fin]
 go_enter Tryz.func210,Tryz.ntmps210
 go_wp2_with fail
 refine (zhz s _).mono ?_
 rw[H.out];rintro e w1 ⟨rfl,H1⟩;go_wp2_with fail
 have hX:Ext w (w.alloc (G #[B C s.idx,B C s.term,B C s.sum,B C s.lvl,I s.fin] 41)):=xA (xR _) _
 refine wp_region_held_drew (S:=fun w'=>w'.cell? ⟨w.heap.size,0,F⟩=M (B C s.idx)∧w'.cell? ⟨w.heap.size,1,F⟩=M (B C s.term)∧w'.cell? ⟨w.heap.size,2,F⟩=M (B C s.sum)∧w'.cell? ⟨w.heap.size,3,F⟩=M (B C s.lvl)∧w'.cell? ⟨w.heap.size,4,F⟩=M (I s.fin)) (by kernel_rfl) (zaa (hb.ext (xD H1))) (fun _=>?_)
 refine tkN 0 ?_;refine tkN 1 ?_;refine tkN 2 ?_;refine tkN 3 ?_;refine tkN 4 ?_;refine tkN 5 ?_;refine tkN 6 ?_;refine tkN 7 ?_;refine tkN 8 ?_;refine tkN 9 ?_
 refine ar1 10 (fun K hK=>?_)
 go_simp
 refine (zlT s.fin _).mono ?_
 rw[show (if s.fin=true then (1:Int) else 0)=s.finI from rfl]
 rintro e w2 ⟨rfl,rfl⟩
 have KH:Ext (w.alloc (G #[B C s.idx,B C s.term,B C s.sum,B C s.lvl,I s.fin] 41)) w1.drew:=xD H1
 try (go_wp2_with fail)
 refine shK hK _ _ (zaa (hb.ext KH)) (fun _=>?_)
 refine tkN 11 ?_
 refine ar1 12 (fun K hK=>?_)
 go_simp
 have H0:Ext (w.alloc (G #[B C s.idx,B C s.term,B C s.sum,B C s.lvl,I s.fin] 41)) (w1.alloc (G #[B C s.idx,B C s.term,B C s.sum,B C s.lvl,B C s.finI] 3)).drew:=xD (xA H1 _)
 refine shK hK _ _ (zaa (hb.ext H0)) (fun _=>?_)
 refine ar1 13 (fun K hK=>?_)
 go_simp
 refine (zgo _ _ _ ((is5 w1 s.idx s.term s.sum s.lvl s.finI).ext (xD (xR _))) (by rw[←Hi.out];exact Hn.out) (by simp)).mono ?_
 rw[←Hi.out];rintro e w4 ⟨v,rfl,ho,KI⟩
 try (go_wp2_with fail)
 have K3:=xT H0 KI
 refine shK hK _ _ (zaa (hb.ext K3)) (fun _=>?_)
 refine tkN 14 ?_;refine tkN 15 ?_;refine tkN 16 ?_;refine tkN 17 ?_;refine wdD ?_;go_wp2_with fail
 go_ret2
 exact ⟨v,rfl,zaf ho (xT hX H0).size,xT hX K3⟩
theorem znf (v:Value) (t:List UInt8) (w:World) (ht:Bs w v t) (HD:t.length≤100000):Calls D 211 #[v] w (zhx w (zaH (0,0) t)):=by
 obtain ⟨A,c,rfl,h1,h2⟩:=xO ht;obtain ⟨i0,hi,Hm,Hp,Hq⟩:=info_parts zb0;have HT:=E ht;clear ht
 go_enter Tryz.func211,Tryz.ntmps211
 go_wp2_with fail
 go_loopw [3,4,5] (fun vo vz x W=>∃ (k:Nat) (Ao:Option Addr) (co:Nat) (out:List UInt8) (za zb:Nat) (z:Nat×Nat),k≤t.length+3∧x=B C k∧vo=N Ao out.length co∧vz=.complex .f64 za zb∧Hid (PtV (.complex .f64 za zb) z)∧Hid (out++zaH z (t.drop k)=zaH (0,0) t)∧out.length≤2*k∧Hid (OwnB W w.heap.size (N Ao out.length co) out)∧Ext w W) (fun _ _ x _=>t.length+4-(intOf x).toNat)
 case atStart=>exact ⟨0,none,0,[],0,0,(0,0),by omega,rfl,rfl,rfl,E PtV.zero,E (by simp),by simp,E (Po _ _ _ _),xR _⟩
 case round =>
  obtain ⟨k,Ao,co,out,za,zb,z,hk,rfl,rfl,rfl,HZ,HP,Gj,HO,Km⟩:=hrel
  by_cases hlt:k<t.length
  ·obtain ⟨_,b,Kx,rfl,_⟩:=Bs.at_ (HT.out.ext Km) (by omega)
   obtain ⟨m,hm⟩:∃ m,min (k+4) t.length=m:=⟨_,rfl⟩
   have Gf:min ((k:Int)+4) (t.length:Int)=(m:Int):=by omega
   have Gc:(k:Int)≤(m:Int):=by omega
   have Gd:(m:Int)≤(t.length:Int):=by omega
   have Ge:(m:Int)≤(c:Int):=by omega
   have Ga:¬ c=k:=by omega
   have Gb:(k:Int)<(t.length:Int):=by omega
   have Gl:Pq.wrap ((k:Int)+4)=(k:Int)+4:=by rw[Pp];omega
   obtain ⟨n,hn⟩:∃ n,m-k=n:=⟨_,rfl⟩;have H2:=Bs.take (Bs.cut HT.out k (by omega) rfl) n (by rw[P0];omega);obtain ⟨q,hq⟩:∃ q,(t.drop k).take n=q:=⟨_,rfl⟩
   have Jb:(t.drop k).take 4=q:=by
    rw[←hq]
    by_cases h4:n=4
    ·rw[h4]
    ·rw[P3 (by rw[P0];omega),P3 (by rw[P0];omega)]
   have Gk:q.length=n:=by rw[←hq,P1,P0];omega
   have Hg:out++(q++(zaT (zas z q)++zaH (zas z q) (t.drop (k+4))))=zaH (0,0) t:=by
    rw[←HP.out,zdv z (t.drop k) (by rw[P0];omega),Jb,P2]
   rw[hq] at H2;have HW:=E H2;have Hv:=E Hg;have J0:=E Km
   have Gg:1≤n:=by omega
   have Gi:n≤4:=by omega
   have J5:=HZ.out.pt;have Jp:=E J5;clear H2 Hg hq Jb HP Km J5;go_wp2_with fail
   all_goals first | rw[show ((k:Int)+4).toNat-k=n by omega] | rw[show t.length-k=n by omega]
   all_goals refine (zfE za zb _ _ _ (zjR (HW.out.ext J0.out))).mono ?_
   ·rintro e w2 ⟨vz,rfl,Kg,rfl⟩
    exact mcSnapRa0
   ·rintro e w2 ⟨vz,rfl,Kg,rfl⟩
    exact mcSnapRa0
  ·have HA:out=zaH (0,0) t:=by
    rw[←HP.out,P8 (by omega),zdM,Pa]
   have Kz:=HO.out;rw[HA] at Kz
   have K9:out.length=(zaH (0,0) t).length:=by rw[HA]
   have KA:=E Kz;have Jq:=E K9;clear Kz HA K9 HP HO;go_wp2_with fail;go_ret
   exact ⟨_,rfl,by rw[Jq.out];exact KA.out,Km⟩
theorem zlP (s:Sta) (f:Int) (w:World) (h:s.ok=false∨(f≠1∧f≠2)):Calls D 160 #[O #[B C s.idx,B C s.term,B C s.sum,B C s.lvl,I s.fin],B C f] w (zi0 w):=by
 have hX:Ext w (w.alloc (G #[B C s.idx,B C s.term,B C s.sum,B C s.lvl,I s.fin] 41)):=xA (xR _) _
 have H:=E h;clear h;obtain ⟨ok,Kd⟩:∃ x,s.ok=x:=⟨_,rfl⟩
 cases ok
 ·have Ho:=E Kd
  clear Kd
  go_enter Tryz.func160,Tryz.ntmps160
  go_wp2_with fail
  refine (zqy s _ Ho.out).mono ?_
  rintro e w1 ⟨rfl,H1⟩;go_wp2_with fail
  go_ret2
  exact ⟨rfl,xT hX H1⟩
 ·have Ho:=E Kd
  have Jw:=H.out.resolve_left (by rw[Kd];simp);obtain ⟨e1,e2⟩:=Jw
  have b1:(f != 1)=true:=by simpa using e1
  have b2:(f != 2)=true:=by simpa using e2
  clear Kd H
  go_enter Tryz.func160,Tryz.ntmps160
  go_wp2_with fail
  refine (ziZ s _ Ho.out).mono ?_
  rintro e w1 ⟨v,rfl,ho,H1⟩;go_wp2_with fail
  go_ret2
  exact ⟨rfl,xT hX H1⟩
theorem zsa (s:Sta) (w:World) (h:s.ok=true):Calls D 160 #[O #[B C s.idx,B C s.term,B C s.sum,B C s.lvl,I s.fin],B C 2] w (zoK w (zbb s)):=by
 obtain ⟨t,ht⟩:∃ t,zao s.ints=t:=⟨_,rfl⟩
 have K7:t.length≤25:=by subst ht;exact zcj s.ints
 have KC:=E h;have Ht:=E ht
 have Hl:Hid (t.length≤25):=K7
 obtain ⟨yn,KV⟩:∃ x,Pn ((t.length+3) / 4)=x:=⟨_,rfl⟩
 have Hy:Hid (wrap64 ((wrap64 ((t.length:Int)+3)).tdiv 4) % 256=(yn.toNat:Int)):=by
  have e1:wrap64 ((t.length:Int)+3)=((t.length+3:Nat):Int):=by unfold wrap64;omega
  have e2:((t.length+3:Nat):Int).tdiv 4=(((t.length+3) / 4:Nat):Int):=rfl
  have e3:wrap64 (((t.length+3) / 4:Nat):Int)=(((t.length+3) / 4:Nat):Int):=by unfold wrap64;omega
  rw[Hid,e1,e2,e3,←KV]
  simp
 have Js:Hid (zbb s=[2,yn]++zaH (0,0) t):=by rw[Hid,zbb,ht,KV];rfl
 clear h ht K7 KV
 have hX:Ext w (w.alloc (G #[B C s.idx,B C s.term,B C s.sum,B C s.lvl,I s.fin] 41)):=xA (xR _) _
 go_enter Tryz.func160,Tryz.ntmps160
 go_wp2_with fail
 refine (ziZ s _ KC.out).mono ?_
 rintro e w1 ⟨v,rfl,ho,H1⟩;rw[Ht.out] at ho;obtain ⟨Av,cv,rfl,-,-⟩:=xO (xW ho);go_wp2_with fail
 first | rw[Hy.out] | (trace_state;fail)
 have K0:Ext w w1:=xT hX H1
 have KP:=zaG w1 [bv 2,bv yn] 5 2 rfl (by simp[maxLen]) K0.size
 have KR:OwnB (w1.alloc (G #[bv 2,bv yn] 5)) w.heap.size (N (M ⟨w1.heap.size,0,F⟩) 2 2) [2,yn]:=KP
 refine (znf _ t _ (Bs.ext (xW ho) (xA (xR _) _)) (by have:=Hl.out;omega)).mono ?_
 rintro e w3 ⟨v3,rfl,HQ,Hc⟩
 have K5:Ext w w3:=xT (xA K0 _) Hc
 have Ks:=zeD (0,0) t
 have Kl:Hid ((zaH (0,0) t).length≤100):=by have:=Hl.out;rw[Hid];omega
 clear Ks
 go_wp2_with (
  refine zaX rfl (.tmp 32) (.tmp 34) rfl w.heap.size _ [2,yn] rfl (OwnB.ext KR Hc) _ (zaH (0,0) t) rfl (xW HQ) (by have:=Kl.out;simp;omega) K5.size ?_
  intro A4 c4 w4 Kb KL)
 go_ret2
 have KI:=KL w K5 (xN _)
 have e1:zbb s=[2,yn]++zaH (0,0) t:=Js.out
 have e2:(zbb s).length=([2,yn]:List UInt8).length+(zaH (0,0) t).length:=by rw[e1,xL]
 refine ⟨A4,c4,?_,?_,KI⟩
 ·rw[e2];rfl
 ·rw[e2,e1];exact Kb
theorem zr9 (s:Sta) (w:World) (h:s.ok=true):Calls D 160 #[O #[B C s.idx,B C s.term,B C s.sum,B C s.lvl,I s.fin],B C 1] w (zoK w (zfD s)):=by
 have KC:=E h
 have Hn:Hid (zau [s.idx,s.term,s.sum]=true):=by
  obtain ⟨h1,h2,h3,_⟩:=Sta.okP h
  exact by simp[Hid,zau,h1,h2,h3]
 obtain ⟨xl,Ki⟩:∃ x,Pn s.lvl.toNat=x:=⟨_,rfl⟩;obtain ⟨xf,KU⟩:∃ x,Pn s.finI.toNat=x:=⟨_,rfl⟩
 have Gm:Pr.wrap s.lvl=(xl.toNat:Int):=by subst Ki;rcases (Sta.okP h).2.2.2 with e | e <;> rw[e] <;> rfl
 have JO:s.finI=(xf.toNat:Int):=by subst KU;rcases s.finP with e | e <;> rw[e] <;> rfl
 have HJ:Hid (zfD s=zaY rT (1::(zbr [s.idx,s.term,s.sum]++[xl,xf]))):=by subst Ki;subst KU;rfl
 clear h Ki KU;obtain ⟨i0,hi,Hm,Hp,Hq⟩:=info_parts zb0;have hb:=Blk.new w 41 #[B C s.idx,B C s.term,B C s.sum,B C s.lvl,I s.fin]
 have hX:Ext w (w.alloc (G #[B C s.idx,B C s.term,B C s.sum,B C s.lvl,I s.fin] 41)):=xA (xR _) _
 go_enter Tryz.func160,Tryz.ntmps160
 go_wp2_with fail
 refine (ziZ s _ KC.out).mono ?_
 rintro e w1 ⟨v,rfl,ho,H1⟩;have HK:=hb.ext H1;obtain ⟨g0,g1,g2,g3,g4⟩:=zaa HK;have E1:=xT hX H1;clear ho;go_wp2_with fail
 refine (zpR _ _ _ (zvi w1 s.idx s.term s.sum) Hn.out (by simp)).mono ?_
 rintro e w2 ⟨v2,rfl,H4,H8⟩;obtain ⟨L,hL⟩:∃ L,zbr [s.idx,s.term,s.sum]=L:=⟨_,rfl⟩
 have Kn:L.length=15:=by rw[←hL];simp[zhV]
 rw[hL,Kn] at H4;have HL:=E hL;rw[hL] at HJ;have HU:=E Kn
 have J4:Bs w2 v2 L:=by unfold Bs;rw[Kn];exact xW H4
 have Jk:=E J4
 have K4:Ext w1 w2:=xT (xA (xR _) _) H8
 have Hw:=HK.ext K4;have HV:=E Hw;have J1:=E (xT E1 K4)
 have H3:w2.cell? ⟨w.heap.size,3,F⟩=M (B C s.lvl):=Hw.cell 3 rfl
 have Hz:w2.cell? ⟨w.heap.size,4,F⟩=M (I s.fin):=Hw.cell 4 rfl
 obtain ⟨A2,c2,rfl,-,-⟩:=xO (xW H4);clear g0 g1 g2 g3 g4 hL Kn J4 HK Hw hb H4 H8;go_wp2_with fail
 refine wp_region_held_drew (S:=fun W=>W.cell? ⟨w.heap.size,3,F⟩=M (B C s.lvl)∧W.cell? ⟨w.heap.size,4,F⟩=M (I s.fin)) (by kernel_rfl) ⟨H3,Hz⟩ (fun _=>?_)
 refine tkN 1 ?_;refine tkN 3 ?_;refine tkN 4 ?_;refine tkN 5 ?_;refine tkN 6 ?_;refine tkN 7 ?_
 refine ar1 0 (fun K hK=>?_)
 go_simp
 have X3:Ext w2 (w2.alloc (G #[B J 1] 5)).drew:=xD (xA (xR _) _)
 have Kf:(w2.alloc (G #[B J 1] 5)).drew.ownsRow w2.heap.size 5 1 (N (M ⟨w2.heap.size,0,F⟩) 1 1) 1 ([1].map bv):=zab (zaG w2 [B J 1] 5 1 rfl (by simp[maxLen]) (xN _)) (xD (xR _))
 refine shK hK _ _ ⟨X3.cell H3,X3.cell Hz⟩ (fun _=>?_)
 refine ar1 2 (fun K hK=>?_)
 refine zbv _ (.tmp 47) (.tmp 48) 33 (by rfl) w2.heap.size 5 i0 (B J 0) 1 1 Tryz.underlying33 hi Hm Hp Hq rfl (by decide) _ 1 ([1].map bv) (by rfl) Kf _ L.length (L.map bv) (by rfl) (Jk.out.ext X3) (zbI _) (by rw[HU.out];simp[maxLen]) (by rw[HU.out];omega) X3.size ?_
 intro v4 w4 Kb KL
 have X4:Ext w2 w4:=Pl X3 Kf KL
 refine shK hK _ _ ⟨X4.cell H3,X4.cell Hz⟩ (fun _=>?_)
 refine ar1 8 (fun K hK=>?_)
 go_simp
 refine (zlT s.fin _).mono ?_
 rw[show (if s.fin=true then (1:Int) else 0)=(xf.toNat:Int) from JO]
 rintro e w5 ⟨rfl,rfl⟩
 try (go_wp2_with fail)
 refine shK hK _ _ ⟨X4.cell H3,X4.cell Hz⟩ (fun _=>?_)
 refine ar1 9 (fun K hK=>?_)
 go_simp
 have X5:Ext w2 (w4.alloc (G #[bv xl,bv xf] 5)):=xA X4 _
 refine shK hK _ _ ⟨X5.cell H3,X5.cell Hz⟩ (fun _=>?_)
 refine ar1 10 (fun K hK=>?_)
 refine zbv _ (.tmp 49) (.tmp 56) 33 (by rfl) w2.heap.size 5 i0 (B J 0) 1 1 Tryz.underlying33 hi Hm Hp Hq rfl (by decide) _ (1+L.length) _ (by rfl) (zab Kb (xA (xR _) _)) _ 2 ([xl,xf].map bv) (by rfl) (bs2 w4 xl xf) (zbI _) (by rw[HU.out];simp[maxLen]) (by rw[HU.out];omega) X5.size ?_
 intro v6 w6 He HN
 have X6:Ext w2 w6:=Pl X5 (zab Kb (xA (xR _) _)) HN
 refine shK hK _ _ ⟨X6.cell H3,X6.cell Hz⟩ (fun _=>?_)
 have Hk:1+L.length+2=(1::(L++[xl,xf])).length:=by simp;omega
 have J6:Bs w6 v6 (1::(L++[xl,xf])):=by
  unfold Bs;rw[←Hk]
  have:=xW He
  simpa using this
 refine ar1 11 (fun K hK=>?_)
 go_simp
 refine (zhj _ _ _ J6 (by rw[←Hk,HU.out];omega)).mono ?_
 rintro e w7 ⟨A7,c7,rfl,J9,JA⟩
 try (go_wp2_with fail)
 have X7:=xT X6 JA
 refine shK hK _ _ ⟨X7.cell H3,X7.cell Hz⟩ (fun _=>?_)
 refine tkN 12 ?_;refine tkN 13 ?_;refine wdD ?_;have HE:=zaf J9 (xT J1.out X6).size;rw[←HJ.out] at HE
 have J8:(zaY rT (1::(L++[xl,xf]))).length=(zfD s).length:=by rw[HJ.out]
 rw[J8];have Jo:=E (xT J1.out X7);have Jm:=E HE;clear HE J9 J8 J6 Hk He Kb HJ;go_wp2_with fail
 go_ret2
 exact ⟨A7,c7,rfl,Jm.out,Jo.out⟩
theorem zlO (s:Sta) (f:Int) (w:World):Calls D 160 #[O #[B C s.idx,B C s.term,B C s.sum,B C s.lvl,I s.fin],B C f] w (zu9 w (zeu s f)):=by
 unfold zeu
 by_cases h:s.ok=true
 ·rw[if_pos h]
  by_cases h1:f=1
  ·subst h1;exact zr9 s w h
  ·rw[if_neg h1]
   by_cases h2:f=2
   ·subst h2;exact zsa s w h
   ·rw[if_neg h2];exact zlP s f w (.inr ⟨h1,h2⟩)
 ·rw[if_neg h];exact zlP s f w (.inl (by simpa using h))
theorem zh7 (b:List UInt8):(zah (b.take 5)).1=(zah b).1∧(zah (b.take 5)).2.1=(zah b).2.1:=by
 by_cases h:b.length<5
 ·rw[P3 (by omega)];exact ⟨rfl,rfl⟩
 ·unfold zah
  rw[P1,List.take_take,Nat.min_eq_left (by omega),Nat.min_self,if_neg (by omega),if_neg h]
  split <;> exact ⟨rfl,rfl⟩
theorem zfy (k:Nat) (acc:List Int) (b:List UInt8):zcT (k+1) acc b=if (zah b).1=0 then zcT k (acc++[((zah b).2.1:Int)]) (b.drop 5) else none:=by
 rw[zcT,(zh7 b).1,(zh7 b).2]
def zsb (w:World) (r:Option Sta) (e:Ending) (w':World):Prop:=e=.returned (.tuple #[O #[B C (r.getD staZ).idx,B C (r.getD staZ).term,B C (r.getD staZ).sum,B C (r.getD staZ).lvl,I (r.getD staZ).fin],I r.isSome])∧Ext w w'
def zgF (b:List UInt8):Option Sta:=(zhZ b).map zfa
theorem zeP (tmps:Array Value) (W:World) (b:Nat) (cs:Array Value) (u:Value) (h4:tmps.getD 2 undef=U (M ⟨b,0,F⟩)) (h5:tmps.getD 3 undef=u) (hb:Blk W b 41 cs) (hs:cs.size=5):(results Tryz.f158 tmps).run D W=.ok (.tuple #[.agg cs,u]) W:=by
 have hl:=hb.load (P:=D) zdx rfl (by rw[hs];kernel_rfl)
 have Jx:tmps[2]?.getD undef=U (M ⟨b,0,F⟩):=by simpa using h4
 have Jy:tmps[3]?.getD undef=u:=by simpa using h5
 simp[results,Tryz.results158,Jx,Jy,asAddr,hl]
theorem zpI (v:Value) (bs:List UInt8) (w:World) (hB:Bs w v bs) (hl:bs.length≤2000000):Calls D 158 #[v] w (zsb w (zgF bs)):=by
 obtain ⟨A,c,rfl,h1,h2⟩:=xO hB;have Ko:=Blk.new w 41 #[B C 0,B C 0,B C 0,B C 0,I false]
 have hX:Ext w (w.alloc (G #[B C 0,B C 0,B C 0,B C 0,I false] 41)):=xA (xR _) _
 obtain ⟨R,hR⟩:∃ R,zgF bs=R:=⟨_,rfl⟩;rw[hR];have Hd:=hR;unfold zgF zhZ at Hd
 by_cases h22:bs.length=22
 case neg =>
  rw[if_neg h22] at Hd
  obtain rfl:none=R:=Hd
  have JJ:((bs.length:Int) != 22)=true:=by simp;omega
  obtain ⟨g0,g1,g2,g3,g4⟩:=zaa Ko;obtain ⟨f0,f1,f2,f3,f4⟩:=zbJ Ko;clear hR hB
  go_enter Tryz.func158,Tryz.ntmps158
  go_wp2_with fail
  refine bodyPost_ret (zeP _ _ _ _ _ rfl rfl (Blk.new w 41 _) rfl) rfl ?_
  exact ⟨rfl,xA (xR _) _⟩
 rw[if_pos h22] at Hd;obtain ⟨_,b,Kx,rfl,JG⟩:=Bs.at_ hB (by omega);have HB:=E hB;have H2:=hB.cut 1 (by omega) rfl;obtain ⟨Q,hQ⟩:∃ Q,bs.drop 1=Q:=⟨_,rfl⟩;rw[hQ,zfy] at Hd;rw[hQ] at H2
 have G5:Q.length=21:=by rw[←hQ,P0];omega
 obtain ⟨l4,KK,JH⟩:∃ l4,Q.drop 15=bs.getD 16 0::bs.getD 17 0::l4∧l4.length=4:=by
  refine ⟨bs.drop 18,?_,by rw[P0];omega⟩
  rw[←hQ,P2,P6 (by omega:1+15<bs.length),P6 (by omega:1+15+1<bs.length),P5,P5,P7 (by omega),P7 (by omega)];rfl
 generalize bs.getD 16 0=y0 at *
 generalize bs.getD 17 0=y1 at *
 have H6:=fun (W:World) (hE:Ext w W)=>zbN _ Q W (H2.ext hE) (by omega)
 have HH:=fun (W:World) (u:Value) (h:Bs W u (Q.drop 5))=>zbN u _ W h (by rw[P0];omega)
 have HI:=fun (W:World) (u:Value) (h:Bs W u (Q.drop 10))=>zbN u _ W h (by rw[P0];omega)
 rw[zfy,zfy,P2] at Hd;obtain ⟨q1,Kt⟩:∃ q,zah Q=q:=⟨_,rfl⟩;obtain ⟨q2,Ku⟩:∃ q,zah (Q.drop 5)=q:=⟨_,rfl⟩;obtain ⟨q3,Kv⟩:∃ q,zah (Q.drop 10)=q:=⟨_,rfl⟩
 rw[Kt,Ku,show 5+5=10 from rfl,Kv] at Hd
 rw[Kt] at H6;rw[Ku] at HH;rw[Kv] at HI
 have Jc:q1.1=0→q1.2.2=Q.drop 5:=fun h=>by rw[←Kt] at h ⊢;exact zdT h
 have Jd:q2.1=0→q2.2.2=Q.drop 10:=fun h=>by rw[←Ku] at h ⊢;rw[zdT h,P2]
 have KT:q3.1=0→q3.2.2=Q.drop 15:=fun h=>by rw[←Kv] at h ⊢;rw[zdT h,P2]
 rw[KK] at KT
 generalize Q.drop 5=Q5 at *
 generalize Q.drop 10=Q10 at *
 have HR:=E Hd;have HY:=E H6;have KD:=E HH;have KE:=E HI;have J2:=E Jc;have Hu:=E Jd;have Hj:=E KT;have Hb:=E Ko;have HX:=E hX
 rw[h22] at H6 h1 ⊢
 have HY:=E H6;clear hR Hd hB H2 JG H6 HH HI Jc Jd KT Kt Ku Kv hQ hX Ko
 have JJ:((22:Int) != 22)=false:=rfl
 have JF:¬ c=1:=by omega
 go_enter Tryz.func158,Tryz.ntmps158
 go_wp2_with fail
 first | (with_reducible refine (HY.out _ (xA (xR _) _)).mono ?_) | (trace_state;fail)
 rintro e w1 ⟨v1,rfl,KO,H1⟩;have KX:=E (xT HX.out H1);have Kk:=E (Hb.out.ext H1)
 by_cases z1:q1.1=0
 case neg =>
  obtain rfl:none=R:=by rw[←HR.out,if_neg z1];rfl
  have JR:(q1.1 != 0)=true:=by simpa using z1
  obtain ⟨g0,g1,g2,g3,g4⟩:=zaa Kk.out;obtain ⟨f0,f1,f2,f3,f4⟩:=zbJ Kk.out;go_wp2_with fail
  refine bodyPost_ret (zeP _ _ _ _ _ rfl rfl (za2 Kk.out _ _ _ _ _) rfl) rfl ?_
  exact ⟨rfl,za3 KX.out (xN _) _ _ _ _ _⟩
 have H7:=HR.out;rw[if_pos z1] at H7;have HR:=E H7;rw[J2.out z1] at KO
 have HK:Bs w1 v1 Q5:=xW KO
 have Ji:=E HK
 have JR:(q1.1 != 0)=false:=by simpa using z1
 clear H7 KO HK J2 H1;go_wp2_with fail
 refine (KD.out _ _ Ji.out).mono ?_
 rintro e w2 ⟨v2,rfl,H4,H8⟩;have KY:=E (xT KX.out H8);have HV:=E (Kk.out.ext H8)
 by_cases z2:q2.1=0
 case neg =>
  obtain rfl:none=R:=by rw[←HR.out,if_neg z2];rfl
  have JS:(q2.1 != 0)=true:=by simpa using z2
  obtain ⟨g0,g1,g2,g3,g4⟩:=zaa HV.out;obtain ⟨f0,f1,f2,f3,f4⟩:=zbJ HV.out;go_wp2_with fail
  refine bodyPost_ret (zeP _ _ _ _ _ rfl rfl (za2 HV.out _ _ _ _ _) rfl) rfl ?_
  exact ⟨rfl,za3 KY.out (xN _) _ _ _ _ _⟩
 have H7:=HR.out;rw[if_pos z2] at H7;have HR:=E H7;rw[Hu.out z2] at H4
 have Hw:Bs w2 v2 Q10:=xW H4
 have Jj:=E Hw
 have JS:(q2.1 != 0)=false:=by simpa using z2
 clear H7 H4 Hw Hu H8;go_wp2_with fail
 refine (KE.out _ _ Jj.out).mono ?_
 rintro e w3 ⟨v3,rfl,HQ,Hc⟩;have KZ:=E (xT KY.out Hc);have Ha:=E (HV.out.ext Hc)
 by_cases z3:q3.1=0
 case neg =>
  obtain rfl:none=R:=by rw[←HR.out,if_neg z3];rfl
  have JT:(q3.1 != 0)=true:=by simpa using z3
  obtain ⟨g0,g1,g2,g3,g4⟩:=zaa Ha.out;obtain ⟨f0,f1,f2,f3,f4⟩:=zbJ Ha.out;go_wp2_with fail
  refine bodyPost_ret (zeP _ _ _ _ _ rfl rfl (za2 Ha.out _ _ _ _ _) rfl) rfl ?_
  exact ⟨rfl,za3 KZ.out (xN _) _ _ _ _ _⟩
 have H7:=HR.out;rw[if_pos z3,zcT] at H7;rw[Hj.out z3] at HQ;have Jl:=E HQ
 have hb3:Bs w3 v3 (y0::y1::l4):=xW HQ
 have JT:(q3.1 != 0)=false:=by simpa using z3
 obtain rfl:some ⟨(q1.2.1:Int),(q2.2.1:Int),(q3.2.1:Int),(y0.toNat:Int),(y1.toNat:Int)==1⟩=R:=H7
 obtain ⟨A3,c3,rfl,_,_⟩:=xO hb3;obtain ⟨_,b3,Hh,rfl,H3⟩:=Bs.at_ hb3 (by simp);have d0:=H3 0 (by simp);have d1:=H3 1 (by simp);simp only[List.getElem_cons_zero,List.getElem_cons_succ,Nat.add_zero] at d0 d1
 have K8:(y0::y1::l4).length=6:=by simp[JH]
 rw[K8];have JK:=Ha.out.not_row (by decide) Jl.out
 have JP:Pq.wrap (y0.toNat:Int)=(y0.toNat:Int):=by have:=y0.toNat_lt;rw[Pp];omega
 clear HR HQ hb3 Hj Hc H3;go_wp2_with fail;obtain ⟨f0,f1,f2,f3,f4⟩:=zbJ (Ha.out.ext (xD (xR _)));obtain ⟨g0,g1,g2,g3,g4⟩:=zaa (Ha.out.ext (xD (xR _)));obtain ⟨JV,JW,JX,JY,JZ⟩:=zbJ Ha.out;obtain ⟨G0,G1,G2,G3,G4⟩:=zaa Ha.out
 refine wp_region_held_drew (S:=fun W=>W.cell? ⟨b3,Hh,F⟩=M (B J (y0.toNat:Int))∧W.cell? ⟨b3,Hh+1,F⟩=M (B J (y1.toNat:Int))) (by kernel_rfl) ⟨d0,d1⟩ (fun _=>?_)
 refine tkN 0 ?_;refine tkN 1 ?_;refine tkN 2 ?_;refine tkN 3 ?_;refine tkN 4 ?_;refine tkN 5 ?_;refine tkN 6 ?_;refine tkN 7 ?_;refine tkN 8 ?_;refine tkN 9 ?_;refine tkN 10 ?_;refine tkN 11 ?_
 refine ar1 12 (fun K hK=>?_)
 go_simp
 have Ka:w.heap.size≠b3:=fun e=>JK (by rw[e];rfl)
 have k0:(((((w3.setCell ⟨w.heap.size,0,F⟩ (B C (q1.2.1:Int))).setCell ⟨w.heap.size,1,F⟩ (B C (q2.2.1:Int))).setCell ⟨w.heap.size,2,F⟩ (B C (q3.2.1:Int))).setCell ⟨w.heap.size,3,F⟩ (B C (y0.toNat:Int))).setCell ⟨w.heap.size,4,F⟩ (I ((y1.toNat:Int)==1))).drew.cell? ⟨b3,Hh,F⟩=M (B J (y0.toNat:Int)):=Pm (xD (xR _)) (zhH (W:=w3) d0 Ka _ _ _ _ _)
 have k1:(((((w3.setCell ⟨w.heap.size,0,F⟩ (B C (q1.2.1:Int))).setCell ⟨w.heap.size,1,F⟩ (B C (q2.2.1:Int))).setCell ⟨w.heap.size,2,F⟩ (B C (q3.2.1:Int))).setCell ⟨w.heap.size,3,F⟩ (B C (y0.toNat:Int))).setCell ⟨w.heap.size,4,F⟩ (I ((y1.toNat:Int)==1))).drew.cell? ⟨b3,Hh+1,F⟩=M (B J (y1.toNat:Int)):=Pm (xD (xR _)) (zhH (W:=w3) d1 Ka _ _ _ _ _)
 have Kp:Blk (((((w3.setCell ⟨w.heap.size,0,F⟩ (B C (q1.2.1:Int))).setCell ⟨w.heap.size,1,F⟩ (B C (q2.2.1:Int))).setCell ⟨w.heap.size,2,F⟩ (B C (q3.2.1:Int))).setCell ⟨w.heap.size,3,F⟩ (B C (y0.toNat:Int))).setCell ⟨w.heap.size,4,F⟩ (I ((y1.toNat:Int)==1))).drew w.heap.size 41 #[B C (q1.2.1:Int),B C (q2.2.1:Int),B C (q3.2.1:Int),B C (y0.toNat:Int),I ((y1.toNat:Int)==1)]:=(za2 Ha.out _ _ _ _ _).ext (xD (xR _))
 have KJ:Ext w (((((w3.setCell ⟨w.heap.size,0,F⟩ (B C (q1.2.1:Int))).setCell ⟨w.heap.size,1,F⟩ (B C (q2.2.1:Int))).setCell ⟨w.heap.size,2,F⟩ (B C (q3.2.1:Int))).setCell ⟨w.heap.size,3,F⟩ (B C (y0.toNat:Int))).setCell ⟨w.heap.size,4,F⟩ (I ((y1.toNat:Int)==1))).drew:=xD (za3 KZ.out (xN _) _ _ _ _ _)
 first | (with_reducible refine hK.out _ _ ⟨k0,k1⟩ (fun _=>?_)) | (trace_state;fail)
 clear hK K
 try simp only[Act.put,sA,sZ,sS]
 refine tkN 13 ?_;refine wdD ?_;go_wp2_with fail
 refine bodyPost_ret (zeP _ _ _ _ _ rfl rfl Kp rfl) rfl ?_
 exact ⟨rfl,KJ⟩
end Go.Proofs.YteggfecbjgbndaaGreatDoor
