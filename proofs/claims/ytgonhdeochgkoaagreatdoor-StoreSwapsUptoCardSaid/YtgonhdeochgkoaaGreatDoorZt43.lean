/- Merged: Mem Num RefShort Rcrc Man1 Man2 Man3 -/
import Derived.Test.YtgonhdeochgkoaaGreatDoorZt17
set_option linter.all false
set_option maxHeartbeats 8000000
set_option maxRecDepth 100000
namespace Go.Mv
open Go.RowKit
section
variable {w w':World} {size:Nat} {v:Value} {n:Nat} {xs:List Value}
end
theorem zmI {B:Nat} {a w:World} (h:Below B a w) (n:Nat):Below B a (w.drewN n):=⟨h.os,h.tape,h.output,h.size,h.block⟩
end Go.Mv

namespace Go.Proofs.YtgonhdeochgkoaaGreatDoor
open Go.RowKit Go.Mv
theorem zij {l:List Int} {k:Nat} (hlt:k<l.length) (h:zaJ l[k]=false):zaA l=false:=by
 simp only[zaA,List.all_eq_false]
 exact ⟨l[k],List.getElem_mem hlt,by simp[h]⟩
theorem zn1 {l:List Int} {k:Nat} (hlt:k<l.length) (h:zaA (l.take k)=true):zaA (l.take (k+1))=zaJ l[k]:=by
 rw[List.take_succ_eq_append_getElem hlt]
 simp only[zaA,List.all_append] at h ⊢
 rw[h];simp
theorem zsn (v:Value) (l:List Int) (w:World) (h:Is w v l) :
  Calls Tryz.prog 97 #[v] w fun e w'=>e=.returned (.bool (zaA l))∧w=w':=by
 obtain ⟨A,c,rfl,h1,h2⟩:=SlR.open_ h;have hm:=SlR.len_le h;unfold maxLen at hm
 go_enter Tryz.func97,Tryz.ntmps97
 go_wp2_with fail
 go_loop [3] (fun i=>∃ k:Nat,k≤l.length∧i=.int .i64 k∧Hid (zaA (l.take k)=true)) (fun i=>l.length-(intOf i).toNat)
 case atStart=>exact ⟨0,Nat.zero_le _,rfl,rfl⟩
 case round =>
  obtain ⟨k,hk,rfl,Hb⟩:=hrel
  by_cases hlt:k<l.length
  ·obtain ⟨_,b,off,rfl,hc⟩:=Is.at_ h (by omega)
   have hc0:=hc k hlt;clear hc
   by_cases h0:l[k]<0
   ·go_wp2_with fail
    go_ret
    exact ⟨ret_bool (zij hlt (by simp[zaJ];omega)).symm,rfl⟩
   ·by_cases h1:1073741824<l[k]
    ·go_wp2_with fail
     go_ret
     exact ⟨ret_bool (zij hlt (by simp[zaJ];omega)).symm,rfl⟩
    ·go_wp2_with fail
     go_round
     case rel=>exact ⟨k+1,by omega,by go_num,(zn1 hlt Hb.out).trans (by simp[zaJ];omega)⟩
     case measure=>simp[intOf];omega
  ·go_wp2_with fail
   go_ret
   refine ⟨ret_bool ?_,rfl⟩
   have:=Hb.out
   rw[List.take_of_length_le (by omega)] at this
   exact this.symm
set_option maxRecDepth 100000 in
theorem zoK (v:Value) (l:List Int) (w:World) (h:Is w v l) (hn:zaA l=true) (hl:l.length≤2000000):Calls Tryz.prog 54 #[v] w (ziW w l):=by
 obtain ⟨A,c,rfl,h1,h2⟩:=SlR.open_ h;obtain ⟨i0,hi,hz0,hz1,hz2⟩:=info_parts zcA;have Hn:=zhd hn
 go_enter Tryz.func54,Tryz.ntmps54
 go_wp2_with (go_at_call 97;refine (zsn _ _ _ h).mono ?_;rintro e w' ⟨rfl,rfl⟩)
 clear hn
 go_loopw [4,5] (fun vb i wr=>∃ k:Nat,k≤l.length∧i=.int .i64 k∧wr.ownsRow w.heap.size 5 1 vb (zal (l.take k)).length ((zal (l.take k)).map bv)∧Ext w wr) (fun _ i _=>l.length-(intOf i).toNat)
 case atStart=>exact ⟨0,Nat.zero_le _,rfl,World.ownsRow_nil _ _ _ _,Ext.refl _⟩
 case round =>
  obtain ⟨k,hk,rfl,hown,hB⟩:=hrel
  by_cases hlt:k<l.length
  ·obtain ⟨_,b,off,rfl,hc⟩:=Is.at_ (h.ext hB) (by omega)
   have hc0:=hc k hlt;clear hc;obtain ⟨hn0,hn1⟩:=zhG Hn.out hlt;obtain ⟨N,hN⟩:=Int.eq_ofNat_of_zero_le hn0;rw[hN] at hc0 hn1;have HN:=zhd hN;clear hN hn0;have hsl:=zcx (l.take k)
   have htl:(l.take k).length≤k:=List.length_take_le _ _
   have hbl:b<wr.heap.size:=World.block_lt_of_cell? wr _ hc0
   have hs1:zbQ N=hiB 5 (N / 128)++[UInt8.ofNat (N % 128)]:=ziK N (by omega)
   have Hs1:=zhd hs1;clear hs1;go_wp2_with fail;obtain ⟨wo,rfl⟩:∃ wo:World,wo=wr:=⟨_,rfl⟩
   go_loopw [6,7] (fun ds m wr2=>∃ (f mm:Nat) (suf:List UInt8),mm<128^f∧f≤5∧mm≤1073741824∧m=.int .i64 mm∧suf.length+f=6∧Hid (zbQ N=hiB f mm++suf)∧wr2.ownsRow wo.heap.size 5 1 ds suf.length (suf.map bv)∧Ext wo wr2) (fun _ m _=>(intOf m).toNat)
   case atStart =>
    refine ⟨5,N / 128,[UInt8.ofNat (N % 128)],by omega,by omega,by omega,by simp,rfl,Hs1.out,?_,(Ext.refl _).alloc _⟩
    have h:=zbj wo [.int .u8 ((N:Int) % 128)] 5 1 rfl (by simp[maxLen]) (Nat.le_refl _)
    have hm:List.map bv [UInt8.ofNat (N % 128)]=[.int .u8 ((N:Int) % 128)]:=by simp[bv];omega
    rw[hm];exact h
   case round =>
    obtain ⟨f,mm,suf,hmf,hf5,hmb,rfl,hsf,Hd,hds,hB2⟩:=hrel;obtain ⟨g,cap,rfl,hbg,hle1,hle2⟩:=zdp hds (by omega)
    by_cases hmm:mm=0
    ·subst hmm
     rw[zeU,List.nil_append] at Hd
     go_wp2_with (at_builtin;refine wpList_append_own _ rfl (.tmp 40) (.tmp 41) 38 rfl w.heap.size 5 i0 (.int .u8 0) 1 1 Tryz.underlying38 hi hz0 hz1 hz2 rfl (by decide) _ _ _ rfl (zag hown hB2) ⟨g,0,none⟩ suf.length cap (suf.map bv) rfl (by simp) (hds.cells rfl) (zdI _) (by simp[maxLen];omega) (by omega) (by have:=hB.size;have:=hB2.size;omega) ?_;intro v' w1 hown' hgrow _)
     go_roundw
     case rel =>
      refine ⟨k+1,by omega,by go_num,?_,Ext.grownOwn (Ext.trans hB hB2) (zag hown hB2) hgrow⟩
      have hN:=HN.out;rw[zjB hlt,hN,Int.toNat_natCast,Hd.out]
      simpa using hown'
     case measure=>simp[intOf];omega
    ·obtain ⟨f',rfl⟩:∃ f',f=f'+1:=⟨f-1,by cases f with | zero=>simp at hmf;omega | succ f=>omega⟩
     have hd2:zbQ N=hiB f' (mm / 128)++(UInt8.ofNat (mm % 128+128)::suf):=by
      have:=Hd.out
      rw[hiB,if_neg hmm] at this
      simpa using this
     have Hd2:=zhd hd2
     have hmf':mm / 128<128^f':=by
      rw[Nat.div_lt_iff_lt_mul (by decide)]
      rw[Nat.pow_succ] at hmf;exact hmf
     have Hmf:=zhd hmf';clear hd2 hmf'
     go_wp2_with (at_builtin;refine wpList_append_own _ rfl (.tmp 37) (.tmp 38) 38 rfl wo.heap.size 5 i0 (.int .u8 0) 1 1 Tryz.underlying38 hi hz0 hz1 hz2 rfl (by decide) (.slice (some ⟨wr.heap.size,0,none⟩) 1 1) 1 [.int .u8 ((mm:Int) % 128+128)] rfl (zbj wr [.int .u8 ((mm:Int) % 128+128)] 5 1 rfl (by simp[maxLen]) hB2.size) ⟨g,0,none⟩ suf.length cap (suf.map bv) rfl (by simp) ((hds.alloc _).cells rfl) (zdI _) (by simp[maxLen];omega) (by omega) (by have:=hB.size;have:=hB2.size;simp;omega) ?_;intro v' w1 hown' hgrow _)
     go_roundw
     case rel =>
      refine ⟨f',mm / 128,UInt8.ofNat (mm % 128+128)::suf,Hmf.out,by omega,by omega,by simp,by simp;omega,Hd2.out,?_,?_⟩
      ·have e:List.map bv (UInt8.ofNat (mm % 128+128)::suf)=[.int .u8 ((mm:Int) % 128+128)]++suf.map bv:=by simp[bv];omega
       rw[e]
       simpa [Nat.add_comm] using hown'
      ·refine (Below.grown (Ext.alloc hB2 _) hgrow (by have:=hB2.size;simp;omega) (fun k ek=>?_))
       have:wr.heap.size=k:=by simpa [Value.ownBlock] using ek
       have:=hB2.size;omega
     case measure=>simp[intOf];omega
  ·have hk':l.take k=l:=List.take_of_length_le (by omega)
   rw[hk'] at hown;clear hk';go_wp2_with fail
   go_ret2
   exact ⟨_,rfl,hown,hB⟩
end Go.Proofs.YtgonhdeochgkoaaGreatDoor

namespace Go.Mv
open Go.RowKit
end Go.Mv
namespace Go.Proofs.YtgonhdeochgkoaaGreatDoor
open Go.RowKit Go.Mv
def zbK (x:Nat):Nat:=if x % 2=1 then (x / 2) ^^^ 2197175160 else x / 2
theorem zuk (a b:Nat):(a ^^^ b) / 2=(a / 2) ^^^ (b / 2):=by
 have:=Nat.shiftRight_xor_distrib (a:=a) (b:=b) (i:=1)
 simpa [Nat.shiftRight_eq_div_pow] using this
theorem zma (a b:Nat):(a ^^^ b) / 16=(a / 16) ^^^ (b / 16):=by
 have:=Nat.shiftRight_xor_distrib (a:=a) (b:=b) (i:=4)
 simpa [Nat.shiftRight_eq_div_pow] using this
theorem zul (a b:Nat):(a ^^^ b) % 2=(a % 2) ^^^ (b % 2):=Nat.xor_mod_two_pow (n:=1)
theorem zvt (a b:Nat):(a ^^^ b) % 16=(a % 16) ^^^ (b % 16):=Nat.xor_mod_two_pow (n:=4)
theorem zgn (a b:Nat):zbK (a ^^^ b)=zbK a ^^^ zbK b:=by
 unfold zbK;rw[zul,zuk]
 have ha:a % 2=0∨a % 2=1:=by omega
 have hb:b % 2=0∨b % 2=1:=by omega
 rcases ha with ha | ha <;> rcases hb with hb | hb <;> rw[ha,hb] <;> simp
 ·rw[Nat.xor_assoc]
 ·rw[Nat.xor_assoc,Nat.xor_assoc,Nat.xor_comm (b / 2)]
 ·rw[Nat.xor_assoc,←Nat.xor_assoc 2197175160,Nat.xor_comm 2197175160 (b / 2),Nat.xor_assoc,Nat.xor_self,Nat.xor_zero]
theorem zfK (q:Nat):zbK (2*q)=q:=by
 unfold zbK;rw[if_neg (by omega)];omega
theorem zsV (x:Nat):x=(16*(x / 16)) ^^^ (x % 16):=by
 have h1:((16*(x / 16)) ^^^ (x % 16)) / 16=x / 16:=by
  rw[zma,show x % 16 / 16=0 from by omega,Nat.xor_zero];omega
 have h2:((16*(x / 16)) ^^^ (x % 16)) % 16=x % 16:=by
  rw[zvt,show 16*(x / 16) % 16=0 from by omega,Nat.zero_xor];omega
 omega
theorem zwb (x:Nat):zbK (zbK (zbK (zbK x)))=crcTab.getD (x % 16) 0 ^^^ (x / 16):=by
 have key:∀ r,r<16→zbK (zbK (zbK (zbK r)))=crcTab.getD r 0:=by decide
 conv=>lhs;rw[zsV x]
 rw[zgn,zgn,zgn,zgn,key _ (Nat.mod_lt _ (by decide)),show 16*(x / 16)=2*(2*(2*(2*(x / 16)))) from by omega,zfK,zfK,zfK,zfK,Nat.xor_comm]
theorem zpY (s h:Nat) (hh:h<16):zbK (zbK (zbK (zbK (s ^^^ h))))=zb4 rT s h:=by
 rw[zwb,zma,show h / 16=0 from by omega,Nat.xor_zero]
 rfl
theorem ztE {x:Nat} (h:x<4294967296):zbK x<4294967296:=by
 unfold zbK
 split
 ·have:(x / 2) ^^^ 2197175160<2^32:=Nat.xor_lt_two_pow (by omega) (by omega)
  simpa using this
 ·omega
def zkK:Nat→Nat→Nat
 | 0,x=>x
 | k+1,x=>zbK (zkK k x)
theorem zjv (s h:Nat) (hs:s<4294967296) (hh:h<16) (w:World):Calls Tryz.prog 166 #[.int .u32 s,.int .u8 h] w fun e w'=>e=.returned (.int .u32 (zb4 rT s h))∧w=w':=by
 have hx:=zdB s h hs (by omega)
 have hxl:s ^^^ h<2^32:=Nat.xor_lt_two_pow (by omega) (by omega)
 have hst:=zpY s h hh;obtain ⟨x,hx0⟩:∃ x,s ^^^ h=x:=⟨_,rfl⟩;rw[hx0] at hx hxl hst
 have hmod:(h:Int) % 16=(h:Int):=by omega
 have Hst:Hid (zkK 4 x=zb4 rT s h):=hst
 clear hst hx0
 go_enter Tryz.func166,Tryz.ntmps166
 go_wp2_with fail
 go_loopw [0,5,6] (fun a i o wr=>∃ k y:Nat,k≤4∧a=.int .u32 y∧i=.int .i64 k∧Hid (zkK k x=y)∧y<4294967296∧w=wr) (fun _ i _ _=>4-(intOf i).toNat)
 case atStart=>exact ⟨0,x,by omega,rfl,rfl,rfl,by omega,rfl⟩
 case round =>
  obtain ⟨k,y,hk,rfl,rfl,Hy,hyl,rfl⟩:=hrel
  by_cases hlt:k<4
  ·by_cases ho:y % 2=1
   ·have h1:((y:Int) % 2==1)=true:=by simp;omega
    have h1':(y:Int) % 2=1:=by omega
    have hxx:bits .xor .u32 ((y:Int) / 2) 2197175160=(((y / 2) ^^^ 2197175160:Nat):Int):=by simpa using zdB (y / 2) 2197175160 (by omega) (by decide)
    have hn:zbK y=(y / 2) ^^^ 2197175160:=by unfold zbK;rw[if_pos ho]
    have hnl:=ztE hyl;rw[hn] at hnl;have Hn:=zhd hn
    generalize (y / 2) ^^^ 2197175160=z at *
    clear hn ho;go_wp2_with fail
    go_roundw
    case rel=>exact ⟨k+1,z,by omega,rfl,by go_num,by show zbK (zkK k x)=z;rw[Hy.out];exact Hn.out,hnl,trivial⟩
    case measure=>simp[intOf];omega
   ·have h1:((y:Int) % 2==1)=false:=by simp;omega
    have h1':(y:Int) % 2=0:=by omega
    have hn:zbK y=y / 2:=by unfold zbK;rw[if_neg ho]
    have Hn:=zhd hn;clear hn ho;go_wp2_with fail
    go_roundw
    case rel=>exact ⟨k+1,y / 2,by omega,by go_num,by go_num,by show zbK (zkK k x)=y / 2;rw[Hy.out];exact Hn.out,by omega,trivial⟩
    case measure=>simp[intOf];omega
  ·obtain rfl:k=4:=by omega
   go_wp2_with fail;go_ret
   exact ⟨by rw[←Hst.out,Hy.out];rfl,rfl⟩
theorem zqd {T:Tab} (s:Nat) (a:List UInt8) (b:UInt8):zhF T s (a++[b])=zb4 T (zb4 T (zhF T s a) (b.toNat % 16)) (b.toNat / 16):=by
 have hb:=b.toNat_lt
 have e1:(UInt8.ofNat (b.toNat % 16)).toNat=b.toNat % 16:=by simp;omega
 have e2:(UInt8.ofNat (b.toNat / 16)).toNat=b.toNat / 16:=by simp;omega
 unfold zhF zaP;rw[List.flatMap_append,List.foldl_append,List.flatMap_cons,List.flatMap_nil,List.append_nil,List.foldl_cons,List.foldl_cons,List.foldl_nil,e1,e2]
theorem znt (s:Nat) (hs:s<4294967296) (v:Value) (bs:List UInt8) (w:World) (h:Bs w v bs) (hlen:bs.length≤2000000) :
  Calls Tryz.prog 137 #[.int .u32 s,v] w fun e w'=>e=.returned (.int .u32 (zcq rT s bs))∧Ext w w':=by
 obtain ⟨A,c,rfl,h1,h2⟩:=SlR.open_ h;have HP:=zhd h;clear h;have hn:=zi1 s hs;have hnl:=zfN s hs;unfold zcq
 generalize 4294967295 ^^^ s=s0 at *
 go_enter Tryz.func137,Tryz.ntmps137
 go_wp2_with fail
 go_loopw [0,5] (fun a i wr=>∃ k y:Nat,k≤bs.length∧a=.int .u32 y∧i=.int .i64 k∧Hid (zhF rT s0 (bs.take k)=y)∧y<4294967296∧Ext w wr) (fun _ i _=>bs.length-(intOf i).toNat)
 case atStart=>exact ⟨0,s0,by omega,rfl,rfl,rfl,hnl,Ext.refl _⟩
 case round =>
  obtain ⟨k,y,hk,rfl,rfl,Hy,hyl,hE⟩:=hrel
  by_cases hlt:k<bs.length
  ·obtain ⟨_,b,off,rfl,hc⟩:=Bs.at_ (HP.out.ext hE) (by omega)
   have hc0:=hc k hlt;have hq:=bs[k].toNat_lt
   have hst:zhF rT s0 (bs.take (k+1))=zb4 rT (zb4 rT y (bs[k].toNat % 16)) (bs[k].toNat / 16):=by
    rw[List.take_succ_eq_append_getElem hlt,zqd,Hy.out]
   have Hst:=zhd hst;clear hc hst
   generalize bs[k].toNat=q at *
   have hl1:=zkd (T:=rT) (q % 16) hyl;have hl2:=zkd (T:=rT) (q / 16) hl1
   have k1:=fun W=>zjv y (q % 16) hyl (by omega) W
   have k2:=fun W=>zjv (zb4 rT y (q % 16)) (q / 16) hl1 (by omega) W
   obtain ⟨y1,hy1⟩:∃ y1,zb4 rT y (q % 16)=y1:=⟨_,rfl⟩;rw[hy1] at k1 k2 hl2 Hst;obtain ⟨y2,hy2⟩:∃ y2,zb4 rT y1 (q / 16)=y2:=⟨_,rfl⟩;rw[hy2] at k2 hl2 Hst
   have e1:(q:Int).tmod 16=((q % 16:Nat):Int):=by rw[Int.tmod_eq_emod_of_nonneg (by omega)];omega
   have e2:IntKind.u8.wrap ((q:Int) / 16)=((q / 16:Nat):Int):=by rw[IntKind.wrap_u8];omega
   have e3:(q:Int).tdiv 16=((q / 16:Nat):Int):=by rw[Int.tdiv_eq_ediv_of_nonneg (by omega)];omega
   have e4:IntKind.u8.wrap ((q / 16:Nat):Int)=((q / 16:Nat):Int):=by rw[IntKind.wrap_u8];omega
   generalize q % 16=q0 at *
   generalize q / 16=q1 at *
   have K1:=zhd k1;have K2:=zhd k2;clear k1 k2 hy1 hy2 hl1;go_wp2_with fail
   go_region_held3 (fun w'=>w'.cell? ⟨b,off+k,none⟩=some (.int .u8 q)) (first | go_keep | assumption)
    (first
      | (go_at_call 166;with_reducible refine (K1.out _).mono ?_;rintro e w2 ⟨rfl,rfl⟩)
      | (go_at_call 166;with_reducible refine (K2.out _).mono ?_;rintro e w3 ⟨rfl,rfl⟩))
   go_wp2_with fail
   go_roundw
   case rel=>exact ⟨k+1,y2,by omega,rfl,by go_num,Hst.out,hl2,Ext.drew hE⟩
   case measure=>simp[intOf];omega
  ·obtain rfl:k=bs.length:=by omega
   have hy2:=Hy.out;rw[List.take_length] at hy2;have Hy2:=zhd hy2;have hn2:=zi1 y hyl;clear hy2 Hy;go_wp2_with fail;go_ret
   exact ⟨by rw[Hy2.out];rfl,hE⟩
theorem zqo (p:Nat) (A:Option Addr) (c:Nat) (bs:List UInt8) (w:World) (hc:w.cell? ⟨p,0,none⟩=some (.slice A bs.length c)) (h:Bs w (.slice A bs.length c) bs) (hlen:bs.length≤2000000) :
  Calls Tryz.prog 99 #[.slice (some ⟨p,0,none⟩) 1 1] w fun e w'=>e=.returned (.int .u32 (zcq rT 0 bs))∧Ext w w':=by
 have HP:=zhd h;clear h
 go_enter Tryz.func99,Tryz.ntmps99
 go_wp2_with fail
 go_loopw [3,4] (fun s i wr=>∃ k sn:Nat,k≤1∧s=.int .u32 sn∧i=.int .i64 k∧Hid (sn=if k=0 then 0 else zcq rT 0 bs)∧Ext w wr) (fun _ i _=>1-(intOf i).toNat)
 case atStart=>exact ⟨0,0,by omega,rfl,rfl,rfl,Ext.refl _⟩
 case round =>
  obtain ⟨k,sn,hk,rfl,rfl,Hs,hE⟩:=hrel;have hc':=hE.cell hc
  by_cases hlt:k<1
  ·obtain rfl:k=0:=by omega
   obtain rfl:sn=0:=Hs.out
   go_wp2_with (go_at_call 137;refine (znt 0 (by decide) _ bs wr (HP.out.ext hE) hlen).mono ?_;rintro e w1 ⟨rfl,hE1⟩)
   go_roundw
   case rel=>exact ⟨1,zcq rT 0 bs,by omega,rfl,rfl,rfl,Ext.trans hE hE1⟩
   case measure=>simp[intOf]
  ·obtain rfl:k=1:=by omega
   obtain rfl:sn=zcq rT 0 bs:=Hs.out
   go_wp2_with fail;go_ret
   exact ⟨rfl,hE⟩
theorem zns (s:Nat) (hs:s<4294967296) (w:World):Calls Tryz.prog 98 #[.int .u32 s] w fun e w'=>e=.returned (.agg ((zdh s).map bv).toArray)∧Ext w w':=by
 go_enter Tryz.func98,Tryz.ntmps98
 go_wp2_with fail
 refine bodyPost_ret (results_cell_row rfl _ _ _ 140 _ _ _ rfl (heap_alloc_new _ _) Tryz.underlying140 rfl (by kernel_rfl)) rfl ⟨?_,Ext.alloc (Ext.refl _) _⟩
 congr 3
 simp[zdh,bv]
 omega
theorem zqn (v:Value) (bs:List UInt8) (w:World) (h:Bs w v bs) (hl:bs.length≤2000000):Calls Tryz.prog 55 #[v] w fun e w'=>∃ A c,e=.returned (.slice A (zaK rT bs).length c)∧OwnB w' w.heap.size (.slice A (zaK rT bs).length c) (zaK rT bs)∧Ext w w':=by
 obtain ⟨A,c,rfl,h1,h2⟩:=SlR.open_ h;have HB:=zhd h;have hsl:=zhD (T:=rT) 0 bs (by decide);obtain ⟨sm,hsm⟩:∃ sm,zcq rT 0 bs=sm:=⟨_,rfl⟩;rw[hsm] at hsl
 have hps:zaK rT bs=bs++zdh sm:=by unfold zaK;rw[hsm]
 have Hps:=zhd hps;have Hsm:=zhd hsm;obtain ⟨i0,hi,hz0,hz1,hz2⟩:=info_parts zcA;obtain ⟨f0,f1,f2,f3,hf⟩:∃ f0 f1 f2 f3:UInt8,zdh sm=[f0,f1,f2,f3]:=⟨_,_,_,_,rfl⟩;have Hf:=zhd hf;clear h hps hsm hf
 go_enter Tryz.func55,Tryz.ntmps55
 go_wp2_with fail
 have hE0:Ext w (w.alloc (.cells #[.slice A bs.length c] 38)):=Ext.alloc (Ext.refl _) _
 refine (zqo w.heap.size A c bs _ (Boxed.new w _ _).cell (HB.out.ext hE0) (by omega)).mono ?_
 rw[Hsm.out];rintro e w1 ⟨rfl,hE1⟩;go_wp2_with fail
 refine (zns sm hsl _).mono ?_
 rw[Hf.out];rintro e w2 ⟨rfl,hE2⟩;simp only[List.map_cons,List.map_nil,bv];go_wp2_with fail
 have hE03:Ext w (w2.alloc (.cells #[.int .u8 (f0.toNat:Int),.int .u8 (f1.toNat:Int),.int .u8 (f2.toNat:Int),.int .u8 (f3.toNat:Int)] 140)):=Ext.alloc (Ext.trans hE0 (Ext.trans hE1 hE2)) _
 have hb3:Blk (w2.alloc (.cells #[.int .u8 (f0.toNat:Int),.int .u8 (f1.toNat:Int),.int .u8 (f2.toNat:Int),.int .u8 (f3.toNat:Int)] 140)) w2.heap.size 140 ([f0,f1,f2,f3].map bv).toArray:=Blk.new w2 _ _
 have h4:Bs (w2.alloc (.cells #[.int .u8 (f0.toNat:Int),.int .u8 (f1.toNat:Int),.int .u8 (f2.toNat:Int),.int .u8 (f3.toNat:Int)] 140)) (.slice (some ⟨w2.heap.size,0,none⟩) 4 4) [f0,f1,f2,f3]:=zdC hb3 rfl (by simp[maxLen])
 refine wp_region_held_drew (S:=fun _=>True) (by kernel_rfl) trivial (fun _=>?_)
 refine tkN 1 rfl ?_;refine tkN 3 rfl ?_
 refine ar1 0 rfl (fun K hK=>?_)
 go_simp
 refine shK hK _ _ trivial (fun _=>?_)
 have hs3:(w2.alloc (.cells #[.int .u8 (f0.toNat:Int),.int .u8 (f1.toNat:Int),.int .u8 (f2.toNat:Int),.int .u8 (f3.toNat:Int)] 140)).heap.size=w2.heap.size+1:=by simp
 generalize hW3:w2.alloc (.cells #[.int .u8 (f0.toNat:Int),.int .u8 (f1.toNat:Int),.int .u8 (f2.toNat:Int),.int .u8 (f3.toNat:Int)] 140)=w3 at *
 have hon0:=zbj w3 [] 5 0 rfl (by simp[maxLen]) hE03.size;rw[hs3] at hon0
 have E34:Ext w3 (w3.alloc (.cells #[] 5)).drew:=Ext.drew (Ext.alloc (Ext.refl _) _)
 have hon:=zag hon0 (Ext.drew (Ext.refl (w3.alloc (.cells #[] 5))));have X3:=Ext.trans hE03 E34
 refine ar1 2 rfl (fun K hK=>?_)
 refine zda _ (.tmp 8) (.tmp 9) 38 (by rfl) w.heap.size 5 i0 (.int .u8 0) 1 1 Tryz.underlying38 hi hz0 hz1 hz2 rfl (by decide) _ 0 [] (by rfl) hon _ bs.length (bs.map bv) (by rfl) (HB.out.ext X3) (zdI _) (by unfold maxLen;omega) (by omega) X3.size ?_
 intro v5 w5 ho5 hg5
 refine shK hK _ _ trivial (fun _=>?_)
 have X5:Ext w w5:=Ext.grownOwn X3 hon hg5
 have E35:Ext w3 w5:=by
  refine Below.grown E34 hg5 E34.size (fun k ek=>?_)
  have:w2.heap.size+1=k:=by simpa [Value.ownBlock,Act.eval] using ek
  omega
 simp only[Nat.zero_add,List.nil_append] at ho5
 refine ar1 4 rfl (fun K hK=>?_)
 refine zda _ (.tmp 10) (.tmp 11) 38 (by rfl) w.heap.size 5 i0 (.int .u8 0) 1 1 Tryz.underlying38 hi hz0 hz1 hz2 rfl (by decide) _ bs.length (bs.map bv) (by rfl) ho5 _ 4 ([f0,f1,f2,f3].map bv) (by rfl) (h4.ext E35) (zdI _) (by unfold maxLen;omega) (by omega) X5.size ?_
 intro v6 w6 ho6 hg6
 refine shK hK _ _ trivial (fun _=>?_)
 have X6:Ext w w6:=Ext.grownOwn X5 ho5 hg6
 refine tkN 5 rfl ?_;refine wpAnyH_done (by kernel_rfl) ?_ _;go_wp2_with fail;go_ret
 have hll:(zaK rT bs).length=bs.length+4:=by unfold zaK;rw[List.length_append,zgm]
 obtain ⟨A6,c6,rfl,_,_⟩:=SlR.open_ (SlR.of_own ho6);rw[hll]
 refine ⟨_,_,rfl,?_,X6⟩
 show w6.ownsRow w.heap.size 5 1 _ (zaK rT bs).length ((zaK rT bs).map bv)
 rw[hll,Hps.out,Hf.out,List.map_append]
 exact ho6
theorem za1 (n lo hi:Int) (w:World):Calls Tryz.prog 42 #[.int .i64 n,.int .i64 lo,.int .i64 hi] w fun e w'=>e=.returned (.bool (inB n lo hi))∧w=w':=by
 go_enter Tryz.func42,Tryz.ntmps42
 go_wp2_with fail
 all_goals go_ret
 all_goals exact ⟨ret_bool (by rw[Bool.eq_iff_iff];unfold inB;simp;omega),rfl⟩
theorem zfJ (next term vote sq sf:Int) (v:Value) (seq fmt:Int) (hn:1≤next∧next≤1073741824) (w:World) :
  Calls Tryz.prog 43 #[.agg #[.int .i64 next,.int .i64 term,.int .i64 vote,.int .i64 sq,.int .i64 sf,v],.int .i64 seq,.int .i64 fmt] w fun e w'=>e=.returned (.bool (zbD next seq fmt))∧Ext w w':=by
 have h1:IntKind.i64.wrap (next-1)=next-1:=by rw[IntKind.wrap_i64];omega
 obtain ⟨h2,h3⟩:=hn
 go_enter Tryz.func43,Tryz.ntmps43
 go_wp2_with (go_at_call 42;refine (za1 _ _ _ _).mono ?_;rintro e w1 ⟨rfl,rfl⟩)
 all_goals go_ret
 all_goals refine ⟨ret_bool ?_,Ext.alloc (Ext.refl _) _⟩
 all_goals (rw[Bool.eq_iff_iff];simp[zbD,inB] at *;omega)
theorem zc5 {a b:World} (h:Ext a b) (n:Nat):Ext a (b.drewN n):=zmI h n
theorem zny {w w':World} {b off:Nat} {l:List Sg4} (he:Ext w w') (h:∀ (k:Nat) (hk:k<l.length),
   w.cell? ⟨b,off+k*4,none⟩=some (.int .i64 l[k].seq)∧w.cell? ⟨b,off+k*4+1,none⟩=some (.int .i64 l[k].fmt)∧w.cell? ⟨b,off+k*4+2,none⟩=some (.int .i64 l[k].first)∧w.cell? ⟨b,off+k*4+3,none⟩=some (.int .i64 l[k].count)) :
  ∀ (k:Nat) (hk:k<l.length),
   w'.cell? ⟨b,off+k*4,none⟩=some (.int .i64 l[k].seq)∧w'.cell? ⟨b,off+k*4+1,none⟩=some (.int .i64 l[k].fmt)∧w'.cell? ⟨b,off+k*4+2,none⟩=some (.int .i64 l[k].first)∧w'.cell? ⟨b,off+k*4+3,none⟩=some (.int .i64 l[k].count) :=
 fun k hk=>⟨he.cell (h k hk).1,he.cell (h k hk).2.1,he.cell (h k hk).2.2.1,he.cell (h k hk).2.2.2⟩
theorem zpi (m:Mf) (v:Value) (i:Nat) (hi:i<m.segs.length) (hlen:m.segs.length≤60) (hn:1≤m.next∧m.next≤1073741824) (hprev:∀ t∈m.segs.take i,1≤t.first∧t.first≤1073741820∧-1≤t.count∧t.count≤4) (w:World) (hS:Sgs w v m.segs) :
  Calls Tryz.prog 44 #[.agg #[.int .i64 m.next,.int .i64 m.term,.int .i64 m.vote,.int .i64 m.sq,.int .i64 m.sf,v],.int .i64 i] w fun e w'=>e=.returned (.bool (zbz m i m.segs[i]))∧Ext w w':=by
 obtain ⟨A,c,rfl,hc1,hc2⟩:=hS.open_;obtain ⟨_,b,off,rfl,hcell⟩:=hS.at_ (by omega);obtain ⟨s0,s1,s2,s3⟩:=hcell i hi;obtain ⟨s,hs⟩:∃ s,m.segs[i]=s:=⟨_,rfl⟩
 rw[hs] at s0 s1 s2 s3 ⊢
 have HC:=zhd hcell
 have hres:zbz m i s=zbz m i s:=rfl
 obtain ⟨R,hR⟩:∃ R,zbz m i s=R:=⟨_,rfl⟩;rw[hR];have HR:=zhd hR;have Hs:=zhd hs;have Hprev:=zhd hprev;have hb0:=Blk.new w 30 #[.int .i64 m.next,.int .i64 m.term,.int .i64 m.vote,.int .i64 m.sq,.int .i64 m.sf,.slice (some ⟨b,off,none⟩) m.segs.length c]
 have hX:Ext w (w.alloc (.cells #[.int .i64 m.next,.int .i64 m.term,.int .i64 m.vote,.int .i64 m.sq,.int .i64 m.sf,.slice (some ⟨b,off,none⟩) m.segs.length c] 30)):=Ext.alloc (Ext.refl _) _
 obtain ⟨m0,m1,m2,m3,m4,m5⟩:=zap hb0;have t0:=hX.cell s0;have t1:=hX.cell s1;have t2:=hX.cell s2;have t3:=hX.cell s3
 have hiz:(i:Int)<(m.segs.length:Int):=by omega
 have hbs:Blk ((w.alloc (.cells #[.int .i64 m.next,.int .i64 m.term,.int .i64 m.vote,.int .i64 m.sq,.int .i64 m.sf,.slice (some ⟨b,off,none⟩) m.segs.length c] 30)).alloc (.cells #[.int .i64 s.seq,.int .i64 s.fmt,.int .i64 s.first,.int .i64 s.count] 74)) (w.heap.size+1) 74 #[.int .i64 s.seq,.int .i64 s.fmt,.int .i64 s.first,.int .i64 s.count]:=by
  have:=Blk.new (w.alloc (.cells #[.int .i64 m.next,.int .i64 m.term,.int .i64 m.vote,.int .i64 m.sq,.int .i64 m.sf,.slice (some ⟨b,off,none⟩) m.segs.length c] 30)) 74 #[.int .i64 s.seq,.int .i64 s.fmt,.int .i64 s.first,.int .i64 s.count]
  rwa [World.size_alloc] at this
 have hX2:Ext w ((w.alloc (.cells #[.int .i64 m.next,.int .i64 m.term,.int .i64 m.vote,.int .i64 m.sq,.int .i64 m.sf,.slice (some ⟨b,off,none⟩) m.segs.length c] 30)).alloc (.cells #[.int .i64 s.seq,.int .i64 s.fmt,.int .i64 s.first,.int .i64 s.count] 74)):=Ext.alloc hX _
 have hb1:=hb0.alloc (.cells #[.int .i64 s.seq,.int .i64 s.fmt,.int .i64 s.first,.int .i64 s.count] 74)
 have arm:=fun (W:World)=>zfJ m.next m.term m.vote m.sq m.sf (.slice (some ⟨b,off,none⟩) m.segs.length c) s.seq s.fmt hn W
 have Arm:=zhd arm;have hn2:=zhd hn;clear hR hs hprev hcell arm hn hres hS
 go_enter Tryz.func44,Tryz.ntmps44
 go_wp2_with fail
 refine (Arm.out _).mono ?_
 rintro e w1 ⟨rfl,hE1⟩;have HE:=zhd (Ext.trans hX2 hE1);have E0:=HE;obtain ⟨M0,M1,M2,M3,M4,M5⟩:=zap (hb1.ext hE1);obtain ⟨S0,S1,S2,S3⟩:=zay (hbs.ext hE1);have hC2:=zny HE.out HC.out;have HC2:=zhd hC2;clear hC2 HC Arm hb0 hb1 hbs hX hX2 hE1 HE m0 m1 m2 m3 m4 m5 t0 t1 t2 t3 s0 s1 s2 s3 M0 M1 M2 M4 S1
 cases hf:zbD m.next s.seq s.fmt with
 | false =>
  have hR:R=false:=by rw[←HR.out];unfold zbz;rw[hf];rfl
  subst hR;clear HR hf;go_wp2_with fail;go_ret
  exact ⟨rfl,E0.out⟩
 | true =>
 by_cases hq:s.seq=m.sq
 ·have hR:R=false:=by rw[←HR.out];unfold zbz;simp[hq]
  subst hR;clear HR hf;go_wp2_with fail;go_ret
  exact ⟨rfl,E0.out⟩
 cases hw:inB s.first 1 1073741820 with
 | false =>
  have hR:R=false:=by rw[←HR.out];unfold zbz;simp[hw]
  subst hR;clear HR hf
  go_wp2_with (go_at_call 42;refine (za1 _ _ _ _).mono ?_;rintro e w2 ⟨rfl,rfl⟩;rw[hw])
  go_ret
  exact ⟨rfl,E0.out⟩
 | true =>
 have HR2:Hid (((m.segs.take i).all (fun t=>decide (t.seq≠s.seq)) &&
 (match m.segs[i-1]? with | none=>true | some p=>decide (i=0∨s.first=p.first+p.count))&&(inB s.count 1 4||(decide (s.count = -1)&&decide (i+1=m.segs.length))))=R):=zhd (by
  rw[←HR.out];unfold zbz;simp[hf,hw,hq];try rfl)
 clear HR hf
 go_wp2_with (go_at_call 42;refine (za1 _ _ _ _).mono ?_;rintro e w2 ⟨rfl,rfl⟩;rw[hw])
 go_loopw [6] (fun x W=>∃ j:Nat,j≤i∧x=.int .i64 j∧Hid (∀ q (_:q<j) (h2:q<m.segs.length),m.segs[q].seq≠s.seq)∧Ext w1 W) (fun x _=>i-(intOf x).toNat)
 case atStart=>exact ⟨0,by omega,rfl,zhd fun q hq=>by omega,Ext.refl _⟩
 case round =>
  obtain ⟨j,hj,rfl,Hn,hEr⟩:=hrel;have HEr:=zhd (Ext.trans E0.out hEr);have hC3:=zny hEr HC2.out;have HC3:=zhd hC3;have N3:=hEr.cell M3;have N5:=hEr.cell M5;have T0:=hEr.cell S0;have T2:=hEr.cell S2;have T3:=hEr.cell S3;have HEq:=zhd hEr;clear hC3 HC2 hEr M3 M5 S0 S2 S3
  by_cases hlt:j<i
  ·have hji:j<m.segs.length:=by omega
   obtain ⟨c0,_,_,_⟩:=HC3.out j hji
   have hp:m.segs[j].seq=s.seq→R=false:=fun h=>by
    rw[←HR2.out]
    have:((m.segs.take i).all (fun t=>decide (t.seq≠s.seq)))=false:=by
     rw[List.all_eq_false]
     exact ⟨m.segs[j],List.mem_take_iff_getElem.2 ⟨j,by omega,rfl⟩,by simpa using h⟩
    rw[this];simp
   have hq:m.segs[j].seq≠s.seq→∀ q (_:q<j+1) (h2:q<m.segs.length),m.segs[q].seq≠s.seq:=fun h q h3 h2=>by
     by_cases e:q=j
     ·subst e;exact h
     ·exact Hn.out q (by omega) h2
   have Hp:=zhd hp;have Hq:=zhd hq;clear hp hq HR2 Hn
   generalize m.segs[j].seq=x at *
   generalize s.seq=y at *
   by_cases hx:x=y
   ·have hR:=Hp.out hx
    subst hR hx;go_wp2_with fail
    go_quiet (fail)
    go_wp2_with fail;go_ret
    exact ⟨rfl,zc5 HEr.out _⟩
   ·have Hq2:=zhd (Hq.out hx)
    go_wp2_with fail
    go_quiet (fail)
    go_wp2_with fail
    go_roundw
    case rel=>exact ⟨j+1,by omega,by go_num,Hq2,zc5 HEq.out _⟩
    case measure=>simp[intOf];omega
  ·obtain rfl:j=i:=by omega
   have hall:((m.segs.take j).all (fun t=>decide (t.seq≠s.seq)))=true:=by
    rw[List.all_eq_true];intro x hx;obtain ⟨q,hq,rfl⟩:=List.mem_take_iff_getElem.1 hx
    simpa using Hn.out q (by omega) (by omega)
   have HR3:Hid ((((match m.segs[j-1]? with | none=>true | some p=>decide (j=0∨s.first=p.first+p.count))&&(inB s.count 1 4||(decide (s.count = -1)&&decide (j+1=m.segs.length)))))=R):=zhd (by
    rw[←HR2.out,hall];rfl)
   clear HR2 hall Hn HEq
   cases j with
   | zero =>
    have HRc:Hid ((inB s.count 1 4||(decide (s.count = -1)&&decide (0+1=m.segs.length)))=R):=zhd (by
     rw[←HR3.out];cases m.segs[0-1]? <;> simp)
    clear HR3 HC3 N3
    have hz:decide ((0:Int)<((0:Nat):Int))=false:=by decide
    go_wp2_with fail
    go_quiet (fail)
    cases hcn:inB s.count 1 4 with
    | true =>
     have hR:R=true:=by rw[←HRc.out,hcn];rfl
     subst hR
     go_wp2_with (go_at_call 42;refine (za1 _ _ _ _).mono ?_;rintro e w2 ⟨rfl,rfl⟩;first | rw[hcn] | rw[show inB (-1) 1 4=false from rfl])
     go_ret
     exact ⟨rfl,zc5 HEr.out _⟩
    | false =>
     by_cases hc1m:s.count = -1
     ·by_cases hlast:0+1=m.segs.length
      ·have hR:R=true:=by rw[←HRc.out];simp[hc1m,hlast]
       have hl2:((m.segs.length:Int)-1)=(0:Int):=by omega
       subst hR;clear hlast
       go_wp2_with (go_at_call 42;refine (za1 _ _ _ _).mono ?_;rintro e w2 ⟨rfl,rfl⟩;first | rw[hcn] | rw[show inB (-1) 1 4=false from rfl])
       all_goals go_ret
       all_goals exact ⟨by first | rfl | (exact ret_bool (by simp;omega)),zc5 HEr.out _⟩
      ·have hR:R=false:=by rw[←HRc.out,hcn];simp[hc1m,hlast]
       subst hR
       go_wp2_with (go_at_call 42;refine (za1 _ _ _ _).mono ?_;rintro e w2 ⟨rfl,rfl⟩;first | rw[hcn] | rw[show inB (-1) 1 4=false from rfl])
       all_goals go_ret
       all_goals exact ⟨by first | rfl | (exact ret_bool (by simp;omega)),zc5 HEr.out _⟩
     ·have hR:R=false:=by rw[←HRc.out,hcn];simp[hc1m]
      subst hR
      go_wp2_with (go_at_call 42;refine (za1 _ _ _ _).mono ?_;rintro e w2 ⟨rfl,rfl⟩;first | rw[hcn] | rw[show inB (-1) 1 4=false from rfl])
      go_ret
      exact ⟨rfl,zc5 HEr.out _⟩
   | succ k =>
    have hk:k<m.segs.length:=by omega
    obtain ⟨_,_,d2,d3⟩:=HC3.out k hk
    obtain ⟨p1,p2,p3,p4⟩:=Hprev.out m.segs[k] (List.mem_take_iff_getElem.2 ⟨k,by omega,rfl⟩)
    have hgk:m.segs[k+1-1]?=some m.segs[k]:=by rw[Nat.add_sub_cancel];exact List.getElem?_eq_getElem hk
    have HR4:Hid ((decide (s.first=m.segs[k].first+m.segs[k].count)&&(inB s.count 1 4||(decide (s.count = -1)&&decide (k+1+1=m.segs.length))))=R):=zhd (by
     rw[←HR3.out,hgk];simp)
    clear HR3 HC3 hgk Hprev
    generalize m.segs[k].first=pf at *
    generalize m.segs[k].count=pc at *
    have hw1:IntKind.i64.wrap (pf+pc)=pf+pc:=by rw[IntKind.wrap_i64];omega
    by_cases hch:s.first=pf+pc
    ·have HRc:Hid ((inB s.count 1 4||(decide (s.count = -1)&&decide (k+1+1=m.segs.length)))=R):=zhd (by
      rw[←HR4.out];simp[hch])
     clear HR4;go_wp2_with fail
     go_quiet (fail)
     cases hcn:inB s.count 1 4 with
     | true =>
      have hR:R=true:=by rw[←HRc.out,hcn];rfl
      subst hR
      go_wp2_with (go_at_call 42;refine (za1 _ _ _ _).mono ?_;rintro e w2 ⟨rfl,rfl⟩;first | rw[hcn] | rw[show inB (-1) 1 4=false from rfl])
      go_ret
      exact ⟨rfl,zc5 HEr.out _⟩
     | false =>
      by_cases hc1m:s.count = -1
      ·by_cases hlast:(k+1)+1=m.segs.length
       ·have hR:R=true:=by rw[←HRc.out];simp[hc1m,hlast]
        have hl2:((m.segs.length:Int)-1)=((k+1):Int):=by omega
        subst hR;clear hlast
        go_wp2_with (go_at_call 42;refine (za1 _ _ _ _).mono ?_;rintro e w2 ⟨rfl,rfl⟩;first | rw[hcn] | rw[show inB (-1) 1 4=false from rfl])
        all_goals go_ret
        all_goals exact ⟨by first | rfl | (exact ret_bool (by simp;omega)),zc5 HEr.out _⟩
       ·have hR:R=false:=by rw[←HRc.out,hcn];simp[hc1m,hlast]
        subst hR
        go_wp2_with (go_at_call 42;refine (za1 _ _ _ _).mono ?_;rintro e w2 ⟨rfl,rfl⟩;first | rw[hcn] | rw[show inB (-1) 1 4=false from rfl])
        all_goals go_ret
        all_goals exact ⟨by first | rfl | (exact ret_bool (by simp;omega)),zc5 HEr.out _⟩
      ·have hR:R=false:=by rw[←HRc.out,hcn];simp[hc1m]
       subst hR
       go_wp2_with (go_at_call 42;refine (za1 _ _ _ _).mono ?_;rintro e w2 ⟨rfl,rfl⟩;first | rw[hcn] | rw[show inB (-1) 1 4=false from rfl])
       go_ret
       exact ⟨rfl,zc5 HEr.out _⟩
    ·have hR:R=false:=by rw[←HR4.out];simp[hch]
     subst hR;clear HR4;go_wp2_with fail
     go_quiet (fail)
     go_wp2_with fail;go_ret
     exact ⟨rfl,zc5 HEr.out _⟩
theorem mcMan2c0 {P:Prop} (h:P:=by
 obtain ⟨j,hj,rfl,Hn2,hEr⟩:=hrel;have HEr:=zhd (Ext.trans E0.out hEr);have HEq:=zhd hEr;obtain ⟨m0,m1,m2,m3,m4,m5⟩:=zap (Hb.out.ext hEr);clear hEr
 by_cases hlt:j<m.segs.length
 ·have arm:=zpi m (.slice A m.segs.length c) j hlt h4 Hn.out (zgG Hn2.out) wr (HS.out.ext HEr.out)
  have Arm:=zhd arm;clear arm
  have hltz:(j:Int)<(m.segs.length:Int):=by omega
  go_wp2_with fail
  refine Arm.out.mono ?_
  rintro e w4 ⟨rfl,hE4⟩
  cases hso:zbz m j m.segs[j] with
  | false =>
   have hR:R=2:=by rw[←HR3.out,zfQ hlt hso _ hlt];rfl
   subst hR;go_wp2_with fail;go_ret
   exact ⟨rfl,Ext.trans HEr.out hE4⟩
  | true =>
   have hnx:zbH m (j+1)=true:=by
    unfold zbH;rw[Hn2.out,List.getElem?_eq_getElem hlt];simpa using hso
   have Hnx:=zhd hnx;clear hnx hso;go_wp2_with fail
   go_roundw
   case rel=>exact ⟨j+1,by omega,by go_num,Hnx,Ext.trans HEq.out hE4⟩
   case measure=>simp[intOf];omega
 ·obtain rfl:j=m.segs.length:=by omega
  have hR:R=0:=by rw[←HR3.out,Hn2.out];rfl
  subst hR;go_wp2_with fail;go_ret
  exact ⟨rfl,HEr.out⟩):P:=h
theorem zlw (m:Mf) (v:Value) (w:World) (hS:Sgs w v m.segs) :
  Calls Tryz.prog 10 #[.agg #[.int .i64 m.next,.int .i64 m.term,.int .i64 m.vote,.int .i64 m.sq,.int .i64 m.sf,v]] w fun e w'=>e=.returned (.int .i64 (if zav m then 0 else 2))∧Ext w w':=by
 obtain ⟨A,c,rfl,hc1,hc2⟩:=hS.open_;obtain ⟨R,hR⟩:∃ R:Int,(if zav m then 0 else 2)=R:=⟨_,rfl⟩;rw[hR];have HR:=zhd hR;have HS:=zhd hS;have hb0:=Blk.new w 30 #[.int .i64 m.next,.int .i64 m.term,.int .i64 m.vote,.int .i64 m.sq,.int .i64 m.sf,.slice A m.segs.length c]
 have hX:Ext w (w.alloc (.cells #[.int .i64 m.next,.int .i64 m.term,.int .i64 m.vote,.int .i64 m.sq,.int .i64 m.sf,.slice A m.segs.length c] 30)):=Ext.alloc (Ext.refl _) _
 obtain ⟨m0,m1,m2,m3,m4,m5⟩:=zap hb0;have E0:=zhd hX;have Hb:=zhd hb0;clear hR hS hX hb0
 have hbad:zct m=false→R=2:=fun h=>by rw[←HR.out];unfold zav;rw[h];rfl
 go_enter Tryz.func10,Tryz.ntmps10
 cases h1:inB m.next 1 1073741824 with
 | false =>
  have:=hbad (by unfold zct;rw[h1];rfl)
  subst this
  go_wp2_with (go_at_call 42;refine (za1 _ _ _ _).mono ?_;rintro e w2 ⟨rfl,rfl⟩;rw[h1])
  go_ret
  exact ⟨rfl,E0.out⟩
 | true =>
 cases h2:inB m.term 0 1073741824 with
 | false =>
  have:=hbad (by unfold zct;rw[h1,h2];rfl)
  subst this
  go_wp2_with (go_at_call 42;refine (za1 _ _ _ _).mono ?_;rintro e w2 ⟨rfl,rfl⟩;first | rw[h1] | rw[h2])
  go_ret
  exact ⟨rfl,E0.out⟩
 | true =>
 cases h3:inB m.vote 0 5 with
 | false =>
  have:=hbad (by unfold zct;rw[h1,h2,h3];rfl)
  subst this
  go_wp2_with (go_at_call 42;refine (za1 _ _ _ _).mono ?_;rintro e w2 ⟨rfl,rfl⟩;first | rw[h1] | rw[h2] | rw[h3])
  go_ret
  exact ⟨rfl,E0.out⟩
 | true =>
 by_cases h4:m.segs.length≤60
 case neg =>
  have:=hbad (by unfold zct;rw[h1,h2,h3];simpa using h4)
  subst this
  have h5:(60:Int)<(m.segs.length:Int):=by omega
  go_wp2_with (go_at_call 42;refine (za1 _ _ _ _).mono ?_;rintro e w2 ⟨rfl,rfl⟩;first | rw[h1] | rw[h2] | rw[h3])
  go_ret
  exact ⟨rfl,E0.out⟩
 have h5:¬ (60:Int)<(m.segs.length:Int):=by omega
 have hhead:zct m=true:=by unfold zct;rw[h1,h2,h3];simpa using h4
 have HR2:Hid ((if (zcK m&&zbH m m.segs.length)=true then (0:Int) else 2)=R):=zhd (by rw[←HR.out];unfold zav;rw[hhead];rfl)
 have hn:=inB_b.1 h1;have Hn:=zhd hn;clear hbad HR hhead hn
 rcases (show (m.sq=0∧m.sf=0)∨(m.sq=0∧m.sf≠0)∨m.sq≠0 by omega) with ⟨ha,hb⟩ | hc
 ·have hsn:zcK m=true:=by unfold zcK;simp[ha,hb]
  have hA:=zhd ha;have hB:=zhd hb
  go_wp2_with (first | (go_at_call 42;refine (za1 _ _ _ _).mono ?_;rintro e w2 ⟨rfl,rfl⟩;first | rw[h1] | rw[h2] | rw[h3]))
  clear ha hb
  have HR3:Hid ((if zbH m m.segs.length=true then (0:Int) else 2)=R):=zhd (by rw[←HR2.out,hsn];rfl)
  clear HR2 m0 m1 m2 m3 m4 m5
  go_loopw [3] (fun x W=>∃ j:Nat,j≤m.segs.length∧x=.int .i64 j∧Hid (zbH m j=true)∧Ext (w.alloc (.cells #[.int .i64 m.next,.int .i64 m.term,.int .i64 m.vote,.int .i64 m.sq,.int .i64 m.sf,.slice A m.segs.length c] 30)) W) (fun x _=>m.segs.length-(intOf x).toNat)
  case atStart=>exact ⟨0,by omega,rfl,zhd rfl,(by rw[hA.out,hB.out];exact Ext.refl _)⟩
  case round =>
   exact mcMan2c0
 have hnz:¬ (m.sq=0∧m.sf=0):=by omega
 cases hfo:zbD m.next m.sq m.sf with
 | false =>
  have hfo2:=hfo
  have hR:R=2:=by rw[←HR2.out];unfold zcK;rw[hfo];simp[hnz]
  subst hR;clear HR2 hnz
  rcases hc with ⟨hc1,hc2⟩ | hc1
  ·rw[hc1] at hfo2
   go_wp2_with (first | (go_at_call 42;refine (za1 _ _ _ _).mono ?_;rintro e w2 ⟨rfl,rfl⟩;first | rw[h1] | rw[h2] | rw[h3]) | (go_at_call 43;refine (zfJ _ _ _ _ _ _ _ _ Hn.out _).mono ?_;rintro e w3 ⟨rfl,hE3⟩;first | rw[hfo] | rw[hfo2]))
   go_ret
   exact ⟨rfl,Ext.trans E0.out (by rw[hc1];exact hE3)⟩
  ·go_wp2_with (first | (go_at_call 42;refine (za1 _ _ _ _).mono ?_;rintro e w2 ⟨rfl,rfl⟩;first | rw[h1] | rw[h2] | rw[h3]) | (go_at_call 43;refine (zfJ _ _ _ _ _ _ _ _ Hn.out _).mono ?_;rintro e w3 ⟨rfl,hE3⟩;first | rw[hfo] | rw[hfo2]))
   go_ret
   exact ⟨rfl,Ext.trans E0.out hE3⟩
 | true =>
  have hsn:zcK m=true:=by unfold zcK;rw[hfo];simp
  have hsq:m.sq≠0:=by have:=zeT hfo;omega
  clear hnz hc
  go_wp2_with (first | (go_at_call 42;refine (za1 _ _ _ _).mono ?_;rintro e w2 ⟨rfl,rfl⟩;first | rw[h1] | rw[h2] | rw[h3]) | (go_at_call 43;refine (zfJ _ _ _ _ _ _ _ _ Hn.out _).mono ?_;rintro e w3 ⟨rfl,hE3⟩;first | rw[hfo]))
  clear hsq
  have HR3:Hid ((if zbH m m.segs.length=true then (0:Int) else 2)=R):=zhd (by rw[←HR2.out,hsn];rfl)
  clear HR2 m0 m1 m2 m3 m4 m5
  go_loopw [3] (fun x W=>∃ j:Nat,j≤m.segs.length∧x=.int .i64 j∧Hid (zbH m j=true)∧Ext (w.alloc (.cells #[.int .i64 m.next,.int .i64 m.term,.int .i64 m.vote,.int .i64 m.sq,.int .i64 m.sf,.slice A m.segs.length c] 30)) W) (fun x _=>m.segs.length-(intOf x).toNat)
  case atStart=>exact ⟨0,by omega,rfl,zhd rfl,hE3⟩
  case round =>
   exact mcMan2c0
theorem zua:Tryz.prog.underlying 74=some (.struct (Tryz.prog.fieldsOf 74)):=by kernel_rfl
theorem zvk:Tryz.prog.stoodInHeld 74=false:=by kernel_rfl
theorem zt9:Tryz.prog.eqGuardType Tryz.prog.depth 74=false:=by kernel_rfl
theorem zst (a b:Sg4) (W:World):(Op.equalIn 10000 74 (.agg #[.int .i64 a.seq,.int .i64 a.fmt,.int .i64 a.first,.int .i64 a.count]) (.agg #[.int .i64 b.seq,.int .i64 b.fmt,.int .i64 b.first,.int .i64 b.count])).run Tryz.prog W=.ok (decide (a=b)) W:=by
 have e:decide (a=b)=(a.seq==b.seq&&a.fmt==b.fmt&&a.first==b.first&&a.count==b.count):=by
  rw[Bool.eq_iff_iff]
  cases a;cases b
  simp[and_assoc]
 rw[run_equalIn_struct W 9999 74 _ _ zua zvk,e]
 cases h0:(a.seq==b.seq) <;> cases h1:(a.fmt==b.fmt) <;> cases h2:(a.first==b.first) <;> cases h3:(a.count==b.count) <;> simp[go_sem,h0,h1,h2,h3]
theorem zlB (a b:Mf) (va vb:Value) (w:World) (hA:Sgs w va a.segs) (hB:Sgs w vb b.segs) :
  Calls Tryz.prog 26 #[.agg #[.int .i64 a.next,.int .i64 a.term,.int .i64 a.vote,.int .i64 a.sq,.int .i64 a.sf,va],.agg #[.int .i64 b.next,.int .i64 b.term,.int .i64 b.vote,.int .i64 b.sq,.int .i64 b.sf,vb]] w fun e w'=>e=.returned (.bool (decide (a=b)))∧Ext w w':=by
 obtain ⟨A,c,rfl,hc1,hc2⟩:=hA.open_;obtain ⟨B,d,rfl,hd1,hd2⟩:=hB.open_;obtain ⟨n1,t1,v1,q1,f1,l1⟩:=a;obtain ⟨n2,t2,v2,q2,f2,l2⟩:=b
 dsimp only at *
 obtain ⟨R,hR⟩:∃ R,decide ((⟨n1,t1,v1,q1,f1,l1⟩:Mf)=⟨n2,t2,v2,q2,f2,l2⟩)=R:=⟨_,rfl⟩;rw[hR]
 have HR:Hid (decide (n1=n2∧t1=t2∧v1=v2∧q1=q2∧f1=f2∧l1=l2)=R):=zhd (by rw[←hR];simp)
 have HA:=zhd hA;have HB:=zhd hB;obtain ⟨x1,hx1⟩:∃ x:Array Value,#[.int .i64 n1,.int .i64 t1,.int .i64 v1,.int .i64 q1,.int .i64 f1,.slice A l1.length c]=x:=⟨_,rfl⟩;obtain ⟨x2,hx2⟩:∃ x:Array Value,#[.int .i64 n2,.int .i64 t2,.int .i64 v2,.int .i64 q2,.int .i64 f2,.slice B l2.length d]=x:=⟨_,rfl⟩;have hb0:=Blk.new w 30 x1;have hb1:=hb0.alloc (.cells x2 30);have hb2:=Blk.new (w.alloc (.cells x1 30)) 30 x2;rw[World.size_alloc] at hb2
 have hX:Ext w ((w.alloc (.cells x1 30)).alloc (.cells x2 30)):=Ext.alloc (Ext.alloc (Ext.refl _) _) _
 subst hx1 hx2;obtain ⟨m0,m1,m2,m3,m4,m5⟩:=zap hb1;obtain ⟨p0,p1,p2,p3,p4,p5⟩:=zap hb2;have E0:=zhd hX;have Hb1:=zhd hb1;have Hb2:=zhd hb2;clear hR hA hB hX hb0 hb1 hb2
 go_enter Tryz.func26,Tryz.ntmps26
 by_cases e1:n1=n2
 case neg =>
  have:R=false:=by rw[←HR.out];simp[e1]
  subst this;go_wp2_with fail;go_ret
  exact ⟨rfl,Ext.alloc (Ext.alloc (Ext.refl _) _) _⟩
 subst e1
 by_cases e2:t1=t2
 case neg =>
  have:R=false:=by rw[←HR.out];simp[e2]
  subst this;go_wp2_with fail;go_ret
  exact ⟨rfl,Ext.alloc (Ext.alloc (Ext.refl _) _) _⟩
 subst e2
 by_cases e3:v1=v2
 case neg =>
  have:R=false:=by rw[←HR.out];simp[e3]
  subst this;go_wp2_with fail;go_ret
  exact ⟨rfl,Ext.alloc (Ext.alloc (Ext.refl _) _) _⟩
 subst e3
 by_cases e4:q1=q2
 case neg =>
  have:R=false:=by rw[←HR.out];simp[e4]
  subst this;go_wp2_with fail
  all_goals go_ret
  all_goals exact ⟨rfl,Ext.alloc (Ext.alloc (Ext.refl _) _) _⟩
 subst e4
 by_cases e5:f1=f2
 case neg =>
  have:R=false:=by rw[←HR.out];simp[e5]
  subst this;go_wp2_with fail
  all_goals go_ret
  all_goals exact ⟨rfl,Ext.alloc (Ext.alloc (Ext.refl _) _) _⟩
 subst e5
 by_cases e6:(l1.length:Int)=(l2.length:Int)
 case neg =>
  have:R=false:=by rw[←HR.out];simp;intro h;subst h;exact e6 rfl
  subst this;go_wp2_with fail
  all_goals go_ret
  all_goals exact ⟨rfl,Ext.alloc (Ext.alloc (Ext.refl _) _) _⟩
 have HR2:Hid (decide (l1=l2)=R):=zhd (by rw[←HR.out];simp)
 have hlen:l1.length=l2.length:=by omega
 have Hlen:=zhd hlen;clear HR hlen;go_wp2_with fail
 go_loopw [5] (fun x W=>∃ k:Nat,k≤l1.length∧x=.int .i64 k∧Hid (l1.take k=l2.take k)∧Ext ((w.alloc (.cells #[.int .i64 n1,.int .i64 t1,.int .i64 v1,.int .i64 q1,.int .i64 f1,.slice A l1.length c] 30)).alloc (.cells #[.int .i64 n1,.int .i64 t1,.int .i64 v1,.int .i64 q1,.int .i64 f1,.slice B l2.length d] 30)) W) (fun x _=>l1.length-(intOf x).toNat)
 case atStart=>exact ⟨0,by omega,rfl,zhd rfl,(by first | exact Ext.refl _ | (rw[e6];exact Ext.refl _))⟩
 case round =>
  obtain ⟨k,hk,rfl,Hn,hEr⟩:=hrel;have HEq:=zhd hEr;have HEr:=zhd (Ext.trans E0.out hEr);obtain ⟨_,_,_,_,_,M5⟩:=zap (Hb1.out.ext hEr);obtain ⟨_,_,_,_,_,P5⟩:=zap (Hb2.out.ext hEr)
  by_cases hlt:k<l1.length
  ·have hlt2:k<l2.length:=by have:=Hlen.out;omega
   obtain ⟨_,b,off,rfl,hcell⟩:=(HA.out.ext HEr.out).at_ (by omega);obtain ⟨_,b2,off2,rfl,hcell2⟩:=(HB.out.ext HEr.out).at_ (by omega);obtain ⟨s0,s1,s2,s3⟩:=hcell k hlt;obtain ⟨u0,u1,u2,u3⟩:=hcell2 k hlt2;clear hcell hcell2 hEr m0 m1 m2 m3 m4 m5 p0 p1 p2 p3 p4 p5
   have hk0:(0:Int)≤(k:Int):=by omega
   have hk1:(k:Int)<(l1.length:Int):=by omega
   have hk2:(k:Int)<(l2.length:Int):=by omega
   have heq:=zst l1[k] l2[k];have hgd:=zt9;obtain ⟨q,hq⟩:∃ q,decide (l1[k]=l2[k])=q:=⟨_,rfl⟩;have Hq:=zhd hq;rw[hq] at heq;clear hq;go_wp2_with fail
   go_quiet (fail)
   clear heq hgd
   cases q
   ·have hR:R=false:=by
     rw[←HR2.out]
     have:=Hq.out
     simp only[decide_eq_false_iff_not] at this ⊢
     intro h
     apply this
     simp only[h]
    subst hR;go_wp2_with fail;go_ret
    exact ⟨rfl,zc5 HEr.out _⟩
   ·go_wp2_with fail
    go_roundw
    case rel =>
     have hq2:l1[k]=l2[k]:=by simpa using Hq.out
     refine ⟨k+1,by omega,by go_num,zhd ?_,zc5 HEq.out _⟩
     rw[List.take_succ_eq_append_getElem hlt,List.take_succ_eq_append_getElem (by omega),Hn.out,hq2]
    case measure=>simp[intOf];omega
  ·have hR:R=true:=by
    rw[←HR2.out];have h1:=Hn.out;have h2:=Hlen.out;rw[List.take_of_length_le (by omega),List.take_of_length_le (by omega)] at h1
    simpa using h1
   subst hR
   obtain rfl:k=l1.length:=by omega
   clear m0 m1 m2 m3 m4 m5 p0 p1 p2 p3 p4 p5;go_wp2_with fail;go_ret
   exact ⟨rfl,HEr.out⟩
end Go.Proofs.YtgonhdeochgkoaaGreatDoor
