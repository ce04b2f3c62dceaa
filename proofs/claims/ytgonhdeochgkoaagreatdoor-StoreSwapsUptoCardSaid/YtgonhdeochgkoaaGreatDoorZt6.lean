/- Merged: Crc Block RefFile Plain ChunkI All File -/
import Derived.Test.YtgonhdeochgkoaaGreatDoorZt5
import Derived.Laws.Bits64
set_option linter.all false
set_option maxHeartbeats 8000000
set_option maxRecDepth 100000
namespace Go.Proofs.YtgonhdeochgkoaaGreatDoor
open Go.RowKit Go.Mv Go.Shelf
theorem mcCrca0 {P:Prop} (h:P:=by
 rw[hbv]
 refine Hkey.out _ _ _ _ ?_ ?_
 ·intro W' hj hh hb hs
  have Hj:=zhd hj;have Hh:=zhd hh;clear c1 hcj hj hh hBx
  gi_wp2
  refine wpIn_goto ?_
  try simp only[Exit.then]
  refine zah (by simp) ⟨?_,?_⟩
  ·rw[show ((i:Int)+1)=((i+1:Nat):Int) from rfl]
   exact ⟨i+1,_,_,_,_,_,_,_,_,_,_,_,_,_,_,_,_,_,_,_,_,_,⟨by have:=Hlt.out;omega,Hj,Hh,hb,hs⟩,rfl⟩
  ·have:=Hlt.out
   simp[intOf];omega
 ·intro W' hj
  have Hj:=zhd hj;clear c1 hcj hj hBx
  gi_wp2
  refine zf3 ?_
  refine bodyPost_end (results_none rfl _ _ _) rfl ?_
  exact ⟨⟨_,rfl⟩,.inr ⟨_,Hpre.out,Hj.out⟩⟩):P:=h
attribute [local go_sem] Oper.semAt_some
structure Tab where
 l:List Nat
 lt:∀ i,l.getD i 0<4294967296
variable {T:Tab}
def TabW (T:Tab) (w:World):Prop:=∀ i,i<16→w.cell? ⟨1,i,none⟩=some (.int .u32 ((T.l.getD i 0:Nat):Int))
theorem TabW.ext {w w':World} (h:TabW T w) (hE:Ext w w'):TabW T w':=fun i hi=>hE.cell (h i hi)
theorem TabW.hold {w w':World} (h:TabW T w) (hE:Hold w w'):TabW T w':=fun i hi=>hE _ _ (h i hi)
def zb4 (T:Tab) (s h:Nat):Nat:=T.l.getD ((s ^^^ h) % 16) 0 ^^^ (s / 16)
def crcTab:List Nat:=[0,274646895,549293790,820201905,1098587580,1361435347,1640403810,1905808397,2197175160,2460548119,2722870694,2987750089,3280807620,3553878443,3811616794,4084100981]
theorem zrj (i:Nat):crcTab.getD i 0<4294967296:=by
 by_cases h:i<16
 ·have:∀ j,j<16→crcTab.getD j 0<4294967296:=by decide
  exact this i h
 ·rw[List.getD_eq_getElem?_getD,List.getElem?_eq_none (by simp[crcTab];omega)];decide
def rT:Tab:=⟨crcTab,zrj⟩
theorem zsK (i:Nat):T.l.getD i 0<4294967296:=T.lt i
theorem zkd {s:Nat} (h:Nat) (hs:s<4294967296):zb4 T s h<4294967296:=by
 have:zb4 T s h<2^32:=Nat.xor_lt_two_pow (zsK _) (by omega)
 simpa using this
theorem zdB (a b:Nat) (ha:a<4294967296) (hb:b<4294967296):bits .xor .u32 (a:Int) (b:Int)=((a ^^^ b:Nat):Int):=by
 have hx:a ^^^ b<2^32:=Nat.xor_lt_two_pow (by omega) (by omega)
 have h1:(BitVec.ofInt 32 (a:Int)).toNat=a:=by
  rw[BitVec.ofInt_natCast,BitVec.toNat_ofNat];exact Nat.mod_eq_of_lt (by omega)
 have h2:(BitVec.ofInt 32 (b:Int)).toNat=b:=by
  rw[BitVec.ofInt_natCast,BitVec.toNat_ofNat];exact Nat.mod_eq_of_lt (by omega)
 show IntKind.u32.wrap ((BitVec.ofInt 32 (a:Int) ^^^ BitVec.ofInt 32 (b:Int)).toNat:Int)=_
 rw[BitVec.toNat_xor,h1,h2,IntKind.wrap_u32];omega
theorem zmJ (a:Nat) (ha:a<4294967296):bits .and .u32 (a:Int) 15=((a % 16:Nat):Int):=by
 have h1:(BitVec.ofInt 32 (a:Int)).toNat=a:=by
  rw[BitVec.ofInt_natCast,BitVec.toNat_ofNat];exact Nat.mod_eq_of_lt (by omega)
 have h2:(BitVec.ofInt 32 (15:Int)).toNat=15:=rfl
 show IntKind.u32.wrap ((BitVec.ofInt 32 (a:Int) &&& BitVec.ofInt 32 (15:Int)).toNat:Int)=_
 rw[BitVec.toNat_and,h1,h2,IntKind.wrap_u32,show (15:Nat)=2^4-1 from rfl,Nat.and_two_pow_sub_one_eq_mod]
 omega
theorem zs6 (s h:Nat) (hs:s<4294967296) (hh:h<256) (w:World) (hT:TabW T w):Calls Tryz.prog 189 #[.int .u32 s,.int .u8 h] w fun e w'=>e=.returned (.int .u32 (zb4 T s h))∧w=w':=by
 have hx:=zdB s h hs (by omega)
 have hxl:s ^^^ h<2^32:=Nat.xor_lt_two_pow (by omega) (by omega)
 have ha:=zmJ (s ^^^ h) hxl;obtain ⟨i,hi⟩:∃ i,(s ^^^ h) % 16=i:=⟨_,rfl⟩
 have hi16:i<16:=by omega
 rw[hi] at ha;have hc:=hT i hi16;obtain ⟨t,ht⟩:∃ t,T.l.getD i 0=t:=⟨_,rfl⟩
 have htl:t<4294967296:=by rw[←ht];exact zsK i
 rw[ht] at hc
 have hst:zb4 T s h=t ^^^ (s / 16):=by unfold zb4;rw[hi,ht]
 have hx2:bits .xor .u32 (t:Int) ((s:Int) / 16)=((t ^^^ (s / 16):Nat):Int):=by simpa using zdB t (s / 16) htl (by omega)
 have Hst:=zhd hst
 have i1:(i:Int)<16:=by omega
 clear hst hi hxl
 go_enter Tryz.func189,Tryz.ntmps189
 go_wp2_with fail;go_ret
 exact ⟨zgW (by rw[Hst.out]),rfl⟩
def zaP (bs:List UInt8):List UInt8:=bs.flatMap fun b=>[UInt8.ofNat (b.toNat % 16),UInt8.ofNat (b.toNat / 16)]
theorem zgy (bs:List UInt8):(zaP bs).length=2*bs.length:=by
 induction bs with
 | nil=>rfl
 | cons b bs ih=>rw[show zaP (b::bs)=UInt8.ofNat (b.toNat % 16)::UInt8.ofNat (b.toNat / 16)::zaP bs from rfl];simp[ih];omega
theorem zpZ (bs:List UInt8):∀ (j:Nat) (hj:j<bs.length),(zaP bs)[2*j]?=some (UInt8.ofNat (bs[j].toNat % 16))∧(zaP bs)[2*j+1]?=some (UInt8.ofNat (bs[j].toNat / 16)):=by
 induction bs with
 | nil=>intro j hj;simp at hj
 | cons b bs ih =>
  intro j hj
  rw[show zaP (b::bs)=UInt8.ofNat (b.toNat % 16)::UInt8.ofNat (b.toNat / 16)::zaP bs from rfl]
  cases j with
  | zero=>exact ⟨rfl,rfl⟩
  | succ j =>
   obtain ⟨h0,h1⟩:=ih j (by simpa using hj)
   rw[show 2*(j+1)=2*j+1+1 from by omega]
   simp only[List.getElem?_cons_succ,List.getElem_cons_succ]
   exact ⟨h0,h1⟩
theorem zm0 (bs:List UInt8) (j p:Nat) (hj:j<bs.length) (hp:p=0∨p=1):∃ post,zaP bs=(zaP bs).take (2*j+p)++UInt8.ofNat (bs[j].toNat / 16^p % 16)::post:=by
 have hl:=zgy bs;obtain ⟨h0,h1⟩:=zpZ bs j hj
 have hlt:2*j+p<(zaP bs).length:=by omega
 have hb:=bs[j].toNat_lt
 have he:(zaP bs)[2*j+p]=UInt8.ofNat (bs[j].toNat / 16^p % 16):=by
  rcases hp with rfl | rfl
  ·obtain ⟨_,e⟩:=List.getElem?_eq_some_iff.1 h0
   simpa using e
  ·obtain ⟨_,e⟩:=List.getElem?_eq_some_iff.1 h1
   rw[e]
   congr 1
   omega
 refine ⟨(zaP bs).drop (2*j+p+1),?_⟩
 rw[←he]
 conv=>lhs;rw[←List.take_append_drop (2*j+p) (zaP bs),List.drop_eq_getElem_cons hlt]
theorem zon (bs:List UInt8) (i:Nat) (d:UInt8) (post:List UInt8) (hi:i≤(zaP bs).length) (h:zaP bs=(zaP bs).take i++d::post):(zaP bs).take (i+1)=(zaP bs).take i++[d]:=by
 have hl:((zaP bs).take i).length=i:=by rw[List.length_take];omega
 conv=>lhs;rw[h]
 rw[List.take_append,hl,List.take_of_length_le (by omega),show i+1-i=1 from by omega]
 rfl
theorem zf3 {L:List Nat} {J:Nat→Act→World→Prop} {Q:Exit→Act→World→Prop} {a:Act} {w:World} (h:Q .normal a w):Exit.jumps L J Q .normal a w:=h
def HvR (bs:List UInt8) (A:Option Addr) (c l B N:Nat) (wo:World) (J:List UInt8→World→Prop) (a:Act) (w:World):Prop :=
 ∃ (i:Nat) (u4 u5 u6 u7 u8 u9 u10 u11 u12 u13 u14 u15 u16 u17 u18 u19 u20 u21 u22 u23 u24:Value),(i≤2*bs.length∧Hid (J ((zaP bs).take i) w)∧Hid (Hold wo w)∧Boxed w B 38 (.slice A bs.length c)∧N≤w.heap.size) ∧
  a=⟨#[.func (.yield l) #[] #[],.pointer (some ⟨B,0,none⟩),undef,.int .i64 i,u4,u5,u6,u7,u8,u9,u10,u11,u12,u13,u14,u15,u16,u17,u18,u19,u20,u21,u22,u23,u24],[]⟩
theorem zom (wo W0:World) (v:Value) (bs:List UInt8) (hP:Bs wo v bs) (hlen:bs.length≤2000000) (hE:Hold wo W0) (bz B:Nat) (hbz:wo.heap.size≤bz) (hne:B≠bz) (hB:Boxed W0 B 38 v) :
  Seq Tryz.prog 231 #[.pointer (some ⟨B,0,none⟩)] (fun (d:UInt8) av _=>av = #[bv d]) (fun k o=>k≠bz∧o.isCells=true) (fun _ _=>False) (zaP bs) W0:=by
 intro l J Jx hJ hJx hY h0;obtain ⟨A,c,rfl,h1,h2⟩:=SlR.open_ hP
 refine (callsIn_wd (ro:=none) (n:=9)).1 ?_
 refine callsIn_of_wp Tryz.func231 rfl trivial ?_ rfl
 simp only[Tryz.ntmps231,List.size_toArray,List.length_cons,List.length_nil,Nat.reduceAdd,Nat.reduceSub,Array.replicate_succ,Array.replicate_zero,List.push_toArray,List.append_toArray,List.nil_append,List.cons_append]
 refine zg2 0 (HvR bs A c l B W0.heap.size wo J) (fun a _=>2*bs.length-(intOf (a.tmps.getD 3 undef)).toNat) rfl (fun l' h=>by cases l' <;> first | exact absurd rfl h | rfl) ?_ ?_
 ·gi_wp2
  exact ⟨0,_,_,_,_,_,_,_,_,_,_,_,_,_,_,_,_,_,_,_,_,_,⟨by omega,h0,hE,hB,Nat.le_refl _⟩,rfl⟩
 ·intro a w hR
  obtain ⟨i,u4,u5,u6,u7,u8,u9,u10,u11,u12,u13,u14,u15,u16,u17,u18,u19,u20,u21,u22,u23,u24,⟨hi,HJ,HH,hBx,hsz⟩,rfl⟩:=hR;have c1:=hBx.cell
  by_cases hlt:i<2*bs.length
  ·obtain ⟨j,p,hij,hp⟩:∃ j p,i=2*j+p∧(p=0∨p=1):=⟨i / 2,i % 2,by omega,by omega⟩
   have hj:j<bs.length:=by omega
   obtain ⟨_,b,off,rfl,hc⟩:=Bs.at_ hP (by omega);have hcj:=HH.out _ _ (hc j hj);obtain ⟨post,hpost⟩:=zm0 bs j p hj hp;have htk:=zon bs _ _ post (by rw[zgy];omega) hpost;rw[←hij] at hpost htk;have hy:=hY _ _ _ hpost _ #[bv (UInt8.ofNat (bs[j].toNat / 16^p % 16))] HJ.out hsz rfl
   have hpre:(zaP bs).take (i+1) <+: zaP bs:=List.take_prefix _ _
   have hq:=bs[j].toNat_lt
   generalize bs[j].toNat=q at *
   have hi2:(i:Int)<2*(bs.length:Int):=by omega
   have hjl:(j:Int)<(bs.length:Int):=by omega
   have hd:(i:Int) / 2=(j:Int):=by omega
   have hd2:i / 2=j:=by omega
   have key:∀ (o:Oper) (a:Act) (next:Act→World→Prop) (Q:Exit→Act→World→Prop),
     (∀ W':World,J ((zaP bs).take (i+1)) W'→Hold wo W'→Boxed W' B 38 (.slice (some ⟨b,off,none⟩) bs.length c)→W0.heap.size≤W'.heap.size→next (a.put o.dst (.bool true)) W') →
     (∀ W':World,Jx ((zaP bs).take (i+1)) W'→next (a.put o.dst (.bool false)) W') →
     o.uponIn (Wd none) 9 Tryz.prog a next Q ((Instr.yield l #[bv (UInt8.ofNat (q / 16^p % 16))]).run Tryz.prog w):=by
    intro o a next Q h1 h2
    refine zbf hy ?_
    rintro e W' ⟨hk',⟨rfl,hj⟩ | ⟨rfl,hj⟩⟩
    ·refine ⟨true,rfl,h1 W' (by rw[htk];exact hj) (HH.out.kept hbz hk') (hk'.boxed hBx (.inl ⟨hne,rfl⟩)) (Nat.le_trans hsz hk'.size)⟩
    ·refine ⟨false,rfl,h2 W' (by rw[htk];exact hj)⟩
   have Hkey:=zhd key;have Hij:=zhd hij;have Hpre:=zhd hpre;have Hlt:=zhd hlt;clear hc hY hy key hpost htk hpre hij hB hE h0
   rcases hp with rfl | rfl
   ·have ha:bits .and .i64 (i:Int) 1=0:=(bits_mask .i64 62 (by decide) zet 1 (by decide) _ (by omega) (by omega)).trans (by have:=Hij.out;omega)
    have hv:bits .and .u8 (q:Int) 15=((q % 16:Nat):Int):=(bits_mask .u8 8 (by decide) wraps_u8 4 (by decide) _ (by omega) (by omega)).trans (by simp)
    gi_wp2
    have hbv:Value.int .u8 ((q:Int) % 16)=bv (UInt8.ofNat (q / 16^0 % 16)):=by rw[zhe];congr 1;omega
    exact mcCrca0
   ·have ha:bits .and .i64 (i:Int) 1=1:=(bits_mask .i64 62 (by decide) zet 1 (by decide) _ (by omega) (by omega)).trans (by have:=Hij.out;omega)
    have hv:bits .and .u8 ((q:Int) / 16) 15=((q / 16:Nat):Int):=(bits_mask .u8 8 (by decide) wraps_u8 4 (by decide) _ (by omega) (by omega)).trans (by omega)
    gi_wp2
    have hbv:Value.int .u8 ((q:Int) / 16)=bv (UInt8.ofNat (q / 16^1 % 16)):=by rw[zhe];congr 1;omega
    exact mcCrca0
  ·obtain rfl:i=2*bs.length:=by omega
   have hall:(zaP bs).take (2*bs.length)=zaP bs:=List.take_of_length_le (by rw[zgy];exact Nat.le_refl _)
   have hjj:=HJ.out;rw[hall] at hjj;have HJJ:=zhd hjj;clear hjj hall hY h0
   gi_wp2
   refine ⟨fun f h=>(by cases h),?_⟩
   gi_wp2
   refine zf3 ?_
   refine bodyPost_end (results_none rfl _ _ _) rfl ?_
   exact ⟨⟨_,rfl⟩,.inl HJJ.out⟩
theorem zp0 (A:Option Addr) (n c:Nat) (w:World):Calls Tryz.prog 188 #[.slice A n c] w fun e w'=>e=.returned (.func (.func 231) #[] #[.pointer (some ⟨w.heap.size,0,none⟩)])∧w.alloc (.cells #[.slice A n c] 38)=w':=by
 go_enter Tryz.func188,Tryz.ntmps188
 go_wp2
 go_ret
 exact ⟨rfl,rfl⟩
def zhF (T:Tab) (s:Nat) (bs:List UInt8):Nat:=(zaP bs).foldl (fun a h=>zb4 T a h.toNat) s
def zcq (T:Tab) (s:Nat) (bs:List UInt8):Nat:=4294967295 ^^^ zhF T (4294967295 ^^^ s) bs
theorem zfN (s:Nat) (h:s<4294967296):4294967295 ^^^ s<4294967296:=by
 have:4294967295 ^^^ s<2^32:=Nat.xor_lt_two_pow (by omega) (by omega)
 simpa using this
theorem zi1 (s:Nat) (h:s<4294967296):bits .xor .u32 IntKind.u32.max (s:Int)=((4294967295 ^^^ s:Nat):Int):=zdB 4294967295 s (by decide) h
theorem zjT (hs:List UInt8) (s:Nat) (h:s<4294967296):hs.foldl (fun a h=>zb4 T a h.toNat) s<4294967296:=by
 induction hs generalizing s with
 | nil=>exact h
 | cons x hs ih=>exact ih _ (zkd _ h)
def NxI (T:Tab) (w:World) (s0:Nat) (pre:List UInt8) (X:World):Prop:=Boxed X w.heap.size 142 (.int .u32 ((pre.foldl (fun a h=>zb4 T a h.toNat) s0:Nat):Int))∧Below w.heap.size w X
theorem zn8 (s:Nat) (hs:s<4294967296) (v:Value) (bs:List UInt8) (w:World) (h:Bs w v bs) (hlen:bs.length≤2000000) (hT:TabW T w) :
  Calls Tryz.prog 163 #[.int .u32 s,v] w fun e w'=>e=.returned (.int .u32 (zcq T s bs))∧Ext w w':=by
 obtain ⟨A,c,rfl,h1,h2⟩:=SlR.open_ h;have HP:=zhd h;have HT:=zhd hT;clear h hT;have hn:=zi1 s hs;have hnl:=zfN s hs;unfold zcq zhF
 generalize 4294967295 ^^^ s=s0 at *
 refine (callsIn_wd (ro:=none) (n:=9)).1 ?_
 refine callsIn_of_wp_marks Tryz.func163 rfl trivial ?_ rfl
 simp only[Tryz.ntmps163,List.size_toArray,List.length_cons,List.length_nil,Nat.reduceAdd,Nat.reduceSub,Array.replicate_succ,Array.replicate_zero,List.push_toArray,List.append_toArray,List.nil_append,List.cons_append]
 gi_wp2_with (refine ⟨trivial,?_⟩;gi_at_call 188;refine (callsIn_wd.2 (zp0 _ _ _ _)).mono ?_;rintro e w' ⟨rfl,rfl⟩)
 clear hn
 have q2:Boxed ((w.alloc (.cells #[.int .u32 s0] 142)).alloc (.cells #[.slice A bs.length c] 38)) (w.heap.size+1) 38 (.slice A bs.length c):=by
  have:=Boxed.new (w.alloc (.cells #[.int .u32 s0] 142)) 38 (.slice A bs.length c)
  rwa [World.size_alloc] at this
 have hE2:Ext w ((w.alloc (.cells #[.int .u32 s0] 142)).alloc (.cells #[.slice A bs.length c] 38)):=Ext.alloc (Ext.alloc (Ext.refl _) _) _
 have h0:NxI T w s0 [] ((w.alloc (.cells #[.int .u32 s0] 142)).alloc (.cells #[.slice A bs.length c] 38)):=⟨(Boxed.new w _ _).alloc _,hE2⟩
 have hs2:((w.alloc (.cells #[.int .u32 s0] 142)).alloc (.cells #[.slice A bs.length c] 38)).heap.size=w.heap.size+2:=by simp
 generalize (w.alloc (.cells #[.int .u32 s0] 142)).alloc (.cells #[.slice A bs.length c] 38)=w2 at *
 refine zbO (a:=⟨_,_⟩) rfl (enters_of Tryz.func231 (by kernel_rfl) rfl)
  (fun W1 hb _=>zom w W1 _ bs HP.out hlen (fun p u hc=>Ext.cell (Ext.trans hE2 hb) hc) w.heap.size (w.heap.size+1) (Nat.le_refl _) (by omega) (q2.kept (row:=none) (Ext.grown hb none) (by simp)))
  (fun k o h=>h.elim) (fun k o h=>h.2) (fun x av W h=>by rw[h];rfl)
  (NxI T w s0) (fun _ _ _=>False) ?hI (fun _ _ _ _ h _=>h) h0
  (fun x a' _=>a'=⟨#[.int .u32 s,.slice A bs.length c,.pointer (some ⟨w.heap.size,0,none⟩),undef,.int .u32 0,.int .u8 x.toNat,.int .u32 s,.int .u32 s0,.slice A bs.length c,.func (.func 231) #[] #[.pointer (some ⟨w.heap.size+1,0,none⟩)],.int .u8 x.toNat,undef,undef,undef,undef,undef],[]⟩)
  (fun _ _ _ _ h _=>h) ?assign ?body ?done ?stop
 case hI =>
  rintro s X Y ⟨hv,hB⟩ hm
  refine ⟨hm.boxed hv ?_,hm.belowOf hB ?_ (Nat.le_refl _)⟩
  ·rintro (h | h)
   ·exact h
   ·cases h.2
  ·rintro k o hk (h | h)
   ·exact h
   ·have:=h.1;omega
 case assign =>
  rintro l pre x post W av K' hx hi hsz rfl hK;simp only[bv]
  gi_wp2
  exact hK _ _ Kept.refl hi rfl
 case body =>
  rintro l pre x post a' W hx hl hr ⟨hv,hB⟩ hsz rfl;have hc:=hv.cell;have hf:=hv.frozen;have hpl:=zjT (T:=T) pre s0 hnl;have hB':=zhd hB
  have hfd:(pre++[x]).foldl (fun a h=>zb4 T a h.toNat) s0=zb4 T (pre.foldl (fun a h=>zb4 T a h.toNat) s0) x.toNat:=by rw[List.foldl_append];rfl
  have Hfd:=zhd hfd
  have hTW:TabW T W:=HT.out.ext hB
  have HTW:=zhd hTW;clear hfd hTW
  generalize pre.foldl (fun a h=>zb4 T a h.toNat) s0=sm at *
  gi_wp2_with (refine ⟨trivial,?_⟩;gi_at_call 189;refine (callsIn_wd.2 (zs6 sm x.toNat hpl x.toNat_lt W HTW.out)).mono ?_;rintro e w' ⟨rfl,rfl⟩)
  refine ⟨Kept.refl.setCell (fun o ho hc=>?_) _,by show Boxed _ _ _ _;rw[Hfd.out];exact hv.set _,hB.setCell (p:=⟨w.heap.size,0,none⟩) (Nat.le_refl _) _⟩
  rintro (h | h)
  ·exact h.1 rfl
  ·rw[hc] at h;cases h.2
 case done =>
  rintro D W hD ⟨hv,hB⟩ hK;have hc:=hv.cell;have hpl:=zjT (T:=T) (zaP bs) s0 hnl
  obtain ⟨sm,hsm⟩:∃ sm,(zaP bs).foldl (fun a h=>zb4 T a h.toNat) s0=sm:=⟨_,rfl⟩
  rw[hsm] at hpl hc;have Hsm:=zhd hsm;have hn2:=zi1 sm hpl;clear hsm hv
  gi_wp2
  refine zbg hK (.int .u32 ((4294967295 ^^^ sm:Nat):Int)) (by simp[results,Tryz.results163,go_sem]) ?_
  exact ⟨by rw[Hsm.out],zar hB (by omega) _⟩
 case stop =>
  rintro D c pre W _ _ h _
  exact h.elim
open Go.RowKit Go.Mv
def zmV (e:Ent):List UInt8:=zal [e.t,e.k,e.v]
def zha (es:List Ent):Bool:=decide (0<es.length∧es.length≤4)&&zcb es
def zbh (es:List Ent):List UInt8:=UInt8.ofNat es.length::es.flatMap zmV
def zjJ (p:Nat×Nat) (es:List Ent):List UInt8:=zbh es++zbu (zaD p (zbh es))
theorem zvb {e:Ent} (h:e.ok=true):zaA [e.t,e.k,e.v]=true:=by
 have:=okB_true.1 h
 unfold Ent.okP at this;simp only[zaA,List.all_cons,List.all_nil,Bool.and_true,Bool.and_eq_true,numB_true];omega
def zhS:Value→Nat
 | .slice _ n _=>n
 | _=>0
def zdM (n:Nat) (hs:List UInt8):Nat:=hs.foldl (fun a x=>a*128+x.toNat % 128) n
theorem zl8 (n:Nat) (hs:List UInt8) (x:UInt8):zdM n (hs++[x])=zdM n hs*128+x.toNat % 128:=by unfold zdM;rw[List.foldl_append];rfl
theorem zl7 (n:Nat) (hs:List UInt8) (x:UInt8):zdM n (x::hs)=zdM (n*128+x.toNat % 128) hs:=rfl
theorem zsM (f n:Nat) (l:List UInt8) (m:Nat) (r:List UInt8) (h:zcd f n l=(0,m,r)) :
  ∃ hs b,l=hs++b::r∧hs.length+1≤f∧(∀ x∈hs,128≤x.toNat)∧b.toNat<128∧m=zdM n hs*128+b.toNat∧m≤1073741824:=by
 induction f generalizing n l with
 | zero=>simp[zcd] at h
 | succ f ih =>
  cases l with
  | nil=>simp[zcd] at h
  | cons b l =>
   rw[zcd] at h
   by_cases hb:128≤b.toNat
   ·rw[if_pos hb] at h
    obtain ⟨hs,c,rfl,h1,h2,h3,h4,h5⟩:=ih _ _ h
    refine ⟨b::hs,c,rfl,by simp;omega,?_,h3,h4,h5⟩
    intro x hx
    rcases List.mem_cons.1 hx with rfl | hx
    ·exact hb
    ·exact h2 x hx
   ·rw[if_neg hb] at h
    split at h
    ·rename_i hm
     simp only[Prod.mk.injEq,true_and] at h;obtain ⟨rfl,rfl⟩:=h
     exact ⟨[],b,rfl,by simp,by simp,by omega,by show _=n*128+_;omega,hm⟩
    ·simp at h
theorem zqG (f n:Nat) (hs:List UInt8) (b:UInt8) (r:List UInt8) (h1:hs.length+1≤f) (h2:∀ x∈hs,128≤x.toNat) (h3:b.toNat<128) :
  zcd f n (hs++b::r)=if zdM n hs*128+b.toNat≤1073741824 then (0,zdM n hs*128+b.toNat,r) else (11,0,[]):=by
 induction hs generalizing f n with
 | nil =>
  obtain ⟨f,rfl⟩:∃ g,f=g+1:=⟨f-1,by simp at h1;omega⟩
  rw[List.nil_append,zcd,if_neg (by omega),show b.toNat % 128=b.toNat from by omega]
  rfl
 | cons x hs ih =>
  obtain ⟨f,rfl⟩:∃ g,f=g+1:=⟨f-1,by simp at h1;omega⟩
  rw[List.cons_append,zcd,if_pos (h2 x (by simp)),ih f _ (by simp at h1;omega) (fun y hy=>h2 y (by simp[hy]))]
  rfl
theorem zfU {f m:Nat} (hm:m≠0):hiB (f+1) m=hiB f (m / 128)++[UInt8.ofNat (m % 128+128)]:=by rw[hiB,if_neg hm]
theorem zlh (m:Nat):(UInt8.ofNat (m % 128+128)).toNat=m % 128+128:=by
 rw[UInt8.toNat_ofNat'];omega
theorem zuW (f v:Nat):∀ x∈hiB f v,128≤x.toNat:=by
 induction f generalizing v with
 | zero=>simp[hiB]
 | succ f ih =>
  by_cases h0:v=0
  ·subst h0;rw[zeU];simp
  ·rw[zfU h0]
   intro x hx
   rcases List.mem_append.1 hx with hx | hx
   ·exact ih _ x hx
   ·have:x=UInt8.ofNat (v % 128+128):=by simpa using hx
    subst this;rw[zlh];omega
theorem zuY (f v:Nat) (h:v<128^f):zdM 0 (hiB f v)=v:=by
 induction f generalizing v with
 | zero =>
  have:v=0:=by simpa using h
  subst this;rfl
 | succ f ih =>
  by_cases h0:v=0
  ·subst h0;rw[zeU];rfl
  ·rw[zfU h0,zl8,ih _ (by rw[Nat.pow_succ] at h;omega),zlh]
   omega
theorem zuX (f k v:Nat) (h:v<128^k):(hiB f v).length≤k:=by
 induction f generalizing v k with
 | zero=>simp[hiB]
 | succ f ih =>
  by_cases h0:v=0
  ·subst h0;rw[zeU];simp
  ·rw[zfU h0,List.length_append]
   cases k with
   | zero=>simp at h;omega
   | succ k =>
    have:=ih k (v / 128) (by rw[Nat.pow_succ] at h;omega)
    simp;omega
theorem ztG (f v:Nat) (h:v<128^f):(hiB f v).head?≠some 128:=by
 induction f generalizing v with
 | zero=>simp[hiB]
 | succ f ih =>
  by_cases h0:v=0
  ·subst h0;rw[zeU];simp
  ·rw[zfU h0]
   by_cases h1:v / 128=0
   ·rw[h1,zeU]
    intro e
    have e2:UInt8.ofNat (v % 128+128)=128:=by simpa using e
    have e3:=congrArg UInt8.toNat e2;rw[zlh] at e3
    have:(128:UInt8).toNat=128:=rfl
    omega
   ·have hne:hiB f (v / 128)≠[]:=by
     cases f with
     | zero=>simp at h;omega
     | succ f=>rw[zfU h1];simp
    have hi:=ih (v / 128) (by rw[Nat.pow_succ] at h;omega)
    cases hq:hiB f (v / 128) with
    | nil=>exact absurd hq hne
    | cons y ys=>rw[hq] at hi;simpa using hi
theorem zvq (n:Nat) (hs:List UInt8):n≤zdM n hs:=by
 induction hs generalizing n with
 | nil=>exact Nat.le_refl _
 | cons x hs ih=>rw[zl7];exact Nat.le_trans (by omega) (ih _)
theorem zui {hs:List UInt8} (hne:hs≠[]) (h1:∀ x∈hs,128≤x.toNat) (h2:hs.head?≠some 128):zdM 0 hs≠0:=by
 cases hs with
 | nil=>exact absurd rfl hne
 | cons x hs =>
  rw[zl7]
  have hx:x.toNat≠128:=fun e=>h2 (by simp;apply UInt8.toNat_inj.1;simpa using e)
  have h:=h1 x (by simp);have hl:=x.toNat_lt
  have:=zvq (0*128+x.toNat % 128) hs
  omega
theorem zvM (f:Nat) (hs:List UInt8) (hl:hs.length≤f) (h1:∀ x∈hs,128≤x.toNat) (h2:hs.head?≠some 128):hiB f (zdM 0 hs)=hs:=by
 induction f generalizing hs with
 | zero =>
  have:hs=[]:=List.eq_nil_of_length_eq_zero (by omega)
  subst this;rfl
 | succ f ih =>
  by_cases h0:hs=[]
  ·subst h0;rfl
  ·have hp:=zui h0 h1 h2
   obtain ⟨ys,y,rfl⟩:∃ ys y,hs=ys++[y]:=⟨hs.dropLast,hs.getLast h0,(List.dropLast_concat_getLast h0).symm⟩;rw[zfU hp,zl8];have hy:=h1 y (by simp);have hyl:=y.toNat_lt
   have e1:(zdM 0 ys*128+y.toNat % 128) / 128=zdM 0 ys:=by omega
   have e2:(zdM 0 ys*128+y.toNat % 128) % 128+128=y.toNat:=by omega
   rw[e1,e2,ih ys (by simp at hl;omega) (fun x hx=>h1 x (by simp[hx])) ?_,UInt8.ofNat_toNat]
   cases ys with
   | nil=>simp
   | cons z ys=>simpa using h2
theorem zoN (n:Nat) (hn:n≤1073741824):∃ hs b,zbQ n=hs++[b]∧hs.length≤4∧(∀ x∈hs,128≤x.toNat)∧b.toNat<128∧hs.head?≠some 128∧n=zdM 0 hs*128+b.toNat:=by
 have hb:(UInt8.ofNat (n % 128)).toNat=n % 128:=by rw[UInt8.toNat_ofNat'];omega
 have h5:n / 128<128^5:=by have:(128:Nat)^5=34359738368:=by decide
                           omega
 have h4:n / 128<128^4:=by have:(128:Nat)^4=268435456:=by decide
                           omega
 exact ⟨hiB 5 (n / 128),UInt8.ofNat (n % 128),ziK n hn,zuX 5 4 _ h4,zuW _ _,by omega,ztG _ _ h5,by rw[zuY _ _ h5,hb];omega⟩
theorem zl0 (n:Nat) (hn:n≤1073741824) (r:List UInt8):zbe (zbQ n++r)=(0,n,r):=by
 obtain ⟨hs,b,hsp,h1,h2,h3,h4,h5⟩:=zoN n hn;rw[hsp,List.append_assoc];unfold zbe
 have hh:(hs++([b]++r)).head?≠some 128:=by
  cases hs with
  | nil =>
   intro e
   have:b=128:=by simpa using e
   subst this
   exact absurd h3 (by decide)
  | cons x hs=>simpa using h4
 rw[if_neg hh]
 rw[show hs++([b]++r)=hs++b::r from rfl,zqG 5 0 hs b r (by omega) h2 h3,←h5,if_pos hn]
theorem znH {l:List UInt8} {m:Nat} {r:List UInt8} (h:zbe l=(0,m,r)):l=zbQ m++r∧m≤1073741824:=by
 unfold zbe at h
 split at h
 ·simp at h
 ·rename_i hh
  obtain ⟨hs,b,rfl,h1,h2,h3,h4,h5⟩:=zsM _ _ _ _ _ h
  have hh2:hs.head?≠some 128:=by
   cases hs with
   | nil=>simp
   | cons x hs=>simpa using hh
  refine ⟨?_,h5⟩
  have hd:m / 128=zdM 0 hs:=by omega
  have hm:m % 128=b.toNat:=by omega
  rw[ziK m h5,hd,hm,zvM 5 hs (by omega) h2 hh2,UInt8.ofNat_toNat,List.append_assoc];rfl
theorem zgK (l:List Int) (hl:zaA l=true) (acc:List Int) (r:List UInt8):zad l.length acc (zal l++r)=(0,acc++l,r):=by
 induction l generalizing acc with
 | nil=>simp[zad,zal]
 | cons n l ih =>
  have hn:zaJ n=true∧zaA l=true:=by simpa [zaA] using hl
  obtain ⟨hn,hl'⟩:=hn;have hn':=numB_true.1 hn
  have e:zbe (zal (n::l)++r)=(0,n.toNat,zal l++r):=by
   rw[show zal (n::l)++r=zbQ n.toNat++(zal l++r) from by simp[zal]]
   exact zl0 _ (by omega) _
  rw[List.length_cons,zad,e];simp only[if_true]
  rw[ih hl',show ((n.toNat:Nat):Int)=n from by omega,List.append_assoc]
  rfl
theorem zhX (k:Nat) (acc:List Int) (bs:List UInt8) (l:List Int) (r:List UInt8) (h:zad k acc bs=(0,l,r)) :
  ∃ l',l=acc++l'∧l'.length=k∧zaA l'=true∧bs=zal l'++r:=by
 induction k generalizing acc bs with
 | zero =>
  simp only[zad,Prod.mk.injEq,true_and] at h;obtain ⟨rfl,rfl⟩:=h
  exact ⟨[],by simp,rfl,rfl,rfl⟩
 | succ k ih =>
  rw[zad] at h
  rcases ht:zbe bs with ⟨e,m,r1⟩
  rw[ht] at h;dsimp only at h
  by_cases he:e=0
  ·subst he
   rw[if_pos rfl] at h;obtain ⟨h1,h2⟩:=znH ht;obtain ⟨l',rfl,h3,h4,h5⟩:=ih _ _ h
   refine ⟨(m:Int)::l',by simp,by simp[h3],?_,?_⟩
   ·simp only[zaA,List.all_cons,Bool.and_eq_true] at h4 ⊢
    exact ⟨numB_true.2 ⟨by omega,by omega⟩,h4⟩
   ·rw[h1,h5];simp[zal]
  ·rw[if_neg he] at h
   simp at h;exact absurd h.1 he
def zaV (es:List Ent):List Int:=es.flatMap fun e=>[e.t,e.k,e.v]
def zel:List Int→List Ent
 | t::k::v::l=>⟨t,k,v⟩::zel l
 | _=>[]
theorem zsQ (es:List Ent):zel (zaV es)=es:=by
 induction es with
 | nil=>rfl
 | cons e es ih=>rw[show zaV (e::es)=e.t::e.k::e.v::zaV es from rfl,zel,ih]
theorem zd1 (es:List Ent):(zaV es).length=3*es.length:=by
 induction es with
 | nil=>rfl
 | cons e es ih=>rw[show zaV (e::es)=e.t::e.k::e.v::zaV es from rfl];simp[ih];omega
theorem zlF (k:Nat) (l:List Int) (h:l.length=3*k):zaV (zel l)=l∧(zel l).length=k:=by
 induction k generalizing l with
 | zero =>
  have:l=[]:=List.eq_nil_of_length_eq_zero (by omega)
  subst this;exact ⟨rfl,rfl⟩
 | succ k ih =>
  match l,h with
  | t::k'::v::l,h =>
   obtain ⟨h1,h2⟩:=ih l (by simp at h;omega);rw[zel]
   exact ⟨by rw[show zaV (⟨t,k',v⟩::zel l)=t::k'::v::zaV (zel l) from rfl,h1],by simp[h2]⟩
theorem zkX (a b:List Int):zal (a++b)=zal a++zal b:=by simp[zal]
theorem zjA (es:List Ent):zal (zaV es)=es.flatMap zmV:=by
 induction es with
 | nil=>rfl
 | cons e es ih=>rw[show zaV (e::es)=[e.t,e.k,e.v]++zaV es from rfl,zkX,ih];rfl
theorem zn0 {es:List Ent} (h:zcb es=true):zaA (zaV es)=true:=by
 induction es with
 | nil=>rfl
 | cons e es ih =>
  have he:e.ok=true∧zcb es=true:=by simpa [zcb] using h
  have h1:=zvb he.1;have h2:=ih he.2
  simp only[zaA,List.all_eq_true] at h1 h2 ⊢
  intro x hx
  rcases List.mem_append.1 (show x∈[e.t,e.k,e.v]++zaV es from hx) with hx | hx
  ·exact h1 x hx
  ·exact h2 x hx
def zd5:List UInt8→Option (List Ent×List UInt8)
 | []=>none
 | c::r=>if c.toNat=0∨4<c.toNat then none else if (zad (3*c.toNat) [] r).1=0∧zcb (zel (zad (3*c.toNat) [] r).2.1)=true then some (zel (zad (3*c.toNat) [] r).2.1,(zad (3*c.toNat) [] r).2.2) else none
theorem zgj (es:List Ent):zha es=true↔(0<es.length∧es.length≤4)∧zcb es=true:=by simp[zha]
theorem zqJ {es:List Ent} (h:zha es=true) (r:List UInt8):zd5 (zbh es++r)=some (es,r):=by
 obtain ⟨⟨h1,h2⟩,h3⟩:=(zgj es).1 h
 have hc:(UInt8.ofNat es.length).toNat=es.length:=by rw[UInt8.toNat_ofNat'];omega
 have ht:=zgK (zaV es) (zn0 h3) [] r;rw[zd1,zjA,List.nil_append] at ht
 rw[show zbh es++r=UInt8.ofNat es.length::(es.flatMap zmV++r) from rfl,zd5,hc,if_neg (by omega),ht]
 dsimp only;rw[zsQ,if_pos ⟨rfl,h3⟩]
theorem zl1 {bs:List UInt8} {es:List Ent} {r:List UInt8} (h:zd5 bs=some (es,r)):zha es=true∧bs=zbh es++r:=by
 cases bs with
 | nil=>simp[zd5] at h
 | cons c l =>
  rw[zd5] at h
  split at h
  ·simp at h
  ·rename_i hc
   rcases ht:zad (3*c.toNat) [] l with ⟨e,li,r1⟩
   rw[ht] at h;dsimp only at h
   split at h
   ·rename_i he
    obtain ⟨rfl,h3⟩:=he;obtain ⟨l',hl',h4,h5,h6⟩:=zhX _ _ _ _ _ ht;rw[List.nil_append] at hl';subst hl';simp only[Option.some.injEq,Prod.mk.injEq] at h;obtain ⟨rfl,rfl⟩:=h;obtain ⟨h7,h8⟩:=zlF c.toNat li h4
    refine ⟨(zgj _).2 ⟨by omega,h3⟩,?_⟩
    rw[h6]
    conv=>lhs;rw[←h7]
    rw[zjA]
    show _=UInt8.ofNat (zel li).length::_
    rw[h8,UInt8.ofNat_toNat];rfl
   ·simp at h
def zcR (p:Nat×Nat) (bs:List UInt8):Option (List Ent×List UInt8) :=
 match zd5 bs with
 | none=>none
 | some x=>if 4≤x.2.length∧x.2.take 4=zbu (zaD p (zbh x.1)) then some (x.1,x.2.drop 4) else none
theorem zfo (p:Nat×Nat):(zbu p).length=4:=rfl
theorem zlM (p:Nat×Nat) (bs:List UInt8) (es:List Ent) (r:List UInt8):zcR p bs=some (es,r)↔zha es=true∧bs=zjJ p es++r:=by
 constructor
 ·intro h
  unfold zcR at h
  split at h
  ·simp at h
  ·rename_i x hx
   split at h
   ·rename_i h4
    simp only[Option.some.injEq,Prod.mk.injEq] at h;obtain ⟨rfl,rfl⟩:=h;obtain ⟨h5,h6⟩:=zl1 (es:=x.1) (r:=x.2) hx
    refine ⟨h5,?_⟩
    rw[h6];unfold zjJ
    rw[←h4.2,List.append_assoc,List.take_append_drop]
   ·simp at h
 ·rintro ⟨h1,rfl⟩
  have h2:=zqJ h1 (zbu (zaD p (zbh es))++r);unfold zcR
  rw[show zjJ p es++r=zbh es++(zbu (zaD p (zbh es))++r) from by unfold zjJ;rw[List.append_assoc],h2]
  dsimp only;have hl:=zfo (zaD p (zbh es))
  rw[if_pos ⟨by simp[hl],List.take_left' hl⟩,List.drop_left' hl]
theorem ztg (p:Nat×Nat) (es:List Ent):5≤(zjJ p es).length:=by unfold zjJ zbh;rw[List.length_append,zfo,List.length_cons];omega
theorem zlN {p:Nat×Nat} {bs:List UInt8} {es:List Ent} {r:List UInt8} (h:zcR p bs=some (es,r)):r.length<bs.length:=by
 rw[((zlM p bs es r).1 h).2,List.length_append]
 have:=ztg p es;omega
def zbY (p:Nat×Nat) (bs:List UInt8):List Ent×(Nat×Nat)×List UInt8 :=
 match h:zcR p bs with
 | none=>([],p,bs)
 | some (es,r)=>(es++(zbY (zaD p (zbh es)) r).1,(zbY (zaD p (zbh es)) r).2)
termination_by bs.length
decreasing_by all_goals exact zlN h
theorem zkS {p:Nat×Nat} {bs:List UInt8} (h:zcR p bs=none):zbY p bs=([],p,bs):=by
 rw[zbY];split
 ·rfl
 ·rename_i h';rw[h] at h';cases h'
theorem zkT {p:Nat×Nat} {bs:List UInt8} {es:List Ent} {r:List UInt8} (h:zcR p bs=some (es,r)) :
  zbY p bs=(es++(zbY (zaD p (zbh es)) r).1,(zbY (zaD p (zbh es)) r).2):=by
 rw[zbY];split
 ·rename_i h';rw[h] at h';cases h'
 ·rename_i h';rw[h] at h';cases h';rfl
def zdv:List UInt8→Option (Nat×List UInt8)
 | []=>none
 | c::r=>if c=2∧(zbe r).1=0∧(zbe r).2.1≠0 then some (zbe r).2 else none
theorem zrL (bs:List UInt8) (first:Nat) (r:List UInt8):zdv bs=some (first,r)↔(zcM (first:Int)).1=0∧bs=(zcM (first:Int)).2++r:=by
 have hsh:zal [(first:Int)]=zbQ first:=by simp[zal]
 constructor
 ·intro h
  cases bs with
  | nil=>simp[zdv] at h
  | cons c l =>
   rw[zdv] at h
   split at h
   ·rename_i hc
    obtain ⟨rfl,h1,h2⟩:=hc
    rcases ht:zbe l with ⟨e,m,r1⟩
    rw[ht] at h h1 h2;dsimp only at h h1 h2;subst h1;simp only[Option.some.injEq,Prod.mk.injEq] at h;obtain ⟨rfl,rfl⟩:=h;obtain ⟨h3,h4⟩:=znH ht;unfold zcM
    rw[if_pos ⟨numB_true.2 ⟨by omega,by omega⟩,by omega⟩,hsh]
    exact ⟨rfl,by rw[h3];rfl⟩
   ·simp at h
 ·rintro ⟨h1,h2⟩
  unfold zcM at h1 h2
  split at h1
  ·rename_i hc
   rw[if_pos hc,hsh] at h2;have hn:=numB_true.1 hc.1;subst h2
   rw[show (2::zbQ first)++r=2::(zbQ first++r) from rfl,zdv,zl0 first (by omega)]
   dsimp only
   rw[if_pos ⟨rfl,rfl,by omega⟩]
  ·simp at h1
theorem zrM {bs:List UInt8} {first:Nat} {r:List UInt8} (h:zdv bs=some (first,r)):r.length≤bs.length∧bs.take (bs.length-r.length)=(zcM (first:Int)).2:=by
 obtain ⟨_,h2⟩:=(zrL _ _ _).1 h;rw[h2]
 exact ⟨by simp,by rw[List.length_append,Nat.add_sub_cancel,List.take_left]⟩
structure zgi where
 err:Int
 first:Nat
 log:List Ent
 used:Nat
 pt:Nat×Nat
def zcQ (bs:List UInt8):zgi :=
 match zdv bs with
 | none=>⟨11,0,[],0,(0,0)⟩
 | some x=>⟨0,x.1,(zbY (zaD (0,0) (zcM (x.1:Int)).2) x.2).1,bs.length-(zbY (zaD (0,0) (zcM (x.1:Int)).2) x.2).2.2.length,(zbY (zaD (0,0) (zcM (x.1:Int)).2) x.2).2.1⟩
attribute [local go_sem] Oper.semAt_some
theorem zmU (es:List Ent) (i:Nat) (h:i<es.length):(zaV es).drop (i*3)=es[i].t::es[i].k::es[i].v::(zaV es).drop (i*3+3):=by
 induction es generalizing i with
 | nil=>simp at h
 | cons e es ih =>
  rw[show zaV (e::es)=e.t::e.k::e.v::zaV es from rfl]
  cases i with
  | zero=>rfl
  | succ i =>
   have:=ih i (by simpa using h)
   rw[show (i+1)*3=i*3+1+1+1 from by omega]
   simpa using this
theorem zrP {wo:World} {b off n c:Nat} {es:List Ent} (h:Is wo (.slice (some ⟨b,off,none⟩) n c) (zaV es)) (i:Nat) (hi:i<es.length) :
  Is wo (.slice (some ⟨b,off+i*3,none⟩) 3 3) [es[i].t,es[i].k,es[i].v]:=by
 have hl:=zd1 es;obtain ⟨h0,A,c',e,h1,h2,h3⟩:=h
 cases e
 obtain ⟨b',off',e',hc⟩:=h3 (by omega)
 cases e'
 refine ⟨by simp,_,3,rfl,Nat.le_refl _,by simp[maxLen],fun _=>⟨b,off+i*3,rfl,fun j u hu=>?_⟩⟩
 have hd:=zmU es i hi
 have hj:j<3:=by
  have:=(List.getElem?_eq_some_iff.1 hu).1
  simpa using this
 rw[Nat.add_assoc]
 refine hc (i*3+j) u ?_
 rw[←hu,←List.getElem?_drop,←List.map_drop,hd]
 match j,hj with
 | 0,_=>rfl
 | 1,_=>rfl
 | 2,_=>rfl
theorem zpO (wo W0:World) (v:Value) (es:List Ent) (hes:Is wo v (zaV es)) (hlen:es.length≤2000000) (bs bn:Nat) (hB1:Boxed W0 bs 96 v) (hB2:Boxed W0 bn 3 (.int .i64 3)) :
  Seq Tryz.prog 140 #[.pointer (some ⟨bs,0,none⟩),.pointer (some ⟨bn,0,none⟩)]
   (fun (e:Ent) av _=>∃ b off,av = #[.slice (some ⟨b,off,none⟩) 3 3]∧Is wo (.slice (some ⟨b,off,none⟩) 3 3) [e.t,e.k,e.v]) (fun k o=>(k=bs∧o.ty=some 96)∨(k=bn∧o.ty=some 3)) (fun _ _=>False) es W0:=by
 intro l J Jx hJ hJx hY h0;have hL:=zd1 es;obtain ⟨A,c,rfl,h1,h2⟩:=SlR.open_ hes
 rw[hL] at *
 refine (callsIn_wd (ro:=none) (n:=9)).1 ?_
 refine callsIn_of_wp Tryz.func140 rfl trivial ?_ rfl
 simp only[Tryz.ntmps140,List.size_toArray,List.length_cons,List.length_nil,Nat.reduceAdd,Nat.reduceSub,Array.replicate_succ,Array.replicate_zero,List.push_toArray,List.append_toArray,List.nil_append,List.cons_append];have Hes:=zhd hes;clear hL hes
 gi_wp2
 gi_loopw [4] (fun j W=>∃ (i:Nat),j=.int .i64 (i*3:Nat)∧i≤es.length∧Hid (J (es.take i) W)∧Boxed W bs 96 (.slice A (3*es.length) c)∧Boxed W bn 3 (.int .i64 3)∧W0.heap.size≤W.heap.size) (fun j _=>3*es.length+4-(intOf j).toNat)
 case atStart=>exact ⟨0,rfl,Nat.zero_le _,h0,hB1,hB2,Nat.le_refl _⟩
 case round =>
  obtain ⟨i,rfl,hk,HJ,b1,b2,hsz⟩:=hrel;have c1:=b1.cell;have c2:=b2.cell
  by_cases hlt:i<es.length
  ·have hes':=Hes.out
   obtain ⟨hx,b,off,rfl,hc⟩:=Is.at_ hes' (by rw[zd1];omega);clear hc hx;have hp:=zrP hes' i hlt;have Hp:=zhd hp
   have hkk:(i*3:Nat)<3*es.length:=by omega
   have hk3:(i*3:Nat)+3≤3*es.length:=by omega
   have htk:es.take (i+1)=es.take i++[es[i]]:=List.take_succ_eq_append_getElem hlt
   have Htk:=zhd htk
   have hsp:es=es.take i++es[i]::es.drop (i+1):=by rw[←List.drop_eq_getElem_cons hlt,List.take_append_drop]
   have Hsp:=zhd hsp;clear hp htk hsp hes'
   have hi3:((i*3:Nat):Int)=(i:Int)*3:=by omega
   obtain ⟨k,hkd⟩:∃ k,i*3=k:=⟨_,rfl⟩;have Hkd:=zhd hkd;rw[hkd] at hkk hk3 Hp;simp only[hkd];clear hi3 hkd
   gi_wp2
   gi_region
   have hif:(if ((3*es.length-k:Nat):Int)<3 then ((3*es.length-k:Nat):Int) else 3)=3:=by split <;> omega
   try rw[hif]
   clear hif;have hy:=hY (es.take i) es[i] (es.drop (i+1)) Hsp.out wr.drew #[.slice (some ⟨b,off+k,none⟩) 3 3] (hJ _ _ _ HJ.out (Moves.refl.drew)) hsz ⟨b,off+k,rfl,Hp.out⟩;have Hy:=zhd hy
   have b1':Boxed wr.drew bs 96 (.slice (some ⟨b,off,none⟩) (3*es.length) c):=b1
   have b2':Boxed wr.drew bn 3 (.int .i64 3):=b2
   clear hy hY
   gi_wp2
   refine zbf Hy.out ?_
   rintro e W' ⟨hk',⟨rfl,hj⟩ | ⟨rfl,hj⟩⟩
   ·refine ⟨true,rfl,?_⟩
    have d1:Boxed W' bs 96 (.slice (some ⟨b,off,none⟩) (3*es.length) c):=hk'.boxed b1' (.inl (.inl ⟨rfl,rfl⟩))
    have d2:Boxed W' bn 3 (.int .i64 3):=hk'.boxed b2' (.inl (.inr ⟨rfl,rfl⟩))
    have e2:=d2.cell
    have hs':W0.heap.size≤W'.heap.size:=Nat.le_trans hsz hk'.size
    have HJ3:=zhd hj;clear hj hk' c1 c2
    gi_wp2
    refine ⟨⟨i+1,?_,by omega,?_,d1,d2,hs'⟩,by simp[intOf];omega⟩
    ·have:=Hkd.out
     rw[show (i+1)*3=k+3 from by omega];go_num
    ·show J _ _;rw[Htk.out];exact HJ3.out
   ·refine ⟨false,rfl,?_⟩
    have HJ3:=zhd hj;clear hj hk' c1 c2
    gi_wp2
    refine bodyPost_ret (results_none rfl _ _ _) rfl ?_
    refine ⟨⟨_,rfl⟩,.inr ⟨es.take (i+1),?_,?_⟩⟩
    ·exact List.take_prefix _ _
    ·rw[Htk.out];exact HJ3.out
  ·have hC:es.take i=es:=List.take_of_length_le (by omega)
   have hi3:3*es.length≤i*3:=by omega
   have hi4:¬ (((i*3:Nat):Int)<((3*es.length:Nat):Int)):=by omega
   obtain ⟨k,hkd⟩:∃ k,i*3=k:=⟨_,rfl⟩;have HC2:=zhd hC
   have hk6:k≤3*es.length:=by omega
   rw[hkd] at hi3;simp only[hkd];clear hC hi4 hkd
   gi_wp2
   refine bodyPost_end (results_none rfl _ _ _) rfl ?_
   exact ⟨⟨_,rfl⟩,.inl (by have:=HJ.out;rw[HC2.out] at this;exact this)⟩
theorem zpn (A:Option Addr) (n c:Nat) (w:World):Calls Tryz.prog 104 #[.slice A n c,.int .i64 3] w fun e w' =>
  e=.returned (.func (.func 140) #[] #[.pointer (some ⟨w.heap.size,0,none⟩),.pointer (some ⟨w.heap.size+1,0,none⟩)]) ∧
  (w.alloc (.cells #[.slice A n c] 96)).alloc (.cells #[.int .i64 3] 3)=w':=by
 go_enter Tryz.func104,Tryz.ntmps104
 go_wp2
 go_ret
 exact ⟨rfl,rfl⟩
attribute [local go_sem] Oper.semAt_some ze3
theorem Hold.moves {wo W W':World} {M:Nat→Obj→Prop} (h:Hold wo W) (hm:Moves M W W') (hM:∀ k o,k<wo.heap.size→o.isCells=true→¬ M k o):Hold wo W':=by
 intro q u hq;have hlt:=World.block_lt_of_cell? wo q hq
 exact hm.cell (h q u hq) (fun o _ hc=>hM _ o hlt hc)
attribute [local go_sem] Oper.semAt_some
theorem zpN (vp:Value) (bss:List (List UInt8)) (w:World) (h:Parts w vp bss):Calls Tryz.prog 247 #[.complex .f64 0 0,vp] w fun e w'=>∃ v',e=.returned v'∧PtV v' (zaD (0,0) bss.flatten)∧Ext w w':=by
 have hz:=PtV.zero.pt
 have:=zh9 0 0 vp bss w h
 unfold zkj at this;rw[hz] at this
 exact this
end Go.Proofs.YtgonhdeochgkoaaGreatDoor
