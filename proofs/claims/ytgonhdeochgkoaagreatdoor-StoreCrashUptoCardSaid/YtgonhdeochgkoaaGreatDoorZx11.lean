/- Merged -/
import Derived.Test.YtgonhdeochgkoaaGreatDoorZx10
set_option linter.all false
set_option maxHeartbeats 8000000
set_option maxRecDepth 100000
open List renaming length_drop→P0,append_toArray→P1,take_succ_eq_append_getElem→P2,size_toArray→P3,push_toArray→P4,length_take→P5,cons_append→P6,length_nil→P7,getElem?_eq_getElem→P8,append_assoc→P9,append_nil→Pa,map_cons→Pb,map_nil→Pc
open Go.RowKit.Below renaming setCell→Pd
open Go.Mv.Ext renaming grown→Pe
open Array renaming replicate_zero→Pf,replicate_succ→Pg
open Go.World renaming ownsRow_nil→Ph
open Go.Value renaming slice→Pi
open Go.Oper renaming semAt_some→Pj
open Nat renaming reduceSub→Pk,reduceAdd→Pl,le_trans→Pm
namespace Go.Proofs.YtgonhdeochgkoaaGreatDoor
open Go.RowKit Go.Mv Go.Shelf
attribute [local go_sem] Pj
def zhc (n:Nat):List UInt8:=zaT 8 n false 4
def za9 (l:List Int):List UInt8:=l.flatMap fun n=>zhc n.toNat
theorem znH (n:Nat) (k:Nat):(zaT 8 n false k).length=k+1:=by
 induction k with
 | zero=>simp[zaT]
 | succ k ih=>rw[zaT,if_neg (by simp)];simp[ih]
theorem zrh (n:Nat):(zhc n).length=5:=znH n 4
theorem zlb (l:List Int):(za9 l).length=5*l.length:=by
 induction l with
 | nil=>rfl
 | cons n l ih=>rw[show za9 (n::l)=zhc n.toNat++za9 l from rfl,xL,zrh,ih,xC];omega
theorem zpA {l:List Int} {k:Nat} (h:k<l.length):za9 (l.take (k+1))=za9 (l.take k)++zhc l[k].toNat:=by
 rw[P2 h];unfold za9;rw[List.flatMap_append];simp
def LgI (base N:Nat) (w:World) (bs H1:List UInt8) (X:World):Prop :=
 ∃ v,Boxed X N 38 v∧X.ownsRow base 5 1 v (bs++H1).length ((bs++H1).map bv)∧Below base w X
set_option maxRecDepth 100000 in
theorem zqj (bs:List UInt8) (n:Nat) (hn:n≤1073741824) (vb:Value) (base:Nat) (w:World) (H6:w.ownsRow base 5 1 vb bs.length (bs.map bv)) (Hb:base≤w.heap.size) (Hg:bs.length+5≤1099511627776) :
  Calls Tryz.prog 234 #[vb,.int .i64 n] w (zot base w (bs++zhc n)):=by
 obtain ⟨A,cc,rfl,_,_⟩:=xO (xW H6)
 refine (callsIn_wd (ro:=none) (n:=9)).1 ?_
 refine callsIn_of_wp_marks Tryz.func234 rfl trivial ?_ rfl
 simp only[Tryz.ntmps234,P3,xC,P7,Pl,Pk,Pg,Pf,P4,P1,xI,P6]
 gi_wp2_with (refine ⟨trivial,?_⟩;gi_at_call 129;refine (callsIn_wd.2 (zkc n 8 5 false _)).mono ?_;rintro e w' ⟨rfl,rfl⟩)
 have hN:w.heap.size+5=(zfg (w.alloc (Obj.cells #[Pi A bs.length cc] 38)) n 8 5 false).heap.size:=by rw[(zfp _ n 8 5 false).1];simp
 obtain ⟨_,q1,q2,q3,q4,qe⟩:=zfp (w.alloc (Obj.cells #[Pi A bs.length cc] 38)) n 8 5 false
 generalize zfg (w.alloc (Obj.cells #[Pi A bs.length cc] 38)) n 8 5 false=w2 at *
 simp only[xS] at q1 q2 q3 q4
 have h0:LgI base w.heap.size w bs [] w2:=by
  refine ⟨_,(Boxed.new w _ _).kept (W':=w2) (row:=none) (Pe qe none) (by simp),?_,?_⟩
  ·have h1:=H6.alloc (Obj.cells #[Pi A bs.length cc] 38)
   simpa using h1.kept (w':=w2) (row:=none) (Pe qe none) (by cases A <;> simp[Value.ownBlock])
  ·exact (((Below.refl base w).alloc Hb _).trans (qe.mono (by simp;omega)))
 refine zbN (a:=⟨_,_⟩) rfl (enters_of Tryz.func162 (by kernel_rfl) rfl)
  (fun W1 hb _=>zi3 8 n 5 false (.inr rfl) hn (by omega) (by omega) (w.heap.size+1+2) (w.heap.size+1) (w.heap.size+1+1) (w.heap.size+1+3) (by omega) (by omega) W1
    (q3.kept (row:=none) (Pe hb none) (by simp)) (q1.kept (row:=none) (Pe hb none) (by simp))
    (q2.kept (row:=none) (Pe hb none) (by simp)) (q4.kept (row:=none) (Pe hb none) (by simp)))
  (fun k o h=>za5 h.2) (fun k o h=>by rcases h with h | h <;> exact za5 h.2) (fun x av W h=>by rw[h];rfl)
  (LgI base w.heap.size w bs) (fun _ _ _=>False) ?hI (fun _ _ _ _ h _=>h) h0
  (fun x a' _=>a'=⟨#[.slice A bs.length cc,.int .i64 n,.pointer (some ⟨w.heap.size,0,none⟩),undef,.slice none 0 0,.int .u8 x.toNat,.int .i64 n,zsH (w.heap.size+1),.int .u8 x.toNat,undef,undef,undef,undef,undef],[]⟩)
  (fun _ _ _ _ h _=>h) ?assign ?body ?done ?stop
 case hI =>
  rintro s X Y ⟨v,hv,hr,hB⟩ hm
  refine ⟨v,hm.boxed hv ?_,hm.ownsRow hr ?_,hm.belowOf hB ?_ Hb⟩
  ·rintro (h | h)
   ·have:=h.1;omega
   ·cases h.2
  ·rintro k Jh _ (h | h)
   ·cases h.2
   ·cases h.2
  ·rintro k o hk (h | h)
   ·have:=h.1;omega
   ·have:=h.1;omega
 case assign =>
  rintro l H1 x KA W av K' hx hi Hx rfl hK;simp only[bv]
  gi_wp2
  exact hK _ _ Kept.refl hi rfl
 case body =>
  rintro l H1 x KA a' W hx hl hr ⟨v,hv,H3,hB⟩ Hx rfl
  have hm:(bs++H1).length=bs.length+H1.length:=by simp
  rw[hm] at H3;obtain ⟨A',c',rfl,_,_⟩:=xO (xW H3)
  have Hw:H1.length≤4:=by
   have:=congrArg List.length hx
   have:=zg1 8 n false 4
   simp at *;omega
  obtain ⟨i0,hi,JC,JD,JE⟩:=info_parts zb8;have hc:=hv.cell;have HY:=hv.not_row (e:=5) (by decide) H3
  gi_wp2_with (gi_at_builtin;refine wpListIn_append_own _ rfl (.tmp 9) (.tmp 11) 38 rfl base 5 i0 (.int .u8 0) 1 1 Tryz.underlying38 hi JC JD JE rfl (by decide) (.slice A' (bs.length+H1.length) c') (bs.length+H1.length) ((bs++H1).map bv) rfl (H3.alloc _) ⟨W.heap.size,0,none⟩ 1 1 [.int .u8 (x.toNat:Int)] rfl rfl (cell_one_new _ _ _) (by simp[Value.oneCell']) (by simp[maxLen];omega) (by simp;omega) (by have:=hB.size;simp;omega) ?_;intro v' w1 H4 Hc _;obtain ⟨g',Kn,rfl,_,_,_⟩:=zdq H4 (by omega);have Kf:=(hv.alloc _).kept Hc HY;have JN:=Kf.cell;have JQ:=Kf.frozen)
  refine ⟨Kept.appended _ hv H3 Hc ?_ ?_,_,Kf.set _,?_,?_⟩
  ·rintro ((⟨_,h⟩ | ⟨_,h⟩) | ⟨_,h⟩) <;> cases h
  ·rintro k Jh _ ((⟨_,h⟩ | ⟨_,h⟩) | ⟨_,h⟩) <;> cases h
  ·have h:=H4.kept (grownBy_setCell' w1 w.heap.size (.slice (some ⟨g',0,none⟩) (bs.length+H1.length+1) Kn)) (.inr (Kf.not_row (by decide) H4).symm)
   simpa [bv,Nat.add_assoc] using h
  ·refine (((hB.alloc (by have:=hB.size;omega) _).grown Hc (by have:=hB.size;simp;omega) (fun k ek=>?_)).setCell (p:=⟨w.heap.size,0,none⟩) Hb _)
   exact (H3.lt k ek).1
 case done =>
  rintro D W hD ⟨v,hv,H3,hB⟩ hK;have hc:=hv.cell
  have JK:w.heap.size≤w2.heap.size:=by omega
  clear h0 H6 q1 q2 q3 q4 qe hN;have K1:=ownsRow_putObj H3 (.deferred none) hK rfl;obtain ⟨A',c',rfl,_,_⟩:=xO (xW H3)
  gi_wp2
  have K2:(W.putObj D (.deferred none)).ownsRow base 5 1 (.slice A' (bs.length+(zaT 8 n false 4).length) c') (bs++zhc n).length ((bs++zhc n).map bv):=by
   have h:=K1;rw[xL] at h;rw[xL]
   exact h
  exact zbc hK (.slice A' (bs.length+(zaT 8 n false 4).length) c') (by simp[results,Tryz.results234,go_sem]) ⟨_,rfl,K2,zaq hB (by omega) _⟩
 case stop =>
  rintro D c H1 W _ _ h _
  exact h.elim
def zqk (w:World) (l:List Int) (e:Ending) (w':World):Prop:=∃ v',e=.returned (.tuple #[v',.int .i64 0])∧w'.ownsRow w.heap.size 5 1 v' (za9 l).length ((za9 l).map bv)∧Ext w w'
set_option maxRecDepth 100000 in
theorem zpE (v:Value) (l:List Int) (w:World) (h:Is w v l) (hn:zav l=true) (hl:l.length≤2000000) :
  Calls Tryz.prog 127 #[v,.func (.func 234) #[] #[]] w (zqk w l):=by
 obtain ⟨A,c,rfl,h1,h2⟩:=xO h;have Hn:=zhd hn
 go_enter Tryz.func127,Tryz.ntmps127
 go_wp2_with (go_at_call 161;refine (zhN _ _ _ h).mono ?_;rintro e w' ⟨rfl,rfl⟩)
 clear hn
 go_loopw [4,13] (fun vb i wr=>∃ k:Nat,k≤l.length∧i=.int .i64 k∧wr.ownsRow w.heap.size 5 1 vb (za9 (l.take k)).length ((za9 (l.take k)).map bv)∧Ext w wr) (fun _ i _=>l.length-(intOf i).toNat)
 case atStart=>exact ⟨0,Nat.zero_le _,rfl,Ph _ _ _ _,xR _⟩
 case round =>
  obtain ⟨k,hk,rfl,H6,hB⟩:=hrel
  by_cases Hv:k<l.length
  ·obtain ⟨_,b,Hd,rfl,hc⟩:=Is.at_ (h.ext hB) (by omega)
   have JM:=hc k Hv;clear hc;obtain ⟨KZ,Jt⟩:=zhk Hn.out Hv;have Kd:=zlb (l.take k)
   have Ke:(l.take k).length≤k:=List.length_take_le _ _
   have key:=zqj (za9 (l.take k)) l[k].toNat (by omega) _ w.heap.size wr H6 hB.size (by omega);rw[Int.toNat_of_nonneg KZ] at key;have HI:=zhd key;clear key
   go_wp2_with (go_at_call 234;refine HI.out.mono ?_;rintro e w1 ⟨v',rfl,H4,Jk⟩)
   go_roundw
   case rel=>exact ⟨k+1,by omega,by go_num,by rw[zpA Hv];exact H4,Below.trans hB Jk⟩
   case measure=>simp[intOf];omega
  ·have Hk:l.take k=l:=List.take_of_length_le (by omega)
   rw[Hk] at H6;clear Hk;go_wp2_with fail
   go_ret2
   exact ⟨_,rfl,H6,hB⟩
theorem ztH (v:Value) (l:List Int) (w:World) (h:Is w v l) (hn:zav l=true) (hl:l.length≤2000000):Calls Tryz.prog 200 #[v] w (zqk w l):=by
 go_enter Tryz.func200,Tryz.ntmps200
 go_wp2_with (go_at_call 127;refine (zpE _ _ _ h hn hl).mono ?_;rintro e w' ⟨v',rfl,ho,hb⟩)
 go_ret2
 exact ⟨_,rfl,ho,hb⟩
def beN (l:List UInt8):Nat:=l.foldl (fun a b=>a*256+b.toNat) 0
theorem zst (l:List UInt8) (b:UInt8):beN (l++[b])=beN l*256+b.toNat:=by unfold beN;rw[List.foldl_append];rfl
def zau (bs:List UInt8):Int×Nat×List UInt8:=if bs.length<5 then (10,0,[]) else if beN (bs.take 5)≤1073741824 then (0,beN (bs.take 5),bs.drop 5) else (11,0,[])
set_option maxRecDepth 100000 in
theorem zdw (v:Value) (bs:List UInt8) (w:World) (K9:Bs w v bs) (hl:bs.length≤2000000):Calls Tryz.prog 167 #[v] w (ziB w (zau bs)):=by
 obtain ⟨A,c,rfl,h1,h2⟩:=xO K9
 by_cases h5:(bs.length:Int)<5
 ·have ht:zau bs=(10,0,[]):=by unfold zau;rw[if_pos (by omega)]
  have Ht:=zhd ht;clear ht
  go_enter Tryz.func167,Tryz.ntmps167
  go_wp2_with fail
  go_ret3
  exact ⟨_,by rw[Ht.out];rfl,by rw[Ht.out];exact Ph _ _ _ _,xR _⟩
 obtain ⟨_,b,Hd,rfl,hc⟩:=Bs.at_ K9 (by omega);have HC:=zhd hc;have J7:=zhd K9
 have J4:zau bs=if beN (bs.take 5)≤1073741824 then (0,beN (bs.take 5),bs.drop 5) else (11,0,[]):=by unfold zau;rw[if_neg (by omega)]
 have KN:=zhd J4
 have JI:(5:Int)≤(c:Int):=by omega
 clear hc K9 J4
 go_enter Tryz.func167,Tryz.ntmps167
 go_wp2_with fail
 go_loop [2,13] (fun nn ii=>∃ k n:Nat,k≤5∧Hid (n=beN (bs.take k))∧n<1099511627776∧Hid (n<256^k)∧nn=.int .i64 n∧ii=.int .i64 k) (fun _ ii=>5-(intOf ii).toNat)
 case atStart=>exact ⟨0,0,by omega,rfl,by omega,by show _<_;decide,rfl,rfl⟩
 case round =>
  obtain ⟨k,n,hk,Hn,hn,KL,rfl,rfl⟩:=hrel
  by_cases Hv:k<5
  ·have Ky:k<bs.length:=by omega
   have JO:=HC.out k Ky;have hq:=bs[k].toNat_lt
   have J2:beN (bs.take (k+1))=n*256+bs[k].toNat:=by rw[P2 Ky,zst,Hn.out]
   have JV:n<4294967296:=Nat.lt_of_lt_of_le KL.out (Pm (Nat.pow_le_pow_right (by decide) (show k≤4 by omega)) (by decide))
   have HX:n*256+bs[k].toNat<256^(k+1):=by rw[Nat.pow_succ];have:=KL.out;omega
   have Jf:=zhd J2;have Kl:=zhd HX;clear J2 HX
   generalize bs[k].toNat=q at *
   have ho:bits .or .i64 ((n:Int)*256) (q:Int)=(n:Int)*256+(q:Int):=bits_join .i64 62 (by decide) zei 8 _ _ (by omega) (by omega) (by omega) (by omega) (by omega) (by omega)
   go_wp2_with fail
   go_round
   case rel=>exact ⟨k+1,n*256+q,by omega,by show _=_;rw[Jf.out],by omega,Kl.out,by simp,by go_num⟩
   case measure=>simp[intOf];omega
  ·obtain rfl:k=5:=by omega
   have KU:=xW (zaV w [.int .i64 (n:Int)] 3 1 rfl (by simp[maxLen]) (xN _))
   have HO:Is (w.alloc (.cells #[.int .i64 (n:Int)] 3)) (.slice (some ⟨w.heap.size,0,none⟩) 1 1) [(n:Int)]:=KU
   have ha:zav [(n:Int)]=decide (n≤1073741824):=by simp[zav,zaE];omega
   have Ha:=zhd ha
   have H0:Ext w (w.alloc (.cells #[.int .i64 (n:Int)] 3)):=xA (xR _) _
   clear KU ha
   have JB:∃ vs:Value,(∀ W,Ext w W→Bs W vs (bs.drop 5))∧vs=.slice (if c=5 then some ⟨b,Hd,none⟩ else some ⟨b,Hd+5,none⟩) (bs.length-5) (c-5):=by
    by_cases hck:c=5
    ·exact ⟨_,fun W _=>Bs.cut0 (A:=some ⟨b,Hd,none⟩) (n:=bs.length) (k:=5) (c:=c-5) (bs:=bs) (by omega) rfl (by omega),by rw[if_pos hck]⟩
    ·exact ⟨_,fun W hE=>Bs.cut (J7.out.ext hE) 5 (by omega) rfl,by rw[if_neg hck]⟩
   obtain ⟨vs,K4,K5⟩:=JB;have Jc:=zhd K4;have HV:=zhd K5;clear K4 K5
   by_cases hok:n≤1073741824
   ·have hr:zau bs=(0,n,bs.drop 5):=by rw[KN.out,←Hn.out,if_pos hok]
    have Hr:=zhd hr
    have JP:(bs.drop 5).length≤2000000:=by rw[P0];omega
    clear hr
    go_wp2_with (first
     | (go_at_call 161;refine (zhN _ _ _ HO).mono ?_;rw[Ha.out,decide_eq_true hok];rintro e w1 ⟨rfl,rfl⟩)
     | (go_at_call 138;rw[←HV.out];refine (zfZ _ _ _ (Jc.out _ H0) (by omega)).mono ?_;rintro e w2 ⟨v2,rfl,Jv,H9⟩))
    go_ret3
    rw[Hr.out]
    exact ⟨_,rfl,zai Jv H0.size,xT H0 H9⟩
   ·have hr:zau bs=(11,0,[]):=by rw[KN.out,←Hn.out,if_neg hok]
    have Hr:=zhd hr;clear hr
    go_wp2_with (go_at_call 161;refine (zhN _ _ _ HO).mono ?_;rw[Ha.out,decide_eq_false hok];rintro e w1 ⟨rfl,rfl⟩)
    go_ret3
    rw[Hr.out]
    exact ⟨_,rfl,Ph _ _ _ _,H0⟩
open Go.RowKit Go.Mv
variable {T:Tab}
theorem zj9 (b:List UInt8):(zaH T b).length=b.length+4:=by unfold zaH;rw[xL,ze6]
variable {T:Tab}
def zaM (T:Tab) (b:List UInt8):Option (List UInt8):=if zc1 (zce T 0 (b.take (b.length-4)))=b.drop (b.length-4) then some (b.take (b.length-4)) else none
theorem znE (v:Value) (bs:List UInt8) (w:World) (h:Bs w v bs) (hl:5≤bs.length) (Js:bs.length≤100000) (hT:TabW T w):Calls Tryz.prog 102 #[v] w fun e w' =>
  (match zaM T bs with
  | some p=>∃ A c,e=.returned (.tuple #[.slice A p.length c,.bool true])∧OwnB w' w.heap.size (.slice A p.length c) p
  | none=>e=.returned (.tuple #[.slice none 0 0,.bool false]))∧Ext w w':=by
 obtain ⟨A,c,rfl,h1,h2⟩:=xO h;obtain ⟨_,b,Hd,rfl,hc⟩:=Bs.at_ h (by omega);obtain ⟨n,hn⟩:∃ n,bs.length-4=n:=⟨_,rfl⟩
 have KW:bs.length=n+4:=by omega
 have H8:=Bs.take h n (by omega);have K8:=Bs.cut h n (by omega) rfl
 rw[show bs.length-n=4 from by omega] at K8
 have Jt:1≤n:=by omega
 have JT:n≤100000:=by omega
 have Hw:(bs.take n).length=n:=by rw[P5];omega
 have Kv:(bs.drop n).length=4:=by rw[P0];omega
 unfold zaM;rw[hn];obtain ⟨p,hp⟩:∃ p,bs.take n=p:=⟨_,rfl⟩;obtain ⟨g,hg⟩:∃ g,bs.drop n=g:=⟨_,rfl⟩
 rw[hp] at H8 Hw ⊢
 rw[hg] at K8 Kv ⊢
 have Kd:=zhh (T:=T) 0 p (by decide);obtain ⟨sm,Kz⟩:∃ sm,zce T 0 p=sm:=⟨_,rfl⟩
 rw[Kz] at Kd ⊢
 have HT:=zhd hT;have Hl:=zhd H8;have KC:=zhd K8;have KM:=zhd Kz;obtain ⟨f0,f1,f2,f3,hf⟩:∃ f0 f1 f2 f3:UInt8,zc1 sm=[f0,f1,f2,f3]:=⟨_,_,_,_,rfl⟩;have Hf:=zhd hf;rw[hf];have JH:=zhd Hw;have JG:=zhd Kv
 rw[KW] at h1 ⊢
 clear hc h H8 K8 hp hg Kz hT hn hl Js Kv KW hf;subst Hw
 have JU:(p.length:Int)≤(c:Int):=by omega
 have Jq:¬ (c=p.length):=by omega
 have JW:(p.length:Int)≤(p.length:Int)+4:=by omega
 have hX:Ext w (w.alloc (.cells #[.slice (some ⟨b,Hd,none⟩) p.length c] 38)):=xA (xR _) _
 by_cases heq:[f0,f1,f2,f3]=g
 all_goals
  have KJ:=zhd heq
 ·rw[if_pos heq]
  clear heq
  go_enter Tryz.func102,Tryz.ntmps102
  go_wp2_with fail
  refine (zen (T:=T) w.heap.size _ c p _ (Boxed.new w _ _).cell (Hl.out.ext hX) (by omega) (HT.out.ext hX)).mono ?_
  rw[KM.out];rintro e w1 ⟨rfl,H0⟩;have X1:=xT hX H0;go_wp2_with fail
  refine (zdW sm Kd _).mono ?_
  rw[Hf.out];rintro e w2 ⟨rfl,H9⟩;simp only[Pb,Pc,bv];have X2:=xT X1 H9
  have hb3:Blk (w2.alloc (.cells #[.int .u8 (f0.toNat:Int),.int .u8 (f1.toNat:Int),.int .u8 (f2.toNat:Int),.int .u8 (f3.toNat:Int)] 140)) w2.heap.size 140 ([f0,f1,f2,f3].map bv).toArray:=Blk.new w2 _ _
  have X3:Ext w (w2.alloc (.cells #[.int .u8 (f0.toNat:Int),.int .u8 (f1.toNat:Int),.int .u8 (f2.toNat:Int),.int .u8 (f3.toNat:Int)] 140)):=xA X2 _
  have h4:Bs (w2.alloc (.cells #[.int .u8 (f0.toNat:Int),.int .u8 (f1.toNat:Int),.int .u8 (f2.toNat:Int),.int .u8 (f3.toNat:Int)] 140)) (.slice (some ⟨w2.heap.size,0,none⟩) 4 4) [f0,f1,f2,f3]:=zdy hb3 rfl (by simp[maxLen])
  go_wp2_with fail
  refine wp_region_held_drew (S:=fun _=>True) (by kernel_rfl) trivial (fun _=>?_)
  refine tkN 0 rfl ?_;refine tkN 1 rfl ?_;refine tkN 2 rfl ?_;refine tkN 3 rfl ?_
  refine ar1 4 rfl (fun K hK=>?_)
  go_simp
  have Kp:=zbk _ _ _ _ _ (h4.ext (xD (xR _))) (KC.out.ext (xD X3))
  refine Kp.mono ?_
  rw[decide_eq_true KJ.out];rintro e w4 ⟨rfl,rfl⟩
  try (go_wp2_with fail)
  refine shK hK _ _ trivial (fun _=>?_)
  refine tkN 5 rfl ?_;refine wpAnyH_done (by kernel_rfl) ?_ _;go_wp2_with fail
  refine (zj1 _ p _ (Hl.out.ext (xD X3)) (by omega) (by omega)).mono ?_
  rintro e w5 ⟨A5,c5,rfl,Jw,Ho⟩;go_wp2_with fail
  go_ret2
  exact ⟨⟨A5,c5,rfl,zai Jw (xD X3).size⟩,xT (xD X3) Ho⟩
 ·rw[if_neg heq]
  clear heq
  go_enter Tryz.func102,Tryz.ntmps102
  go_wp2_with fail
  refine (zen (T:=T) w.heap.size _ c p _ (Boxed.new w _ _).cell (Hl.out.ext hX) (by omega) (HT.out.ext hX)).mono ?_
  rw[KM.out];rintro e w1 ⟨rfl,H0⟩;have X1:=xT hX H0;go_wp2_with fail
  refine (zdW sm Kd _).mono ?_
  rw[Hf.out];rintro e w2 ⟨rfl,H9⟩;simp only[Pb,Pc,bv];have X2:=xT X1 H9
  have hb3:Blk (w2.alloc (.cells #[.int .u8 (f0.toNat:Int),.int .u8 (f1.toNat:Int),.int .u8 (f2.toNat:Int),.int .u8 (f3.toNat:Int)] 140)) w2.heap.size 140 ([f0,f1,f2,f3].map bv).toArray:=Blk.new w2 _ _
  have X3:Ext w (w2.alloc (.cells #[.int .u8 (f0.toNat:Int),.int .u8 (f1.toNat:Int),.int .u8 (f2.toNat:Int),.int .u8 (f3.toNat:Int)] 140)):=xA X2 _
  have h4:Bs (w2.alloc (.cells #[.int .u8 (f0.toNat:Int),.int .u8 (f1.toNat:Int),.int .u8 (f2.toNat:Int),.int .u8 (f3.toNat:Int)] 140)) (.slice (some ⟨w2.heap.size,0,none⟩) 4 4) [f0,f1,f2,f3]:=zdy hb3 rfl (by simp[maxLen])
  go_wp2_with fail
  refine wp_region_held_drew (S:=fun _=>True) (by kernel_rfl) trivial (fun _=>?_)
  refine tkN 0 rfl ?_;refine tkN 1 rfl ?_;refine tkN 2 rfl ?_;refine tkN 3 rfl ?_
  refine ar1 4 rfl (fun K hK=>?_)
  go_simp
  have Kp:=zbk _ _ _ _ _ (h4.ext (xD (xR _))) (KC.out.ext (xD X3))
  refine Kp.mono ?_
  rw[decide_eq_false KJ.out];rintro e w4 ⟨rfl,rfl⟩
  try (go_wp2_with fail)
  refine shK hK _ _ trivial (fun _=>?_)
  refine tkN 5 rfl ?_;refine wpAnyH_done (by kernel_rfl) ?_ _;go_wp2_with fail
  go_ret2
  exact ⟨rfl,xD X3⟩
def zd0 (T:Tab) (b:List UInt8):Option Ent :=
 match zaM T b with
 | none=>none
 | some p =>
  if (zau p).1=0 then
   (if (zau ((zau p).2.2.drop 1)).1=0 then
     (if okB (zau p).2.1 (((zau p).2.2.getD 0 0).toNat:Int) (zau ((zau p).2.2.drop 1)).2.1=true then some ⟨(zau p).2.1,(((zau p).2.2.getD 0 0).toNat:Int),(zau ((zau p).2.2.drop 1)).2.1⟩ else none)
   else none)
  else none
def zuJ (w:World) (r:Option Ent) (e:Ending) (w':World):Prop:=(match r with
 | some x=>e=.returned (.tuple #[.agg #[.int .i64 x.t,.int .i64 x.k,.int .i64 x.v],.bool true])
 | none=>e=.returned (.tuple #[.agg #[.int .i64 0,.int .i64 0,.int .i64 0],.bool false]))∧Ext w w'
theorem zh1 {b p:List UInt8} (h:zaM T b=some p):p.length=b.length-4:=by
 unfold zaM at h
 split at h
 ·cases h;rw[P5];omega
 ·cases h
attribute [local go_sem] Pj
variable {T:Tab}
theorem zvn:Tryz.prog.underlying 79=some (.struct (Tryz.prog.fieldsOf 79)):=by kernel_rfl
theorem zlr (tmps:Array Value) (W:World) (b:Nat) (cs:Array Value) (u:Value) (h2:tmps.getD 2 undef=.pointer (some ⟨b,0,none⟩)) (h3:tmps.getD 3 undef=u) (hb:Blk W b 79 cs) (hs:cs.size=3):(results Tryz.f298 tmps).run Tryz.prog W=.ok (.tuple #[.agg cs,u]) W:=by
 have hl:=hb.load (P:=Tryz.prog) zvn rfl (by rw[hs];kernel_rfl)
 have Ji:tmps[2]?.getD undef=.pointer (some ⟨b,0,none⟩):=by simpa using h2
 have Jj:tmps[3]?.getD undef=u:=by simpa using h3
 simp[results,Tryz.results298,Ji,Jj,asAddr,hl]
theorem takeLong_rest {p:List UInt8} (h:(zau p).1=0):(zau p).2.2=p.drop 5:=by
 unfold zau at h ⊢
 split at h
 ·cases h
 ·rename_i h5
  rw[if_neg h5]
  split at h
  ·rename_i hb;rw[if_pos hb]
  ·cases h
def TkJ (w:World) (r:Option Ent) (a:Act) (W:World):Prop :=
 a.defers=[]∧a.tmps.size=46∧a.tmps.getD 2 undef=.pointer (some ⟨w.heap.size,0,none⟩)∧(∃ x y z,Blk W w.heap.size 79 #[x,y,z])∧Ext w W∧Hid (r=none)
theorem zqv (v:Value) (bs:List UInt8) (w:World) (hB:Bs w v bs) (hl:bs.length=15) (hT:TabW T w):Calls Tryz.prog 298 #[v] w (zuJ w (zd0 T bs)):=by
 obtain ⟨A,c,rfl,h1,h2⟩:=xO hB;have Kr:=Blk.new w 79 #[.int .i64 0,.int .i64 0,.int .i64 0]
 have hX:Ext w (w.alloc (.cells #[.int .i64 0,.int .i64 0,.int .i64 0] 79)):=xA (xR _) _
 have KX:=znE (T:=T) _ bs _ (hB.ext hX) (by omega) (by omega) (hT.ext hX)
 have Hg:∀ p,zaM T bs=some p→p.length=11:=fun p h=>by rw[zh1 h,hl]
 have Jy:zd0 T bs=zd0 T bs:=rfl
 obtain ⟨R,hR⟩:∃ R,zd0 T bs=R:=⟨_,rfl⟩;have Kq:=hR;unfold zd0 at Kq;rw[hR]
 refine (callsIn_wd (ro:=none) (n:=9)).1 ?_
 refine callsIn_of_wp_marks Tryz.func298 rfl trivial ?_ rfl
 simp only[Tryz.ntmps298,P3,xC,P7,Pl,Pk,Pg,Pf,P4,P1,xI,P6];have HF:=zhd KX;have Hm:=zhd Hg;have HR:=zhd Kq
 have JY:w.heap.size<(w.alloc (.cells #[.int .i64 0,.int .i64 0,.int .i64 0] 79)).heap.size:=by simp
 clear KX Hg Jy hR Kq hB hT hl
 gi_wp2
 refine zbl 0 (TkJ w R) (fun a _=>0) rfl (fun l' h=>by cases l' <;> first | exact absurd rfl h | rfl) ?_ ?_
 ·intro H2
  clear H2
  cases hcr:zaM T bs with
  | none =>
   rw[hcr] at HF HR
   have HN:Hid (R=none):=HR.out.symm
   clear HR Hm hcr
   gi_wp2_with (refine ⟨trivial,?_⟩;gi_at_call 102;refine (callsIn_wd.2 HF.out).mono ?_;rintro e w1 ⟨rfl,H0⟩)
   refine wpIn_goto ?_
   simp only[Exit.then]
   refine zag (by simp) ?_
   exact ⟨rfl,rfl,rfl,⟨_,_,_,Kr.ext H0⟩,xT hX H0,HN.out⟩
  | some p =>
   have hp:=Hm.out p hcr;rw[hcr] at HF HR;clear Hm hcr
   have HB:=fun (w':World) (vv:Value) (h:Bs w' vv p)=>zdw vv p w' h (by omega)
   have H2:=@takeLong_rest p
   rcases Ke:zau p with ⟨e1,t,rest⟩
   rw[Ke] at HB H2;have He:=HR.out;simp only[Ke] at He;have HK:=zhd HB;clear HR HB Ke
   by_cases he1:e1=0
   ·subst he1
    have J1:rest.length=6:=by
     have h:=H2 rfl;dsimp only at h;rw[h,P0,hp]
    simp only[if_true] at He;obtain ⟨kb,Kx⟩:∃ kb,rest.getD 0 0=kb:=⟨_,rfl⟩;rw[Kx] at He
    have KY:rest[0]?=some kb:=by
     rw[P8 (by omega),←Kx]
     simp[List.getD_eq_getElem?_getD,P8 (show 0<rest.length by omega)]
    obtain ⟨Kw,HW⟩:=List.getElem?_eq_some_iff.1 KY
    have HD:=fun (w':World) (vv:Value) (h:Bs w' vv (rest.drop 1))=>zdw vv (rest.drop 1) w' h (by rw[P0];omega)
    rcases htl2:zau (rest.drop 1) with ⟨e2,vn,rest2⟩
    rw[htl2] at HD;simp only[htl2] at He;have Km:=zhd HD;have Jd:=zhd HW;have HG:=zhd J1;clear HD htl2 Kx KY H2 HW J1
    have JS:IntKind.i64.wrap (kb.toNat:Int)=(kb.toNat:Int):=by
     have:=kb.toNat_lt
     rw[IntKind.wrap_i64];omega
    have KF:=zhd He;have Hp:=zhd hp;clear He hp
    gi_wp2_with (refine ⟨trivial,?_⟩;gi_at_call 102;refine (callsIn_wd.2 HF.out).mono ?_;rintro e w1 ⟨⟨A1,c1,rfl,K0⟩,H0⟩;have H8:Bs w1 (.slice A1 p.length c1) p:=xW K0;have Hl:=zhd H8;have Kg:=zhd H0;have Hj:=Kr.ext H0;have JZ:w.heap.size<w1.heap.size:=Hj.lt;clear H8 K0 H0;obtain ⟨g0,g1,g2,f0,f1,f2⟩:=zbi Hj)
    refine ⟨trivial,?_⟩
    refine (callsIn_wd.2 (HK.out w1 _ Hl.out)).mono ?_
    rintro e w2 ⟨vr,rfl,J6,H9⟩
    have Hz:OwnB w2 w1.heap.size vr rest:=J6
    obtain ⟨q2,c2,J5,JX,Kt,Jp⟩:=zdq Hz (by rw[HG.out];omega);rw[HG.out] at J5 Kt;subst J5;have Hs:=Hj.ext H9;have K6:=zhd H9;have KO:=zhd Hz;clear g0 g1 g2 f0 f1 f2 J6 Hz H9 Hj;obtain ⟨g0,g1,g2,f0,f1,f2⟩:=zbi Hs
    have HY:some q2≠some w.heap.size:=fun h=>by cases h;omega
    have o1:OwnB (w2.setCell ⟨w.heap.size,0,none⟩ (.int .i64 t)) w1.heap.size (.slice (some ⟨q2,0,none⟩) 6 c2) rest:=World.ownsRow.kept KO.out (zab _ _ 0 _) (.inr HY)
    have o2:OwnB ((w2.setCell ⟨w.heap.size,0,none⟩ (.int .i64 t)).setCell ⟨w.heap.size,1,none⟩ (.int .i64 kb.toNat)) w1.heap.size (.slice (some ⟨q2,0,none⟩) 6 c2) rest:=World.ownsRow.kept o1 (zab _ _ 1 _) (.inr HY)
    have Jz:(w2.setCell ⟨w.heap.size,0,none⟩ (.int .i64 t)).cell? ⟨q2,0,none⟩=some (.int .u8 (kb.toNat:Int)):=by
     obtain ⟨_,b',JF,e',hc⟩:=Bs.at_ (xW o1) (by rw[HG.out];omega)
     cases e'
     have:=hc 0 Kw
     rw[Jd.out] at this
     exact this
    have hb3:=(Hs.set 0 (.int .i64 t)).set 1 (.int .i64 kb.toNat)
    have KR:Ext w ((w2.setCell ⟨w.heap.size,0,none⟩ (.int .i64 t)).setCell ⟨w.heap.size,1,none⟩ (.int .i64 kb.toNat)):=Pd (p:=⟨w.heap.size,1,none⟩) (Pd (p:=⟨w.heap.size,0,none⟩) (xT hX (xT Kg.out K6.out)) (xN _) _) (xN _) _
    have KQ:Bs ((w2.setCell ⟨w.heap.size,0,none⟩ (.int .i64 t)).setCell ⟨w.heap.size,1,none⟩ (.int .i64 kb.toNat)) (.slice (some ⟨q2,0+1,none⟩) (6-1) (c2-1)) (rest.drop 1):=Bs.cut (xW o2) 1 (by rw[HG.out];omega) HG.out.symm
    have KB:=zhd KQ;have KH:=zhd hb3;have K7:=zhd KR;clear KQ hb3 KR o1 o2
    have Jo:¬ (c2=1):=by omega
    gi_wp2
    have HL:Bs ((w2.setCell ⟨w.heap.size,0,none⟩ (.int .i64 t)).setCell ⟨w.heap.size,1,none⟩ (.int .i64 kb.toNat)) (.slice (some ⟨q2,1,none⟩) 5 (c2-1)) (rest.drop 1):=KB.out
    have HQ:Blk ((w2.setCell ⟨w.heap.size,0,none⟩ (.int .i64 t)).setCell ⟨w.heap.size,1,none⟩ (.int .i64 kb.toNat)) w.heap.size 79 #[.int .i64 t,.int .i64 kb.toNat,.int .i64 0]:=KH.out
    have HM:=K7.out;clear KB KH K7 g0 g1 g2 f0 f1 f2 Hs K6 Jz KO
    generalize (w2.setCell ⟨w.heap.size,0,none⟩ (.int .i64 t)).setCell ⟨w.heap.size,1,none⟩ (.int .i64 kb.toNat)=w3 at *
    have K7:=zhd HM;have key:=Km.out w3 _ HL;clear HM HL
    refine ⟨trivial,?_⟩
    refine (callsIn_wd.2 key).mono ?_
    rintro e w4 ⟨G0,rfl,-,Ko⟩;have HS:=HQ.ext Ko;have KD:=zhd (xT K7.out Ko);clear key Ko HQ;obtain ⟨g0,g1,g2,f0,f1,f2⟩:=zbi HS;have hR:=KF.out;clear KF
    by_cases he2:e2=0
    ·subst he2
     simp only[if_true] at hR;have KV:=HS.set 2 (.int .i64 vn)
     have HU:Blk (w4.setCell ⟨w.heap.size,2,none⟩ (.int .i64 vn)) w.heap.size 79 #[.int .i64 t,.int .i64 kb.toNat,.int .i64 vn]:=KV
     have KE:Hid (Ext w (w4.setCell ⟨w.heap.size,2,none⟩ (.int .i64 vn))):=Pd (p:=⟨w.heap.size,2,none⟩) KD.out (xN _) _
     have HE:=zeZ t kb.toNat vn (w4.setCell ⟨w.heap.size,2,none⟩ (.int .i64 vn));have KI:=zhd HU;clear KV HU
     cases hok:okB t kb.toNat vn with
     | true =>
      rw[hok] at hR HE;have Kk:=zhd HE;rw[if_pos rfl] at hR;have Ja:=zhd hR;clear hR HE hok
      gi_wp2
      refine ⟨trivial,?_⟩
      refine (callsIn_wd.2 Kk.out).mono ?_
      rintro e w5 ⟨rfl,Ho⟩
      have H5:Ext (w4.setCell ⟨w.heap.size,2,none⟩ (.int .i64 vn)) w5:=Ho
      have Kc:=KI.out.ext H5;have Kh:=zhd (xT KE.out H5);clear g0 g1 g2 f0 f1 f2 Ho H5 HS;obtain ⟨g0,g1,g2,f0,f1,f2⟩:=zbi Kc
      gi_wp2
      refine zat ?_
      refine zcF (.tuple #[.agg #[.int .i64 t,.int .i64 kb.toNat,.int .i64 vn],.bool true]) (zlr _ _ _ _ _ rfl rfl (zbj Kc _ _ _) rfl) ?_
      rw[←Ja.out]
      refine ⟨rfl,?_⟩
      exact ((Pd Kh.out (p:=⟨w.heap.size,0,none⟩) (xN _) _).setCell (p:=⟨w.heap.size,1,none⟩) (xN _) _).setCell (p:=⟨w.heap.size,2,none⟩) (xN _) _
     | false =>
      rw[hok] at hR HE;have Kk:=zhd HE;rw[if_neg (by decide)] at hR
      have HN:Hid (R=none):=hR.symm
      clear hR HE hok
      gi_wp2
      refine ⟨trivial,?_⟩
      refine (callsIn_wd.2 Kk.out).mono ?_
      rintro e w5 ⟨rfl,Ho⟩
      have H5:Ext (w4.setCell ⟨w.heap.size,2,none⟩ (.int .i64 vn)) w5:=Ho
      have Kc:=KI.out.ext H5;have Kh:=zhd (xT KE.out H5);clear g0 g1 g2 f0 f1 f2 Ho H5 HS
      gi_wp2
      refine wpIn_goto ?_
      simp only[Exit.then]
      refine zag (by simp) ?_
      exact ⟨rfl,rfl,rfl,⟨_,_,_,Kc⟩,Kh.out,HN.out⟩
    ·have Ju:((e2:Int) != 0)=true:=by simp[he2]
     rw[if_neg he2] at hR
     have HN:Hid (R=none):=hR.symm
     clear hR
     gi_wp2
     refine ⟨trivial,?_⟩
     gi_wp2
     refine wpIn_goto ?_
     simp only[Exit.then]
     refine zag (by simp) ?_
     exact ⟨rfl,rfl,rfl,⟨_,_,_,HS.set 2 _⟩,Pd (p:=⟨w.heap.size,2,none⟩) KD.out (xN _) _,HN.out⟩
   ·have HY:((e1:Int) != 0)=true:=by simp[he1]
    rw[if_neg he1] at He
    have HN:Hid (R=none):=He.symm
    have Hp:=zhd hp;clear He H2 hp
    gi_wp2_with (first
     | (refine ⟨trivial,?_⟩;gi_at_call 102;refine (callsIn_wd.2 HF.out).mono ?_;rintro e w1 ⟨⟨A1,c1,rfl,K0⟩,H0⟩;have H8:Bs w1 (.slice A1 p.length c1) p:=xW K0;have Hl:=zhd H8;have Kg:=zhd H0;have Hj:=Kr.ext H0;clear H8 K0 H0;obtain ⟨g0,g1,g2,f0,f1,f2⟩:=zbi Hj)
     | (refine ⟨trivial,?_⟩;gi_at_call 167;refine (callsIn_wd.2 (HK.out w1 _ Hl.out)).mono ?_;rintro e w2 ⟨vr,rfl,-,H9⟩;clear g0 g1 g2 f0 f1 f2;have Hs:=Hj.ext H9;have K6:=zhd H9;clear H9;obtain ⟨g0,g1,g2,f0,f1,f2⟩:=zbi Hs))
    refine wpIn_goto ?_
    simp only[Exit.then]
    refine zag (by simp) ?_
    exact ⟨rfl,rfl,rfl,⟨_,_,_,Hs.set 0 _⟩,Pd (p:=⟨w.heap.size,0,none⟩) (xT hX (xT Kg.out K6.out)) (xN _) _,HN.out⟩
 ·rintro ⟨TT,df⟩ W ⟨hd,Hx,h2,⟨x,y,z,hb⟩,hE,HN⟩
  cases hd
  dsimp only at Hx h2;have hT:=zdf 46 TT Hx
  generalize hU:(fun i=>TT.getD i undef)=U at hT
  have g2:U 2=.pointer (some ⟨w.heap.size,0,none⟩):=by rw[←hU];exact h2
  have Jm:TT = #[U 0,U 1,.pointer (some ⟨w.heap.size,0,none⟩),U 3,U 4,U 5,U 6,U 7,U 8,U 9,U 10,U 11,U 12,U 13,U 14,U 15,U 16,U 17,U 18,U 19,U 20,U 21,U 22,U 23,U 24,U 25,U 26,U 27,U 28,U 29,U 30,U 31,U 32,U 33,U 34,U 35,U 36,U 37,U 38,U 39,U 40,U 41,U 42,U 43,U 44,U 45]:=by rw[hT];show (#[U 0,U 1,U 2,U 3,U 4,U 5,U 6,U 7,U 8,U 9,U 10,U 11,U 12,U 13,U 14,U 15,U 16,U 17,U 18,U 19,U 20,U 21,U 22,U 23,U 24,U 25,U 26,U 27,U 28,U 29,U 30,U 31,U 32,U 33,U 34,U 35,U 36,U 37,U 38,U 39,U 40,U 41,U 42,U 43,U 44,U 45]:Array Value)=_;rw[g2]
  clear hT hU Hx g2 h2;subst Jm;obtain ⟨g0,g1,g2,f0,f1,f2⟩:=zbi hb
  gi_wp2
  refine zat ?_
  refine zcF (.tuple #[.agg #[.int .i64 0,.int .i64 0,.int .i64 0],.bool false]) (zlr _ _ _ _ _ rfl rfl (zbj hb _ _ _) rfl) ?_
  rw[HN.out]
  refine ⟨rfl,?_⟩
  exact ((Pd hE (p:=⟨w.heap.size,0,none⟩) (xN _) _).setCell (p:=⟨w.heap.size,1,none⟩) (xN _) _).setCell (p:=⟨w.heap.size,2,none⟩) (xN _) _
attribute [local go_sem] Pj
variable {T:Tab}
def zcL (T:Tab) (b:List UInt8) (p:Nat):List (Nat×Ent) :=
 if h:b.length<15 then [] else
  match zd0 T (b.take 15) with
  | none=>[]
  | some e=>(p+15,e)::zcL T (b.drop 15) (p+15)
termination_by b.length
decreasing_by
 simp;omega
theorem zja {b:List UInt8} {p:Nat} (h:b.length<15):zcL T b p=[]:=by rw[zcL,dif_pos h]
theorem zks {b:List UInt8} {p:Nat} (h:¬ b.length<15) (hn:zd0 T (b.take 15)=none):zcL T b p=[]:=by rw[zcL,dif_neg h,hn]
theorem zkt {b:List UInt8} {p:Nat} {e:Ent} (h:¬ b.length<15) (hn:zd0 T (b.take 15)=some e):zcL T b p=(p+15,e)::zcL T (b.drop 15) (p+15):=by rw[zcL,dif_neg h,hn]
def RcK (bo n0:Nat) (k:Nat) (o:Obj):Prop:=o.isCells=true∧k≠bo∧(k<n0∨o.ty≠some 79)
theorem Hold.keptR {wo W W':World} {bo n0 n:Nat} (h:Hold wo W) (JL:wo.heap.size≤bo) (KZ:wo.heap.size≤n0) (hk:Kept (zad (RcK bo n0) n) W W'):Hold wo W':=by
 intro p u hp;have Hv:=World.block_lt_of_cell? wo p hp;have hc:=h p u hp;obtain ⟨o,ho,Hu⟩:=cells_of_cell hc
 refine hk.cell hc (fun o' J0=>.inl ?_)
 rw[ho] at J0;cases J0
 exact ⟨Hu,by omega,.inl (by omega)⟩
theorem zmW (wo W0:World) (v:Value) (bs:List UInt8) (Ks:Bs wo v bs) (Hg:bs.length≤2000000) (hH:Hold wo W0) (hT:TabW T wo) (B bo n0:Nat) (hB:Boxed W0 B 38 v) (Jl:B≠bo) (h1:wo.heap.size≤bo) (h2:wo.heap.size≤n0) :
  Seq Tryz.prog 297 #[.pointer (some ⟨B,0,none⟩)]
   (fun (x:Nat×Ent) av _=>av = #[.int .i64 x.1,.agg #[.int .i64 x.2.t,.int .i64 x.2.k,.int .i64 x.2.v]]∧x.1≤bs.length) (RcK bo n0) (fun _ _=>False) (zcL T (bs.drop 6) 6) W0:=by
 intro l J Jx hJ JJ hY h0;obtain ⟨A,c,rfl,Hj,Hs⟩:=xO Ks
 refine (callsIn_wd (ro:=none) (n:=9)).1 ?_
 refine callsIn_of_wp Tryz.func297 rfl trivial ?_ rfl
 simp only[Tryz.ntmps297,P3,xC,P7,Pl,Pk,Pg,Pf,P4,P1,xI,P6];have KK:=zhd Ks;have Jb:=zhd hT;clear Ks hT;obtain ⟨all,Hq⟩:∃ all,zcL T (bs.drop 6) 6=all:=⟨_,rfl⟩
 rw[Hq] at hY ⊢
 have HA:=zhd Hq;clear Hq
 gi_wp2
 gi_loopw [3] (fun j W=>∃ (k:Nat) (H1:List (Nat×Ent)),j=.int .i64 k∧k≤bs.length+15∧Hid (all=H1++zcL T (bs.drop k) k)∧Hid (J H1 W)∧Hold wo W∧Boxed W B 38 (.slice A bs.length c)∧W0.heap.size≤W.heap.size) (fun j _=>bs.length+30-(intOf j).toNat)
 case atStart=>exact ⟨6,[],rfl,by omega,HA.out.symm,h0,hH,hB,xN _⟩
 case round =>
  obtain ⟨k,H1,rfl,Ky,HP,HJ,HH,bB,Hx⟩:=hrel;have c1:=bB.cell
  by_cases Hv:k+15≤bs.length
  ·obtain ⟨_,b,Hd,rfl,hc⟩:=Bs.at_ KK.out (by omega)
   have H7:=zem KK.out k 15 Hv;obtain ⟨p,hp⟩:∃ p,(bs.drop k).take 15=p:=⟨_,rfl⟩
   have Hw:p.length=15:=by rw[←hp,P5,P0];omega
   rw[hp] at H7
   have Hh:¬ (bs.drop k).length<15:=by rw[P0];omega
   have Ku:(bs.drop k).drop 15=bs.drop (k+15):=by rw[List.drop_drop]
   have H8:Bs wr (.slice (some ⟨b,Hd+k,none⟩) 15 (c-k)) p:=SlR.keep (SlR.capd H7 (by rw[Hw];omega) (by omega)) HH
   have Jn:TabW T wr:=Jb.out.hold HH
   have key:=zqv (T:=T) _ p wr H8 Hw Jn;have Hi:=HP.out
   cases ht:zd0 T p with
   | none =>
    rw[ht] at key
    rw[zks Hh (by rw[hp];exact ht),Pa] at Hi
    subst Hi;have HI:=zhd key
    have Jr:(k:Int)+15≤(c:Int):=by omega
    clear key ht H8 H7 hp hc Ku Hh hY
    gi_wp2
    refine ⟨trivial,?_⟩
    refine (callsIn_wd.2 HI.out).mono ?_
    rintro e w1 ⟨rfl,H0⟩;have Ka:=zhd (hJ _ wr (w1.alloc (.cells #[.int .i64 0,.int .i64 0,.int .i64 0] 79)) HJ.out ((Moves.refl.below H0 (xN _)).alloc _));clear H0
    gi_wp2
    refine ⟨fun f h=>(by cases h),?_⟩
    gi_wp2
    refine bodyPost_ret (results_none rfl _ _ _) rfl ?_
    exact ⟨⟨_,rfl⟩,.inl Ka.out⟩
   | some x =>
    rw[ht] at key
    rw[zkt Hh (by rw[hp];exact ht),Ku] at Hi
    have HI:=zhd key;have Kj:=zhd Hi
    have Jr:(k:Int)+15≤(c:Int):=by omega
    have Je:=zhd hY;clear key ht H8 H7 hp hc Ku Hh hY Hi
    gi_wp2
    refine ⟨trivial,?_⟩
    refine (callsIn_wd.2 HI.out).mono ?_
    rintro e w1 ⟨rfl,H0⟩;have hb3:=Blk.new w1 79 #[.int .i64 x.t,.int .i64 x.k,.int .i64 x.v]
    have Kb:Ext wr (w1.alloc (.cells #[.int .i64 x.t,.int .i64 x.k,.int .i64 x.v] 79)):=xA H0 _
    have Ka:=hJ H1 wr (w1.alloc (.cells #[.int .i64 x.t,.int .i64 x.k,.int .i64 x.v] 79)) HJ.out ((Moves.refl.below H0 (xN _)).alloc _)
    have K3:W0.heap.size≤(w1.alloc (.cells #[.int .i64 x.t,.int .i64 x.k,.int .i64 x.v] 79)).heap.size:=Pm Hx Kb.size
    have KP:Boxed (w1.alloc (.cells #[.int .i64 x.t,.int .i64 x.k,.int .i64 x.v] 79)) B 38 (.slice (some ⟨b,Hd,none⟩) bs.length c):=bB.kept (row:=none) (Pe Kb none) (by simp)
    have KT:Hold wo (w1.alloc (.cells #[.int .i64 x.t,.int .i64 x.k,.int .i64 x.v] 79)):=fun q u hq=>Ext.cell Kb (HH q u hq)
    have hy:=Je.out H1 (k+15,x) _ Kj.out _ #[.int .i64 ((k+15:Nat):Int),.agg #[.int .i64 x.t,.int .i64 x.k,.int .i64 x.v]] Ka K3 ⟨rfl,by show k+15≤bs.length;omega⟩
    have Hy:=zhd hy;have J8:=zhd KT;obtain ⟨g0,g1,g2,f0,f1,f2⟩:=zbi hb3;clear hy Ka H0 KT c1 Kb hb3;have c1:=KP.cell
    gi_wp2
    refine zbb Hy.out ?_
    rintro e W' ⟨Hk,⟨rfl,hj⟩ | ⟨rfl,hj⟩⟩
    ·refine ⟨true,rfl,?_⟩
     have d1:Boxed W' B 38 (.slice (some ⟨b,Hd,none⟩) bs.length c):=Hk.boxed KP (.inl ⟨rfl,Jl,.inr (by intro h;cases h)⟩)
     have e1:=d1.cell
     have JA:W0.heap.size≤W'.heap.size:=Pm K3 Hk.size
     have J9:=zhd (Hold.keptR J8.out h1 h2 Hk);have Ki:=zhd hj
     have J3:all=(H1++[(k+15,x)])++zcL T (bs.drop (k+15)) (k+15):=by rw[P9];exact Kj.out
     have Jg:=zhd J3;clear hj Hk c1 g0 g1 g2 f0 f1 f2 J3 Hy
     gi_wp2
     exact ⟨⟨k+15,H1++[(k+15,x)],by go_num,by omega,Jg.out,Ki.out,J9.out,d1,JA⟩,by simp[intOf];omega⟩
    ·refine ⟨false,rfl,?_⟩
     have Ki:=zhd hj;clear hj Hk c1 g0 g1 g2 f0 f1 f2
     gi_wp2
     refine bodyPost_ret (results_none rfl _ _ _) rfl ?_
     refine ⟨⟨_,rfl⟩,.inr ⟨H1++[(k+15,x)],?_,Ki.out⟩⟩
     exact ⟨zcL T (bs.drop (k+15)) (k+15),by rw[P9];exact Kj.out.symm⟩
  ·have HZ:zcL T (bs.drop k) k=[]:=zja (by rw[P0];omega)
   have Hi:=HP.out;rw[HZ,Pa] at Hi;subst Hi
   have JR:¬ ((k:Int)+15≤(bs.length:Int)):=by omega
   clear HZ HP hY
   gi_wp2
   refine bodyPost_end (results_none rfl _ _ _) rfl ?_
   exact ⟨⟨_,rfl⟩,.inl HJ.out⟩
end Go.Proofs.YtgonhdeochgkoaaGreatDoor
