/- Merged: Long One2 One3 Rcrc -/
import Derived.Test.YtgonhdeochgkoaaGreatDoorZt10
set_option linter.all false
set_option maxHeartbeats 8000000
set_option maxRecDepth 100000
namespace Go.Proofs.YtgonhdeochgkoaaGreatDoor
open Go.RowKit Go.Mv Go.Shelf
attribute [local go_sem] Oper.semAt_some
def zhA (n:Nat):List UInt8:=zaU 8 n false 4
def zbc (l:List Int):List UInt8:=l.flatMap fun n=>zhA n.toNat
theorem zoc (n:Nat) (k:Nat):(zaU 8 n false k).length=k+1:=by
 induction k with
 | zero=>simp[zaU]
 | succ k ih=>rw[zaU,if_neg (by simp)];simp[ih]
theorem zrW (n:Nat):(zhA n).length=5:=zoc n 4
theorem zlK (l:List Int):(zbc l).length=5*l.length:=by
 induction l with
 | nil=>rfl
 | cons n l ih=>rw[show zbc (n::l)=zhA n.toNat++zbc l from rfl,List.length_append,zrW,ih,List.length_cons];omega
theorem zp9 {l:List Int} {k:Nat} (h:k<l.length):zbc (l.take (k+1))=zbc (l.take k)++zhA l[k].toNat:=by
 rw[List.take_succ_eq_append_getElem h];unfold zbc;rw[List.flatMap_append];simp
def LgI (base N:Nat) (w:World) (bs pre:List UInt8) (X:World):Prop :=
 ∃ v,Boxed X N 38 v∧X.ownsRow base 5 1 v (bs++pre).length ((bs++pre).map bv)∧Below base w X
set_option maxRecDepth 100000 in
theorem zqW (bs:List UInt8) (n:Nat) (hn:n≤1073741824) (vb:Value) (base:Nat) (w:World) (hown:w.ownsRow base 5 1 vb bs.length (bs.map bv)) (hbase:base≤w.heap.size) (hlen:bs.length+5≤1099511627776) :
  Calls Tryz.prog 234 #[vb,.int .i64 n] w (zo1 base w (bs++zhA n)):=by
 obtain ⟨A,cc,rfl,_,_⟩:=SlR.open_ (SlR.of_own hown)
 refine (callsIn_wd (ro:=none) (n:=9)).1 ?_
 refine callsIn_of_wp_marks Tryz.func234 rfl trivial ?_ rfl
 simp only[Tryz.ntmps234,List.size_toArray,List.length_cons,List.length_nil,Nat.reduceAdd,Nat.reduceSub,Array.replicate_succ,Array.replicate_zero,List.push_toArray,List.append_toArray,List.nil_append,List.cons_append]
 gi_wp2_with (refine ⟨trivial,?_⟩;gi_at_call 129;refine (callsIn_wd.2 (zkz n 8 5 false _)).mono ?_;rintro e w' ⟨rfl,rfl⟩)
 have hN:w.heap.size+5=(zfA (w.alloc (Obj.cells #[Value.slice A bs.length cc] 38)) n 8 5 false).heap.size:=by rw[(zfI _ n 8 5 false).1];simp
 obtain ⟨_,q1,q2,q3,q4,qe⟩:=zfI (w.alloc (Obj.cells #[Value.slice A bs.length cc] 38)) n 8 5 false
 generalize zfA (w.alloc (Obj.cells #[Value.slice A bs.length cc] 38)) n 8 5 false=w2 at *
 simp only[World.size_alloc] at q1 q2 q3 q4
 have h0:LgI base w.heap.size w bs [] w2:=by
  refine ⟨_,(Boxed.new w _ _).kept (W':=w2) (row:=none) (Ext.grown qe none) (by simp),?_,?_⟩
  ·have h1:=hown.alloc (Obj.cells #[Value.slice A bs.length cc] 38)
   simpa using h1.kept (w':=w2) (row:=none) (Ext.grown qe none) (by cases A <;> simp[Value.ownBlock])
  ·exact (((Below.refl base w).alloc hbase _).trans (qe.mono (by simp;omega)))
 refine zbO (a:=⟨_,_⟩) rfl (enters_of Tryz.func162 (by kernel_rfl) rfl)
  (fun W1 hb _=>zjj 8 n 5 false (.inr rfl) hn (by omega) (by omega) (w.heap.size+1+2) (w.heap.size+1) (w.heap.size+1+1) (w.heap.size+1+3) (by omega) (by omega) W1
    (q3.kept (row:=none) (Ext.grown hb none) (by simp)) (q1.kept (row:=none) (Ext.grown hb none) (by simp))
    (q2.kept (row:=none) (Ext.grown hb none) (by simp)) (q4.kept (row:=none) (Ext.grown hb none) (by simp)))
  (fun k o h=>zba h.2) (fun k o h=>by rcases h with h | h <;> exact zba h.2) (fun x av W h=>by rw[h];rfl)
  (LgI base w.heap.size w bs) (fun _ _ _=>False) ?hI (fun _ _ _ _ h _=>h) h0
  (fun x a' _=>a'=⟨#[.slice A bs.length cc,.int .i64 n,.pointer (some ⟨w.heap.size,0,none⟩),undef,.slice none 0 0,.int .u8 x.toNat,.int .i64 n,ztr (w.heap.size+1),.int .u8 x.toNat,undef,undef,undef,undef,undef],[]⟩)
  (fun _ _ _ _ h _=>h) ?assign ?body ?done ?stop
 case hI =>
  rintro s X Y ⟨v,hv,hr,hB⟩ hm
  refine ⟨v,hm.boxed hv ?_,hm.ownsRow hr ?_,hm.belowOf hB ?_ hbase⟩
  ·rintro (h | h)
   ·have:=h.1;omega
   ·cases h.2
  ·rintro k cur _ (h | h)
   ·cases h.2
   ·cases h.2
  ·rintro k o hk (h | h)
   ·have:=h.1;omega
   ·have:=h.1;omega
 case assign =>
  rintro l pre x post W av K' hx hi hsz rfl hK;simp only[bv]
  gi_wp2
  exact hK _ _ Kept.refl hi rfl
 case body =>
  rintro l pre x post a' W hx hl hr ⟨v,hv,hrow,hB⟩ hsz rfl
  have hm:(bs++pre).length=bs.length+pre.length:=by simp
  rw[hm] at hrow;obtain ⟨A',c',rfl,_,_⟩:=SlR.open_ (SlR.of_own hrow)
  have hpl:pre.length≤4:=by
   have:=congrArg List.length hx
   have:=zhl 8 n false 4
   simp at *;omega
  obtain ⟨i0,hi,hz0,hz1,hz2⟩:=info_parts zcA;have hc:=hv.cell;have hne:=hv.not_row (e:=5) (by decide) hrow
  gi_wp2_with (gi_at_builtin;refine wpListIn_append_own _ rfl (.tmp 9) (.tmp 11) 38 rfl base 5 i0 (.int .u8 0) 1 1 Tryz.underlying38 hi hz0 hz1 hz2 rfl (by decide) (.slice A' (bs.length+pre.length) c') (bs.length+pre.length) ((bs++pre).map bv) rfl (hrow.alloc _) ⟨W.heap.size,0,none⟩ 1 1 [.int .u8 (x.toNat:Int)] rfl rfl (cell_one_new _ _ _) (by simp[Value.oneCell']) (by simp[maxLen];omega) (by simp;omega) (by have:=hB.size;simp;omega) ?_;intro v' w1 hown' hgrow _;obtain ⟨g',cap',rfl,_,_,_⟩:=zdp hown' (by omega);have hv1:=(hv.alloc _).kept hgrow hne;have hc1:=hv1.cell;have hf1:=hv1.frozen)
  refine ⟨Kept.appended _ hv hrow hgrow ?_ ?_,_,hv1.set _,?_,?_⟩
  ·rintro ((⟨_,h⟩ | ⟨_,h⟩) | ⟨_,h⟩) <;> cases h
  ·rintro k cur _ ((⟨_,h⟩ | ⟨_,h⟩) | ⟨_,h⟩) <;> cases h
  ·have h:=hown'.kept (grownBy_setCell' w1 w.heap.size (.slice (some ⟨g',0,none⟩) (bs.length+pre.length+1) cap')) (.inr (hv1.not_row (by decide) hown').symm)
   simpa [bv,Nat.add_assoc] using h
  ·refine (((hB.alloc (by have:=hB.size;omega) _).grown hgrow (by have:=hB.size;simp;omega) (fun k ek=>?_)).setCell (p:=⟨w.heap.size,0,none⟩) hbase _)
   exact (hrow.lt k ek).1
 case done =>
  rintro D W hD ⟨v,hv,hrow,hB⟩ hK;have hc:=hv.cell
  have hN':w.heap.size≤w2.heap.size:=by omega
  clear h0 hown q1 q2 q3 q4 qe hN;have hrow2:=ownsRow_putObj hrow (.deferred none) hK rfl;obtain ⟨A',c',rfl,_,_⟩:=SlR.open_ (SlR.of_own hrow)
  gi_wp2
  have hrow3:(W.putObj D (.deferred none)).ownsRow base 5 1 (.slice A' (bs.length+(zaU 8 n false 4).length) c') (bs++zhA n).length ((bs++zhA n).map bv):=by
   have h:=hrow2;rw[List.length_append] at h;rw[List.length_append]
   exact h
  exact zbg hK (.slice A' (bs.length+(zaU 8 n false 4).length) c') (by simp[results,Tryz.results234,go_sem]) ⟨_,rfl,hrow3,zar hB (by omega) _⟩
 case stop =>
  rintro D c pre W _ _ h _
  exact h.elim
def zqX (w:World) (l:List Int) (e:Ending) (w':World):Prop:=∃ v',e=.returned (.tuple #[v',.int .i64 0])∧w'.ownsRow w.heap.size 5 1 v' (zbc l).length ((zbc l).map bv)∧Ext w w'
set_option maxRecDepth 100000 in
theorem zqf (v:Value) (l:List Int) (w:World) (h:Is w v l) (hn:zaA l=true) (hl:l.length≤2000000) :
  Calls Tryz.prog 127 #[v,.func (.func 234) #[] #[]] w (zqX w l):=by
 obtain ⟨A,c,rfl,h1,h2⟩:=SlR.open_ h;have Hn:=zhd hn
 go_enter Tryz.func127,Tryz.ntmps127
 go_wp2_with (go_at_call 161;refine (zib _ _ _ h).mono ?_;rintro e w' ⟨rfl,rfl⟩)
 clear hn
 go_loopw [4,13] (fun vb i wr=>∃ k:Nat,k≤l.length∧i=.int .i64 k∧wr.ownsRow w.heap.size 5 1 vb (zbc (l.take k)).length ((zbc (l.take k)).map bv)∧Ext w wr) (fun _ i _=>l.length-(intOf i).toNat)
 case atStart=>exact ⟨0,Nat.zero_le _,rfl,World.ownsRow_nil _ _ _ _,Ext.refl _⟩
 case round =>
  obtain ⟨k,hk,rfl,hown,hB⟩:=hrel
  by_cases hlt:k<l.length
  ·obtain ⟨_,b,off,rfl,hc⟩:=Is.at_ (h.ext hB) (by omega)
   have hc0:=hc k hlt;clear hc;obtain ⟨hn0,hn1⟩:=zhG Hn.out hlt;have hsl:=zlK (l.take k)
   have htl:(l.take k).length≤k:=List.length_take_le _ _
   have key:=zqW (zbc (l.take k)) l[k].toNat (by omega) _ w.heap.size wr hown hB.size (by omega);rw[Int.toNat_of_nonneg hn0] at key;have Key:=zhd key;clear key
   go_wp2_with (go_at_call 234;refine Key.out.mono ?_;rintro e w1 ⟨v',rfl,hown',hB'⟩)
   go_roundw
   case rel=>exact ⟨k+1,by omega,by go_num,by rw[zp9 hlt];exact hown',Below.trans hB hB'⟩
   case measure=>simp[intOf];omega
  ·have hk':l.take k=l:=List.take_of_length_le (by omega)
   rw[hk'] at hown;clear hk';go_wp2_with fail
   go_ret2
   exact ⟨_,rfl,hown,hB⟩
theorem zuv (v:Value) (l:List Int) (w:World) (h:Is w v l) (hn:zaA l=true) (hl:l.length≤2000000):Calls Tryz.prog 200 #[v] w (zqX w l):=by
 go_enter Tryz.func200,Tryz.ntmps200
 go_wp2_with (go_at_call 127;refine (zqf _ _ _ h hn hl).mono ?_;rintro e w' ⟨v',rfl,ho,hb⟩)
 go_ret2
 exact ⟨_,rfl,ho,hb⟩
def beN (l:List UInt8):Nat:=l.foldl (fun a b=>a*256+b.toNat) 0
theorem ztf (l:List UInt8) (b:UInt8):beN (l++[b])=beN l*256+b.toNat:=by unfold beN;rw[List.foldl_append];rfl
def zat (bs:List UInt8):Int×Nat×List UInt8:=if bs.length<5 then (10,0,[]) else if beN (bs.take 5)≤1073741824 then (0,beN (bs.take 5),bs.drop 5) else (11,0,[])
set_option maxRecDepth 100000 in
theorem zdz (v:Value) (bs:List UInt8) (w:World) (hBs:Bs w v bs) (hl:bs.length≤2000000):Calls Tryz.prog 167 #[v] w (zpB w (zat bs)):=by
 obtain ⟨A,c,rfl,h1,h2⟩:=SlR.open_ hBs
 by_cases h5:(bs.length:Int)<5
 ·have ht:zat bs=(10,0,[]):=by unfold zat;rw[if_pos (by omega)]
  have Ht:=zhd ht;clear ht
  go_enter Tryz.func167,Tryz.ntmps167
  go_wp2_with fail
  go_ret3
  exact ⟨_,by rw[Ht.out];rfl,by rw[Ht.out];exact World.ownsRow_nil _ _ _ _,Ext.refl _⟩
 obtain ⟨_,b,off,rfl,hc⟩:=Bs.at_ hBs (by omega);have HC:=zhd hc;have HBs:=zhd hBs
 have ht5:zat bs=if beN (bs.take 5)≤1073741824 then (0,beN (bs.take 5),bs.drop 5) else (11,0,[]):=by unfold zat;rw[if_neg (by omega)]
 have Ht5:=zhd ht5
 have h5c:(5:Int)≤(c:Int):=by omega
 clear hc hBs ht5
 go_enter Tryz.func167,Tryz.ntmps167
 go_wp2_with fail
 go_loop [2,13] (fun nn ii=>∃ k n:Nat,k≤5∧Hid (n=beN (bs.take k))∧n<1099511627776∧Hid (n<256^k)∧nn=.int .i64 n∧ii=.int .i64 k) (fun _ ii=>5-(intOf ii).toNat)
 case atStart=>exact ⟨0,0,by omega,rfl,by omega,by show _<_;decide,rfl,rfl⟩
 case round =>
  obtain ⟨k,n,hk,Hn,hn,Hlt,rfl,rfl⟩:=hrel
  by_cases hlt:k<5
  ·have hkl:k<bs.length:=by omega
   have hci:=HC.out k hkl;have hq:=bs[k].toNat_lt
   have hsn:beN (bs.take (k+1))=n*256+bs[k].toNat:=by rw[List.take_succ_eq_append_getElem hkl,ztf,Hn.out]
   have hnk:n<4294967296:=Nat.lt_of_lt_of_le Hlt.out (Nat.le_trans (Nat.pow_le_pow_right (by decide) (show k≤4 by omega)) (by decide))
   have hlt2:n*256+bs[k].toNat<256^(k+1):=by rw[Nat.pow_succ];have:=Hlt.out;omega
   have Hsn:=zhd hsn;have Hlt2:=zhd hlt2;clear hsn hlt2
   generalize bs[k].toNat=q at *
   have ho:bits .or .i64 ((n:Int)*256) (q:Int)=(n:Int)*256+(q:Int):=bits_join .i64 62 (by decide) zet 8 _ _ (by omega) (by omega) (by omega) (by omega) (by omega) (by omega)
   go_wp2_with fail
   go_round
   case rel=>exact ⟨k+1,n*256+q,by omega,by show _=_;rw[Hsn.out],by omega,Hlt2.out,by simp,by go_num⟩
   case measure=>simp[intOf];omega
  ·obtain rfl:k=5:=by omega
   have hIs:=SlR.of_own (zbj w [.int .i64 (n:Int)] 3 1 rfl (by simp[maxLen]) (Nat.le_refl _))
   have hIs':Is (w.alloc (.cells #[.int .i64 (n:Int)] 3)) (.slice (some ⟨w.heap.size,0,none⟩) 1 1) [(n:Int)]:=hIs
   have ha:zaA [(n:Int)]=decide (n≤1073741824):=by simp[zaA,zaJ];omega
   have Ha:=zhd ha
   have hE1:Ext w (w.alloc (.cells #[.int .i64 (n:Int)] 3)):=Ext.alloc (Ext.refl _) _
   clear hIs ha
   have hvs:∃ vs:Value,(∀ W,Ext w W→Bs W vs (bs.drop 5))∧vs=.slice (if c=5 then some ⟨b,off,none⟩ else some ⟨b,off+5,none⟩) (bs.length-5) (c-5):=by
    by_cases hck:c=5
    ·exact ⟨_,fun W _=>Bs.cut0 (A:=some ⟨b,off,none⟩) (n:=bs.length) (k:=5) (c:=c-5) (bs:=bs) (by omega) rfl (by omega),by rw[if_pos hck]⟩
    ·exact ⟨_,fun W hE=>Bs.cut (HBs.out.ext hE) 5 (by omega) rfl,by rw[if_neg hck]⟩
   obtain ⟨vs,hvs1,hvs2⟩:=hvs;have HVS:=zhd hvs1;have HV:=zhd hvs2;clear hvs1 hvs2
   by_cases hok:n≤1073741824
   ·have hr:zat bs=(0,n,bs.drop 5):=by rw[Ht5.out,←Hn.out,if_pos hok]
    have Hr:=zhd hr
    have hdl:(bs.drop 5).length≤2000000:=by rw[List.length_drop];omega
    clear hr
    go_wp2_with (first
     | (go_at_call 161;refine (zib _ _ _ hIs').mono ?_;rw[Ha.out,decide_eq_true hok];rintro e w1 ⟨rfl,rfl⟩)
     | (go_at_call 138;rw[←HV.out];refine (zgg _ _ _ (HVS.out _ hE1) (by omega)).mono ?_;rintro e w2 ⟨v2,rfl,ho2,hE2⟩))
    go_ret3
    rw[Hr.out]
    exact ⟨_,rfl,zaj ho2 hE1.size,Ext.trans hE1 hE2⟩
   ·have hr:zat bs=(11,0,[]):=by rw[Ht5.out,←Hn.out,if_neg hok]
    have Hr:=zhd hr;clear hr
    go_wp2_with (go_at_call 161;refine (zib _ _ _ hIs').mono ?_;rw[Ha.out,decide_eq_false hok];rintro e w1 ⟨rfl,rfl⟩)
    go_ret3
    rw[Hr.out]
    exact ⟨_,rfl,World.ownsRow_nil _ _ _ _,hE1⟩
open Go.RowKit Go.Mv
variable {T:Tab}
def zbs (T:Tab) (b:List UInt8):Option (List UInt8):=if zdh (zcq T 0 (b.take (b.length-4)))=b.drop (b.length-4) then some (b.take (b.length-4)) else none
theorem zn9 (v:Value) (bs:List UInt8) (w:World) (h:Bs w v bs) (hl:5≤bs.length) (hl2:bs.length≤100000) (hT:TabW T w):Calls Tryz.prog 102 #[v] w fun e w' =>
  (match zbs T bs with
  | some p=>∃ A c,e=.returned (.tuple #[.slice A p.length c,.bool true])∧OwnB w' w.heap.size (.slice A p.length c) p
  | none=>e=.returned (.tuple #[.slice none 0 0,.bool false]))∧Ext w w':=by
 obtain ⟨A,c,rfl,h1,h2⟩:=SlR.open_ h;obtain ⟨_,b,off,rfl,hc⟩:=Bs.at_ h (by omega);obtain ⟨n,hn⟩:∃ n,bs.length-4=n:=⟨_,rfl⟩
 have hbn:bs.length=n+4:=by omega
 have hBp:=Bs.take h n (by omega);have hBf:=Bs.cut h n (by omega) rfl
 rw[show bs.length-n=4 from by omega] at hBf
 have hn1:1≤n:=by omega
 have hn2:n≤100000:=by omega
 have hpl:(bs.take n).length=n:=by rw[List.length_take];omega
 have hfl:(bs.drop n).length=4:=by rw[List.length_drop];omega
 unfold zbs;rw[hn];obtain ⟨p,hp⟩:∃ p,bs.take n=p:=⟨_,rfl⟩;obtain ⟨g,hg⟩:∃ g,bs.drop n=g:=⟨_,rfl⟩
 rw[hp] at hBp hpl ⊢
 rw[hg] at hBf hfl ⊢
 have hsl:=zhD (T:=T) 0 p (by decide);obtain ⟨sm,hsm⟩:∃ sm,zcq T 0 p=sm:=⟨_,rfl⟩
 rw[hsm] at hsl ⊢
 have HT:=zhd hT;have HBp:=zhd hBp;have HBf:=zhd hBf;have Hsm:=zhd hsm;obtain ⟨f0,f1,f2,f3,hf⟩:∃ f0 f1 f2 f3:UInt8,zdh sm=[f0,f1,f2,f3]:=⟨_,_,_,_,rfl⟩;have Hf:=zhd hf;rw[hf];have Hpl:=zhd hpl;have Hfl:=zhd hfl
 rw[hbn] at h1 ⊢
 clear hc h hBp hBf hp hg hsm hT hn hl hl2 hfl hbn hf;subst hpl
 have hnc:(p.length:Int)≤(c:Int):=by omega
 have hcne:¬ (c=p.length):=by omega
 have hpp:(p.length:Int)≤(p.length:Int)+4:=by omega
 have hX:Ext w (w.alloc (.cells #[.slice (some ⟨b,off,none⟩) p.length c] 38)):=Ext.alloc (Ext.refl _) _
 by_cases heq:[f0,f1,f2,f3]=g
 all_goals
  have Heq:=zhd heq
 ·rw[if_pos heq]
  clear heq
  go_enter Tryz.func102,Tryz.ntmps102
  go_wp2_with fail
  refine (zew (T:=T) w.heap.size _ c p _ (Boxed.new w _ _).cell (HBp.out.ext hX) (by omega) (HT.out.ext hX)).mono ?_
  rw[Hsm.out];rintro e w1 ⟨rfl,hE1⟩;have X1:=Ext.trans hX hE1;go_wp2_with fail
  refine (zd0 sm hsl _).mono ?_
  rw[Hf.out];rintro e w2 ⟨rfl,hE2⟩;simp only[List.map_cons,List.map_nil,bv];have X2:=Ext.trans X1 hE2
  have hb3:Blk (w2.alloc (.cells #[.int .u8 (f0.toNat:Int),.int .u8 (f1.toNat:Int),.int .u8 (f2.toNat:Int),.int .u8 (f3.toNat:Int)] 140)) w2.heap.size 140 ([f0,f1,f2,f3].map bv).toArray:=Blk.new w2 _ _
  have X3:Ext w (w2.alloc (.cells #[.int .u8 (f0.toNat:Int),.int .u8 (f1.toNat:Int),.int .u8 (f2.toNat:Int),.int .u8 (f3.toNat:Int)] 140)):=Ext.alloc X2 _
  have h4:Bs (w2.alloc (.cells #[.int .u8 (f0.toNat:Int),.int .u8 (f1.toNat:Int),.int .u8 (f2.toNat:Int),.int .u8 (f3.toNat:Int)] 140)) (.slice (some ⟨w2.heap.size,0,none⟩) 4 4) [f0,f1,f2,f3]:=zdC hb3 rfl (by simp[maxLen])
  go_wp2_with fail
  refine wp_region_held_drew (S:=fun _=>True) (by kernel_rfl) trivial (fun _=>?_)
  refine tkN 0 rfl ?_;refine tkN 1 rfl ?_;refine tkN 2 rfl ?_;refine tkN 3 rfl ?_
  refine ar1 4 rfl (fun K hK=>?_)
  go_simp
  have hEq:=zbp _ _ _ _ _ (h4.ext (Ext.drew (Ext.refl _))) (HBf.out.ext (Ext.drew X3))
  refine hEq.mono ?_
  rw[decide_eq_true Heq.out];rintro e w4 ⟨rfl,rfl⟩
  try (go_wp2_with fail)
  refine shK hK _ _ trivial (fun _=>?_)
  refine tkN 5 rfl ?_;refine wpAnyH_done (by kernel_rfl) ?_ _;go_wp2_with fail
  refine (zko _ p _ (HBp.out.ext (Ext.drew X3)) (by omega) (by omega)).mono ?_
  rintro e w5 ⟨A5,c5,rfl,ho5,hE5⟩;go_wp2_with fail
  go_ret2
  exact ⟨⟨A5,c5,rfl,zaj ho5 (Ext.drew X3).size⟩,Ext.trans (Ext.drew X3) hE5⟩
 ·rw[if_neg heq]
  clear heq
  go_enter Tryz.func102,Tryz.ntmps102
  go_wp2_with fail
  refine (zew (T:=T) w.heap.size _ c p _ (Boxed.new w _ _).cell (HBp.out.ext hX) (by omega) (HT.out.ext hX)).mono ?_
  rw[Hsm.out];rintro e w1 ⟨rfl,hE1⟩;have X1:=Ext.trans hX hE1;go_wp2_with fail
  refine (zd0 sm hsl _).mono ?_
  rw[Hf.out];rintro e w2 ⟨rfl,hE2⟩;simp only[List.map_cons,List.map_nil,bv];have X2:=Ext.trans X1 hE2
  have hb3:Blk (w2.alloc (.cells #[.int .u8 (f0.toNat:Int),.int .u8 (f1.toNat:Int),.int .u8 (f2.toNat:Int),.int .u8 (f3.toNat:Int)] 140)) w2.heap.size 140 ([f0,f1,f2,f3].map bv).toArray:=Blk.new w2 _ _
  have X3:Ext w (w2.alloc (.cells #[.int .u8 (f0.toNat:Int),.int .u8 (f1.toNat:Int),.int .u8 (f2.toNat:Int),.int .u8 (f3.toNat:Int)] 140)):=Ext.alloc X2 _
  have h4:Bs (w2.alloc (.cells #[.int .u8 (f0.toNat:Int),.int .u8 (f1.toNat:Int),.int .u8 (f2.toNat:Int),.int .u8 (f3.toNat:Int)] 140)) (.slice (some ⟨w2.heap.size,0,none⟩) 4 4) [f0,f1,f2,f3]:=zdC hb3 rfl (by simp[maxLen])
  go_wp2_with fail
  refine wp_region_held_drew (S:=fun _=>True) (by kernel_rfl) trivial (fun _=>?_)
  refine tkN 0 rfl ?_;refine tkN 1 rfl ?_;refine tkN 2 rfl ?_;refine tkN 3 rfl ?_
  refine ar1 4 rfl (fun K hK=>?_)
  go_simp
  have hEq:=zbp _ _ _ _ _ (h4.ext (Ext.drew (Ext.refl _))) (HBf.out.ext (Ext.drew X3))
  refine hEq.mono ?_
  rw[decide_eq_false Heq.out];rintro e w4 ⟨rfl,rfl⟩
  try (go_wp2_with fail)
  refine shK hK _ _ trivial (fun _=>?_)
  refine tkN 5 rfl ?_;refine wpAnyH_done (by kernel_rfl) ?_ _;go_wp2_with fail
  go_ret2
  exact ⟨rfl,Ext.drew X3⟩
def zc7 (T:Tab) (b:List UInt8):Option Ent :=
 match zbs T b with
 | none=>none
 | some p =>
  if (zat p).1=0 then
   (if (zat ((zat p).2.2.drop 1)).1=0 then
     (if okB (zat p).2.1 (((zat p).2.2.getD 0 0).toNat:Int) (zat ((zat p).2.2.drop 1)).2.1=true then some ⟨(zat p).2.1,(((zat p).2.2.getD 0 0).toNat:Int),(zat ((zat p).2.2.drop 1)).2.1⟩ else none)
   else none)
  else none
def zvD (w:World) (r:Option Ent) (e:Ending) (w':World):Prop:=(match r with
 | some x=>e=.returned (.tuple #[.agg #[.int .i64 x.t,.int .i64 x.k,.int .i64 x.v],.bool true])
 | none=>e=.returned (.tuple #[.agg #[.int .i64 0,.int .i64 0,.int .i64 0],.bool false]))∧Ext w w'
theorem zmR {b p:List UInt8} (h:zbs T b=some p):p.length=b.length-4:=by
 unfold zbs at h
 split at h
 ·cases h;rw[List.length_take];omega
 ·cases h
attribute [local go_sem] Oper.semAt_some
variable {T:Tab}
theorem zwh:Tryz.prog.underlying 79=some (.struct (Tryz.prog.fieldsOf 79)):=by kernel_rfl
theorem zlZ (tmps:Array Value) (W:World) (b:Nat) (cs:Array Value) (u:Value) (h2:tmps.getD 2 undef=.pointer (some ⟨b,0,none⟩)) (h3:tmps.getD 3 undef=u) (hb:Blk W b 79 cs) (hs:cs.size=3):(results Tryz.f298 tmps).run Tryz.prog W=.ok (.tuple #[.agg cs,u]) W:=by
 have hl:=hb.load (P:=Tryz.prog) zwh rfl (by rw[hs];kernel_rfl)
 have h2':tmps[2]?.getD undef=.pointer (some ⟨b,0,none⟩):=by simpa using h2
 have h3':tmps[3]?.getD undef=u:=by simpa using h3
 simp[results,Tryz.results298,h2',h3',asAddr,hl]
theorem takeLong_rest {p:List UInt8} (h:(zat p).1=0):(zat p).2.2=p.drop 5:=by
 unfold zat at h ⊢
 split at h
 ·cases h
 ·rename_i h5
  rw[if_neg h5]
  split at h
  ·rename_i hb;rw[if_pos hb]
  ·cases h
def TkJ (w:World) (r:Option Ent) (a:Act) (W:World):Prop :=
 a.defers=[]∧a.tmps.size=46∧a.tmps.getD 2 undef=.pointer (some ⟨w.heap.size,0,none⟩)∧(∃ x y z,Blk W w.heap.size 79 #[x,y,z])∧Ext w W∧Hid (r=none)
theorem zq7 (v:Value) (bs:List UInt8) (w:World) (hB:Bs w v bs) (hl:bs.length=15) (hT:TabW T w):Calls Tryz.prog 298 #[v] w (zvD w (zc7 T bs)):=by
 obtain ⟨A,c,rfl,h1,h2⟩:=SlR.open_ hB;have hb0:=Blk.new w 79 #[.int .i64 0,.int .i64 0,.int .i64 0]
 have hX:Ext w (w.alloc (.cells #[.int .i64 0,.int .i64 0,.int .i64 0] 79)):=Ext.alloc (Ext.refl _) _
 have hct:=zn9 (T:=T) _ bs _ (hB.ext hX) (by omega) (by omega) (hT.ext hX)
 have hlen:∀ p,zbs T bs=some p→p.length=11:=fun p h=>by rw[zmR h,hl]
 have hr0:zc7 T bs=zc7 T bs:=rfl
 obtain ⟨R,hR⟩:∃ R,zc7 T bs=R:=⟨_,rfl⟩;have hR':=hR;unfold zc7 at hR';rw[hR]
 refine (callsIn_wd (ro:=none) (n:=9)).1 ?_
 refine callsIn_of_wp_marks Tryz.func298 rfl trivial ?_ rfl
 simp only[Tryz.ntmps298,List.size_toArray,List.length_cons,List.length_nil,Nat.reduceAdd,Nat.reduceSub,Array.replicate_succ,Array.replicate_zero,List.push_toArray,List.append_toArray,List.nil_append,List.cons_append];have Hct:=zhd hct;have Hlen:=zhd hlen;have HR:=zhd hR'
 have hw0:w.heap.size<(w.alloc (.cells #[.int .i64 0,.int .i64 0,.int .i64 0] 79)).heap.size:=by simp
 clear hct hlen hr0 hR hR' hB hT hl
 gi_wp2
 refine zbq 0 (TkJ w R) (fun a _=>0) rfl (fun l' h=>by cases l' <;> first | exact absurd rfl h | rfl) ?_ ?_
 ·intro hrest
  clear hrest
  cases hcr:zbs T bs with
  | none =>
   rw[hcr] at Hct HR
   have HN:Hid (R=none):=HR.out.symm
   clear HR Hlen hcr
   gi_wp2_with (refine ⟨trivial,?_⟩;gi_at_call 102;refine (callsIn_wd.2 Hct.out).mono ?_;rintro e w1 ⟨rfl,hE1⟩)
   refine wpIn_goto ?_
   simp only[Exit.then]
   refine zah (by simp) ?_
   exact ⟨rfl,rfl,rfl,⟨_,_,_,hb0.ext hE1⟩,Ext.trans hX hE1,HN.out⟩
  | some p =>
   have hp:=Hlen.out p hcr;rw[hcr] at Hct HR;clear Hlen hcr
   have key1:=fun (w':World) (vv:Value) (h:Bs w' vv p)=>zdz vv p w' h (by omega)
   have hrest:=@takeLong_rest p
   rcases htl:zat p with ⟨e1,t,rest⟩
   rw[htl] at key1 hrest;have HR2:=HR.out;simp only[htl] at HR2;have Key1:=zhd key1;clear HR key1 htl
   by_cases he1:e1=0
   ·subst he1
    have hr6:rest.length=6:=by
     have h:=hrest rfl;dsimp only at h;rw[h,List.length_drop,hp]
    simp only[if_true] at HR2;obtain ⟨kb,hkb⟩:∃ kb,rest.getD 0 0=kb:=⟨_,rfl⟩;rw[hkb] at HR2
    have hk0:rest[0]?=some kb:=by
     rw[List.getElem?_eq_getElem (by omega),←hkb]
     simp[List.getD_eq_getElem?_getD,List.getElem?_eq_getElem (show 0<rest.length by omega)]
    obtain ⟨hk0l,hk0e⟩:=List.getElem?_eq_some_iff.1 hk0
    have key2:=fun (w':World) (vv:Value) (h:Bs w' vv (rest.drop 1))=>zdz vv (rest.drop 1) w' h (by rw[List.length_drop];omega)
    rcases htl2:zat (rest.drop 1) with ⟨e2,vn,rest2⟩
    rw[htl2] at key2;simp only[htl2] at HR2;have Key2:=zhd key2;have Hk0:=zhd hk0e;have Hr6:=zhd hr6;clear key2 htl2 hkb hk0 hrest hk0e hr6
    have hkw:IntKind.i64.wrap (kb.toNat:Int)=(kb.toNat:Int):=by
     have:=kb.toNat_lt
     rw[IntKind.wrap_i64];omega
    have HR3:=zhd HR2;have Hp:=zhd hp;clear HR2 hp
    gi_wp2_with (refine ⟨trivial,?_⟩;gi_at_call 102;refine (callsIn_wd.2 Hct.out).mono ?_;rintro e w1 ⟨⟨A1,c1,rfl,ho1⟩,hE1⟩;have hBp:Bs w1 (.slice A1 p.length c1) p:=SlR.of_own ho1;have HBp:=zhd hBp;have HE1:=zhd hE1;have hb1:=hb0.ext hE1;have hw1:w.heap.size<w1.heap.size:=hb1.lt;clear hBp ho1 hE1;obtain ⟨g0,g1,g2,f0,f1,f2⟩:=za7 hb1)
    refine ⟨trivial,?_⟩
    refine (callsIn_wd.2 (Key1.out w1 _ HBp.out)).mono ?_
    rintro e w2 ⟨vr,rfl,hvr,hE2⟩
    have hvr':OwnB w2 w1.heap.size vr rest:=hvr
    obtain ⟨q2,c2,hv2,hq2,hc21,hc22⟩:=zdp hvr' (by rw[Hr6.out];omega);rw[Hr6.out] at hv2 hc21;subst hv2;have hb2:=hb1.ext hE2;have HE2:=zhd hE2;have Hvr:=zhd hvr';clear g0 g1 g2 f0 f1 f2 hvr hvr' hE2 hb1;obtain ⟨g0,g1,g2,f0,f1,f2⟩:=za7 hb2
    have hne:some q2≠some w.heap.size:=fun h=>by cases h;omega
    have o1:OwnB (w2.setCell ⟨w.heap.size,0,none⟩ (.int .i64 t)) w1.heap.size (.slice (some ⟨q2,0,none⟩) 6 c2) rest:=World.ownsRow.kept Hvr.out (zaa _ _ 0 _) (.inr hne)
    have o2:OwnB ((w2.setCell ⟨w.heap.size,0,none⟩ (.int .i64 t)).setCell ⟨w.heap.size,1,none⟩ (.int .i64 kb.toNat)) w1.heap.size (.slice (some ⟨q2,0,none⟩) 6 c2) rest:=World.ownsRow.kept o1 (zaa _ _ 1 _) (.inr hne)
    have hrc:(w2.setCell ⟨w.heap.size,0,none⟩ (.int .i64 t)).cell? ⟨q2,0,none⟩=some (.int .u8 (kb.toNat:Int)):=by
     obtain ⟨_,b',off',e',hc⟩:=Bs.at_ (SlR.of_own o1) (by rw[Hr6.out];omega)
     cases e'
     have:=hc 0 hk0l
     rw[Hk0.out] at this
     exact this
    have hb3:=(hb2.set 0 (.int .i64 t)).set 1 (.int .i64 kb.toNat)
    have hE3:Ext w ((w2.setCell ⟨w.heap.size,0,none⟩ (.int .i64 t)).setCell ⟨w.heap.size,1,none⟩ (.int .i64 kb.toNat)):=Below.setCell (p:=⟨w.heap.size,1,none⟩) (Below.setCell (p:=⟨w.heap.size,0,none⟩) (Ext.trans hX (Ext.trans HE1.out HE2.out)) (Nat.le_refl _) _) (Nat.le_refl _) _
    have hB5:Bs ((w2.setCell ⟨w.heap.size,0,none⟩ (.int .i64 t)).setCell ⟨w.heap.size,1,none⟩ (.int .i64 kb.toNat)) (.slice (some ⟨q2,0+1,none⟩) (6-1) (c2-1)) (rest.drop 1):=Bs.cut (SlR.of_own o2) 1 (by rw[Hr6.out];omega) Hr6.out.symm
    have HB5:=zhd hB5;have Hb3:=zhd hb3;have HE3:=zhd hE3;clear hB5 hb3 hE3 o1 o2
    have hc20:¬ (c2=1):=by omega
    gi_wp2
    have hB5':Bs ((w2.setCell ⟨w.heap.size,0,none⟩ (.int .i64 t)).setCell ⟨w.heap.size,1,none⟩ (.int .i64 kb.toNat)) (.slice (some ⟨q2,1,none⟩) 5 (c2-1)) (rest.drop 1):=HB5.out
    have hb3':Blk ((w2.setCell ⟨w.heap.size,0,none⟩ (.int .i64 t)).setCell ⟨w.heap.size,1,none⟩ (.int .i64 kb.toNat)) w.heap.size 79 #[.int .i64 t,.int .i64 kb.toNat,.int .i64 0]:=Hb3.out
    have hE3':=HE3.out;clear HB5 Hb3 HE3 g0 g1 g2 f0 f1 f2 hb2 HE2 hrc Hvr
    generalize (w2.setCell ⟨w.heap.size,0,none⟩ (.int .i64 t)).setCell ⟨w.heap.size,1,none⟩ (.int .i64 kb.toNat)=w3 at *
    have HE3:=zhd hE3';have key:=Key2.out w3 _ hB5';clear hE3' hB5'
    refine ⟨trivial,?_⟩
    refine (callsIn_wd.2 key).mono ?_
    rintro e w4 ⟨vr2,rfl,-,hE4⟩;have hb4:=hb3'.ext hE4;have HE4:=zhd (Ext.trans HE3.out hE4);clear key hE4 hb3';obtain ⟨g0,g1,g2,f0,f1,f2⟩:=za7 hb4;have hR:=HR3.out;clear HR3
    by_cases he2:e2=0
    ·subst he2
     simp only[if_true] at hR;have hb5:=hb4.set 2 (.int .i64 vn)
     have hb5':Blk (w4.setCell ⟨w.heap.size,2,none⟩ (.int .i64 vn)) w.heap.size 79 #[.int .i64 t,.int .i64 kb.toNat,.int .i64 vn]:=hb5
     have HE5:Hid (Ext w (w4.setCell ⟨w.heap.size,2,none⟩ (.int .i64 vn))):=Below.setCell (p:=⟨w.heap.size,2,none⟩) HE4.out (Nat.le_refl _) _
     have hRt:=zfj t kb.toNat vn (w4.setCell ⟨w.heap.size,2,none⟩ (.int .i64 vn));have Hb5:=zhd hb5';clear hb5 hb5'
     cases hok:okB t kb.toNat vn with
     | true =>
      rw[hok] at hR hRt;have HRt:=zhd hRt;rw[if_pos rfl] at hR;have HR4:=zhd hR;clear hR hRt hok
      gi_wp2
      refine ⟨trivial,?_⟩
      refine (callsIn_wd.2 HRt.out).mono ?_
      rintro e w5 ⟨rfl,hE5⟩
      have hE5':Ext (w4.setCell ⟨w.heap.size,2,none⟩ (.int .i64 vn)) w5:=hE5
      have hb6:=Hb5.out.ext hE5';have HE6:=zhd (Ext.trans HE5.out hE5');clear g0 g1 g2 f0 f1 f2 hE5 hE5' hb4;obtain ⟨g0,g1,g2,f0,f1,f2⟩:=za7 hb6
      gi_wp2
      refine zas ?_
      refine zcH (.tuple #[.agg #[.int .i64 t,.int .i64 kb.toNat,.int .i64 vn],.bool true]) (zlZ _ _ _ _ _ rfl rfl (zbo hb6 _ _ _) rfl) ?_
      rw[←HR4.out]
      refine ⟨rfl,?_⟩
      exact ((Below.setCell HE6.out (p:=⟨w.heap.size,0,none⟩) (Nat.le_refl _) _).setCell (p:=⟨w.heap.size,1,none⟩) (Nat.le_refl _) _).setCell (p:=⟨w.heap.size,2,none⟩) (Nat.le_refl _) _
     | false =>
      rw[hok] at hR hRt;have HRt:=zhd hRt;rw[if_neg (by decide)] at hR
      have HN:Hid (R=none):=hR.symm
      clear hR hRt hok
      gi_wp2
      refine ⟨trivial,?_⟩
      refine (callsIn_wd.2 HRt.out).mono ?_
      rintro e w5 ⟨rfl,hE5⟩
      have hE5':Ext (w4.setCell ⟨w.heap.size,2,none⟩ (.int .i64 vn)) w5:=hE5
      have hb6:=Hb5.out.ext hE5';have HE6:=zhd (Ext.trans HE5.out hE5');clear g0 g1 g2 f0 f1 f2 hE5 hE5' hb4
      gi_wp2
      refine wpIn_goto ?_
      simp only[Exit.then]
      refine zah (by simp) ?_
      exact ⟨rfl,rfl,rfl,⟨_,_,_,hb6⟩,HE6.out,HN.out⟩
    ·have hne2:((e2:Int) != 0)=true:=by simp[he2]
     rw[if_neg he2] at hR
     have HN:Hid (R=none):=hR.symm
     clear hR
     gi_wp2
     refine ⟨trivial,?_⟩
     gi_wp2
     refine wpIn_goto ?_
     simp only[Exit.then]
     refine zah (by simp) ?_
     exact ⟨rfl,rfl,rfl,⟨_,_,_,hb4.set 2 _⟩,Below.setCell (p:=⟨w.heap.size,2,none⟩) HE4.out (Nat.le_refl _) _,HN.out⟩
   ·have hne:((e1:Int) != 0)=true:=by simp[he1]
    rw[if_neg he1] at HR2
    have HN:Hid (R=none):=HR2.symm
    have Hp:=zhd hp;clear HR2 hrest hp
    gi_wp2_with (first
     | (refine ⟨trivial,?_⟩;gi_at_call 102;refine (callsIn_wd.2 Hct.out).mono ?_;rintro e w1 ⟨⟨A1,c1,rfl,ho1⟩,hE1⟩;have hBp:Bs w1 (.slice A1 p.length c1) p:=SlR.of_own ho1;have HBp:=zhd hBp;have HE1:=zhd hE1;have hb1:=hb0.ext hE1;clear hBp ho1 hE1;obtain ⟨g0,g1,g2,f0,f1,f2⟩:=za7 hb1)
     | (refine ⟨trivial,?_⟩;gi_at_call 167;refine (callsIn_wd.2 (Key1.out w1 _ HBp.out)).mono ?_;rintro e w2 ⟨vr,rfl,-,hE2⟩;clear g0 g1 g2 f0 f1 f2;have hb2:=hb1.ext hE2;have HE2:=zhd hE2;clear hE2;obtain ⟨g0,g1,g2,f0,f1,f2⟩:=za7 hb2))
    refine wpIn_goto ?_
    simp only[Exit.then]
    refine zah (by simp) ?_
    exact ⟨rfl,rfl,rfl,⟨_,_,_,hb2.set 0 _⟩,Below.setCell (p:=⟨w.heap.size,0,none⟩) (Ext.trans hX (Ext.trans HE1.out HE2.out)) (Nat.le_refl _) _,HN.out⟩
 ·rintro ⟨TT,df⟩ W ⟨hd,hsz,h2,⟨x,y,z,hb⟩,hE,HN⟩
  cases hd
  dsimp only at hsz h2;have hT:=zdi 46 TT hsz
  generalize hU:(fun i=>TT.getD i undef)=U at hT
  have g2:U 2=.pointer (some ⟨w.heap.size,0,none⟩):=by rw[←hU];exact h2
  have hT2:TT = #[U 0,U 1,.pointer (some ⟨w.heap.size,0,none⟩),U 3,U 4,U 5,U 6,U 7,U 8,U 9,U 10,U 11,U 12,U 13,U 14,U 15,U 16,U 17,U 18,U 19,U 20,U 21,U 22,U 23,U 24,U 25,U 26,U 27,U 28,U 29,U 30,U 31,U 32,U 33,U 34,U 35,U 36,U 37,U 38,U 39,U 40,U 41,U 42,U 43,U 44,U 45]:=by rw[hT];show (#[U 0,U 1,U 2,U 3,U 4,U 5,U 6,U 7,U 8,U 9,U 10,U 11,U 12,U 13,U 14,U 15,U 16,U 17,U 18,U 19,U 20,U 21,U 22,U 23,U 24,U 25,U 26,U 27,U 28,U 29,U 30,U 31,U 32,U 33,U 34,U 35,U 36,U 37,U 38,U 39,U 40,U 41,U 42,U 43,U 44,U 45]:Array Value)=_;rw[g2]
  clear hT hU hsz g2 h2;subst hT2;obtain ⟨g0,g1,g2,f0,f1,f2⟩:=za7 hb
  gi_wp2
  refine zas ?_
  refine zcH (.tuple #[.agg #[.int .i64 0,.int .i64 0,.int .i64 0],.bool false]) (zlZ _ _ _ _ _ rfl rfl (zbo hb _ _ _) rfl) ?_
  rw[HN.out]
  refine ⟨rfl,?_⟩
  exact ((Below.setCell hE (p:=⟨w.heap.size,0,none⟩) (Nat.le_refl _) _).setCell (p:=⟨w.heap.size,1,none⟩) (Nat.le_refl _) _).setCell (p:=⟨w.heap.size,2,none⟩) (Nat.le_refl _) _
end Go.Proofs.YtgonhdeochgkoaaGreatDoor

namespace Go.Mv
open Go.RowKit
theorem zda {P:Program} (w:World) {o:Oper} {a:Act} {K:Act→World→Prop} {Q:Exit→Act→World→Prop} (s x:Operand) (t:TypeId)
  (ho:o.op=.call { callee:=.builtin .append,args:=#[s,x],argTypes:=#[t,t] })
  (base:Nat) (e:TypeId) (i:TypeInfo) (z:Value) (size bytes:Nat) (ht:P.underlying t=some (.slice e)) (hi:P.info? e=some i) (hz:i.zero=some z)
  (hsize:i.size=size) (hby:i.bytes=bytes) (hzs:z.cells.size=size) (hsz:0<size)
  (v:Value) (n:Nat) (xs:List Value) (hs:a.eval s=v) (hown:w.ownsRow base e size v n xs)
  (vx:Value) (m:Nat) (news:List Value) (hx:a.eval x=vx) (hr:SlR w size vx m news) (h1:∀ u∈news,u.oneCell'=true)
  (h63:n+m≤maxLen) (hbytes:(n+m)*bytes≤140737488355328) (hbase:base≤w.heap.size)
  (h:∀ v' w',w'.ownsRow base e size v' (n+m) (xs++news)→w.grownBy w' v.ownBlock→K (a.put o.dst v') w'):Oper.wp P o a w K Q:=by
 obtain ⟨v',w',hrun,h2,h3⟩:=za4 (P:=P) w base t o.type e i z size bytes ht hi hz hsize hby hzs hsz v n xs hown vx m news hr h1 h63 hbytes hbase;unfold Oper.wp execOp;simp only[ho,resolve,invoke,builtin,Sem.run_bind,Sem.run_pure,Result.andThen_ok,List.map_toArray,List.map_cons,List.map_nil,hs,hx,hrun]
 exact h v' w' h2 h3
end Go.Mv
namespace Go.Proofs.YtgonhdeochgkoaaGreatDoor
open Go.RowKit Go.Mv
end Go.Proofs.YtgonhdeochgkoaaGreatDoor
