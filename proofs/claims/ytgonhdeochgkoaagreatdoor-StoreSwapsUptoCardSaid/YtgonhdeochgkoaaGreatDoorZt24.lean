/- Merged: Sort DskP DskP2 Row DOwn PutsP -/
import Derived.Test.YtgonhdeochgkoaaGreatDoorZt22
import Derived.Shelf.Sort.Plain
import Derived.Shelf.Slices.In.SortNone
import Derived.Sort.KeysCollected
set_option linter.all false
set_option maxHeartbeats 8000000
set_option maxRecDepth 100000
namespace Go.Proofs
open Go.Shelf
def Tryz.lays190_ren:Go.Shelf.Ren:=⟨fun | 190=>151 | 125=>175 | 258=>174 | 128=>220 | 129=>221 | 302=>211 | 303=>212 | 304=>213 | 305=>214 | 306=>215 | 307=>216 | 308=>217 | 309=>218 | 310=>219 | 333=>236 | 329=>237 | 330=>238 | 334=>239 | 335=>240 | 336=>241 | 344=>249 | n=>n,fun | 31=>64 | 9=>9 | 3=>3 | 46=>179 | 0=>0 | 51=>142 | 53=>234 | 4=>4 | 183=>249 | 182=>248 | 131=>254 | 5=>5 | 218=>272 | 222=>276 | 228=>283 | 229=>284 | n=>n,fun | n=>n⟩
theorem Tryz.lays190:Go.Proofs.Lays.n190 Tryz.prog Tryz.lays190_ren:={
 mixed:=by kernel_rfl
 f125:=Tryz.func175.trans (congrArg some (by kernel_rfl))
 f128:=Tryz.func220.trans (congrArg some (by kernel_rfl))
 f129:=Tryz.func221.trans (congrArg some (by kernel_rfl))
 f190:=Tryz.func151.trans (congrArg some (by kernel_rfl))
 f258:=Tryz.func174.trans (congrArg some (by kernel_rfl))
 f302:=Tryz.func211.trans (congrArg some (by kernel_rfl))
 f303:=Tryz.func212.trans (congrArg some (by kernel_rfl))
 f304:=Tryz.func213.trans (congrArg some (by kernel_rfl))
 f305:=Tryz.func214.trans (congrArg some (by kernel_rfl))
 f306:=Tryz.func215.trans (congrArg some (by kernel_rfl))
 f307:=Tryz.func216.trans (congrArg some (by kernel_rfl))
 f308:=Tryz.func217.trans (congrArg some (by kernel_rfl))
 f309:=Tryz.func218.trans (congrArg some (by kernel_rfl))
 f310:=Tryz.func219.trans (congrArg some (by kernel_rfl))
 f329:=Tryz.func237.trans (congrArg some (by kernel_rfl))
 f330:=Tryz.func238.trans (congrArg some (by kernel_rfl))
 f333:=Tryz.func236.trans (congrArg some (by kernel_rfl))
 f334:=Tryz.func239.trans (congrArg some (by kernel_rfl))
 f335:=Tryz.func240.trans (congrArg some (by kernel_rfl))
 f336:=Tryz.func241.trans (congrArg some (by kernel_rfl))
 f344:=Tryz.func249.trans (congrArg some (by kernel_rfl))
 t0:=Tryz.underlying0
 a0:=Tryz.isAgg0
 z0:=Tryz.sizeOf0
 v0:=Tryz.zeroValue0
 t3:=Tryz.underlying3
 a3:=Tryz.isAgg3
 z3:=Tryz.sizeOf3
 v3:=Tryz.zeroValue3
 t4:=Tryz.underlying4
 a4:=Tryz.isAgg4
 z4:=Tryz.sizeOf4
 v4:=Tryz.zeroValue4
 t5:=Tryz.underlying5
 a5:=Tryz.isAgg5
 z5:=Tryz.sizeOf5
 v5:=Tryz.zeroValue5
 t9:=Tryz.underlying9
 a9:=Tryz.isAgg9
 z9:=Tryz.sizeOf9
 v9:=Tryz.zeroValue9
 t31:=Tryz.underlying64
 a31:=Tryz.isAgg64
 z31:=Tryz.sizeOf64
 v31:=Tryz.zeroValue64
 t46:=Tryz.underlying179
 a46:=Tryz.isAgg179
 z46:=Tryz.sizeOf179
 v46:=Tryz.zeroValue179
 t51:=Tryz.underlying142
 a51:=Tryz.isAgg142
 z51:=Tryz.sizeOf142
 v51:=Tryz.zeroValue142
 t53:=Tryz.underlying234
 a53:=Tryz.isAgg234
 z53:=Tryz.sizeOf234
 v53:=Tryz.zeroValue234
 t131:=Tryz.underlying254
 a131:=Tryz.isAgg254
 z131:=Tryz.sizeOf254
 v131:=Tryz.zeroValue254
 t182:=Tryz.underlying248
 a182:=Tryz.isAgg248
 z182:=Tryz.sizeOf248
 v182:=Tryz.zeroValue248
 t183:=Tryz.underlying249
 a183:=Tryz.isAgg249
 z183:=Tryz.sizeOf249
 v183:=Tryz.zeroValue249
 t218:=Tryz.underlying272
 a218:=Tryz.isAgg272
 z218:=Tryz.sizeOf272
 v218:=Tryz.zeroValue272
 t222:=Tryz.underlying276
 a222:=Tryz.isAgg276
 z222:=Tryz.sizeOf276
 v222:=Tryz.zeroValue276
 t228:=Tryz.underlying283
 a228:=Tryz.isAgg283
 z228:=Tryz.sizeOf283
 v228:=Tryz.zeroValue283
 t229:=Tryz.underlying284
 a229:=Tryz.isAgg284
 z229:=Tryz.sizeOf284
 v229:=Tryz.zeroValue284 }
open Go.Sort Go.RowKit in
theorem Tryz.slices_Sort_string (blk off cap:Nat) (ss:List (List UInt8)) (w:World) (hH:Holds encStr w blk off ss.toArray) (hblk:blk<w.heap.size) (hsz:ss.length<4611686018427387904) :
  Calls Tryz.prog 151 #[.slice (some ⟨blk,off,none⟩) ss.length cap] w fun e w' =>
   e=.returned (.tuple #[])∧∃ n os,w'=grow (putRow encStr (Sort.ahead w n) blk off (ss.mergeSort fun x y=>decide (x≤y)).toArray) os:=Any.slices_Sort_string Tryz.lays190 blk off cap ss w hH hblk hsz
open Go.RowKit Go.Sort in
theorem Tryz.slices_Sort_string_none (p:Option Addr) (cap:Nat) (w:World) :
  Calls Tryz.prog 151 #[.slice p 0 cap] w fun e w'=>e=.returned (.tuple #[])∧w'=w:=Any.slices_Sort_string_none Tryz.lays190 p cap w
end Go.Proofs

namespace Go.Proofs.YtgonhdeochgkoaaGreatDoor
open Go.RowKit Go.Mv
abbrev ltB (a b:List UInt8):Bool:=Op.bytesLess a b
theorem zfs:∀ (a b:List UInt8),ltB a b=true↔a<b
 | [],[]=>by simp[ltB,Op.bytesLess]
 | _::_,[]=>by simp[ltB,Op.bytesLess]
 | [],_::_=>by simp[ltB,Op.bytesLess]
 | x::a,y::b=>by
  have ih:=zfs a b
  unfold ltB at ih ⊢
  rw[Op.bytesLess,List.cons_lt_cons_iff,Bool.or_eq_true,Bool.and_eq_true,ih]
  simp
theorem zhB (a:List UInt8):ltB a a=false:=by
 rw[Bool.eq_false_iff];intro h
 exact List.lt_irrefl a ((zfs a a).1 h)
theorem zgo {a b c:List UInt8} (h:ltB a b=true) (k:ltB b c=true):ltB a c=true:=(zfs a c).2 (List.lt_trans ((zfs a b).1 h) ((zfs b c).1 k))
theorem zkL {a b:List UInt8} (h:ltB a b=true):a≠b:=by rintro rfl;rw[zhB] at h;cases h
theorem zo8 {a b:List UInt8} (h:ltB a b=false) (hn:a≠b):ltB b a=true:=by
 rw[zfs];rw[Bool.eq_false_iff,Ne,zfs] at h
 rcases List.le_iff_lt_or_eq.1 (List.not_lt.1 h) with h | h
 ·exact h
 ·exact absurd h.symm hn
def Srt (l:List Fil):Prop:=l.Pairwise fun p q=>ltB p.1 q.1=true
theorem Srt.apart {l:List Fil} (h:Srt l):Apart l:=by
 unfold Apart List.Nodup;rw[List.pairwise_map]
 exact List.Pairwise.imp (fun h=>zkL h) h
theorem zcZ {n b:List UInt8}:∀ {l:List Fil},zae n l=some b→(n,b)∈l
 | [],h=>by cases h
 | p::l,h=>by
  rw[zae] at h
  split at h
  ·rename_i e
   cases h
   subst e
   exact List.mem_cons_self
  ·exact List.mem_cons_of_mem _ (zcZ h)
theorem zbZ {n b:List UInt8}:∀ {l:List Fil},Apart l→(n,b)∈l→zae n l=some b
 | p::l,ha,h=>by
  rw[zae]
  rcases List.mem_cons.1 h with rfl | h
  ·rw[if_pos rfl]
  ·rw[if_neg (zeN ha h),zbZ (zdP ha) h]
theorem getF_isNone {n:List UInt8} {l:List Fil}:zae n l=none↔∀ p∈l,p.1≠n:=by
 constructor
 ·intro h p hp e
  induction l with
  | nil=>cases hp
  | cons q l ih =>
   rw[zae] at h
   split at h
   ·cases h
   ·rename_i hq
    rcases List.mem_cons.1 hp with rfl | hp
    ·exact hq e
    ·exact ih h hp
 ·exact zdD
theorem zvm {l l':List Fil} (h:Srt l) (h':Srt l') (hg:∀ n,zae n l=zae n l'):l=l':=by
 have hm:∀ p,p∈l↔p∈l':=fun p=>⟨fun hp=>zcZ (by rw[←hg];exact zbZ h.apart hp),fun hp=>zcZ (by rw[hg];exact zbZ h'.apart hp)⟩
 have nd:∀ {l:List Fil},Srt l→l.Nodup:=fun h=>List.Pairwise.imp (fun {a b} h e=>zkL h (congrArg Prod.fst e)) h
 have hp:l.Perm l':=(List.perm_ext_iff_of_nodup (nd h) (nd h')).2 hm
 refine List.Perm.eq_of_pairwise (le:=fun p q:Fil=>ltB p.1 q.1=true) (fun a b _ _ h1 h2=>?_) h h' hp
 have:=zgo h1 h2
 rw[zhB] at this
 cases this
/-! Striking out, laying in -/
theorem zb0 (n:List UInt8):∀ l:List Fil,(za8 n l).Sublist l
 | []=>List.Sublist.refl _
 | p::l=>by
  rw[za8]
  split
  ·exact List.sublist_cons_self _ _
  ·exact (zb0 n l).cons_cons _
theorem zec {l:List Fil} (ha:Apart l) (n x:List UInt8):zae x (za8 n l)=if x=n then none else zae x l:=by
 induction l with
 | nil=>simp[za8,zae]
 | cons p l ih =>
  have ih:=ih (zdP ha);rw[za8]
  split
  ·rename_i hp
   subst hp
   split
   ·rename_i hx
    subst hx
    exact zdD fun q hq=>Ne.symm (zeN ha hq)
   ·rename_i hx
    rw[zae,if_neg (Ne.symm hx)]
  ·rename_i hp
   rw[zae,zae,ih]
   split
   ·rename_i hx
    subst hx;rw[if_neg hp]
   ·rfl
theorem zhq (n b x:List UInt8):∀ l:List Fil,zae x (zbw n b l)=if x=n then some b else zae x l
 | []=>by
  rw[zbw,zae,zae]
  by_cases h:x=n
  ·rw[if_pos h,if_pos h.symm]
  ·rw[if_neg h,if_neg (Ne.symm h)];rfl
 | p::l=>by
  have ih:=zhq n b x l;rw[zbw]
  split
  ·rename_i hp
   rw[zae,zae]
   by_cases h:x=n
   ·rw[if_pos h,if_pos h.symm]
   ·rw[if_neg h,if_neg (Ne.symm h),if_neg (by rw[hp];exact Ne.symm h)]
  ·rename_i hp
   rw[zae,zae,ih]
   by_cases h:x=n
   ·subst h
    rw[if_pos rfl,if_pos rfl,if_neg hp]
   ·rw[if_neg h,if_neg h]
theorem zl6 (n b:List UInt8):∀ l:List Fil,∀ q∈zbw n b l,q.1=n∨q∈l
 | [],q,hq=>by rw[zbw,List.mem_singleton] at hq;subst hq;exact .inl rfl
 | p::l,q,hq=>by
  rw[zbw] at hq
  split at hq
  ·rcases List.mem_cons.1 hq with rfl | hq
   ·exact .inl rfl
   ·exact .inr (List.mem_cons_of_mem _ hq)
  ·rcases List.mem_cons.1 hq with rfl | hq
   ·exact .inr List.mem_cons_self
   ·rcases zl6 n b l q hq with h | h
    ·exact .inl h
    ·exact .inr (List.mem_cons_of_mem _ h)
theorem zkn {p:Fil} {l:List Fil} (h:Apart l) (hn:∀ q∈l,p.1≠q.1):Apart (p::l):=by
 unfold Apart;rw[List.map_cons,List.nodup_cons]
 refine ⟨fun hm=>?_,h⟩
 obtain ⟨q,hq,e⟩:=List.mem_map.1 hm
 exact hn q hq e.symm
theorem Apart.upd {n b:List UInt8}:∀ {l:List Fil},Apart l→Apart (zbw n b l)
 | [],_=>by simp[zbw,Apart]
 | p::l,ha=>by
  rw[zbw]
  split
  ·rename_i hp
   exact zkn (zdP ha) fun q hq=>by rw[←hp];exact zeN ha hq
  ·rename_i hp
   refine zkn (Apart.upd (zdP ha)) fun q hq=>?_
   rcases zl6 n b l q hq with h | h
   ·rw[h];exact hp
   ·exact zeN ha h
theorem Apart.del {n:List UInt8} {l:List Fil} (h:Apart l):Apart (za8 n l):=((zb0 n l).map _).nodup h
theorem Srt.del {n:List UInt8} {l:List Fil} (h:Srt l):Srt (za8 n l):=List.Pairwise.sublist (zb0 n l) h
def zcF (p:Fil):List Fil→List Fil
 | []=>[p]
 | q::l=>if ltB q.1 p.1 then q::zcF p l else p::q::l
theorem ziZ (p:Fil):∀ (l:List Fil) (q:Fil),q∈zcF p l↔q=p∨q∈l
 | [],q=>by simp[zcF]
 | r::l,q=>by
  rw[zcF]
  split
  ·rw[List.mem_cons,ziZ p l q,List.mem_cons]
   exact ⟨fun h=>h.elim (fun h=>.inr (.inl h)) (fun h=>h.elim .inl fun h=>.inr (.inr h)),fun h=>h.elim (fun h=>.inr (.inl h)) fun h=>h.elim .inl fun h=>.inr (.inr h)⟩
  ·rw[List.mem_cons,List.mem_cons]
theorem Srt.ins {p:Fil}:∀ {l:List Fil},Srt l→(∀ q∈l,q.1≠p.1)→Srt (zcF p l)
 | [],_,_=>by simp[zcF,Srt]
 | q::l,h,hn=>by
  have hc:=List.pairwise_cons.1 h;rw[zcF]
  split
  ·rename_i hlt
   refine List.pairwise_cons.2 ⟨fun r hr=>?_,Srt.ins hc.2 fun q hq=>hn q (List.mem_cons_of_mem _ hq)⟩
   rcases (ziZ p l r).1 hr with rfl | hr
   ·exact hlt
   ·exact hc.1 r hr
  ·rename_i hlt
   have hpq:=zo8 (by simpa using hlt) (hn q List.mem_cons_self)
   refine List.pairwise_cons.2 ⟨fun r hr=>?_,h⟩
   rcases List.mem_cons.1 hr with rfl | hr
   ·exact hpq
   ·exact zgo hpq (hc.1 r hr)
theorem zmZ (p:Fil) (x:List UInt8):∀ {l:List Fil},(∀ q∈l,q.1≠p.1)→zae x (zcF p l)=if x=p.1 then some p.2 else zae x l
 | [],_=>by
  rw[zcF,zae,zae]
  by_cases h:x=p.1
  ·rw[if_pos h,if_pos h.symm]
  ·rw[if_neg h,if_neg (Ne.symm h)];rfl
 | q::l,hn=>by
  have ih:=zmZ p x (l:=l) fun q hq=>hn q (List.mem_cons_of_mem _ hq)
  rw[zcF]
  split
  ·rw[zae,zae,ih]
   by_cases h:x=p.1
   ·subst h
    rw[if_pos rfl,if_neg (hn q List.mem_cons_self),if_pos rfl]
   ·rw[if_neg h,if_neg h]
  ·rw[zae]
   by_cases h:x=p.1
   ·rw[if_pos h,if_pos h.symm]
   ·rw[if_neg h,if_neg (Ne.symm h)]
def withS (l:List Fil) (p:Fil):List Fil:=zcF p (za8 p.1 l)
theorem zrs {n:List UInt8} {l:List Fil} (ha:Apart l):∀ q∈za8 n l,q.1≠n:=getF_isNone.1 (by rw[zec ha,if_pos rfl])
theorem Srt.withS {l:List Fil} (h:Srt l) (p:Fil):Srt (withS l p):=h.del.ins (zrs h.apart)
theorem zep {l:List Fil} (h:Srt l) (p:Fil) (x:List UInt8):zae x (withS l p)=if x=p.1 then some p.2 else zae x l:=by
 unfold Go.Proofs.YtgonhdeochgkoaaGreatDoor.withS;rw[zmZ p x (zrs h.apart),zec h.apart]
 split <;> rfl
/-! Operations -/
structure Oq where
 k:Int
 n:List UInt8
 t:List UInt8
 b:List UInt8
def zbt (l:List Fil) (o:Oq):List Fil :=
 if o.k=1 then withS l (o.n,[]) else
 match zae o.n l with
 | none=>l
 | some b=>if o.k=2 then withS l (o.n,b++o.b) else if o.k=3∧o.t≠o.n then withS (za8 o.n l) (o.t,b) else if o.k=4 then za8 o.n l else l
def zbn (m:List Fil) (o:Oq):List Fil :=
 if o.k=1 then zbw o.n [] m else
 if o.k=2 then (match zae o.n m with | none=>m | some b=>zbw o.n (b++o.b) m) else
 if o.k=3 then (match zae o.n m with | none=>m | some b=>zbw o.t b (za8 o.n m)) else
 if o.k=4 then za8 o.n m else m
structure Tells (l m:List Fil):Prop where
 s:Srt l
 a:Apart m
 g:∀ x,zae x l=zae x m
theorem Tells.with_ {l m:List Fil} (h:Tells l m) (n b:List UInt8):Tells (withS l (n,b)) (zbw n b m):=⟨h.s.withS _,h.a.upd,fun x=>by rw[zep h.s,zhq,h.g]⟩
theorem Tells.del {l m:List Fil} (h:Tells l m) (n:List UInt8):Tells (za8 n l) (za8 n m):=⟨h.s.del,h.a.del,fun x=>by rw[zec h.s.apart,zec h.a,h.g]⟩
theorem Tells.done {l m:List Fil} (h:Tells l m) (o:Oq):Tells (zbt l o) (zbn m o):=by
 unfold zbt zbn
 by_cases h1:o.k=1
 ·rw[if_pos h1,if_pos h1]
  exact h.with_ _ _
 ·rw[if_neg h1,if_neg h1]
  cases hg:zae o.n m with
  | none =>
   rw[h.g,hg];dsimp only
   split
   ·exact h
   ·split
    ·exact h
    ·split
     ·rw[zgl (getF_isNone.1 hg)]
      exact h
     ·exact h
  | some b =>
   rw[h.g,hg];dsimp only
   split
   ·exact h.with_ _ _
   ·by_cases h3:o.k=3
    ·rw[if_pos h3]
     by_cases ht:o.t=o.n
     ·rw[if_neg (fun h=>h.2 ht),if_neg (by omega),ht]
      refine ⟨h.s,h.a.del.upd,fun x=>?_⟩
      rw[zhq,zec h.a,h.g]
      split
      ·rename_i hx
       rw[hx,hg]
      ·rfl
     ·rw[if_pos ⟨h3,ht⟩]
      exact (h.del _).with_ _ _
    ·rw[if_neg (fun h=>h3 h.1),if_neg h3]
     split
     ·exact h.del _
     ·exact h
def zcN:List Fil→List Fil
 | []=>[]
 | p::l=>zbw p.1 p.2 (zcN l)
def zbl (l:List Fil) (p:Fil):List Fil:=if (zae p.1 l).isNone then withS l p else l
def zed (fs:List Fil) (q:List Oq):List Fil:=q.foldl zbt (fs.foldl zbl [])
def zbF (fs:List Fil) (q:List Oq):List Fil:=q.foldl zbn (zcN fs)
theorem zkH (x:List UInt8):∀ l:List Fil,zae x (zcN l)=zae x l
 | []=>rfl
 | p::l=>by
  rw[zcN,zhq,zkH x l,zae]
  by_cases h:x=p.1
  ·rw[if_pos h,if_pos h.symm]
  ·rw[if_neg h,if_neg (Ne.symm h)]
theorem zje:∀ l:List Fil,Apart (zcN l)
 | []=>List.nodup_nil
 | _::l=>(zje l).upd
theorem zsC {l:List Fil} (h:Srt l) (p:Fil):Srt (zbl l p)∧∀ x,zae x (zbl l p)=(zae x l).or (if p.1=x then some p.2 else none):=by
 unfold zbl
 by_cases hn:zae p.1 l=none
 ·rw[if_pos (by rw[hn];rfl)]
  refine ⟨h.withS p,fun x=>?_⟩
  rw[zep h]
  by_cases hx:x=p.1
  ·subst hx;rw[if_pos rfl,hn,if_pos rfl];rfl
  ·rw[if_neg hx,if_neg (Ne.symm hx),Option.or_none]
 ·obtain ⟨b,hb⟩:=Option.ne_none_iff_exists'.1 hn
  rw[if_neg (by rw[hb];simp)]
  refine ⟨h,fun x=>?_⟩
  by_cases hx:p.1=x
  ·subst hx;rw[hb];rfl
  ·rw[if_neg hx,Option.or_none]
theorem zhT:∀ (fs l:List Fil),Srt l→Srt (fs.foldl zbl l)∧∀ x,zae x (fs.foldl zbl l)=(zae x l).or (zae x fs)
 | [],l,h=>⟨h,fun x=>by simp[zae]⟩
 | p::fs,l,h=>by
  obtain ⟨h1,h2⟩:=zsC h p;obtain ⟨h3,h4⟩:=zhT fs _ h1
  refine ⟨h3,fun x=>?_⟩
  rw[List.foldl_cons,h4,h2,Option.or_assoc,zae]
  congr 1
  split <;> simp
theorem zk0:∀ (q:List Oq) {l m:List Fil},Tells l m→Tells (q.foldl zbt l) (q.foldl zbn m)
 | [],_,_,h=>h
 | o::q,_,_,h=>zk0 q (h.done o)
theorem zfy (fs:List Fil) (q:List Oq):Tells (zed fs q) (zbF fs q):=by
 obtain ⟨h1,h2⟩:=zhT fs [] List.Pairwise.nil
 exact zk0 q ⟨h1,zje fs,fun x=>by rw[h2,zkH];rfl⟩
def zbA (m:List Fil):List Fil:=((m.map (·.1)).mergeSort leB).map fun n=>(n,(zae n m).getD [])
theorem zvS:∀ a b c:List UInt8,leB a b=true→leB b c=true→leB a c=true:=fun a b c h1 h2=>by simp only[leB,decide_eq_true_eq] at *;exact List.le_trans h1 h2
theorem zvR:∀ a b:List UInt8,(leB a b||leB b a)=true:=fun a b=>by simp only[leB,Bool.or_eq_true,decide_eq_true_eq];exact List.le_total a b
theorem zqy (l:List (List UInt8)) (hn:l.Nodup):(l.mergeSort leB).Pairwise fun a b=>ltB a b=true:=by
 have h1:=List.pairwise_mergeSort zvS zvR l
 have h2:(l.mergeSort leB).Nodup:=(List.mergeSort_perm l leB).nodup_iff.2 hn
 refine List.Pairwise.imp₂ (fun a b h1 h2=>?_) h1 h2
 simp only[leB,decide_eq_true_eq] at h1;rw[zfs]
 rcases List.le_iff_lt_or_eq.1 h1 with h | h
 ·exact h
 ·exact absurd h h2
theorem zqL {m:List Fil} (ha:Apart m):Tells (zbA m) m:=by
 have hs:=zqy _ ha
 have hS:Srt (zbA m):=by
  unfold Srt zbA;rw[List.pairwise_map]
  exact hs
 refine ⟨hS,ha,fun x=>?_⟩
 cases hg:zae x m with
 | none =>
  refine zdD fun p hp e=>?_
  obtain ⟨n,hn,rfl⟩:=List.mem_map.1 hp;have hn':=(List.mergeSort_perm _ leB).mem_iff.1 hn;obtain ⟨q,hq,hqe⟩:=List.mem_map.1 hn'
  exact getF_isNone.1 hg q hq (hqe.trans e)
 | some b =>
  refine zbZ hS.apart (List.mem_map.2 ⟨x,(List.mergeSort_perm _ leB).mem_iff.2 (List.mem_map.2 ⟨_,zcZ hg,rfl⟩),by rw[hg];rfl⟩)
theorem znC (fs:List Fil) (q:List Oq):zbA (zbF fs q)=zed fs q:=by
 have h1:=zfy fs q;have h2:=zqL h1.a
 exact zvm h2.s h1.s fun x=>by rw[h2.g,h1.g]
/-! How many bytes -/
def tot (l:List Fil):Nat:=(l.map fun p=>p.2.length).sum
theorem zc1 (p:Fil) (l:List Fil):tot (p::l)=p.2.length+tot l:=by simp[tot]
theorem znK {l l':List Fil} (h:l.Perm l'):tot l=tot l':=by unfold tot;exact (h.map _).sum_nat
theorem zg0 (n b:List UInt8):∀ l:List Fil,tot (zbw n b l)+((zae n l).getD []).length=tot l+b.length
 | []=>by simp[zbw,tot,zae]
 | p::l=>by
  have ih:=zg0 n b l;rw[zbw,zae]
  split
  ·rw[zc1,zc1];simp;omega
  ·rw[zc1,zc1];omega
theorem zi5 (n:List UInt8):∀ l:List Fil,tot (za8 n l)+((zae n l).getD []).length=tot l
 | []=>by simp[za8,tot,zae]
 | p::l=>by
  have ih:=zi5 n l;rw[za8,zae]
  split
  ·rw[zc1];simp;omega
  ·rw[zc1,zc1];omega
theorem zpW (n:List UInt8) (l:List Fil):((zae n l).getD []).length≤tot l:=by have:=zi5 n l;omega
theorem zek (m:List Fil) (o:Oq):tot (zbn m o)≤tot m+o.b.length:=by
 unfold zbn
 split
 ·have:=zg0 o.n [] m;simp at this;omega
 ·split
  ·split
   ·omega
   ·rename_i b hb
    have:=zg0 o.n (b++o.b) m
    rw[hb] at this
    simp at this
    omega
  ·split
   ·split
    ·omega
    ·rename_i b hb
     have h1:=zg0 o.t b (za8 o.n m);have h2:=zi5 o.n m;rw[hb] at h2
     simp at h2
     omega
   ·split
    ·have:=zi5 o.n m;omega
    ·omega
def zaT (q:List Oq):Nat:=(q.map fun o=>o.b.length).sum
theorem zb9 (o:Oq) (q:List Oq):zaT (o::q)=o.b.length+zaT q:=by simp[zaT]
theorem zd6 (q q':List Oq):zaT (q++q')=zaT q+zaT q':=by simp[zaT]
theorem zl4:∀ (q:List Oq) (m:List Fil),tot (q.foldl zbn m)≤tot m+zaT q
 | [],m=>by simp[zaT]
 | o::q,m=>by
  have h1:=zek m o;have h2:=zl4 q (zbn m o);rw[List.foldl_cons,zb9];omega
theorem ziP:∀ l:List Fil,tot (zcN l)≤tot l
 | []=>Nat.le_refl _
 | p::l=>by
  have h1:=ziP l;have h2:=zg0 p.1 p.2 (zcN l);rw[zcN,zc1];omega
theorem zgd (fs:List Fil) (q:List Oq):tot (zbF fs q)≤tot fs+zaT q:=by
 have h1:=zl4 q (zcN fs);have h2:=ziP fs;unfold zbF;omega
theorem zk1 {l m:List Fil} (h:Tells l m):l.Perm m:=by
 have nd:∀ {l:List Fil},Apart l→l.Nodup:=fun {l} h=>by
  unfold Apart List.Nodup at h;rw[List.pairwise_map] at h
  exact List.Pairwise.imp (fun h e=>h (congrArg Prod.fst e)) h
 refine (List.perm_ext_iff_of_nodup (nd h.s.apart) (nd h.a)).2 fun p=>⟨fun hp=>zcZ (b:=p.2) (by rw[←h.g];exact zbZ h.s.apart hp),fun hp=>zcZ (b:=p.2) (by rw[h.g];exact zbZ h.a hp)⟩
theorem zfY (fs:List Fil) (q:List Oq):tot (zed fs q)=tot (zbF fs q):=znK (zk1 (zfy fs q))
/-! Disks -/
structure Dk where
 fs:List Fil
 q:List Oq
 quota:Int
 fuse:Int
 dead:Bool
def Dk.now (d:Dk):List Fil:=zed d.fs d.q
def zbi (o:Oq):Bool:=(decide (o.k=1)||decide (o.k=2)||decide (o.k=3)||decide (o.k=4)) && !decide (o.n=[])&&(!decide (o.k=3) || !decide (o.t=[]))
def zbG:List UInt8→List Fil→Bool
 | _,[]=>true
 | last,p::l=>ltB last p.1&&zbG p.1 l
def Dk.right (d:Dk):Bool:=zbG [] d.fs&&d.q.all zbi&&decide (d.q.length≤400)&&decide (0≤d.quota)&&decide (0≤d.fuse)&&decide ((tot d.now:Int)≤d.quota)
def Dk.burn (d:Dk):Dk:=if 0<d.fuse then { d with fuse:=d.fuse-1,dead:=decide (d.fuse-1=0) } else d
def Dk.may (d:Dk):Int:=if d.right=false then 2 else if d.dead=true then 40 else 0
def Dk.doS (d:Dk) (o:Oq):Dk×Int :=
 if d.may≠0 then (d,d.may) else
 if zbi o=false then (d,2) else
 if zae o.n d.now=none∧o.k≠1 then (d,42) else
 if (o.k=2∧d.quota<(tot d.now:Int)+(o.b.length:Int))∨d.q.length=400 then (d,41) else ({ d with q:=d.q++[o] }.burn,0)
def Dk.syncS (d:Dk):Dk×Int:=if d.may≠0 then (d,d.may) else ({ d with fs:=d.now,q:=[] }.burn,0)
def zaF (sync:Bool):Dk→List Oq→Dk×Int
 | d,[]=>if sync=true then d.syncS else (d,0)
 | d,o::l=>if (d.doS o).2=0 then zaF sync (d.doS o).1 l else d.doS o
theorem zcE (o:Oq):zbi o=true↔(o.k=1∨o.k=2∨o.k=3∨o.k=4)∧o.n≠[]∧(o.k=3→o.t≠[]):=by
 unfold zbi;simp only[Bool.and_eq_true,Bool.or_eq_true,decide_eq_true_eq,Bool.not_eq_true',decide_eq_false_iff_not]
 constructor
 ·rintro ⟨⟨h1,h2⟩,h3⟩
  exact ⟨by omega,h2,fun h=>h3.elim (fun h'=>absurd h h') id⟩
 ·rintro ⟨h1,h2,h3⟩
  refine ⟨⟨by omega,h2⟩,?_⟩
  by_cases h:o.k=3
  ·exact .inr (h3 h)
  ·exact .inl h
def zbx (g:Nat) (u:Value):Prop:=∀ b off n c,0<n→u=.slice (some ⟨b,off,none⟩) n c→b≠g
theorem za2 (g:Nat) (l:List UInt8):zbx g (sv l):=fun _ _ _ _ _ h=>by cases h
theorem zeO (g:Nat) (k:IntKind) (n:Int):zbx g (.int k n):=fun _ _ _ _ _ h=>by cases h
theorem Bs.away {W W':World} {g:Nat} {u:Value} {b:List UInt8} (h:Bs W u b) (ha:zbx g u) (hk:∀ p x,W.cell? p=some x→p.block≠g→W'.cell? p=some x):Bs W' u b:=by
 obtain ⟨hl,A,c,rfl,h1,h2,h3⟩:=h
 refine ⟨hl,A,c,rfl,h1,h2,fun hn=>?_⟩
 obtain ⟨b',off,rfl,hc⟩:=h3 hn
 exact ⟨b',off,rfl,fun j x hx=>hk _ _ (hc j x hx) (ha b' off _ _ hn rfl)⟩
theorem Bs.fresh {W:World} {u:Value} {b:List UInt8} (h:Bs W u b) {g:Nat} (hg:W.heap.size≤g):zbx g u:=by
 intro b' off n c hn hu;obtain ⟨hl,A,c',rfl,h1,h2,h3⟩:=h
 cases hu
 obtain ⟨b2,off2,e,hc⟩:=h3 hn
 cases e
 have hb:0<(b.map bv).length:=by rw[List.length_map];exact hn
 have:=World.block_lt_of_cell? _ _ (hc 0 _ (List.getElem?_eq_getElem hb))
 simp at this
 omega
theorem OwnB.away {W:World} {base:Nat} {u:Value} {b:List UInt8} (h:OwnB W base u b) {g:Nat} (hg:g<base):zbx g u:=by
 intro b' off n c _ hu;subst hu
 rcases h.2 with ⟨hn,_⟩ | ⟨g',cap,cur,e,hb,_⟩
 ·cases hn
 ·cases e
  omega
def RowOf {α:Type} (sz:Nat) (E:World→(Nat→Option Value)→α→Prop) (W:World) (xs:List Value) (l:List α):Prop :=
 xs.length=l.length*sz∧∀ (k:Nat) (hk:k<l.length),E W (fun i=>if i<sz then xs[k*sz+i]? else none) l[k]
theorem RowOf.nil {α:Type} {sz:Nat} {E:World→(Nat→Option Value)→α→Prop} {W:World}:RowOf sz E W [] []:=⟨by simp,fun k hk=>by simp at hk⟩
theorem RowOf.append {α:Type} {sz:Nat} {E:World→(Nat→Option Value)→α→Prop} {W:World} {xs ys:List Value} {l m:List α} (h1:RowOf sz E W xs l) (h2:RowOf sz E W ys m):RowOf sz E W (xs++ys) (l++m):=by
 refine ⟨by rw[List.length_append,List.length_append,h1.1,h2.1,Nat.add_mul],fun k hk=>?_⟩
 rw[List.length_append] at hk;have hl:=h1.1
 by_cases h:k<l.length
 ·have:=h1.2 k h
  rw[List.getElem_append_left h]
  have e:(fun i=>if i<sz then (xs++ys)[k*sz+i]? else none)=fun i=>if i<sz then xs[k*sz+i]? else none:=by
   funext i
   split
   ·rename_i hi
    have:k*sz+i<xs.length:=by
     rw[hl]
     calc k*sz+i<k*sz+sz:=by omega
      _=(k+1)*sz:=by rw[Nat.add_mul,Nat.one_mul]
      _≤l.length*sz:=Nat.mul_le_mul_right _ h
    rw[List.getElem?_append_left this]
   ·rfl
  rw[e]
  exact this
 ·have h':l.length≤k:=by omega
  have:=h2.2 (k-l.length) (by omega)
  rw[List.getElem_append_right h']
  have e:(fun i=>if i<sz then (xs++ys)[k*sz+i]? else none)=fun i=>if i<sz then ys[(k-l.length)*sz+i]? else none:=by
   funext i
   split
   ·have h2:l.length*sz≤k*sz:=Nat.mul_le_mul_right _ h'
    rw[List.getElem?_append_right (by rw[hl];omega),hl,Nat.sub_mul]
    congr 1
    omega
   ·rfl
  rw[e]
  exact this
structure zdO {α:Type} (sz:Nat) (E:World→(Nat→Option Value)→α→Prop):Prop where
 keep:∀ {W W':World} {g:Nat} {c:Nat→Option Value} {p:α},E W c p→(∀ i u,c i=some u→zbx g u)→(∀ p x,W.cell? p=some x→p.block≠g→W'.cell? p=some x)→E W' c p
 fresh:∀ {W:World} {c:Nat→Option Value} {p:α},E W c p→∀ i u,i<sz→c i=some u→zbx W.heap.size u
 one:∀ {W:World} {c:Nat→Option Value} {p:α},E W c p→∀ i u,i<sz→c i=some u→u.oneCell'=true
section
variable {α:Type} {sz:Nat} {E:World→(Nat→Option Value)→α→Prop}
theorem zhO {xs:List Value} {l:List α} (hl:xs.length=l.length*sz) {u:Value} (hu:u∈xs):∃ (k i:Nat),k<l.length∧i<sz∧xs[k*sz+i]?=some u:=by
 obtain ⟨j,hj,rfl⟩:=List.mem_iff_getElem.1 hu
 have hs:0<sz:=by
  rcases Nat.eq_zero_or_pos sz with h | h
  ·rw[h,Nat.mul_zero] at hl;omega
  ·exact h
 refine ⟨j / sz,j % sz,?_,Nat.mod_lt _ hs,?_⟩
 ·rw[Nat.div_lt_iff_lt_mul hs];omega
 ·rw[Nat.div_add_mod' j sz,List.getElem?_eq_getElem hj]
theorem RowOf.keep (hE:zdO sz E) {W W':World} {g:Nat} {xs:List Value} {l:List α} (h:RowOf sz E W xs l) (ha:∀ u∈xs,zbx g u) (hk:∀ p x,W.cell? p=some x→p.block≠g→W'.cell? p=some x):RowOf sz E W' xs l:=by
 refine ⟨h.1,fun k hk'=>hE.keep (h.2 k hk') (fun i u hu=>?_) hk⟩
 split at hu
 ·exact ha u (List.mem_of_getElem? hu)
 ·cases hu
theorem RowOf.fresh (hE:zdO sz E) {W:World} {xs:List Value} {l:List α} (h:RowOf sz E W xs l):∀ u∈xs,zbx W.heap.size u:=by
 intro u hu;obtain ⟨k,i,hk,hi,hx⟩:=zhO h.1 hu
 exact hE.fresh (h.2 k hk) i u hi (by rw[if_pos hi];exact hx)
theorem RowOf.one (hE:zdO sz E) {W:World} {xs:List Value} {l:List α} (h:RowOf sz E W xs l):∀ u∈xs,u.oneCell'=true:=by
 intro u hu;obtain ⟨k,i,hk,hi,hx⟩:=zhO h.1 hu
 exact hE.one (h.2 k hk) i u hi (by rw[if_pos hi];exact hx)
theorem RowOf.ext (hE:zdO sz E) {W W':World} {xs:List Value} {l:List α} (h:RowOf sz E W xs l) (hX:Ext W W'):RowOf sz E W' xs l :=
 h.keep hE (h.fresh hE) fun _ _ hc _=>hX.cell hc
def OwnX (sz:Nat) (E:World→(Nat→Option Value)→α→Prop) (t:TypeId) (w:World) (base:Nat) (v:Value) (l:List α):Prop :=
 ∃ xs,w.ownsRow base t sz v l.length xs∧RowOf sz E w xs l∧∀ g,v.ownBlock=some g→∀ u∈xs,zbx g u
theorem OwnX.nil (t:TypeId) (w:World) (base:Nat):OwnX sz E t w base (.slice none 0 0) []:=⟨[],⟨by simp,.inl ⟨rfl,rfl⟩⟩,RowOf.nil,fun g h=>by cases h⟩
theorem OwnX.ext (hE:zdO sz E) {t:TypeId} {w w':World} {base:Nat} {v:Value} {l:List α} (h:OwnX sz E t w base v l) (hX:Ext w w'):OwnX sz E t w' base v l:=by
 obtain ⟨xs,h1,h2,h3⟩:=h
 exact ⟨xs,zag h1 hX,h2.ext hE hX,h3⟩
theorem OwnX.base {t:TypeId} {w:World} {base base':Nat} {v:Value} {l:List α} (h:OwnX sz E t w base v l) (hb:base'≤base):OwnX sz E t w base' v l:=by
 obtain ⟨xs,h1,h2,h3⟩:=h
 exact ⟨xs,zaj h1 hb,h2,h3⟩
theorem OwnX.open_ {t:TypeId} {w:World} {base:Nat} {v:Value} {l:List α} (h:OwnX sz E t w base v l):∃ A c,v=.slice A l.length c:=by
 obtain ⟨xs,h1,_⟩:=h;obtain ⟨A,c,rfl,_,_⟩:=SlR.open_ (SlR.of_own h1)
 exact ⟨A,c,rfl⟩
theorem zeK (hE:zdO sz E) {ops:Array Oper} {rest:List Oper} {o:Oper} {a:Act} {w:World} {Q:Exit→Act→World→Prop} (hgd:o.guard=none) (s x:Operand) (T:TypeId)
  (ho:o.op=.call { callee:=.builtin .append,args:=#[s,x],argTypes:=#[T,T] }) (t:TypeId) (i0:TypeInfo) (z:Value) (bytes:Nat) (hT:Tryz.prog.underlying T=some (.slice t)) (hi:Tryz.prog.info? t=some i0) (hz0:i0.zero=some z) (hz1:i0.size=sz) (hz2:i0.bytes=bytes) (hzs:z.cells.size=sz) (hsz:0<sz) (hby:bytes≤1000)
  (base:Nat) (v:Value) (l:List α) (hs:a.eval s=v) (hown:OwnX sz E t w base v l) (vx:Value) (m:List α) (ys:List Value) (hx:a.eval x=vx) (hr:SlR w sz vx m.length ys) (hry:RowOf sz E w ys m) (hc0:0<m.length)
  (hay:∀ g,v.ownBlock=some g→∀ u∈ys,zbx g u) (hlen:l.length+m.length≤4000000) (hbase:base≤w.heap.size)
  (h:∀ A c w',OwnX sz E t w' base (.slice A (l.length+m.length) c) (l++m)→ze7 base w w'→w.grownBy w' v.ownBlock→wpList Tryz.prog ops Q rest (a.put o.dst (.slice A (l.length+m.length) c)) w'):wpList Tryz.prog ops Q (o::rest) a w:=by
 obtain ⟨xs,h1,h2,h3⟩:=hown
 have hbb:(l.length+m.length)*bytes≤140737488355328:=Nat.le_trans (Nat.mul_le_mul hlen hby) (by decide)
 obtain ⟨v',w',hrun,g1,g2⟩:=za4 (P:=Tryz.prog) w base T o.type t i0 _ sz bytes hT hi hz0 hz1 hz2 hzs hsz v l.length xs h1 vx m.length ys hr (hry.one hE) (by unfold maxLen;omega) hbb hbase
 have hblk:v'.ownBlock=v.ownBlock∨v'.ownBlock=some w.heap.size:=by
  obtain ⟨hl,A,c,rfl,_,_,hc⟩:=hr;obtain ⟨b,off,rfl,hcell⟩:=hc hc0
  have hadd:∀ j,(⟨b,off,none⟩:Addr).add j=⟨b,off+j,none⟩:=by intro j;unfold Addr.add;split <;> simp_all
  exact zdA (P:=Tryz.prog) w base T o.type t i0 _ sz bytes hT hi hz0 hz1 hz2 v l.length xs h1 ⟨b,off,none⟩ m.length c ys hl hc0 (fun j u hu=>by rw[hadd];exact hcell j u hu) (hry.one hE) (by unfold maxLen;omega) hbb hrun
 have hkeep:∀ {zs:List Value} {k:List α},RowOf sz E w zs k→(∀ g,v.ownBlock=some g→∀ u∈zs,zbx g u)→RowOf sz E w' zs k:=by
  intro zs k hzk haz
  cases hg:v.ownBlock with
  | none =>
   refine hzk.keep hE (hzk.fresh hE) fun p y hc _=>?_
   exact (World.cell?_of_block (g2.block _ (World.block_lt_of_cell? _ _ hc) (by rw[hg];simp))).trans hc
  | some g =>
   refine hzk.keep hE (haz g hg) fun p y hc hne=>?_
   exact (World.cell?_of_block (g2.block _ (World.block_lt_of_cell? _ _ hc) (by rw[hg];simpa using hne))).trans hc
 refine wpList_plain hgd fun K hK=>?_
 unfold Oper.wp execOp;simp only[ho,resolve,invoke,builtin,Sem.run_bind,Sem.run_pure,Result.andThen_ok,List.map_toArray,List.map_cons,List.map_nil,hs,hx,hrun]
 refine hK _ _ ?_
 obtain ⟨A,c,rfl,_,_⟩:=SlR.open_ (SlR.of_own g1)
 refine h A c w' ⟨xs++ys,?_,(hkeep h2 h3).append (hkeep hry hay),fun g hg u hu=>?_⟩ (fun W0 hX hb=>Ext.grownOwn hX (zaj h1 hb) g2) g2
 ·rw[List.length_append]
  exact g1
 ·rcases hblk with hb | hb
  ·rw[hb] at hg
   rcases List.mem_append.1 hu with hu | hu
   ·exact h3 g hg u hu
   ·exact hay g hg u hu
  ·rw[hb] at hg
   cases hg
   rcases List.mem_append.1 hu with hu | hu
   ·exact h2.fresh hE u hu
   ·exact hry.fresh hE u hu
end
/-! Files -/
def zia (W:World) (c:Nat→Option Value) (p:Fil):Prop:=c 0=some (sv p.1)∧∃ u,c 1=some u∧Bs W u p.2
theorem zbP:zdO 2 zia where
 keep h ha hk:=by
  obtain ⟨h1,u,h2,h3⟩:=h
  exact ⟨h1,u,h2,Bs.away h3 (ha 1 u h2) hk⟩
 fresh h i u hi hu:=by
  obtain ⟨h1,v,h2,h3⟩:=h
  match i,hi with
  | 0,_=>rw[h1] at hu;cases hu;exact za2 _ _
  | 1,_=>rw[h2] at hu;cases hu;exact Bs.fresh h3 (Nat.le_refl _)
 one h i u hi hu:=by
  obtain ⟨h1,v,h2,h3⟩:=h
  match i,hi with
  | 0,_=>rw[h1] at hu;cases hu;rfl
  | 1,_ =>
   rw[h2] at hu
   cases hu
   obtain ⟨A,c,rfl,_,_⟩:=SlR.open_ h3;rfl
abbrev OwnF (w:World) (base:Nat) (v:Value) (l:List Fil):Prop:=OwnX 2 zia 51 w base v l
theorem fs_row {W:World} {v:Value} {l:List Fil}:Fs W v l↔∃ xs,SlR W 2 v l.length xs∧RowOf 2 zia W xs l:=by
 constructor
 ·rintro ⟨xs,h1,h2⟩
  exact ⟨xs,h1,h1.1,fun k hk=>by
   obtain ⟨h3,u,h4,h5⟩:=h2 k hk
   exact ⟨h3,u,h4,h5⟩⟩
 ·rintro ⟨xs,h1,h2⟩
  exact ⟨xs,h1,fun k hk=>by
   obtain ⟨h3,u,h4,h5⟩:=h2.2 k hk
   exact ⟨h3,u,h4,h5⟩⟩
theorem OwnF.fs {w:World} {base:Nat} {v:Value} {l:List Fil} (h:OwnF w base v l):Fs w v l:=by
 obtain ⟨xs,h1,h2,_⟩:=h
 exact fs_row.2 ⟨xs,SlR.of_own h1,h2⟩
/-! Operations -/
def OqE (W:World) (c:Nat→Option Value) (o:Oq):Prop:=c 0=some (.int .u8 o.k)∧c 1=some (sv o.n)∧c 2=some (sv o.t)∧∃ u,c 3=some u∧Bs W u o.b
theorem zcS:zdO 4 OqE where
 keep h ha hk:=by
  obtain ⟨h0,h1,h2,u,h3,h4⟩:=h
  exact ⟨h0,h1,h2,u,h3,Bs.away h4 (ha 3 u h3) hk⟩
 fresh h i u hi hu:=by
  obtain ⟨h0,h1,h2,v,h3,h4⟩:=h
  match i,hi with
  | 0,_=>rw[h0] at hu;cases hu;exact zeO _ _ _
  | 1,_=>rw[h1] at hu;cases hu;exact za2 _ _
  | 2,_=>rw[h2] at hu;cases hu;exact za2 _ _
  | 3,_=>rw[h3] at hu;cases hu;exact Bs.fresh h4 (Nat.le_refl _)
 one h i u hi hu:=by
  obtain ⟨h0,h1,h2,v,h3,h4⟩:=h
  match i,hi with
  | 0,_=>rw[h0] at hu;cases hu;rfl
  | 1,_=>rw[h1] at hu;cases hu;rfl
  | 2,_=>rw[h2] at hu;cases hu;rfl
  | 3,_ =>
   rw[h3] at hu
   cases hu
   obtain ⟨A,c,rfl,_,_⟩:=SlR.open_ h4;rfl
abbrev OwnQ (w:World) (base:Nat) (v:Value) (l:List Oq):Prop:=OwnX 4 OqE 86 w base v l
def Qs (W:World) (v:Value) (l:List Oq):Prop:=∃ xs,SlR W 4 v l.length xs∧RowOf 4 OqE W xs l
theorem Qs.ext {W W':World} {v:Value} {l:List Oq} (h:Qs W v l) (hX:Ext W W'):Qs W' v l:=by
 obtain ⟨xs,h1,h2⟩:=h
 exact ⟨xs,h1.ext hX,h2.ext zcS hX⟩
theorem OwnQ.qs {w:World} {base:Nat} {v:Value} {l:List Oq} (h:OwnQ w base v l):Qs w v l:=by
 obtain ⟨xs,h1,h2,_⟩:=h
 exact ⟨xs,SlR.of_own h1,h2⟩
theorem Qs.open_ {W:World} {v:Value} {l:List Oq} (h:Qs W v l):∃ A c,v=.slice A l.length c∧l.length≤c∧c≤9223372036854775807:=by
 obtain ⟨xs,h1,_⟩:=h
 exact SlR.open_ h1
theorem Qs.at_ {W:World} {A:Option Addr} {m c:Nat} {l:List Oq} (h:Qs W (.slice A m c) l) (hn:0<l.length):m=l.length∧∃ b off,A=some ⟨b,off,none⟩∧∀ (k:Nat) (hk:k<l.length),
  W.cell? ⟨b,off+k*4,none⟩=some (.int .u8 l[k].k)∧W.cell? ⟨b,off+k*4+1,none⟩=some (sv l[k].n)∧W.cell? ⟨b,off+k*4+2,none⟩=some (sv l[k].t)∧∃ B d,W.cell? ⟨b,off+k*4+3,none⟩=some (.slice B l[k].b.length d)∧Bs W (.slice B l[k].b.length d) l[k].b:=by
 obtain ⟨xs,h1,h2⟩:=h;obtain ⟨rfl,b,off,rfl,hc⟩:=SlR.at_ h1 hn
 refine ⟨rfl,b,off,rfl,fun k hk=>?_⟩
 obtain ⟨g0,g1,g2,u,g3,g4⟩:=h2.2 k hk
 have g0:xs[k*4+0]?=some (.int .u8 l[k].k):=g0
 have g1:xs[k*4+1]?=some (sv l[k].n):=g1
 have g2:xs[k*4+2]?=some (sv l[k].t):=g2
 have g3:xs[k*4+3]?=some u:=g3
 obtain ⟨B,d,rfl,_,_⟩:=SlR.open_ g4
 exact ⟨hc _ _ g0,by rw[Nat.add_assoc];exact hc _ _ g1,by rw[Nat.add_assoc];exact hc _ _ g2,B,d,by rw[Nat.add_assoc];exact hc _ _ g3,g4⟩
/-! Disks -/
def DkV (W:World) (v:Value) (d:Dk):Prop:=∃ vf vq,v=.agg #[vf,vq,.int .i64 d.quota,.int .i64 d.fuse,.bool d.dead]∧Fs W vf d.fs∧Qs W vq d.q
theorem DkV.ext {W W':World} {v:Value} {d:Dk} (h:DkV W v d) (hX:Ext W W'):DkV W' v d:=by
 obtain ⟨vf,vq,rfl,h1,h2⟩:=h
 exact ⟨vf,vq,rfl,h1.ext hX,h2.ext hX⟩
open Go.RowKit Go.Mv Go.Shelf
theorem ziX (v:Value) (bs:List UInt8) (w:World) (h:Bs w v bs) (hl:bs.length≤2000000):Calls Tryz.prog 132 #[v] w fun e w'=>∃ A c,e=.returned (.slice A bs.length c)∧OwnB w' w.heap.size (.slice A bs.length c) bs∧Ext w w':=by
 obtain ⟨A,c,rfl,h1,h2⟩:=SlR.open_ h
 have hnil:=fun (W:World)=>Lib.run_eql_slice_nil (P:=Tryz.prog) W
 cases A with
 | none =>
  have hb:bs=[]:=by
   cases hbs:bs with
   | nil=>rfl
   | cons b l =>
    have:=(SlR.at_ h (by rw[hbs];simp)).2
    obtain ⟨_,_,e,_⟩:=this
    cases e
  subst hb
  go_enter Tryz.func132,Tryz.ntmps132
  go_wp2
  go_ret
  exact ⟨_,_,rfl,World.ownsRow_nil _ _ _ _,Ext.refl _⟩
 | some a =>
  have HB:=zhd h
  go_enter Tryz.func132,Tryz.ntmps132
  go_wp2_with (at_builtin;refine zdN rfl (.tmp 5) (.tmp 6) rfl w.heap.size _ [] rfl (zez w) _ bs rfl (HB.out.ext (Ext.alloc (Ext.refl _) _)) (by simp;omega) (by simp) ?_;intro A1 c1 w1 ho1 hG1;have hE1:Ext w w1:=hG1 w (Ext.alloc (Ext.refl _) _) (Nat.le_refl _);simp only[List.length_nil,Nat.zero_add,List.nil_append] at ho1 ⊢)
  go_ret
  exact ⟨_,_,rfl,ho1,hE1⟩
theorem zik {W:World} {b:Nat} {t:TypeId} {a v:Value} (h:Blk W b t #[a,v]):W.cell? ⟨b,0,none⟩=some a∧W.cell? ⟨b,1,none⟩=some v:=⟨h.cell 0 rfl,h.cell 1 rfl⟩
theorem blk4 {W:World} {b:Nat} {t:TypeId} {a v u x:Value} (h:Blk W b t #[a,v,u,x]):W.cell? ⟨b,0,none⟩=some a∧W.cell? ⟨b,1,none⟩=some v∧W.cell? ⟨b,2,none⟩=some u∧W.cell? ⟨b,3,none⟩=some x:=⟨h.cell 0 rfl,h.cell 1 rfl,h.cell 2 rfl,h.cell 3 rfl⟩
theorem zth {W:World} {b:Nat} {t:TypeId} {a v:Value} (h:Blk W b t #[a,v]) (a' v':Value):Blk ((W.setCell ⟨b,0,none⟩ a').setCell ⟨b,1,none⟩ v') b t #[a',v']:=(h.set 0 a').set 1 v'
theorem zti {W:World} {b:Nat} {t:TypeId} {a v u x:Value} (h:Blk W b t #[a,v,u,x]) (a' v' u' x':Value):Blk ((((W.setCell ⟨b,0,none⟩ a').setCell ⟨b,1,none⟩ v').setCell ⟨b,2,none⟩ u').setCell ⟨b,3,none⟩ x') b t #[a',v',u',x']:=(((h.set 0 a').set 1 v').set 2 u').set 3 x'
theorem zmW {w W:World} (h:Ext w W) {b:Nat} (hb:w.heap.size≤b) (a v:Value):Ext w ((W.setCell ⟨b,0,none⟩ a).setCell ⟨b,1,none⟩ v):=Below.setCell (p:=⟨b,1,none⟩) (Below.setCell (p:=⟨b,0,none⟩) h hb _) hb _
theorem zmX {w W:World} (h:Ext w W) {b:Nat} (hb:w.heap.size≤b) (a v u x:Value):Ext w ((((W.setCell ⟨b,0,none⟩ a).setCell ⟨b,1,none⟩ v).setCell ⟨b,2,none⟩ u).setCell ⟨b,3,none⟩ x) :=
 Below.setCell (p:=⟨b,3,none⟩) (Below.setCell (p:=⟨b,2,none⟩) (zmW h hb a v) hb _) hb _
theorem ztV {W:World} {b:Nat} {t:TypeId} {a v:Value} (hB:Blk W b t #[a,v]) {e:TypeId} (hte:t≠e) {base size k:Nat} {y:Value} {xs:List Value} (hr:W.ownsRow base e size y k xs) (a' v':Value):((W.setCell ⟨b,0,none⟩ a').setCell ⟨b,1,none⟩ v').ownsRow base e size y k xs:=by
 have r1:=hr.kept (zaa _ b 0 a') (.inr (hB.not_row hte hr).symm)
 exact r1.kept (zaa _ b 1 v') (.inr ((hB.set 0 a').not_row hte r1).symm)
theorem ztW {W:World} {b:Nat} {t:TypeId} {a v u x:Value} (hB:Blk W b t #[a,v,u,x]) {e:TypeId} (hte:t≠e) {base size k:Nat} {y:Value} {xs:List Value} (hr:W.ownsRow base e size y k xs) (a' v' u' x':Value):((((W.setCell ⟨b,0,none⟩ a').setCell ⟨b,1,none⟩ v').setCell ⟨b,2,none⟩ u').setCell ⟨b,3,none⟩ x').ownsRow base e size y k xs:=by
 have r1:=hr.kept (zaa _ b 0 a') (.inr (hB.not_row hte hr).symm);have b1:=hB.set 0 a';have r2:=r1.kept (zaa _ b 1 v') (.inr (b1.not_row hte r1).symm);have b2:=b1.set 1 v';have r3:=r2.kept (zaa _ b 2 u') (.inr (b2.not_row hte r2).symm);have b3:=b2.set 2 u'
 exact r3.kept (zaa _ b 3 x') (.inr (b3.not_row hte r3).symm)
theorem zee {W:World} {b:Nat} {t:TypeId} {cs:Array Value} (hB:Blk W b t cs) {e:TypeId} (hte:t≠e) {base size k j:Nat} {y:Value} {xs:List Value} (hr:W.ownsRow base e size y k xs) (a':Value):(W.setCell ⟨b,j,none⟩ a').ownsRow base e size y k xs :=
 hr.kept (zaa _ b j a') (.inr (hB.not_row hte hr).symm)
theorem zwi:Tryz.prog.underlying 51=some (.struct (Tryz.prog.fieldsOf 51)):=by kernel_rfl
theorem opU:Tryz.prog.underlying 86=some (.struct (Tryz.prog.fieldsOf 86)):=by kernel_rfl
theorem ziq:Tryz.prog.underlying 25=some (.struct (Tryz.prog.fieldsOf 25)):=by kernel_rfl
theorem ztz (tmps:Array Value) (W:World) (b:Nat) (cs:Array Value) (h4:tmps.getD 2 undef=.pointer (some ⟨b,0,none⟩)) (hb:Blk W b 51 cs) (hs:cs.size=2):(results Tryz.f87 tmps).run Tryz.prog W=.ok (.agg cs) W:=by
 have hl:=hb.load (P:=Tryz.prog) zwi rfl (by rw[hs];kernel_rfl)
 have h4':tmps[2]?.getD undef=.pointer (some ⟨b,0,none⟩):=by simpa using h4
 simp[results,Tryz.results87,h4',asAddr,hl]
theorem zvU (tmps:Array Value) (W:World) (b:Nat) (cs:Array Value) (h4:tmps.getD 2 undef=.pointer (some ⟨b,0,none⟩)) (hb:Blk W b 86 cs) (hs:cs.size=4):(results Tryz.f89 tmps).run Tryz.prog W=.ok (.agg cs) W:=by
 have hl:=hb.load (P:=Tryz.prog) opU rfl (by rw[hs];kernel_rfl)
 have h4':tmps[2]?.getD undef=.pointer (some ⟨b,0,none⟩):=by simpa using h4
 simp[results,Tryz.results89,h4',asAddr,hl]
theorem zty (n:List UInt8) (v:Value) (b:List UInt8) (w:World) (hB:Bs w v b) (hl:b.length≤2000000):Calls Tryz.prog 87 #[.agg #[sv n,v]] w fun e w'=>∃ A c,e=.returned (.agg #[sv n,.slice A b.length c])∧OwnB w' w.heap.size (.slice A b.length c) b∧Ext w w':=by
 obtain ⟨A,c,rfl,_,_⟩:=SlR.open_ hB;have hb0:=(Blk.new w 51 #[sv n,.slice A b.length c]).alloc (.cells #[sv [],.slice none 0 0] 51);have hb1:=Blk.new (w.alloc (.cells #[sv n,.slice A b.length c] 51)) 51 #[sv [],.slice none 0 0];rw[World.size_alloc] at hb1
 have hE:Ext w ((w.alloc (.cells #[sv n,.slice A b.length c] 51)).alloc (.cells #[sv [],.slice none 0 0] 51)):=Ext.alloc (Ext.alloc (Ext.refl _) _) _
 have HB:=zhd (hB.ext hE);have HE:=zhd hE;have H0:=zhd hb0;have H1:=zhd hb1;clear hb0 hb1 hE hB
 unfold sv at *
 obtain ⟨g0,g1⟩:=zik H0.out
 go_enter Tryz.func87,Tryz.ntmps87
 go_wp2_with fail
 refine wp_region_held_drew (S:=fun W=>W.cell? ⟨w.heap.size,0,none⟩=some (.string ⟨n.toArray⟩)∧W.cell? ⟨w.heap.size,1,none⟩=some (.slice A b.length c)) (by kernel_rfl) ⟨g0,g1⟩ (fun _=>?_)
 refine tkN 0 rfl ?_;refine tkN 1 rfl ?_;refine tkN 2 rfl ?_;refine tkN 3 rfl ?_
 refine ar1 4 rfl (fun K hK=>?_)
 go_simp
 refine (ziX _ b _ (Bs.ext HB.out (Ext.drew (Ext.refl _))) hl).mono ?_
 rintro e w1 ⟨A1,c1,rfl,ho1,hE1'⟩;have hE1:=Ext.trans (Ext.drew (Ext.refl _)) hE1';clear g0 g1;obtain ⟨g0,g1⟩:=zik (H0.out.ext hE1);obtain ⟨d0,d1⟩:=zik (H1.out.ext hE1);have f0:=(H1.out.ext hE1).frozen 0;have f1:=(H1.out.ext hE1).frozen 1
 refine shK hK _ _ ⟨g0,g1⟩ (fun _=>?_)
 refine tkN 5 rfl ?_
 refine ar1 6 rfl (fun K hK=>?_)
 go_simp
 have q2:=zth (H1.out.ext hE1) (.string ⟨n.toArray⟩) (.slice A1 b.length c1);have q0:=((H0.out.ext hE1).other (by omega:w.heap.size≠w.heap.size+1) 0 (.string ⟨n.toArray⟩)).other (by omega:w.heap.size≠w.heap.size+1) 1 (.slice A1 b.length c1)
 refine shK hK _ _ (zik q0) (fun _=>?_)
 refine wpAnyH_done (by kernel_rfl) ?_ _;go_wp2_with fail
 refine bodyPost_ret (ztz _ _ _ _ rfl q2 rfl) rfl ?_
 have hz:w.heap.size≤w1.heap.size:=(Ext.trans HE.out hE1).size
 refine ⟨_,_,rfl,zaj (ztV (H1.out.ext hE1) (by decide) ho1 _ _) (by have:=HE.out.size;exact this),zmW (Ext.trans HE.out hE1) (Nat.le_succ _) _ _⟩
theorem zni (o:Oq) (v:Value) (w:World) (hB:Bs w v o.b) (hl:o.b.length≤2000000):Calls Tryz.prog 89 #[.agg #[.int .u8 o.k,sv o.n,sv o.t,v]] w fun e w'=>∃ A c,e=.returned (.agg #[.int .u8 o.k,sv o.n,sv o.t,.slice A o.b.length c])∧OwnB w' w.heap.size (.slice A o.b.length c) o.b∧Ext w w':=by
 obtain ⟨A,c,rfl,_,_⟩:=SlR.open_ hB;obtain ⟨k,n,t,b⟩:=o
 dsimp only at *
 have hb0:=(Blk.new w 86 #[.int .u8 k,sv n,sv t,.slice A b.length c]).alloc (.cells #[.int .u8 0,sv [],sv [],.slice none 0 0] 86);have hb1:=Blk.new (w.alloc (.cells #[.int .u8 k,sv n,sv t,.slice A b.length c] 86)) 86 #[.int .u8 0,sv [],sv [],.slice none 0 0];rw[World.size_alloc] at hb1
 have hE:Ext w ((w.alloc (.cells #[.int .u8 k,sv n,sv t,.slice A b.length c] 86)).alloc (.cells #[.int .u8 0,sv [],sv [],.slice none 0 0] 86)):=Ext.alloc (Ext.alloc (Ext.refl _) _) _
 have HB:=zhd (hB.ext hE);have HE:=zhd hE;have H0:=zhd hb0;have H1:=zhd hb1;clear hb0 hb1 hE hB
 unfold sv at *
 obtain ⟨g0,g1,g2,g3⟩:=blk4 H0.out
 go_enter Tryz.func89,Tryz.ntmps89
 go_wp2_with fail
 refine (ziX _ b _ HB.out hl).mono ?_
 rintro e w1 ⟨A1,c1,rfl,ho1,hE1⟩;clear g0 g1 g2 g3;have h0:=H0.out.ext hE1;have h1:=H1.out.ext hE1;obtain ⟨g0,g1,g2,g3⟩:=blk4 h0;obtain ⟨d0,d1,d2,d3⟩:=blk4 h1;have e0:=h0.frozen 3;have f0:=h1.frozen 0;have f1:=h1.frozen 1;have f2:=h1.frozen 2;have f3:=h1.frozen 3;have q0:=zhd h0;have q1:=zhd h1;have HO:=zhd ho1;have HE1:=zhd hE1;clear h0 h1 ho1 hE1;go_wp2_with fail
 have k1:=q1.out.other (show w.heap.size+1≠w.heap.size by omega) 3 (.slice A1 b.length c1)
 have k2:=zti k1 (.int .u8 k) (.string ⟨n.toArray⟩) (.string ⟨t.toArray⟩) (.slice A1 b.length c1)
 refine bodyPost_ret (zvU _ _ _ _ rfl k2 rfl) rfl ?_
 refine ⟨_,_,rfl,zaj (ztW k1 (by decide) (zee q0.out (by decide) HO.out _) _ _ _ _) (by have:=HE.out.size;exact this),zmX (Below.setCell (p:=⟨w.heap.size,3,none⟩) (Ext.trans HE.out HE1.out) (Nat.le_refl _) _) (Nat.le_succ _) _ _ _ _⟩
theorem zli:(Tryz.prog.info? 51).map (fun i=>(i.zero,i.size,i.bytes))=some (some (.agg #[.string ⟨#[]⟩,.slice none 0 0]),2,40):=by kernel_rfl
theorem ziY:(Tryz.prog.info? 86).map (fun i=>(i.zero,i.size,i.bytes))=some (some (.agg #[.int .u8 0,.string ⟨#[]⟩,.string ⟨#[]⟩,.slice none 0 0]),4,64):=by kernel_rfl
theorem znj {α:Type} {sz:Nat} {E:World→(Nat→Option Value)→α→Prop} {t:TypeId} {w:World} {base:Nat} {v:Value} {l:List α} (h:OwnX sz E t w base v l) {g:Nat} (hg:v.ownBlock=some g):g<w.heap.size:=by
 obtain ⟨xs,h1,_⟩:=h
 rcases h1.2 with ⟨rfl,_⟩ | ⟨g',cap,cur,rfl,_,hh,_⟩
 ·cases hg
 ·cases hg
  exact (Array.getElem?_eq_some_iff.1 hh).1
theorem zka {W:World} {n b:List UInt8} {u:Value} (h:Bs W u b):RowOf 2 zia W [sv n,u] [(n,b)]:=by
 refine ⟨rfl,fun k hk=>?_⟩
 obtain rfl:k=0:=by simpa using hk
 exact ⟨rfl,u,rfl,h⟩
theorem zf9 {W:World} {o:Oq} {u:Value} (h:Bs W u o.b):RowOf 4 OqE W [.int .u8 o.k,sv o.n,sv o.t,u] [o]:=by
 refine ⟨rfl,fun k hk=>?_⟩
 obtain rfl:k=0:=by simpa using hk
 exact ⟨rfl,rfl,rfl,u,rfl,h⟩
theorem zeH (W:World) (cs:List Value) (t:TypeId) (sz:Nat) (hs:cs.length=1*sz) {n:Nat} (hn:W.heap.size=n):SlR (W.alloc (.cells cs.toArray t)) sz (.slice (some ⟨n,0,none⟩) 1 1) 1 cs:=by
 subst hn
 refine ⟨hs,_,_,rfl,Nat.le_refl _,by simp[maxLen],fun _=>⟨_,_,rfl,fun j u hu=>?_⟩⟩
 rw[Nat.zero_add]
 exact (Blk.new W t cs.toArray).cell j (by simpa using hu)
theorem zj4 (v:Value) (fs:List Fil) (w:World) (hF:Fs w v fs) (hl:fs.length≤2000000) (hbl:∀ f∈fs,f.2.length≤2000000):Calls Tryz.prog 86 #[v,.func (.func 87) #[] #[]] w fun e w'=>∃ A c,e=.returned (.slice A fs.length c)∧OwnF w' w.heap.size (.slice A fs.length c) fs∧Ext w w':=by
 obtain ⟨A,c,rfl,_,_⟩:=Fs.open_ hF;have HF:=zhd hF;have HBL:=zhd hbl;clear hF hbl;obtain ⟨i0,hi,hz0,hz1,hz2⟩:=info_parts zli
 go_enter Tryz.func86,Tryz.ntmps86
 go_wp2_with fail
 go_loopw [4,9] (fun vo i wr=>∃ k:Nat,k≤fs.length∧i=.int .i64 k∧(∃ A' c',vo=.slice A' k c')∧Hid (OwnF wr w.heap.size vo (fs.take k))∧Ext w wr) (fun _ i _=>fs.length-(intOf i).toNat)
 case atStart=>exact ⟨0,Nat.zero_le _,rfl,⟨_,_,rfl⟩,OwnX.nil _ _ _,Ext.refl _⟩
 case round =>
  obtain ⟨k,hk,rfl,⟨A',c',rfl⟩,HO,hX⟩:=hrel
  by_cases hlt:k<fs.length
  ·obtain ⟨_,b,off,rfl,hc⟩:=(HF.out.ext hX).at_ (by omega)
   obtain ⟨hc0,B2,d2,hc1,hbs⟩:=hc k hlt;have hb2:=HBL.out _ (List.getElem_mem hlt)
   have htk:fs.take (k+1)=fs.take k++[fs[k]]:=List.take_succ_eq_append_getElem hlt
   have HTK:=zhd htk
   have hlen:(fs.take k).length=k:=by rw[List.length_take];omega
   have HLEN:=zhd hlen;have HBS:=zhd hbs;clear hc htk hlen hbs
   generalize fs[k]=x at *
   obtain ⟨n,bb⟩:=x
   dsimp only at *
   have hX1:Ext wr (wr.alloc (.cells #[sv n,.slice B2 bb.length d2] 51)):=Ext.alloc (Ext.refl _) _
   have hbx:=Blk.new wr 51 #[sv n,.slice B2 bb.length d2];have hcl:=zty n _ bb _ (Bs.ext HBS.out hX1) hb2;have HC:=zhd hcl;have HX1:=zhd hX1;obtain ⟨x0,x1⟩:=zik hbx;clear hcl hX1 hbx
   simp only[sv] at hc0 x0 x1 HC ⊢
   go_wp2_with fail
   refine HC.out.mono ?_
   rintro e w1 ⟨A1,c1,rfl,ho1,hE1⟩;have HO1:=zhd ho1;have hE13:=Ext.trans HX1.out hE1
   have hE15:Ext wr (w1.alloc (.cells #[.string ⟨n.toArray⟩,.slice A1 bb.length c1] 51)):=Ext.alloc hE13 _
   have HOX:=zhd (OwnX.ext zbP HO.out hE15)
   have haw:∀ g,(Value.slice A' k c').ownBlock=some g→∀ u∈[.string ⟨n.toArray⟩,.slice A1 bb.length c1],zbx g u:=by
    intro g hg u hu;have hgl:=znj HO.out hg;simp only[List.mem_cons,List.not_mem_nil,or_false] at hu
    rcases hu with rfl | rfl
    ·exact za2 _ n
    ·exact HO1.out.away (by simp;omega)
   have HAW:=zhd haw;have HE15:=zhd hE15;clear haw ho1 hE1 hE13 hE15 x0 x1  hc0
   go_wp2_with (at_builtin;refine zeK zbP rfl (.tmp 13) (.tmp 17) 22 rfl 51 i0 _ 40 Tryz.underlying22 hi hz0 hz1 hz2 rfl (by decide) (by decide) w.heap.size _ (fs.take k) rfl HOX.out _ [(n,bb)] [.string ⟨n.toArray⟩,.slice A1 bb.length c1] rfl (zeH w1 [.string ⟨n.toArray⟩,.slice A1 bb.length c1] 51 2 rfl rfl) (zka (n:=n) (Bs.ext HO1.out.bs (Ext.alloc (Ext.refl _) _))) (by simp) HAW.out (by rw[HLEN.out];simp;omega) (Ext.trans hX HE15.out).size ?_;intro A3 c3 w3 ho3 hG3 hg3;rw[←HTK.out,HLEN.out] at ho3;simp only[HLEN.out,List.length_cons,List.length_nil,Nat.zero_add] at ho3 ⊢;have hX3:=hG3 w (Ext.trans hX HE15.out) (Nat.le_refl _))
   go_roundw
   case rel=>exact ⟨k+1,by omega,by go_num,⟨_,_,rfl⟩,ho3,hX3⟩
   case measure=>simp[intOf];omega
  ·go_wp2_with fail
   go_ret
   obtain rfl:k=fs.length:=by omega
   have:=HO.out
   rw[List.take_length] at this
   exact ⟨_,_,rfl,this,hX⟩
open Go.RowKit Go.Mv
def za3 (n:List UInt8):Oq:=⟨1,n,[],[]⟩
def za6 (n b:List UInt8):Oq:=⟨2,n,[],b⟩
def zbb (n:List UInt8):Oq:=⟨4,n,[],[]⟩
end Go.Proofs.YtgonhdeochgkoaaGreatDoor
