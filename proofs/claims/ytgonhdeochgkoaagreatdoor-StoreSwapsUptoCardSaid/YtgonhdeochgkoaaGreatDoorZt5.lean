/- Merged: Entry Entry2 Num Takes RefChain Chain Head -/
import Derived.Test.YtgonhdeochgkoaaGreatDoorZt3
import Derived.Test.YtgonhdeochgkoaaGreatDoorZt4
import Derived.Deep.RegionHeld3
set_option linter.all false
set_option maxHeartbeats 8000000
set_option maxRecDepth 100000
namespace Go.Proofs.YtgonhdeochgkoaaGreatDoor
open Go.RowKit Go.Mv
def zaJ (n:Int):Bool:=decide (0≤n∧n≤1073741824)
theorem zmi (n:Int) (w:World) :
  Calls Tryz.prog 113 #[.int .i64 n] w fun e w'=>e=.returned (.bool (zaJ n))∧w=w':=by
 by_cases h0:0≤n
 ·by_cases h1:n≤1073741824
  ·go_enter Tryz.func113,Tryz.ntmps113
   go_wp2
   go_ret
   exact ⟨by simp[zaJ,h0,h1],rfl⟩
  ·go_enter Tryz.func113,Tryz.ntmps113
   go_wp2
   go_ret
   exact ⟨by simp[zaJ,h0,h1],rfl⟩
 ·go_enter Tryz.func113,Tryz.ntmps113
  go_wp2
  go_ret
  exact ⟨by simp[zaJ];omega,rfl⟩
theorem zhH (n:Int) (w:World) :
  Calls Tryz.prog 170 #[.int .i64 n] w fun e w'=>e=.returned (.bool (zaJ n))∧w=w':=by
 by_cases h0:0≤n
 ·by_cases h1:n≤1073741824
  ·go_enter Tryz.func170,Tryz.ntmps170
   go_wp2
   go_ret
   exact ⟨by simp[zaJ,h0,h1],rfl⟩
  ·go_enter Tryz.func170,Tryz.ntmps170
   go_wp2
   go_ret
   exact ⟨by simp[zaJ,h0,h1],rfl⟩
 ·go_enter Tryz.func170,Tryz.ntmps170
  go_wp2
  go_ret
  exact ⟨by simp[zaJ];omega,rfl⟩
theorem ret_bool {a b:Bool} (h:a=b):Ending.returned (.bool a)=.returned (.bool b):=by rw[h]
structure Ent where
 t:Int
 k:Int
 v:Int
deriving DecidableEq
def Ent.val (e:Ent):Value:=.agg #[.int .i64 e.t,.int .i64 e.k,.int .i64 e.v]
def Ent.cells (e:Ent):List Value:=[.int .i64 e.t,.int .i64 e.k,.int .i64 e.v]
def Ent.okP (t k v:Int):Prop:=1≤t∧t≤1073741824∧0≤k∧k<5∧0≤v∧v≤1073741824∧(k=1∨v=0)
instance (t k v:Int):Decidable (Ent.okP t k v):=by unfold Ent.okP;infer_instance
def okB (t k v:Int):Bool:=decide (Ent.okP t k v)
def Ent.ok (e:Ent):Bool:=okB e.t e.k e.v
theorem okB_true {t k v:Int}:okB t k v=true↔Ent.okP t k v:=by simp[okB]
theorem numB_true {n:Int}:zaJ n=true↔(0≤n∧n≤1073741824):=by simp[zaJ]
theorem znu (t k v:Int) (w:World) :
  Calls Tryz.prog 68 #[.agg #[.int .i64 t,.int .i64 k,.int .i64 v]] w fun e w'=>e=.returned (.bool (okB t k v))∧Below w.heap.size w w':=by
 go_enter Tryz.func68,Tryz.ntmps68
 go_wp2_with (go_at_call 113;refine (zmi _ _).mono ?_;rintro e w' ⟨rfl,rfl⟩)
 all_goals go_ret
 all_goals refine ⟨ret_bool ?_,(Below.refl _ _).alloc (Nat.le_refl _) _⟩
 all_goals (try simp only[numB_true] at *)
 all_goals (rw[Bool.eq_iff_iff,okB_true];unfold Ent.okP;simp;try omega)
def deedsMap:Array MapEntry:=#[{ key:=.int .i64 0,val:=.func (.func 205) #[] #[],born:=0 },{ key:=.int .i64 1,val:=.func (.func 206) #[] #[],born:=1 },
 { key:=.int .i64 2,val:=.func (.func 207) #[] #[],born:=2 },{ key:=.int .i64 3,val:=.func (.func 208) #[] #[],born:=3 },
 { key:=.int .i64 4,val:=.func (.func 209) #[] #[],born:=4 }]
theorem zm3 (w:World) (es:Array MapEntry) (c:Nat) (n:Int) (v:Value) (hn:Instr.findNow (.int .i64) (.int .i64 n) es.toList 0=some none) :
  (Instr.mapUpdate 218 (.map (some w.heap.size)) (.int .i64 n) v).run Tryz.prog (w.alloc (.map es c))=.ok () (w.alloc (.map (es.push { key:=.int .i64 n,val:=v,born:=c }) (c+1))) :=
 zdX w .i64 Tryz.underlying218 Tryz.underlying3 es c n v hn
set_option maxRecDepth 100000 in
theorem zrr (w:World) :
  Calls Tryz.prog 172 #[] w fun e w'=>e=.returned (.map (some w.heap.size))∧w.alloc (.map deedsMap 5)=w':=by
 have hmm:=@run_makeMap Tryz.prog;have h0:=zm3 w #[] 0 0 (.func (.func 205) #[] #[]) rfl;have h1:=zm3 w #[{ key:=.int .i64 0,val:=.func (.func 205) #[] #[],born:=0 }] 1 1 (.func (.func 206) #[] #[]) rfl;have h2:=zm3 w #[{ key:=.int .i64 0,val:=.func (.func 205) #[] #[],born:=0 },{ key:=.int .i64 1,val:=.func (.func 206) #[] #[],born:=1 }] 2 2 (.func (.func 207) #[] #[]) rfl;have h3:=zm3 w #[{ key:=.int .i64 0,val:=.func (.func 205) #[] #[],born:=0 },{ key:=.int .i64 1,val:=.func (.func 206) #[] #[],born:=1 },{ key:=.int .i64 2,val:=.func (.func 207) #[] #[],born:=2 }] 3 3 (.func (.func 208) #[] #[]) rfl;have h4:=zm3 w #[{ key:=.int .i64 0,val:=.func (.func 205) #[] #[],born:=0 },{ key:=.int .i64 1,val:=.func (.func 206) #[] #[],born:=1 },{ key:=.int .i64 2,val:=.func (.func 207) #[] #[],born:=2 },{ key:=.int .i64 3,val:=.func (.func 208) #[] #[],born:=3 }] 4 4 (.func (.func 209) #[] #[]) rfl;simp only[List.push_toArray,List.nil_append,List.cons_append,Nat.reduceAdd] at h0 h1 h2 h3 h4
 go_enter Tryz.func172,Tryz.ntmps172
 go_wp2
 go_ret
 exact ⟨rfl,rfl⟩
theorem zmf (k:Int):∃ f,Instr.findNow (.int .i64) (.int .i64 k) deedsMap.toList 0=some f∧f.isSome=decide (0≤k∧k<5):=by
 by_cases h0:k=0
 ·subst h0;exact ⟨_,rfl,rfl⟩
 by_cases h1:k=1
 ·subst h1;exact ⟨_,rfl,rfl⟩
 by_cases h2:k=2
 ·subst h2;exact ⟨_,rfl,rfl⟩
 by_cases h3:k=3
 ·subst h3;exact ⟨_,rfl,rfl⟩
 by_cases h4:k=4
 ·subst h4;exact ⟨_,rfl,rfl⟩
 refine ⟨none,?_,?_⟩
 ·have e0:(k==0)=false:=by simp[h0]
  have e1:(k==1)=false:=by simp[h1]
  have e2:(k==2)=false:=by simp[h2]
  have e3:(k==3)=false:=by simp[h3]
  have e4:(k==4)=false:=by simp[h4]
  simp[deedsMap,Instr.findNow,Instr.sameNow,e0,e1,e2,e3,e4]
 ·simp;omega
def zp6 (k:Int):Bool:=decide (0≤k∧k<5)
theorem zkx (k:Int):∃ v,∀ (W:World) (r:Nat),W.heap[r]?=some (.map deedsMap 5) →
  (Instr.lookup 218 (.map (some r)) (.int .i64 k) true).run Tryz.prog W=.ok (.tuple #[v,.bool (zp6 k)]) W:=by
 obtain ⟨f,hf,hb⟩:=zmf k
 refine ⟨(f.map (·.2)).getD .nilFunc,fun W r h=>?_⟩
 have:=zh4 (P:=Tryz.prog) W .i64 Tryz.underlying218 Tryz.underlying3 deedsMap 5 k .nilFunc (by kernel_rfl) h f hf
 rw[this,hb];rfl
set_option maxRecDepth 100000 in
theorem zfj (t k v:Int) (w:World) :
  Calls Tryz.prog 147 #[.agg #[.int .i64 t,.int .i64 k,.int .i64 v]] w fun e w'=>e=.returned (.bool (okB t k v))∧Below w.heap.size w w':=by
 obtain ⟨fv,hl⟩:=zkx k
 have hl1:=hl (((w.alloc (.cells #[.int .i64 t,.int .i64 k,.int .i64 v] 79)).alloc (.map deedsMap 5)).drew) (w.heap.size+1) (by
  have:=World.alloc_heap_new (w.alloc (.cells #[.int .i64 t,.int .i64 k,.int .i64 v] 79)) (.map deedsMap 5)
  rwa [World.size_alloc] at this)
 clear hl
 go_enter Tryz.func147,Tryz.ntmps147
 go_wp2_with fail
 go_region_held3 (fun w'=>w'.cell? ⟨w.heap.size,0,none⟩=some (.int .i64 t)∧w'.cell? ⟨w.heap.size,1,none⟩=some (.int .i64 k)∧w'.cell? ⟨w.heap.size,2,none⟩=some (.int .i64 v)) (first | go_keep)
  (first | (go_at_call 172;refine (zrr _).mono ?_;rintro e w' ⟨rfl,rfl⟩))
 go_wp2_with (go_at_call 170;refine (zhH _ _).mono ?_;rintro e w' ⟨rfl,rfl⟩)
 all_goals go_ret
 all_goals refine ⟨ret_bool ?_,(((Below.refl _ _).alloc (Nat.le_refl _) _).alloc (by simp) _).drew⟩
 all_goals (try simp only[numB_true,zp6,decide_eq_true_eq] at *)
 all_goals (rw[Bool.eq_iff_iff,okB_true];unfold Ent.okP;simp[zp6];try omega)
def zaq (es:List Ent):List Value:=es.flatMap Ent.cells
def Es (w:World) (v:Value) (es:List Ent):Prop:=SlR w 3 v es.length (zaq es)
theorem Es.ext {w w':World} {v:Value} {es:List Ent} (h:Es w v es) (he:Ext w w'):Es w' v es:=SlR.ext h he
theorem zgw (es:List Ent) (k:Nat) (h:k<es.length) (i:Nat) (hi:i<3):(zaq es)[k*3+i]?=es[k].cells[i]?:=by
 induction es generalizing k with
 | nil=>simp at h
 | cons e es ih =>
  rw[show zaq (e::es)=e.cells++zaq es from rfl]
  have hl:e.cells.length=3:=rfl
  cases k with
  | zero=>rw[List.getElem?_append_left (by omega)];simp
  | succ k =>
   rw[List.getElem?_append_right (by omega),hl,show (k+1)*3+i-3=k*3+i from by omega]
   simpa using ih k (by simpa using h)
theorem Es.at_ {w:World} {A:Option Addr} {m c:Nat} {es:List Ent} (h:Es w (.slice A m c) es) (hn:0<es.length):m=es.length∧∃ b off,A=some ⟨b,off,none⟩∧∀ (k:Nat) (hk:k<es.length),
  w.cell? ⟨b,off+k*3,none⟩=some (.int .i64 es[k].t)∧w.cell? ⟨b,off+k*3+1,none⟩=some (.int .i64 es[k].k)∧w.cell? ⟨b,off+k*3+2,none⟩=some (.int .i64 es[k].v):=by
 obtain ⟨rfl,b,off,rfl,hc⟩:=SlR.at_ h hn
 refine ⟨rfl,b,off,rfl,fun k hk=>⟨?_,?_,?_⟩⟩
 ·exact hc (k*3) _ (zgw es k hk 0 (by omega))
 ·exact hc (k*3+1) _ (zgw es k hk 1 (by omega))
 ·exact hc (k*3+2) _ (zgw es k hk 2 (by omega))
theorem zpG (t k v:Int) (w:World) :
  Calls Tryz.prog 307 #[.agg #[.int .i64 t,.int .i64 k,.int .i64 v]] w fun e w'=>e=.returned (.bool (!okB t k v))∧Below w.heap.size w w':=by
 go_enter Tryz.func307,Tryz.ntmps307
 go_wp2_with (go_at_call 147;refine (zfj _ _ _ _).mono ?_;rintro e w' ⟨rfl,hb⟩)
 go_ret
 exact ⟨rfl,((Below.refl _ _).alloc (Nat.le_refl _) _).trans (hb.mono (by simp))⟩
def ze8:List Ent→Nat→Int
 | [],_=>-1
 | e::es,i=>if e.ok then ze8 es (i+1) else i
theorem zmb (v:Value) (es:List Ent) (w:World) (h:Es w v es) :
  Calls Tryz.prog 308 #[v,.func (.func 307) #[] #[]] w fun e w'=>e=.returned (.int .i64 (ze8 es 0))∧Below w.heap.size w w':=by
 obtain ⟨A,c,rfl,h1,h2⟩:=SlR.open_ h;have hm:=SlR.len_le h;unfold maxLen at hm
 go_enter Tryz.func308,Tryz.ntmps308
 go_wp2_with fail
 go_loopw [8] (fun i wr=>∃ k:Nat,k≤es.length∧i=.int .i64 k∧Hid (ze8 es 0=ze8 (es.drop k) k)∧Below w.heap.size w wr) (fun i _=>es.length-(intOf i).toNat)
 case atStart=>exact ⟨0,Nat.zero_le _,rfl,rfl,Below.refl _ _⟩
 case round =>
  obtain ⟨k,hk,rfl,Hb,hB⟩:=hrel
  by_cases hlt:k<es.length
  ·obtain ⟨_,b,off,rfl,hc⟩:=Es.at_ (h.ext hB) (by omega)
   obtain ⟨hc0,hc1,hc2⟩:=hc k hlt;clear hc
   go_wp2_with (go_at_call 307;refine (zpG _ _ _ _).mono ?_;rintro e w' ⟨rfl,hb⟩)
   ·go_ret
    have hne:es[k].ok=false:=by simpa [Ent.ok] using (by assumption:(!okB es[k].t es[k].k es[k].v)=true)
    refine ⟨zgW ?_,hB.trans (hb.mono hB.size)⟩
    rw[Hb.out,List.drop_eq_getElem_cons hlt,ze8,hne]
    simp
   ·go_roundw
    case rel =>
     have hok:es[k].ok=true:=by simpa [Ent.ok] using (by assumption:(!okB es[k].t es[k].k es[k].v)=false)
     exact ⟨k+1,by omega,by go_num,by rw[Hb.out,List.drop_eq_getElem_cons hlt,ze8,hok];simp[Hid],hB.trans (hb.mono hB.size)⟩
    case measure=>simp[intOf];omega
  ·go_wp2_with fail
   go_ret
   refine ⟨zgW ?_,hB⟩
   rw[Hb.out,List.drop_of_length_le (by omega)];rfl
def zcb (es:List Ent):Bool:=es.all Ent.ok
theorem zmH (es:List Ent) (i:Nat):(0≤ze8 es i↔zcb es=false)∧-1≤ze8 es i:=by
 induction es generalizing i with
 | nil=>simp[ze8,zcb]
 | cons e es ih =>
  have:=ih (i+1)
  cases h:e.ok <;> simp[ze8,zcb,h] at this ⊢ <;> first | omega | simpa [zcb] using this | skip
theorem zjD (v:Value) (es:List Ent) (w:World) (h:Es w v es) :
  Calls Tryz.prog 306 #[v,.func (.func 307) #[] #[]] w fun e w'=>e=.returned (.bool (!zcb es))∧Below w.heap.size w w':=by
 obtain ⟨h1,h2⟩:=zmH es 0;have H1:=zhd h1;clear h1
 go_enter Tryz.func306,Tryz.ntmps306
 go_wp2_with (go_at_call 308;refine (zmb _ _ _ h).mono ?_;rintro e w' ⟨rfl,hb⟩)
 go_ret
 refine ⟨ret_bool ?_,hb⟩
 have:=H1.out
 cases h:zcb es <;> simp[h] at this ⊢ <;> omega
theorem zuD (v:Value) (es:List Ent) (w:World) (h:Es w v es) :
  Calls Tryz.prog 305 #[v] w fun e w'=>e=.returned (.bool (!zcb es))∧Below w.heap.size w w':=by
 go_enter Tryz.func305,Tryz.ntmps305
 go_wp2_with (go_at_call 306;refine (zjD _ _ _ h).mono ?_;rintro e w' ⟨rfl,hb⟩)
 go_ret
 exact ⟨rfl,hb⟩
def zaA (l:List Int):Bool:=l.all zaJ
def zal (l:List Int):List UInt8:=l.flatMap fun n=>zbQ n.toNat
theorem Is.at_ {w:World} {A:Option Addr} {m c:Nat} {l:List Int} (h:Is w (.slice A m c) l) (hn:0<l.length):m=l.length∧∃ b off,A=some ⟨b,off,none⟩∧∀ (k:Nat) (hk:k<l.length),w.cell? ⟨b,off+k,none⟩=some (.int .i64 l[k]):=by
 obtain ⟨rfl,b,off,rfl,hc⟩:=SlR.at_ h hn
 exact ⟨rfl,b,off,rfl,fun k hk=>hc k _ (by simp[List.getElem?_eq_getElem hk,iv])⟩
theorem zqV (n:Int) (w:World) :
  Calls Tryz.prog 187 #[.int .i64 n] w fun e w'=>e=.returned (.bool (!zaJ n))∧w=w':=by
 by_cases h0:n<0
 ·go_enter Tryz.func187,Tryz.ntmps187
  go_wp2
  go_ret
  exact ⟨ret_bool (by simp[zaJ];omega),rfl⟩
 ·by_cases h1:n>1073741824
  ·go_enter Tryz.func187,Tryz.ntmps187
   go_wp2
   go_ret
   exact ⟨ret_bool (by simp[zaJ];omega),rfl⟩
  ·go_enter Tryz.func187,Tryz.ntmps187
   go_wp2
   go_ret
   exact ⟨ret_bool (by simp[zaJ];omega),rfl⟩
def zd2:List Int→Nat→Int
 | [],_=>-1
 | n::l,i=>if zaJ n then zd2 l (i+1) else i
theorem zk9 (v:Value) (l:List Int) (w:World) (h:Is w v l) :
  Calls Tryz.prog 230 #[v,.func (.func 187) #[] #[]] w fun e w'=>e=.returned (.int .i64 (zd2 l 0))∧w=w':=by
 obtain ⟨A,c,rfl,h1,h2⟩:=SlR.open_ h;have hm:=SlR.len_le h;unfold maxLen at hm
 go_enter Tryz.func230,Tryz.ntmps230
 go_wp2_with fail
 go_loop [8] (fun i=>∃ k:Nat,k≤l.length∧i=.int .i64 k∧Hid (zd2 l 0=zd2 (l.drop k) k)) (fun i=>l.length-(intOf i).toNat)
 case atStart=>exact ⟨0,Nat.zero_le _,rfl,rfl⟩
 case round =>
  obtain ⟨k,hk,rfl,Hb⟩:=hrel
  by_cases hlt:k<l.length
  ·obtain ⟨_,b,off,rfl,hc⟩:=Is.at_ h (by omega)
   have hc0:=hc k hlt;clear hc
   go_wp2_with (go_at_call 187;refine (zqV _ _).mono ?_;rintro e w' ⟨rfl,rfl⟩)
   ·go_ret
    have hne:zaJ l[k]=false:=by simpa using (by assumption:(!zaJ l[k])=true)
    refine ⟨zgW ?_,rfl⟩
    rw[Hb.out,List.drop_eq_getElem_cons hlt,zd2,hne]
    simp
   ·go_round
    case rel =>
     have hok:zaJ l[k]=true:=by simpa using (by assumption:(!zaJ l[k])=false)
     exact ⟨k+1,by omega,by go_num,by rw[Hb.out,List.drop_eq_getElem_cons hlt,zd2,hok];simp[Hid]⟩
    case measure=>simp[intOf];omega
  ·go_wp2_with fail
   go_ret
   refine ⟨zgW ?_,rfl⟩
   rw[Hb.out,List.drop_of_length_le (by omega)];rfl
theorem zmg (l:List Int) (i:Nat):(0≤zd2 l i↔zaA l=false)∧-1≤zd2 l i:=by
 induction l generalizing i with
 | nil=>simp[zd2,zaA]
 | cons e es ih =>
  have:=ih (i+1)
  cases h:zaJ e <;> simp[zd2,zaA,h] at this ⊢ <;> first | omega | simpa [zaA] using this | skip
theorem zi7 (v:Value) (l:List Int) (w:World) (h:Is w v l) :
  Calls Tryz.prog 186 #[v,.func (.func 187) #[] #[]] w fun e w'=>e=.returned (.bool (!zaA l))∧w=w':=by
 obtain ⟨h1,h2⟩:=zmg l 0;have H1:=zhd h1;clear h1
 go_enter Tryz.func186,Tryz.ntmps186
 go_wp2_with (go_at_call 230;refine (zk9 _ _ _ h).mono ?_;rintro e w' ⟨rfl,rfl⟩)
 go_ret
 refine ⟨ret_bool ?_,rfl⟩
 have:=H1.out
 cases h:zaA l <;> simp[h] at this ⊢ <;> omega
theorem zib (v:Value) (l:List Int) (w:World) (h:Is w v l) :
  Calls Tryz.prog 161 #[v] w fun e w'=>e=.returned (.bool (zaA l))∧w=w':=by
 go_enter Tryz.func161,Tryz.ntmps161
 go_wp2_with (go_at_call 186;refine (zi7 _ _ _ h).mono ?_;rintro e w' ⟨rfl,rfl⟩)
 go_ret
 exact ⟨ret_bool (by simp),rfl⟩
def hiB:Nat→Nat→List UInt8
 | 0,_=>[]
 | f+1,m=>if m=0 then [] else hiB f (m / 128)++[UInt8.ofNat (m % 128+128)]
theorem zmw (m:Nat):UInt8.ofNat (m % 128) ||| 128=UInt8.ofNat (m % 128+128):=by
 have h2:∀ m:Nat,m<128→UInt8.ofNat m ||| 128=UInt8.ofNat (m+128):=by decide
 exact h2 _ (Nat.mod_lt _ (by decide))
theorem zeU (f:Nat):hiB f 0=[]:=by cases f <;> simp[hiB]
theorem ziK (n:Nat) (hn:n≤1073741824):zbQ n=hiB 5 (n / 128)++[UInt8.ofNat (n % 128)]:=by
 unfold zbQ
 congr 1
 have d2:n / 128 / 128=n / 16384:=by omega
 have d3:n / 16384 / 128=n / 2097152:=by omega
 have d4:n / 2097152 / 128=n / 268435456:=by omega
 have d5:n / 268435456 / 128=0:=by omega
 by_cases h4:n / 268435456=0
 ·by_cases h3:n / 2097152=0
  ·by_cases h2:n / 16384=0
   ·by_cases h1:n / 128=0
    ·simp[zaU,hiB,h1,h2,h3,h4]
    ·simp[zaU,hiB,d2,d3,d4,d5,h1,h2,h3,h4,zmw]
   ·have h1:n / 128≠0:=by omega
    simp[zaU,hiB,d2,d3,d4,d5,h1,h2,h3,h4,zmw]
  ·have h1:n / 128≠0:=by omega
   have h2:n / 16384≠0:=by omega
   simp[zaU,hiB,d2,d3,d4,d5,h1,h2,h3,h4,zmw]
 ·have h1:n / 128≠0:=by omega
  have h2:n / 16384≠0:=by omega
  have h3:n / 2097152≠0:=by omega
  simp[zaU,hiB,d2,d3,d4,d5,h1,h2,h3,h4,zmw]
def ziW (w:World) (l:List Int) (e:Ending) (w':World):Prop :=
 ∃ v,e=.returned (.tuple #[v,.int .i64 0])∧w'.ownsRow w.heap.size 5 1 v (zal l).length ((zal l).map bv)∧Ext w w'
def zjH (w:World) (e:Ending) (w':World):Prop:=e=.returned (.tuple #[.slice none 0 0,.int .i64 2])∧Ext w w'
theorem zkW (n:Nat):1≤(zbQ n).length∧(zbQ n).length≤5:=by
 have:=zhl 7 n true 4
 simp[zbQ];omega
theorem zcx (l:List Int):(zal l).length≤5*l.length:=by
 induction l with
 | nil=>simp[zal]
 | cons n l ih=>have:=(zkW n.toNat).2;simp[zal] at ih ⊢;omega
theorem zjB {l:List Int} {k:Nat} (h:k<l.length):zal (l.take (k+1))=zal (l.take k)++zbQ l[k].toNat:=by
 rw[List.take_succ_eq_append_getElem h];unfold zal;rw[List.flatMap_append];simp
theorem zhG {l:List Int} (h:zaA l=true) {k:Nat} (hk:k<l.length):0≤l[k]∧l[k]≤1073741824:=by
 have:=List.all_eq_true.1 h l[k] (List.getElem_mem hk)
 simpa [zaJ] using this
set_option maxRecDepth 100000 in
theorem zoF (v:Value) (l:List Int) (w:World) (h:Is w v l) (hn:zaA l=true) (hl:l.length≤2000000) :
  Calls Tryz.prog 127 #[v,.func (.func 128) #[] #[]] w (ziW w l):=by
 obtain ⟨A,c,rfl,h1,h2⟩:=SlR.open_ h;have Hn:=zhd hn
 go_enter Tryz.func127,Tryz.ntmps127
 go_wp2_with (go_at_call 161;refine (zib _ _ _ h).mono ?_;rintro e w' ⟨rfl,rfl⟩)
 clear hn
 go_loopw [4,13] (fun vb i wr=>∃ k:Nat,k≤l.length∧i=.int .i64 k∧wr.ownsRow w.heap.size 5 1 vb (zal (l.take k)).length ((zal (l.take k)).map bv)∧Ext w wr) (fun _ i _=>l.length-(intOf i).toNat)
 case atStart=>exact ⟨0,Nat.zero_le _,rfl,World.ownsRow_nil _ _ _ _,Ext.refl _⟩
 case round =>
  obtain ⟨k,hk,rfl,hown,hB⟩:=hrel
  by_cases hlt:k<l.length
  ·obtain ⟨_,b,off,rfl,hc⟩:=Is.at_ (h.ext hB) (by omega)
   have hc0:=hc k hlt;clear hc;obtain ⟨hn0,hn1⟩:=zhG Hn.out hlt;have hsl:=zcx (l.take k)
   have htl:(l.take k).length≤k:=List.length_take_le _ _
   have key:=zpy (zal (l.take k)) l[k].toNat (by omega) _ w.heap.size wr hown hB.size (by omega);rw[Int.toNat_of_nonneg hn0] at key;have Key:=zhd key;clear key
   go_wp2_with (go_at_call 128;refine Key.out.mono ?_;rintro e w1 ⟨v',rfl,hown',hB'⟩)
   go_roundw
   case rel=>exact ⟨k+1,by omega,by go_num,by rw[zjB hlt];exact hown',Below.trans hB hB'⟩
   case measure=>simp[intOf];omega
  ·have hk':l.take k=l:=List.take_of_length_le (by omega)
   rw[hk'] at hown;clear hk';go_wp2_with fail
   go_ret2
   exact ⟨_,rfl,hown,hB⟩
theorem zmE (v:Value) (l:List Int) (w:World) (h:Is w v l) (hn:zaA l=true) (hl:l.length≤2000000):Calls Tryz.prog 84 #[v] w (ziW w l):=by
 go_enter Tryz.func84,Tryz.ntmps84
 go_wp2_with (go_at_call 127;refine (zoF _ _ _ h hn hl).mono ?_;rintro e w' ⟨v',rfl,ho,hb⟩)
 go_ret2
 exact ⟨_,rfl,ho,hb⟩
open Go.RowKit Go.Mv Go.Shelf
def zcd:Nat→Nat→List UInt8→Int×Nat×List UInt8
 | 0,_,_=>(11,0,[])
 | _+1,_,[]=>(10,0,[])
 | f+1,n,b::l=>if 128≤b.toNat then zcd f (n*128+b.toNat % 128) l else if n*128+b.toNat % 128≤1073741824 then (0,n*128+b.toNat % 128,l) else (11,0,[])
def zbe (l:List UInt8):Int×Nat×List UInt8:=if l.head?=some 128 then (11,0,[]) else zcd 5 0 l
def zpB (w:World) (r:Int×Nat×List UInt8) (e:Ending) (w':World):Prop :=
 ∃ v,e=.returned (.tuple #[.int .i64 r.2.1,v,.int .i64 r.1])∧w'.ownsRow w.heap.size 5 1 v r.2.2.length (r.2.2.map bv)∧Ext w w'
theorem Bs.at_ {w:World} {A:Option Addr} {m c:Nat} {l:List UInt8} (h:Bs w (.slice A m c) l) (hn:0<l.length):m=l.length∧∃ b off,A=some ⟨b,off,none⟩∧∀ (k:Nat) (hk:k<l.length),w.cell? ⟨b,off+k,none⟩=some (.int .u8 (l[k].toNat:Int)):=by
 obtain ⟨rfl,b,off,rfl,hc⟩:=SlR.at_ h hn
 exact ⟨rfl,b,off,rfl,fun k hk=>hc k _ (by simp[List.getElem?_eq_getElem hk,bv])⟩
def TkR (bs:List UInt8) (A:Option Addr) (c:Nat) (w:World) (a:Act) (w':World):Prop :=
 ∃ (i n:Nat) (u6 u7 u8 u9 u10 u11 u12 u13 u14 u15 u16 u17 u18 u19 u20 u21 u22 u23 u24 u25 u26 u27 u28 u29 u30 u31 u32 u33 u34 u35 u36 u37 u38 u39 u40 u41 u42 u43 u44 u45 u46 u47 u48:Value),(i≤5∧i≤bs.length∧n<128^i∧Hid (zbe bs=zcd (5-i) n (bs.drop i))∧w=w')∧a=⟨#[.slice A bs.length c,undef,.int .i64 n,.slice none 0 0,.int .i64 0,.int .i64 i,u6,u7,u8,u9,u10,u11,u12,u13,u14,u15,u16,u17,u18,u19,u20,u21,u22,u23,u24,u25,u26,u27,u28,u29,u30,u31,u32,u33,u34,u35,u36,u37,u38,u39,u40,u41,u42,u43,u44,u45,u46,u47,u48],[]⟩
set_option maxRecDepth 100000 in
theorem zmG (v:Value) (bs:List UInt8) (w:World) (hBs:Bs w v bs) (hl:bs.length≤140737488355328):Calls Tryz.prog 139 #[v] w (zpB w (zbe bs)):=by
 obtain ⟨A,c,rfl,h1,h2⟩:=SlR.open_ hBs
 refine (callsIn_wd (ro:=none) (n:=9)).1 ?_
 refine callsIn_of_wp Tryz.func139 rfl trivial ?_ rfl
 simp only[Tryz.ntmps139,List.size_toArray,List.length_cons,List.length_nil,Nat.reduceAdd,Nat.reduceSub,Array.replicate_succ,Array.replicate_zero,List.push_toArray,List.append_toArray,List.nil_append,List.cons_append]
 gi_wp2
 refine zbq 0 (TkR bs A c w) (fun a _=>5-(intOf (a.tmps.getD 5 undef)).toNat) rfl (fun l' h=>by cases l' <;> first | exact absurd rfl h | rfl) ?_ ?_
 ·intro hrest
  have Hrest:=zhd hrest;clear hrest
  by_cases h0:bs.length=0
  ·have hz:¬ (0<bs.length):=by omega
   have hb:bs=[]:=List.eq_nil_of_length_eq_zero h0
   subst hb
   have HTK:Hid (zbe []=zcd (5-0) 0 ([].drop 0)):=rfl
   gi_wp2
   refine wpIn_label ?_
   gi_step
   gi_step
   exact Hrest.out _ _ ⟨0,0,_,_,_,_,_,_,_,_,_,_,_,_,_,_,_,_,_,_,_,_,_,_,_,_,_,_,_,_,_,_,_,_,_,_,_,_,_,_,_,_,_,_,_,⟨by omega,by simp,by decide,HTK,rfl⟩,rfl⟩
  ·obtain ⟨_,b,off,rfl,hc⟩:=Bs.at_ hBs (by omega)
   have hc0:w.cell? ⟨b,off,none⟩=some (.int .u8 (bs[0].toNat:Int)):=hc 0 (by omega)
   by_cases h128:bs[0].toNat=128
   ·have e:((bs[0].toNat:Int)==128)=true:=by simp;omega
    have ht:zbe bs=(11,0,[]):=by
     have:bs[0]=128:=by apply UInt8.toNat_inj.1;simpa using h128
     cases bs with
     | nil=>simp at h0
     | cons x l=>simp at this;simp[zbe,this]
    have Ht:=zhd ht;clear ht hc
    gi_wp2
    refine zas ?_
    go_ret3
    exact ⟨_,by rw[Ht.out];rfl,by rw[Ht.out];exact World.ownsRow_nil _ _ _ _,Ext.refl _⟩
   ·have e:((bs[0].toNat:Int)==128)=false:=by simp;omega
    have ht:zbe bs=zcd (5-0) 0 (bs.drop 0):=by
     have:bs[0]≠128:=fun e=>h128 (by rw[e];rfl)
     cases bs with
     | nil=>simp at h0
     | cons x l=>simp at this;simp[zbe,this]
    have HTK:=zhd ht;clear ht hc
    gi_wp2
    refine wpIn_label ?_
    gi_step
    gi_step
    exact Hrest.out _ _ ⟨0,0,_,_,_,_,_,_,_,_,_,_,_,_,_,_,_,_,_,_,_,_,_,_,_,_,_,_,_,_,_,_,_,_,_,_,_,_,_,_,_,_,_,_,_,⟨by omega,by omega,by decide,HTK,rfl⟩,rfl⟩
 ·intro a w' hR
  obtain ⟨i,n,u6,u7,u8,u9,u10,u11,u12,u13,u14,u15,u16,u17,u18,u19,u20,u21,u22,u23,u24,u25,u26,u27,u28,u29,u30,u31,u32,u33,u34,u35,u36,u37,u38,u39,u40,u41,u42,u43,u44,u45,u46,u47,u48,⟨hi5,hil,hn,HT,rfl⟩,rfl⟩:=hR
  by_cases h5:i=5
  ·subst h5
   gi_wp2
   refine zas ?_
   go_ret3
   have ht:zbe bs=(11,0,[]):=HT.out
   exact ⟨_,by rw[ht];rfl,by rw[ht];exact World.ownsRow_nil _ _ _ _,Ext.refl _⟩
  have e1:((i:Int)==5)=false:=by simp;omega
  have hi4:i≤4:=by omega
  have hf:5-i=(4-i)+1:=by omega
  have hT:=HT.out;rw[hf] at hT
  by_cases hlen:i=bs.length
  ·have e2:((i:Int)==(bs.length:Int))=true:=by simp;omega
   have ht:zbe bs=(10,0,[]):=by
    rw[hT,List.drop_of_length_le (by omega),zcd]
   have Ht:=zhd ht;clear ht hT hf hlen
   gi_wp2
   refine zas ?_
   go_ret3
   exact ⟨_,by rw[Ht.out];rfl,by rw[Ht.out];exact World.ownsRow_nil _ _ _ _,Ext.refl _⟩
  obtain ⟨_,b,off,rfl,hc⟩:=Bs.at_ hBs (by omega)
  have hlt:i<bs.length:=by omega
  have hci:=hc i hlt
  have e2:((i:Int)==(bs.length:Int))=false:=by simp;omega
  rw[List.drop_eq_getElem_cons hlt,zcd] at hT
  have hnb:n<268435456:=Nat.lt_of_lt_of_le hn (Nat.le_trans (Nat.pow_le_pow_right (by decide) hi4) (by decide))
  have hq:=bs[i].toNat_lt
  generalize bs[i].toNat=q at *
  have ha:bits .and .u8 (q:Int) 127=(q:Int) % 128:=bits_mask .u8 8 (by decide) wraps_u8 7 (by decide) _ (by omega) (by omega)
  have ho:bits .or .i64 ((n:Int)*128) ((q:Int) % 128)=(n:Int)*128+(q:Int) % 128:=bits_join .i64 62 (by decide) zet 7 _ _ (by omega) (by omega) (by omega) (by omega) (by omega) (by omega)
  have HT2:=zhd hT
  have hn':n*128+q % 128<128^(i+1):=by rw[Nat.pow_succ];omega
  have Hn':=zhd hn';clear hT hf hc hn' hn HT
  by_cases hb:128≤q
  ·have hT3:=HT2.out
   rw[if_pos hb] at hT3;have HT3:=zhd hT3;clear hT3
   gi_wp2
   refine wpIn_goto ?_
   try simp only[Exit.then]
   refine zah (by simp) ⟨?_,by simp[intOf];omega⟩
   have ec:((n:Int)*128+(q:Int) % 128)=((n*128+q % 128:Nat):Int):=by simp
   rw[ec]
   exact ⟨i+1,n*128+q % 128,_,_,_,_,_,_,_,_,_,_,_,_,_,_,_,_,_,_,_,_,_,_,_,_,_,_,_,_,_,_,_,_,_,_,_,_,_,_,_,_,_,_,_,⟨by omega,by omega,Hn'.out,by show _=_;rw[HT3.out,show 5-(i+1)=4-i from by omega],rfl⟩,rfl⟩
  ·have hIs:=SlR.of_own (zbj w [.int .i64 ((n:Int)*128+(q:Int) % 128)] 3 1 rfl (by simp[maxLen]) (Nat.le_refl _))
   have hIs':Is (w.alloc (.cells #[.int .i64 ((n:Int)*128+(q:Int) % 128)] 3)) (.slice (some ⟨w.heap.size,0,none⟩) 1 1) [(n:Int)*128+(q:Int) % 128]:=hIs
   clear hIs
   gi_wp2_with (refine ⟨trivial,?_⟩;gi_at_call 161;refine (callsIn_wd.2 (zib _ _ _ hIs')).mono ?_;rintro e w' ⟨rfl,rfl⟩)
   ·refine zas ?_
    go_ret3
    have hbad:(!zaA [(n:Int)*128+(q:Int) % 128])=true:=by assumption
    have ht:=HT2.out
    rw[if_neg hb,if_neg (by simp[zaA,zaJ] at hbad;omega)] at ht
    exact ⟨_,by rw[ht];rfl,by rw[ht];exact World.ownsRow_nil _ _ _ _,Ext.alloc (Ext.refl _) _⟩
   all_goals
    have hgood:(!zaA [(n:Int)*128+(q:Int) % 128])=false:=by assumption
    have ht:=HT2.out
    rw[if_neg hb,if_pos (by simp[zaA,zaJ] at hgood;omega)] at ht
    have Ht:=zhd ht;clear ht hgood HT2
   ·refine ⟨trivial,(callsIn_wd.2 (zgg _ (bs.drop (i+1)) _ (Bs.cut0 (by omega) rfl (by omega)) (by simp;omega))).mono ?_⟩
    rintro e w1 ⟨v',rfl,ho,hE⟩
    gi_wp2
    refine zas ?_
    go_ret3
    exact ⟨v',by rw[Ht.out];simp,by rw[Ht.out];exact zaj ho (by simp),Ext.trans (Ext.alloc (Ext.refl _) _) hE⟩
   ·refine ⟨trivial,(callsIn_wd.2 (zgg _ (bs.drop (i+1)) _ (Bs.cut (hBs.ext (Ext.alloc (Ext.refl _) _)) (i+1) (by omega) rfl) (by simp;omega))).mono ?_⟩
    rintro e w1 ⟨v',rfl,ho,hE⟩
    gi_wp2
    refine zas ?_
    go_ret3
    exact ⟨v',by rw[Ht.out];simp,by rw[Ht.out];exact zaj ho (by simp),Ext.trans (Ext.alloc (Ext.refl _) _) hE⟩
def zad:Nat→List Int→List UInt8→Int×List Int×List UInt8
 | 0,acc,bs=>(0,acc,bs)
 | k+1,acc,bs=>if (zbe bs).1=0 then zad k (acc++[((zbe bs).2.1:Int)]) (zbe bs).2.2 else ((zbe bs).1,[],[])
def zra (w:World) (r:Int×List Int×List UInt8) (e:Ending) (w':World):Prop :=
 ∃ vl vr,e=.returned (.tuple #[vl,vr,.int .i64 r.1])∧w'.ownsRow w.heap.size 3 1 vl r.2.1.length (r.2.1.map iv)∧w'.ownsRow w.heap.size 5 1 vr r.2.2.length (r.2.2.map bv)∧Ext w w'
theorem zoS (f n:Nat) (l:List UInt8):(zcd f n l).2.2.length≤l.length:=by
 induction f generalizing n l with
 | zero=>simp[zcd]
 | succ f ih =>
  cases l with
  | nil=>simp[zcd]
  | cons b l =>
   simp only[zcd]
   split
   ·have:=ih (n*128+b.toNat % 128) l;simp;omega
   ·split <;> simp
theorem zkZ (l:List UInt8):(zbe l).2.2.length≤l.length:=by
 unfold zbe;split
 ·simp
 ·exact zoS _ _ _
theorem zhu:(Tryz.prog.info? 3).map (fun i=>(i.zero,i.size,i.bytes))=some (some (.int .i64 0),1,8):=by kernel_rfl
set_option maxRecDepth 100000 in
theorem zdc (v:Value) (bs:List UInt8) (many:Nat) (hm:many≤2000000) (w:World) (hBs:Bs w v bs) (hl:bs.length≤140737488355328):Calls Tryz.prog 103 #[v,.int .i64 many] w (zra w (zad many [] bs)):=by
 obtain ⟨i0,hi,hz0,hz1,hz2⟩:=info_parts zhu
 go_enter Tryz.func103,Tryz.ntmps103
 go_wp2_with (go_at_call 138;refine (zgg _ _ _ hBs hl).mono ?_;rintro e w1 ⟨v1,rfl,ho1,hE1⟩)
 go_loopw [4,5,6,11] (fun vl vr er i wr=>∃ (k:Nat) (acc:List Int) (rest:List UInt8),k≤many∧i=.int .i64 k∧er=.int .i64 0∧acc.length≤k∧rest.length≤bs.length∧Hid (zad many [] bs=zad (many-k) acc rest) ∧
   wr.ownsRow w.heap.size 3 1 vl acc.length (acc.map iv)∧wr.ownsRow w.heap.size 5 1 vr rest.length (rest.map bv)∧Ext w wr) (fun _ _ _ i _=>many-(intOf i).toNat)
 case atStart=>exact ⟨0,[],bs,Nat.zero_le _,rfl,rfl,by simp,Nat.le_refl _,rfl,World.ownsRow_nil _ _ _ _,ho1,hE1⟩
 case round =>
    
  obtain ⟨k,acc,rest,hk,rfl,rfl,hacc,hrest,HT,hown,hbr,hE⟩:=hrel
  by_cases hlt:k<many
  ·have hT:=HT.out
   rw[show many-k=(many-k-1)+1 from by omega,zad] at hT
   have hrr:=zkZ rest;have key:=zmG _ rest wr (SlR.of_own hbr) (by omega)
   rcases hts:zbe rest with ⟨er,n,r2⟩
   rw[hts] at hT hrr key
   simp only at hT hrr
   by_cases her:er=0
   ·subst her
    simp only[if_true] at hT;have HT2:=zhd hT;have Key:=zhd key;clear hT HT key hts
    go_wp2_with (first
     | (go_at_call 139;refine Key.out.mono ?_;rintro e w2 ⟨v2,rfl,hb2,hE2⟩)
     | (at_builtin;refine zbJ _ rfl (.tmp 22) (.tmp 24) 96 rfl w.heap.size 3 i0 (.int .i64 0) 1 8 Tryz.underlying96 hi hz0 hz1 hz2 rfl (by decide) _ acc.length (acc.map iv) rfl (zag hown (Ext.alloc hE2 _)) (.slice (some ⟨w2.heap.size,0,none⟩) 1 1) 1 [.int .i64 n] rfl (SlR.of_own (zbj w2 [.int .i64 n] 3 1 rfl (by simp[maxLen]) (Nat.le_refl _))) (by simp[Value.oneCell']) (by unfold maxLen;omega) (by omega) (by have:=hE.size;have:=hE2.size;simp;omega) ?_;intro v' w3 hown' hgrow))
    go_roundw
    case rel =>
     have hE3:Ext w w3:=Ext.grownOwn (Ext.alloc (Ext.trans hE hE2) _) (zag hown (Ext.alloc hE2 _)) hgrow
     refine ⟨k+1,acc++[(n:Int)],r2,by omega,by go_num,rfl,by simp;omega,by omega,?_,by simpa [iv] using hown',?_,hE3⟩
     ·show _=_;rw[HT2.out,show many-(k+1)=many-k-1 from by omega]
     ·have hb3:(w2.alloc (.cells #[.int .i64 n] 3)).ownsRow w.heap.size 5 1 v2 r2.length (r2.map bv):=zag (zaj hb2 hE.size) (Ext.alloc (Ext.refl _) _)
      have ho3:(w2.alloc (.cells #[.int .i64 n] 3)).ownsRow w.heap.size 3 1 _ acc.length (acc.map iv):=zag hown (Ext.alloc hE2 _)
      exact hb3.kept hgrow (zr7 hb3 ho3 (by decide))
    case measure=>simp[intOf];omega
   ·have hne:((er:Int) != 0)=true:=by simp[her]
    rw[if_neg her] at hT;have HT2:=zhd hT;have Key:=zhd key;clear hT HT key hts
    go_wp2_with (go_at_call 139;refine Key.out.mono ?_;rintro e w2 ⟨v2,rfl,hb2,hE2⟩)
    go_ret3
    exact ⟨_,_,by rw[HT2.out];rfl,by rw[HT2.out];exact World.ownsRow_nil _ _ _ _,by rw[HT2.out];exact World.ownsRow_nil _ _ _ _,Ext.trans hE hE2⟩
  ·have hT:=HT.out
   rw[show many-k=0 from by omega,zad] at hT
   have HT2:=zhd hT;clear hT HT;go_wp2_with fail
   go_ret3
   exact ⟨_,_,by rw[HT2.out];rfl,by rw[HT2.out];exact hown,by rw[HT2.out];exact hbr,hE⟩
end Go.Proofs.YtgonhdeochgkoaaGreatDoor

namespace Go.Mv
open Go.RowKit
def zaD (p:Nat×Nat) (bs:List UInt8):Nat×Nat:=bs.foldl zhE p
theorem zjg (p:Nat×Nat) (bs:List UInt8) (b:UInt8):zaD p (bs++[b])=zhE (zaD p bs) b:=by unfold zaD;rw[List.foldl_append];rfl
theorem PtV.pt {v:Value} {p:Nat×Nat} (h:PtV v p):ptV v=p:=by
 obtain ⟨a,b,rfl,ha,hb⟩:=h
 unfold ptV;simp only[ha,hb]
theorem PtV.zero:PtV (.complex .f64 0 0) (0,0):=⟨0,0,rfl,zhK zdT (by decide) (fun h=>by cases h),zhK zdT (by decide) (fun h=>by cases h)⟩
theorem zr8 {a b:Nat} (h:((zaR a).isSome&&(zaR b).isSome)=true):PtV (.complex .f64 a b) (ptV (.complex .f64 a b)):=by
 obtain ⟨x,ha⟩:∃ x,zaR a=some x:=by cases h:zaR a <;> simp_all
 obtain ⟨y,hb⟩:∃ y,zaR b=some y:=by cases h:zaR b <;> simp_all
 have e:ptV (.complex .f64 a b)=(x,y):=by unfold ptV;simp only[ha,hb]
 rw[e];exact ⟨a,b,rfl,ha,hb⟩
theorem zvc {a b:Nat} (h:((zaR a).isSome&&(zaR b).isSome)=false):ptV (.complex .f64 a b)=(0,0):=by
 unfold ptV
 cases ha:zaR a <;> cases hb:zaR b <;> simp_all
end Go.Mv
namespace Go.Proofs.YtgonhdeochgkoaaGreatDoor
open Go.RowKit Go.Mv
open Go.RowKit Go.Mv Go.Shelf
attribute [local go_sem] Oper.semAt_some
theorem zsA {α:Type} (l:List α) (m:Nat) (h:m<l.length) (R:List α):l++R=l.take m++l[m]::(l.drop (m+1)++R):=by
 have e:=List.take_append_drop m l;rw[List.drop_eq_getElem_cons h] at e
 calc l++R=(l.take m++l[m]::l.drop (m+1))++R:=by rw[e]
  _=_:=by rw[List.append_assoc,List.cons_append]
def Hold (wo W:World):Prop:=∀ p u,wo.cell? p=some u→W.cell? p=some u
theorem Hold.kept {wo W W':World} {bz n:Nat} (h:Hold wo W) (hbz:wo.heap.size≤bz) (hk:Kept (zab (fun k o=>k≠bz∧o.isCells=true) n) W W'):Hold wo W':=by
 intro p u hp;have hlt:=World.block_lt_of_cell? wo p hp;obtain ⟨o,ho,hc⟩:=cells_of_cell (h p u hp)
 exact hk.cell (h p u hp) (fun o' ho'=>by rw[ho] at ho';cases ho';exact .inl ⟨by omega,hc⟩)
theorem zkr (wo W0:World) (vp:Value) (bss:List (List UInt8)) (hP:Parts wo vp bss) (hE:Hold wo W0) (bz B:Nat) (hbz:wo.heap.size≤bz) (hB:Boxed W0 B 180 vp) :
  Seq Tryz.prog 255 #[.pointer (some ⟨B,0,none⟩)]
   (fun (d:UInt8) av _=>av = #[bv d]) (fun k o=>k≠bz∧o.isCells=true) (fun _ _=>False) bss.flatten W0:=by
 intro l J Jx hJ hJx hY h0;obtain ⟨vs,hvl,hsl,hvs⟩:=hP;obtain ⟨A,c,rfl,h1,h2⟩:=SlR.open_ hsl
 have hv1:vs.length≤bss.length:=by omega
 have hv2:bss.length≤vs.length:=by omega
 have hc1:=hB.cell;clear hvl hB
 refine (callsIn_wd (ro:=none) (n:=9)).1 ?_
 refine callsIn_of_wp Tryz.func255 rfl trivial ?_ rfl
 simp only[Tryz.ntmps255,List.size_toArray,List.length_cons,List.length_nil,Nat.reduceAdd,Nat.reduceSub,Array.replicate_succ,Array.replicate_zero,List.push_toArray,List.append_toArray,List.nil_append,List.cons_append]
 gi_wp2
 gi_loopw [9] (fun j W=>∃ k:Nat,k≤bss.length∧j=.int .i64 k∧Hid (J (bss.take k).flatten W)∧Hid (Hold wo W)∧W0.heap.size≤W.heap.size) (fun j _=>bss.length-(intOf j).toNat)
 case atStart=>exact ⟨0,Nat.zero_le _,rfl,h0,hE,Nat.le_refl _⟩
 case round =>
  obtain ⟨k,hk,rfl,HJ,HH,hsz⟩:=hrel
  by_cases hlt:k<bss.length
  ·obtain ⟨_,ba,off,rfl,hc⟩:=SlR.at_ hsl (by omega)
   have hkv:k<vs.length:=by omega
   have hck:=hc k vs[k] (List.getElem?_eq_getElem hkv);have hbk:=hvs k hkv hlt;obtain ⟨A',c',hvk,h3,h4⟩:=SlR.open_ hbk;rw[hvk] at hck hbk;have hck':=HH.out _ _ hck;have hft:=ziu bss k hlt
   have hfa:bss.flatten=(bss.take k).flatten++(bss[k]++(bss.drop (k+1)).flatten):=by
    conv=>lhs;rw[←List.take_append_drop (k+1) bss,List.flatten_append,hft,List.append_assoc]
   have Hft:=zhd hft;have Hfa:=zhd hfa
   generalize bss[k]=bk at *
   clear hc hvk hft hfa hck
   gi_wp2
   gi_loopw [15] (fun j W=>∃ m:Nat,m≤bk.length∧j=.int .i64 m∧Hid (J ((bss.take k).flatten++bk.take m) W)∧Hid (Hold wo W)∧W0.heap.size≤W.heap.size) (fun j _=>bk.length-(intOf j).toNat)
   case atStart=>exact ⟨0,Nat.zero_le _,rfl,by show J _ _;rw[List.take_zero,List.append_nil];exact HJ.out,HH,hsz⟩
   case round =>
    obtain ⟨m,hm,rfl,HQ,HH2,hsz2⟩:=hrel
    by_cases hlt2:m<bk.length
    ·obtain ⟨_,b2,off2,e2,hc2⟩:=Bs.at_ hbk (by omega)
     cases e2
     have hcm:=HH2.out _ _ (hc2 m hlt2)
     have htk:bk.take (m+1)=bk.take m++[bk[m]]:=List.take_succ_eq_append_getElem hlt2
     have hfin:bss.flatten=((bss.take k).flatten++bk.take m)++bk[m]::(bk.drop (m+1)++(bss.drop (k+1)).flatten):=by
      rw[Hfa.out,zsA bk m hlt2,List.append_assoc]
     have hy:=hY _ _ _ hfin _ #[bv bk[m]] HQ.out hsz2 rfl;have Htk:=zhd htk;have Hfin:=zhd hfin
     generalize bk[m]=bm at *
     have key:∀ (o:Oper) (a:Act) (next:Act→World→Prop) (Q:Exit→Act→World→Prop) (W:World),
       Mv.YieldsAt Tryz.prog l #[bv bm] W (fun e W'=>Kept (zab (fun k o=>k≠bz∧o.isCells=true) W0.heap.size) W W'∧((e=.returned (.bool true)∧J ((bss.take k).flatten++bk.take m++[bm]) W')∨(e=.returned (.bool false)∧Jx ((bss.take k).flatten++bk.take m++[bm]) W')))→Hold wo W→W0.heap.size≤W.heap.size →
       (∀ W':World,J ((bss.take k).flatten++bk.take (m+1)) W'→Hold wo W'→W0.heap.size≤W'.heap.size→next (a.put o.dst (.bool true)) W') →
       (∀ W':World,Jx ((bss.take k).flatten++bk.take (m+1)) W'→next (a.put o.dst (.bool false)) W') →
       o.uponIn (Wd none) 9 Tryz.prog a next Q ((Instr.yield l #[bv bm]).run Tryz.prog W):=by
      intro o a next Q W hy hho hs h1 h2
      refine zbf hy ?_
      rintro e W' ⟨hk',⟨rfl,hj⟩ | ⟨rfl,hj⟩⟩
      ·refine ⟨true,rfl,h1 W' ?_ (hho.kept hbz hk') (Nat.le_trans hs hk'.size)⟩
       rw[Htk.out,←List.append_assoc];exact hj
      ·refine ⟨false,rfl,h2 W' ?_⟩
       rw[Htk.out,←List.append_assoc];exact hj
     have Hkey:=zhd key;have Hy:=zhd hy
     have hpre:(bss.take k).flatten++bk.take (m+1) <+: bss.flatten:=by
      rw[Hfin.out,Htk.out];exact ⟨bk.drop (m+1)++(bss.drop (k+1)).flatten,by simp⟩
     have Hpre:=zhd hpre;clear hc2 htk hfin key hy hY hpre
     gi_wp2
     refine Hkey.out _ _ _ _ _ Hy.out HH2.out hsz2 ?_ ?_
     ·intro W' hj hho hs
      have Hj:=zhd hj;have Hh:=zhd hho;clear hj hho hcm hck' hc1
      gi_wp2
      exact ⟨⟨m+1,by omega,by go_num,Hj,Hh,hs⟩,by simp[intOf];omega⟩
     ·intro W' hj
      have Hj:=zhd hj;clear hj hcm hck' hc1
      gi_wp2
      refine bodyPost_ret (results_none rfl _ _ _) rfl ?_
      exact ⟨⟨_,rfl⟩,.inr ⟨_,Hpre.out,Hj.out⟩⟩
    ·have hq:=HQ.out
     rw[List.take_of_length_le (show bk.length≤m from by omega),←Hft.out] at hq
     have HQ':=zhd hq;clear hq
     gi_wp2
     exact ⟨⟨k+1,by omega,by go_num,HQ',HH2,hsz2⟩,by simp[intOf];omega⟩
  ·have hj:=HJ.out
   rw[List.take_of_length_le (show bss.length≤k from by omega)] at hj
   have HJ':=zhd hj;clear hj
   gi_wp2
   refine bodyPost_end (results_none rfl _ _ _) rfl ?_
   exact ⟨⟨_,rfl⟩,.inl HJ'.out⟩
attribute [local go_sem] Oper.semAt_some
theorem ze3 (P:Program) (w:World) (a:Addr) (m:Mode) (x y:Nat):(store a (.complex .f64 x y) m).run P w=stored P w a (.complex .f64 x y) m:=run_store P w a _ m rfl
attribute [local go_sem] ze3
theorem zkG (A:Option Addr) (n c:Nat) (w:World):Calls Tryz.prog 251 #[.slice A n c] w fun e w'=>e=.returned (.func (.func 255) #[] #[.pointer (some ⟨w.heap.size,0,none⟩)])∧w.alloc (.cells #[.slice A n c] 180)=w':=by
 go_enter Tryz.func251,Tryz.ntmps251
 go_wp2
 go_ret
 exact ⟨rfl,rfl⟩
def zkj (v:Value) (bs:List UInt8) (w:World) (e:Ending) (w':World):Prop:=∃ v',e=.returned v'∧PtV v' (zaD (ptV v) bs)∧Ext w w'
def ChI (w:World) (p0:Nat×Nat) (pre:List UInt8) (X:World):Prop:=∃ v,Boxed X w.heap.size 201 v∧PtV v (zaD p0 pre)∧Below w.heap.size w X
theorem zh9 (a b:Nat) (vp:Value) (bss:List (List UInt8)) (w:World) (h:Parts w vp bss) :
  Calls Tryz.prog 247 #[.complex .f64 a b,vp] w (zkj (.complex .f64 a b) bss.flatten w):=by
 obtain ⟨A,c,rfl,h1,h2⟩:∃ A c,vp=.slice A bss.length c∧bss.length≤c∧c≤9223372036854775807:=by obtain ⟨vs,_,hs,_⟩:=h;exact SlR.open_ hs
 have hG:=zhd (fun w=>zlc a b w)
 have HP:=zhd h;clear h
 cases hok:((zaR a).isSome&&(zaR b).isSome)
 ·rw[hok] at hG
  have hz:PtV (.complex .f64 0 0) (ptV (.complex .f64 a b)):=by rw[zvc hok];exact PtV.zero
  unfold zkj
  generalize ptV (.complex .f64 a b)=p0 at *
  have Hz:=zhd hz;clear hok hz
  refine (callsIn_wd (ro:=none) (n:=9)).1 ?_
  refine callsIn_of_wp_marks Tryz.func247 rfl trivial ?_ rfl
  simp only[Tryz.ntmps247,List.size_toArray,List.length_cons,List.length_nil,Nat.reduceAdd,Nat.reduceSub,Array.replicate_succ,Array.replicate_zero,List.push_toArray,List.append_toArray,List.nil_append,List.cons_append]
  gi_wp2_with (first
   | (refine ⟨trivial,?_⟩;gi_at_call 250;refine (callsIn_wd.2 (hG.out _)).mono ?_;rintro e w' ⟨rfl,rfl⟩)
   | (refine ⟨trivial,?_⟩;gi_at_call 251;refine (callsIn_wd.2 (zkG _ _ _ _)).mono ?_;rintro e w' ⟨rfl,rfl⟩))
  have q2:Boxed ((w.alloc (.cells #[.complex .f64 0 0] 201)).alloc (.cells #[.slice A bss.length c] 180)) (w.heap.size+1) 180 (.slice A bss.length c):=by
   have:=Boxed.new (w.alloc (.cells #[.complex .f64 0 0] 201)) 180 (.slice A bss.length c)
   rwa [World.size_alloc] at this
  have hE2:Ext w ((w.alloc (.cells #[.complex .f64 0 0] 201)).alloc (.cells #[.slice A bss.length c] 180)):=Ext.alloc (Ext.alloc (Ext.refl _) _) _
  have h0:ChI w p0 [] ((w.alloc (.cells #[.complex .f64 0 0] 201)).alloc (.cells #[.slice A bss.length c] 180)):=⟨_,(Boxed.new w _ _).alloc _,Hz.out,hE2⟩
  have hs2:((w.alloc (.cells #[.complex .f64 0 0] 201)).alloc (.cells #[.slice A bss.length c] 180)).heap.size=w.heap.size+2:=by simp
  generalize (w.alloc (.cells #[.complex .f64 0 0] 201)).alloc (.cells #[.slice A bss.length c] 180)=w2 at *
  refine zbO (a:=⟨_,_⟩) rfl (enters_of Tryz.func255 (by kernel_rfl) rfl)
   (fun W1 hb _=>zkr w W1 _ bss HP.out (fun p u hc=>Ext.cell (Ext.trans hE2 hb) hc) w.heap.size (w.heap.size+1) (Nat.le_refl _) (q2.kept (row:=none) (Ext.grown hb none) (by simp)))
   (fun k o h=>h.elim) (fun k o h=>h.2) (fun x av W h=>by rw[h];rfl)
   (ChI w p0) (fun _ _ _=>False) ?hI (fun _ _ _ _ h _=>h) h0
   (fun x a' _=>a'=⟨#[.complex .f64 a b,.slice A bss.length c,.pointer (some ⟨w.heap.size,0,none⟩),undef,.complex .f64 0 0,.int .u8 x.toNat,.complex .f64 a b,.bool false,.bool true,.slice A bss.length c,.func (.func 255) #[] #[.pointer (some ⟨w.heap.size+1,0,none⟩)],.int .u8 x.toNat,undef,undef,undef,undef],[]⟩)
   (fun _ _ _ _ h _=>h) ?assign ?body ?done ?stop
  case hI =>
   rintro s X Y ⟨v,hv,hr,hB⟩ hm
   refine ⟨v,hm.boxed hv ?_,hr,hm.belowOf hB ?_ (Nat.le_refl _)⟩
   ·rintro (h | h)
    ·exact h
    ·cases h.2
   ·rintro k o hk (h | h)
    ·exact h
    ·have:=h.1;omega
  case assign =>
   rintro l pre x post W av K' hx hi hsz rfl hK;simp only[bv]
   gi_wp2
   exact hK _ _ Kept.refl hi rfl
  case body =>
   rintro l pre x post a' W hx hl hr ⟨v,hv,hpt,hB⟩ hsz rfl;have HPT:=zhd hpt;obtain ⟨va,vb,rfl,_,_⟩:=hpt;have hc:=hv.cell;have hf:=hv.frozen
   gi_wp2_with (refine ⟨trivial,?_⟩;gi_at_call 252;refine (callsIn_wd.2 (zmA _ _ HPT.out _ _)).mono ?_;rintro e w' ⟨v',rfl,hv',rfl⟩;have HV:=zhd hv';obtain ⟨c1,c2,rfl,_,_⟩:=hv')
   refine ⟨Kept.refl.setCell (fun o ho hc=>?_) _,_,hv.set _,by rw[zjg];exact HV.out,hB.setCell (p:=⟨w.heap.size,0,none⟩) (Nat.le_refl _) _⟩
   rintro (h | h)
   ·exact h.1 rfl
   ·rw[hc] at h;cases h.2
  case done =>
   rintro D W hD ⟨v,hv,hpt,hB⟩ hK;have HPT:=zhd hpt;obtain ⟨va,vb,rfl,_,_⟩:=hpt;have hc:=hv.cell
   gi_wp2
   refine zbg hK _ (results_tmp rfl _ _ _) ?_
   exact ⟨_,rfl,HPT.out,zar hB (by omega) _⟩
  case stop =>
   rintro D c pre W _ _ h _
   exact h.elim
 ·rw[hok] at hG
  have hz:PtV (.complex .f64 a b) (ptV (.complex .f64 a b)):=zr8 hok
  unfold zkj
  generalize ptV (.complex .f64 a b)=p0 at *
  have Hz:=zhd hz;clear hok hz
  refine (callsIn_wd (ro:=none) (n:=9)).1 ?_
  refine callsIn_of_wp_marks Tryz.func247 rfl trivial ?_ rfl
  simp only[Tryz.ntmps247,List.size_toArray,List.length_cons,List.length_nil,Nat.reduceAdd,Nat.reduceSub,Array.replicate_succ,Array.replicate_zero,List.push_toArray,List.append_toArray,List.nil_append,List.cons_append]
  gi_wp2_with (first
   | (refine ⟨trivial,?_⟩;gi_at_call 250;refine (callsIn_wd.2 (hG.out _)).mono ?_;rintro e w' ⟨rfl,rfl⟩)
   | (refine ⟨trivial,?_⟩;gi_at_call 251;refine (callsIn_wd.2 (zkG _ _ _ _)).mono ?_;rintro e w' ⟨rfl,rfl⟩))
  have q2:Boxed ((w.alloc (.cells #[.complex .f64 a b] 201)).alloc (.cells #[.slice A bss.length c] 180)) (w.heap.size+1) 180 (.slice A bss.length c):=by
   have:=Boxed.new (w.alloc (.cells #[.complex .f64 a b] 201)) 180 (.slice A bss.length c)
   rwa [World.size_alloc] at this
  have hE2:Ext w ((w.alloc (.cells #[.complex .f64 a b] 201)).alloc (.cells #[.slice A bss.length c] 180)):=Ext.alloc (Ext.alloc (Ext.refl _) _) _
  have h0:ChI w p0 [] ((w.alloc (.cells #[.complex .f64 a b] 201)).alloc (.cells #[.slice A bss.length c] 180)):=⟨_,(Boxed.new w _ _).alloc _,Hz.out,hE2⟩
  have hs2:((w.alloc (.cells #[.complex .f64 a b] 201)).alloc (.cells #[.slice A bss.length c] 180)).heap.size=w.heap.size+2:=by simp
  generalize (w.alloc (.cells #[.complex .f64 a b] 201)).alloc (.cells #[.slice A bss.length c] 180)=w2 at *
  refine zbO (a:=⟨_,_⟩) rfl (enters_of Tryz.func255 (by kernel_rfl) rfl)
   (fun W1 hb _=>zkr w W1 _ bss HP.out (fun p u hc=>Ext.cell (Ext.trans hE2 hb) hc) w.heap.size (w.heap.size+1) (Nat.le_refl _) (q2.kept (row:=none) (Ext.grown hb none) (by simp)))
   (fun k o h=>h.elim) (fun k o h=>h.2) (fun x av W h=>by rw[h];rfl)
   (ChI w p0) (fun _ _ _=>False) ?hI (fun _ _ _ _ h _=>h) h0
   (fun x a' _=>a'=⟨#[.complex .f64 a b,.slice A bss.length c,.pointer (some ⟨w.heap.size,0,none⟩),undef,.complex .f64 0 0,.int .u8 x.toNat,.complex .f64 a b,.bool true,.bool false,.slice A bss.length c,.func (.func 255) #[] #[.pointer (some ⟨w.heap.size+1,0,none⟩)],.int .u8 x.toNat,undef,undef,undef,undef],[]⟩)
   (fun _ _ _ _ h _=>h) ?assign ?body ?done ?stop
  case hI =>
   rintro s X Y ⟨v,hv,hr,hB⟩ hm
   refine ⟨v,hm.boxed hv ?_,hr,hm.belowOf hB ?_ (Nat.le_refl _)⟩
   ·rintro (h | h)
    ·exact h
    ·cases h.2
   ·rintro k o hk (h | h)
    ·exact h
    ·have:=h.1;omega
  case assign =>
   rintro l pre x post W av K' hx hi hsz rfl hK;simp only[bv]
   gi_wp2
   exact hK _ _ Kept.refl hi rfl
  case body =>
   rintro l pre x post a' W hx hl hr ⟨v,hv,hpt,hB⟩ hsz rfl;have HPT:=zhd hpt;obtain ⟨va,vb,rfl,_,_⟩:=hpt;have hc:=hv.cell;have hf:=hv.frozen
   gi_wp2_with (refine ⟨trivial,?_⟩;gi_at_call 252;refine (callsIn_wd.2 (zmA _ _ HPT.out _ _)).mono ?_;rintro e w' ⟨v',rfl,hv',rfl⟩;have HV:=zhd hv';obtain ⟨c1,c2,rfl,_,_⟩:=hv')
   refine ⟨Kept.refl.setCell (fun o ho hc=>?_) _,_,hv.set _,by rw[zjg];exact HV.out,hB.setCell (p:=⟨w.heap.size,0,none⟩) (Nat.le_refl _) _⟩
   rintro (h | h)
   ·exact h.1 rfl
   ·rw[hc] at h;cases h.2
  case done =>
   rintro D W hD ⟨v,hv,hpt,hB⟩ hK;have HPT:=zhd hpt;obtain ⟨va,vb,rfl,_,_⟩:=hpt;have hc:=hv.cell
   gi_wp2
   refine zbg hK _ (results_tmp rfl _ _ _) ?_
   exact ⟨_,rfl,HPT.out,zar hB (by omega) _⟩
  case stop =>
   rintro D c pre W _ _ h _
   exact h.elim
def zcM (first:Int):Int×List UInt8:=if zaJ first=true∧first≠0 then (0,2::zal [first]) else (2,[])
theorem zrK (first:Int):(zcM first).2.length≤6:=by
 unfold zcM
 split
 ·have:=zcx [first];simp at *;omega
 ·simp
theorem zvW {W:World} {va vb:Value} {a b:List UInt8} (ha:Bs W va a) (hb:Bs W vb b):Parts (W.alloc (.cells #[va,vb] 38)) (.slice (some ⟨W.heap.size,0,none⟩) 2 2) [a,b]:=by
 refine ⟨[va,vb],rfl,SlR.of_own (zbj W [va,vb] 38 2 rfl (by simp[maxLen]) (Nat.le_refl _)),fun i hi hi'=>?_⟩
 match i,hi with
 | 0,_=>exact Bs.ext ha (Ext.alloc (Ext.refl _) _)
 | 1,_=>exact Bs.ext hb (Ext.alloc (Ext.refl _) _)
theorem znk {W:World} {va:Value} {a:List UInt8} (ha:Bs W va a):Parts (W.alloc (.cells #[va] 38)) (.slice (some ⟨W.heap.size,0,none⟩) 1 1) [a]:=by
 refine ⟨[va],rfl,SlR.of_own (zbj W [va] 38 1 rfl (by simp[maxLen]) (Nat.le_refl _)),fun i hi hi'=>?_⟩
 match i,hi with
 | 0,_=>exact Bs.ext ha (Ext.alloc (Ext.refl _) _)
end Go.Proofs.YtgonhdeochgkoaaGreatDoor
