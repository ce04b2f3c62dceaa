/- Merged -/
import Derived.Test.YtgonhdeochgkoaaGreatDoorZx3
import Derived.Deep.RegionHeld3
import Derived.Deep.QuietTactic
import Derived.BigQuiet
set_option linter.all false
set_option maxHeartbeats 8000000
set_option maxRecDepth 100000
open Go.World renaming ownsRow_nil→P0
open List renaming drop_eq_getElem_cons→P1,take_succ_eq_append_getElem→P2,take_of_length_le→P3,drop_of_length_le→P4,length_drop→P5,eq_nil_of_length_eq_zero→P6,getElem?_eq_getElem→P7,push_toArray→P8,getElem_mem→P9,cons_append→Pa,take→Pb
open Nat renaming zero_le→Pc,pow_le_pow_right→Pd,lt_of_lt_of_le→Pe,reduceAdd→Pf,pow_succ→Pg,le_trans→Ph
open UInt8 renaming ofNat→Pi,toNat_inj→Pj
open Go.RowKit.Below renaming refl→Pk
open Go.Mv.SlR renaming len_le→Pl,at_→Pm,ext→Pn
open Bool renaming eq_iff_iff→Po
namespace Go.Proofs.YtgonhdeochgkoaaGreatDoor
open Go.RowKit Go.Mv
def zaE (n:Int):Bool:=decide (0≤n∧n≤1073741824)
theorem zlL (n:Int) (w:World) :
  Calls Tryz.prog 113 #[.int .i64 n] w fun e w'=>e=.returned (.bool (zaE n))∧w=w':=by
 by_cases h0:0≤n
 ·by_cases h1:n≤1073741824
  ·go_enter Tryz.func113,Tryz.ntmps113
   go_wp2
   go_ret
   exact ⟨by simp[zaE,h0,h1],rfl⟩
  ·go_enter Tryz.func113,Tryz.ntmps113
   go_wp2
   go_ret
   exact ⟨by simp[zaE,h0,h1],rfl⟩
 ·go_enter Tryz.func113,Tryz.ntmps113
  go_wp2
  go_ret
  exact ⟨by simp[zaE];omega,rfl⟩
theorem zhl (n:Int) (w:World) :
  Calls Tryz.prog 170 #[.int .i64 n] w fun e w'=>e=.returned (.bool (zaE n))∧w=w':=by
 by_cases h0:0≤n
 ·by_cases h1:n≤1073741824
  ·go_enter Tryz.func170,Tryz.ntmps170
   go_wp2
   go_ret
   exact ⟨by simp[zaE,h0,h1],rfl⟩
  ·go_enter Tryz.func170,Tryz.ntmps170
   go_wp2
   go_ret
   exact ⟨by simp[zaE,h0,h1],rfl⟩
 ·go_enter Tryz.func170,Tryz.ntmps170
  go_wp2
  go_ret
  exact ⟨by simp[zaE];omega,rfl⟩
theorem ret_bool {a b:Bool} (h:a=b):Ending.returned (.bool a)=.returned (.bool b):=by rw[h]
structure Ent where
 t:Int
 k:Int
 v:Int
deriving DecidableEq
def Ent.val (e:Ent):Value:=.agg #[.int .i64 e.t,.int .i64 e.k,.int .i64 e.v]
def Ent.cells (e:Ent):List Value:=[.int .i64 e.t,.int .i64 e.k,.int .i64 e.v]
def Ent.okP (t k v:Int):Prop:=1≤t∧t≤1073741824∧0≤k∧k<5∧0≤v∧v≤1073741824∧(k=1∨v=0)
instance (t k v:Int):Decidable (Ent.okP t k v):=by unfold Ent.okP;infer_instance
def okB (t k v:Int):Bool:=decide (Ent.okP t k v)
def Ent.ok (e:Ent):Bool:=okB e.t e.k e.v
theorem okB_true {t k v:Int}:okB t k v=true↔Ent.okP t k v:=by simp[okB]
theorem numB_true {n:Int}:zaE n=true↔(0≤n∧n≤1073741824):=by simp[zaE]
theorem zm0 (t k v:Int) (w:World) :
  Calls Tryz.prog 68 #[.agg #[.int .i64 t,.int .i64 k,.int .i64 v]] w fun e w'=>e=.returned (.bool (okB t k v))∧Below w.heap.size w w':=by
 go_enter Tryz.func68,Tryz.ntmps68
 go_wp2_with (go_at_call 113;refine (zlL _ _).mono ?_;rintro e w' ⟨rfl,rfl⟩)
 all_goals go_ret
 all_goals refine ⟨ret_bool ?_,(Pk _ _).alloc (xN _) _⟩
 all_goals (try simp only[numB_true] at *)
 all_goals (rw[Po,okB_true];unfold Ent.okP;simp;try omega)
def deedsMap:Array MapEntry:=#[{ key:=.int .i64 0,val:=.func (.func 205) #[] #[],born:=0 },{ key:=.int .i64 1,val:=.func (.func 206) #[] #[],born:=1 },
 { key:=.int .i64 2,val:=.func (.func 207) #[] #[],born:=2 },{ key:=.int .i64 3,val:=.func (.func 208) #[] #[],born:=3 },
 { key:=.int .i64 4,val:=.func (.func 209) #[] #[],born:=4 }]
theorem zmx (w:World) (es:Array MapEntry) (c:Nat) (n:Int) (v:Value) (hn:Instr.findNow (.int .i64) (.int .i64 n) es.toList 0=some none) :
  (Instr.mapUpdate 218 (.map (some w.heap.size)) (.int .i64 n) v).run Tryz.prog (w.alloc (.map es c))=.ok () (w.alloc (.map (es.push { key:=.int .i64 n,val:=v,born:=c }) (c+1))) :=
 zdT w .i64 Tryz.underlying218 Tryz.underlying3 es c n v hn
set_option maxRecDepth 100000 in
theorem zqN (w:World) :
  Calls Tryz.prog 172 #[] w fun e w'=>e=.returned (.map (some w.heap.size))∧w.alloc (.map deedsMap 5)=w':=by
 have KY:=@run_makeMap Tryz.prog;have h0:=zmx w #[] 0 0 (.func (.func 205) #[] #[]) rfl;have h1:=zmx w #[{ key:=.int .i64 0,val:=.func (.func 205) #[] #[],born:=0 }] 1 1 (.func (.func 206) #[] #[]) rfl;have h2:=zmx w #[{ key:=.int .i64 0,val:=.func (.func 205) #[] #[],born:=0 },{ key:=.int .i64 1,val:=.func (.func 206) #[] #[],born:=1 }] 2 2 (.func (.func 207) #[] #[]) rfl;have h3:=zmx w #[{ key:=.int .i64 0,val:=.func (.func 205) #[] #[],born:=0 },{ key:=.int .i64 1,val:=.func (.func 206) #[] #[],born:=1 },{ key:=.int .i64 2,val:=.func (.func 207) #[] #[],born:=2 }] 3 3 (.func (.func 208) #[] #[]) rfl;have h4:=zmx w #[{ key:=.int .i64 0,val:=.func (.func 205) #[] #[],born:=0 },{ key:=.int .i64 1,val:=.func (.func 206) #[] #[],born:=1 },{ key:=.int .i64 2,val:=.func (.func 207) #[] #[],born:=2 },{ key:=.int .i64 3,val:=.func (.func 208) #[] #[],born:=3 }] 4 4 (.func (.func 209) #[] #[]) rfl;simp only[P8,xI,Pa,Pf] at h0 h1 h2 h3 h4
 go_enter Tryz.func172,Tryz.ntmps172
 go_wp2
 go_ret
 exact ⟨rfl,rfl⟩
theorem zlH (k:Int):∃ f,Instr.findNow (.int .i64) (.int .i64 k) deedsMap.toList 0=some f∧f.isSome=decide (0≤k∧k<5):=by
 by_cases h0:k=0
 ·subst h0;exact ⟨_,rfl,rfl⟩
 by_cases h1:k=1
 ·subst h1;exact ⟨_,rfl,rfl⟩
 by_cases h2:k=2
 ·subst h2;exact ⟨_,rfl,rfl⟩
 by_cases h3:k=3
 ·subst h3;exact ⟨_,rfl,rfl⟩
 by_cases h4:k=4
 ·subst h4;exact ⟨_,rfl,rfl⟩
 refine ⟨none,?_,?_⟩
 ·have e0:(k==0)=false:=by simp[h0]
  have e1:(k==1)=false:=by simp[h1]
  have e2:(k==2)=false:=by simp[h2]
  have e3:(k==3)=false:=by simp[h3]
  have e4:(k==4)=false:=by simp[h4]
  simp[deedsMap,Instr.findNow,Instr.sameNow,e0,e1,e2,e3,e4]
 ·simp;omega
def zpx (k:Int):Bool:=decide (0≤k∧k<5)
theorem zkb (k:Int):∃ v,∀ (W:World) (r:Nat),W.heap[r]?=some (.map deedsMap 5) →
  (Instr.lookup 218 (.map (some r)) (.int .i64 k) true).run Tryz.prog W=.ok (.tuple #[v,.bool (zpx k)]) W:=by
 obtain ⟨f,hf,hb⟩:=zlH k
 refine ⟨(f.map (·.2)).getD .nilFunc,fun W r h=>?_⟩
 have:=zhG (P:=Tryz.prog) W .i64 Tryz.underlying218 Tryz.underlying3 deedsMap 5 k .nilFunc (by kernel_rfl) h f hf
 rw[this,hb];rfl
set_option maxRecDepth 100000 in
theorem zeZ (t k v:Int) (w:World) :
  Calls Tryz.prog 147 #[.agg #[.int .i64 t,.int .i64 k,.int .i64 v]] w fun e w'=>e=.returned (.bool (okB t k v))∧Below w.heap.size w w':=by
 obtain ⟨fv,hl⟩:=zkb k
 have KW:=hl (((w.alloc (.cells #[.int .i64 t,.int .i64 k,.int .i64 v] 79)).alloc (.map deedsMap 5)).drew) (w.heap.size+1) (by
  have:=World.alloc_heap_new (w.alloc (.cells #[.int .i64 t,.int .i64 k,.int .i64 v] 79)) (.map deedsMap 5)
  rwa [xS] at this)
 clear hl
 go_enter Tryz.func147,Tryz.ntmps147
 go_wp2_with fail
 go_region_held3 (fun w'=>w'.cell? ⟨w.heap.size,0,none⟩=some (.int .i64 t)∧w'.cell? ⟨w.heap.size,1,none⟩=some (.int .i64 k)∧w'.cell? ⟨w.heap.size,2,none⟩=some (.int .i64 v)) (first | go_keep)
  (first | (go_at_call 172;refine (zqN _).mono ?_;rintro e w' ⟨rfl,rfl⟩))
 go_wp2_with (go_at_call 170;refine (zhl _ _).mono ?_;rintro e w' ⟨rfl,rfl⟩)
 all_goals go_ret
 all_goals refine ⟨ret_bool ?_,(((Pk _ _).alloc (xN _) _).alloc (by simp) _).drew⟩
 all_goals (try simp only[numB_true,zpx,decide_eq_true_eq] at *)
 all_goals (rw[Po,okB_true];unfold Ent.okP;simp[zpx];try omega)
def zap (es:List Ent):List Value:=es.flatMap Ent.cells
def Es (w:World) (v:Value) (es:List Ent):Prop:=SlR w 3 v es.length (zap es)
theorem Es.ext {w w':World} {v:Value} {es:List Ent} (h:Es w v es) (he:Ext w w'):Es w' v es:=Pn h he
theorem zgh (es:List Ent) (k:Nat) (h:k<es.length) (i:Nat) (hi:i<3):(zap es)[k*3+i]?=es[k].cells[i]?:=by
 induction es generalizing k with
 | nil=>simp at h
 | cons e es ih =>
  rw[show zap (e::es)=e.cells++zap es from rfl]
  have hl:e.cells.length=3:=rfl
  cases k with
  | zero=>rw[List.getElem?_append_left (by omega)];simp
  | succ k =>
   rw[List.getElem?_append_right (by omega),hl,show (k+1)*3+i-3=k*3+i from by omega]
   simpa using ih k (by simpa using h)
theorem Es.at_ {w:World} {A:Option Addr} {m c:Nat} {es:List Ent} (h:Es w (.slice A m c) es) (hn:0<es.length):m=es.length∧∃ b H0,A=some ⟨b,H0,none⟩∧∀ (k:Nat) (hk:k<es.length),
  w.cell? ⟨b,H0+k*3,none⟩=some (.int .i64 es[k].t)∧w.cell? ⟨b,H0+k*3+1,none⟩=some (.int .i64 es[k].k)∧w.cell? ⟨b,H0+k*3+2,none⟩=some (.int .i64 es[k].v):=by
 obtain ⟨rfl,b,H0,rfl,hc⟩:=Pm h hn
 refine ⟨rfl,b,H0,rfl,fun k hk=>⟨?_,?_,?_⟩⟩
 ·exact hc (k*3) _ (zgh es k hk 0 (by omega))
 ·exact hc (k*3+1) _ (zgh es k hk 1 (by omega))
 ·exact hc (k*3+2) _ (zgh es k hk 2 (by omega))
theorem zo9 (t k v:Int) (w:World) :
  Calls Tryz.prog 307 #[.agg #[.int .i64 t,.int .i64 k,.int .i64 v]] w fun e w'=>e=.returned (.bool (!okB t k v))∧Below w.heap.size w w':=by
 go_enter Tryz.func307,Tryz.ntmps307
 go_wp2_with (go_at_call 147;refine (zeZ _ _ _ _).mono ?_;rintro e w' ⟨rfl,hb⟩)
 go_ret
 exact ⟨rfl,((Pk _ _).alloc (xN _) _).trans (hb.mono (by simp))⟩
def zeP:List Ent→Nat→Int
 | [],_=>-1
 | e::es,i=>if e.ok then zeP es (i+1) else i
theorem zlD (v:Value) (es:List Ent) (w:World) (h:Es w v es) :
  Calls Tryz.prog 308 #[v,.func (.func 307) #[] #[]] w fun e w'=>e=.returned (.int .i64 (zeP es 0))∧Below w.heap.size w w':=by
 obtain ⟨A,c,rfl,h1,h2⟩:=xO h;have hm:=Pl h;unfold maxLen at hm
 go_enter Tryz.func308,Tryz.ntmps308
 go_wp2_with fail
 go_loopw [8] (fun i wr=>∃ k:Nat,k≤es.length∧i=.int .i64 k∧Hid (zeP es 0=zeP (es.drop k) k)∧Below w.heap.size w wr) (fun i _=>es.length-(intOf i).toNat)
 case atStart=>exact ⟨0,Pc _,rfl,rfl,Pk _ _⟩
 case round =>
  obtain ⟨k,hk,rfl,Hb,hB⟩:=hrel
  by_cases H2:k<es.length
  ·obtain ⟨_,b,H0,rfl,hc⟩:=Es.at_ (h.ext hB) (by omega)
   obtain ⟨Ho,KQ,KR⟩:=hc k H2;clear hc
   go_wp2_with (go_at_call 307;refine (zo9 _ _ _ _).mono ?_;rintro e w' ⟨rfl,hb⟩)
   ·go_ret
    have Hk:es[k].ok=false:=by simpa [Ent.ok] using (by assumption:(!okB es[k].t es[k].k es[k].v)=true)
    refine ⟨zgF ?_,hB.trans (hb.mono hB.size)⟩
    rw[Hb.out,P1 H2,zeP,Hk]
    simp
   ·go_roundw
    case rel =>
     have HJ:es[k].ok=true:=by simpa [Ent.ok] using (by assumption:(!okB es[k].t es[k].k es[k].v)=false)
     exact ⟨k+1,by omega,by go_num,by rw[Hb.out,P1 H2,zeP,HJ];simp[Hid],hB.trans (hb.mono hB.size)⟩
    case measure=>simp[intOf];omega
  ·go_wp2_with fail
   go_ret
   refine ⟨zgF ?_,hB⟩
   rw[Hb.out,P4 (by omega)];rfl
def zc0 (es:List Ent):Bool:=es.all Ent.ok
theorem zmc (es:List Ent) (i:Nat):(0≤zeP es i↔zc0 es=false)∧-1≤zeP es i:=by
 induction es generalizing i with
 | nil=>simp[zeP,zc0]
 | cons e es ih =>
  have:=ih (i+1)
  cases h:e.ok <;> simp[zeP,zc0,h] at this ⊢ <;> first | omega | simpa [zc0] using this | skip
theorem zjk (v:Value) (es:List Ent) (w:World) (h:Es w v es) :
  Calls Tryz.prog 306 #[v,.func (.func 307) #[] #[]] w fun e w'=>e=.returned (.bool (!zc0 es))∧Below w.heap.size w w':=by
 obtain ⟨h1,h2⟩:=zmc es 0;have H1:=zhd h1;clear h1
 go_enter Tryz.func306,Tryz.ntmps306
 go_wp2_with (go_at_call 308;refine (zlD _ _ _ h).mono ?_;rintro e w' ⟨rfl,hb⟩)
 go_ret
 refine ⟨ret_bool ?_,hb⟩
 have:=H1.out
 cases h:zc0 es <;> simp[h] at this ⊢ <;> omega
theorem ztP (v:Value) (es:List Ent) (w:World) (h:Es w v es) :
  Calls Tryz.prog 305 #[v] w fun e w'=>e=.returned (.bool (!zc0 es))∧Below w.heap.size w w':=by
 go_enter Tryz.func305,Tryz.ntmps305
 go_wp2_with (go_at_call 306;refine (zjk _ _ _ h).mono ?_;rintro e w' ⟨rfl,hb⟩)
 go_ret
 exact ⟨rfl,hb⟩
def zav (l:List Int):Bool:=l.all zaE
def zaj (l:List Int):List UInt8:=l.flatMap fun n=>zbO n.toNat
theorem Is.at_ {w:World} {A:Option Addr} {m c:Nat} {l:List Int} (h:Is w (.slice A m c) l) (hn:0<l.length):m=l.length∧∃ b H0,A=some ⟨b,H0,none⟩∧∀ (k:Nat) (hk:k<l.length),w.cell? ⟨b,H0+k,none⟩=some (.int .i64 l[k]):=by
 obtain ⟨rfl,b,H0,rfl,hc⟩:=Pm h hn
 exact ⟨rfl,b,H0,rfl,fun k hk=>hc k _ (by simp[P7 hk,iv])⟩
theorem zqh (n:Int) (w:World) :
  Calls Tryz.prog 187 #[.int .i64 n] w fun e w'=>e=.returned (.bool (!zaE n))∧w=w':=by
 by_cases h0:n<0
 ·go_enter Tryz.func187,Tryz.ntmps187
  go_wp2
  go_ret
  exact ⟨ret_bool (by simp[zaE];omega),rfl⟩
 ·by_cases h1:n>1073741824
  ·go_enter Tryz.func187,Tryz.ntmps187
   go_wp2
   go_ret
   exact ⟨ret_bool (by simp[zaE];omega),rfl⟩
  ·go_enter Tryz.func187,Tryz.ntmps187
   go_wp2
   go_ret
   exact ⟨ret_bool (by simp[zaE];omega),rfl⟩
def zdY:List Int→Nat→Int
 | [],_=>-1
 | n::l,i=>if zaE n then zdY l (i+1) else i
theorem zkH (v:Value) (l:List Int) (w:World) (h:Is w v l) :
  Calls Tryz.prog 230 #[v,.func (.func 187) #[] #[]] w fun e w'=>e=.returned (.int .i64 (zdY l 0))∧w=w':=by
 obtain ⟨A,c,rfl,h1,h2⟩:=xO h;have hm:=Pl h;unfold maxLen at hm
 go_enter Tryz.func230,Tryz.ntmps230
 go_wp2_with fail
 go_loop [8] (fun i=>∃ k:Nat,k≤l.length∧i=.int .i64 k∧Hid (zdY l 0=zdY (l.drop k) k)) (fun i=>l.length-(intOf i).toNat)
 case atStart=>exact ⟨0,Pc _,rfl,rfl⟩
 case round =>
  obtain ⟨k,hk,rfl,Hb⟩:=hrel
  by_cases H2:k<l.length
  ·obtain ⟨_,b,H0,rfl,hc⟩:=Is.at_ h (by omega)
   have Ho:=hc k H2;clear hc
   go_wp2_with (go_at_call 187;refine (zqh _ _).mono ?_;rintro e w' ⟨rfl,rfl⟩)
   ·go_ret
    have Hk:zaE l[k]=false:=by simpa using (by assumption:(!zaE l[k])=true)
    refine ⟨zgF ?_,rfl⟩
    rw[Hb.out,P1 H2,zdY,Hk]
    simp
   ·go_round
    case rel =>
     have HJ:zaE l[k]=true:=by simpa using (by assumption:(!zaE l[k])=false)
     exact ⟨k+1,by omega,by go_num,by rw[Hb.out,P1 H2,zdY,HJ];simp[Hid]⟩
    case measure=>simp[intOf];omega
  ·go_wp2_with fail
   go_ret
   refine ⟨zgF ?_,rfl⟩
   rw[Hb.out,P4 (by omega)];rfl
theorem zlI (l:List Int) (i:Nat):(0≤zdY l i↔zav l=false)∧-1≤zdY l i:=by
 induction l generalizing i with
 | nil=>simp[zdY,zav]
 | cons e es ih =>
  have:=ih (i+1)
  cases h:zaE e <;> simp[zdY,zav,h] at this ⊢ <;> first | omega | simpa [zav] using this | skip
theorem ziP (v:Value) (l:List Int) (w:World) (h:Is w v l) :
  Calls Tryz.prog 186 #[v,.func (.func 187) #[] #[]] w fun e w'=>e=.returned (.bool (!zav l))∧w=w':=by
 obtain ⟨h1,h2⟩:=zlI l 0;have H1:=zhd h1;clear h1
 go_enter Tryz.func186,Tryz.ntmps186
 go_wp2_with (go_at_call 230;refine (zkH _ _ _ h).mono ?_;rintro e w' ⟨rfl,rfl⟩)
 go_ret
 refine ⟨ret_bool ?_,rfl⟩
 have:=H1.out
 cases h:zav l <;> simp[h] at this ⊢ <;> omega
theorem zhN (v:Value) (l:List Int) (w:World) (h:Is w v l) :
  Calls Tryz.prog 161 #[v] w fun e w'=>e=.returned (.bool (zav l))∧w=w':=by
 go_enter Tryz.func161,Tryz.ntmps161
 go_wp2_with (go_at_call 186;refine (ziP _ _ _ h).mono ?_;rintro e w' ⟨rfl,rfl⟩)
 go_ret
 exact ⟨ret_bool (by simp),rfl⟩
theorem zhV {l:List Int} {k:Nat} (H2:k<l.length) (h:zaE l[k]=false):zav l=false:=by
 simp only[zav,List.all_eq_false]
 exact ⟨l[k],P9 H2,by simp[h]⟩
theorem znv {l:List Int} {k:Nat} (H2:k<l.length) (h:zav (l.take k)=true):zav (l.take (k+1))=zaE l[k]:=by
 rw[P2 H2]
 simp only[zav,List.all_append] at h ⊢
 rw[h];simp
theorem zih (v:Value) (l:List Int) (w:World) (h:Is w v l) :
  Calls Tryz.prog 97 #[v] w fun e w'=>e=.returned (.bool (zav l))∧w=w':=by
 obtain ⟨A,c,rfl,h1,h2⟩:=xO h;have hm:=Pl h;unfold maxLen at hm
 go_enter Tryz.func97,Tryz.ntmps97
 go_wp2_with fail
 go_loop [3] (fun i=>∃ k:Nat,k≤l.length∧i=.int .i64 k∧Hid (zav (l.take k)=true)) (fun i=>l.length-(intOf i).toNat)
 case atStart=>exact ⟨0,Pc _,rfl,rfl⟩
 case round =>
  obtain ⟨k,hk,rfl,Hb⟩:=hrel
  by_cases H2:k<l.length
  ·obtain ⟨_,b,H0,rfl,hc⟩:=Is.at_ h (by omega)
   have Ho:=hc k H2;clear hc
   by_cases h0:l[k]<0
   ·go_wp2_with fail
    go_ret
    exact ⟨ret_bool (zhV H2 (by simp[zaE];omega)).symm,rfl⟩
   ·by_cases h1:1073741824<l[k]
    ·go_wp2_with fail
     go_ret
     exact ⟨ret_bool (zhV H2 (by simp[zaE];omega)).symm,rfl⟩
    ·go_wp2_with fail
     go_round
     case rel=>exact ⟨k+1,by omega,by go_num,(znv H2 Hb.out).trans (by simp[zaE];omega)⟩
     case measure=>simp[intOf];omega
  ·go_wp2_with fail
   go_ret
   refine ⟨ret_bool ?_,rfl⟩
   have:=Hb.out
   rw[P3 (by omega)] at this
   exact this.symm
def hiB:Nat→Nat→List UInt8
 | 0,_=>[]
 | f+1,m=>if m=0 then [] else hiB f (m / 128)++[Pi (m % 128+128)]
theorem zl0 (m:Nat):Pi (m % 128) ||| 128=Pi (m % 128+128):=by
 have h2:∀ m:Nat,m<128→Pi m ||| 128=Pi (m+128):=by decide
 exact h2 _ (Nat.mod_lt _ (by decide))
theorem zeG (f:Nat):hiB f 0=[]:=by cases f <;> simp[hiB]
theorem zim (n:Nat) (hn:n≤1073741824):zbO n=hiB 5 (n / 128)++[Pi (n % 128)]:=by
 unfold zbO
 congr 1
 have d2:n / 128 / 128=n / 16384:=by omega
 have d3:n / 16384 / 128=n / 2097152:=by omega
 have d4:n / 2097152 / 128=n / 268435456:=by omega
 have d5:n / 268435456 / 128=0:=by omega
 by_cases h4:n / 268435456=0
 ·by_cases h3:n / 2097152=0
  ·by_cases h2:n / 16384=0
   ·by_cases h1:n / 128=0
    ·simp[zaT,hiB,h1,h2,h3,h4]
    ·simp[zaT,hiB,d2,d3,d4,d5,h1,h2,h3,h4,zl0]
   ·have h1:n / 128≠0:=by omega
    simp[zaT,hiB,d2,d3,d4,d5,h1,h2,h3,h4,zl0]
  ·have h1:n / 128≠0:=by omega
   have h2:n / 16384≠0:=by omega
   simp[zaT,hiB,d2,d3,d4,d5,h1,h2,h3,h4,zl0]
 ·have h1:n / 128≠0:=by omega
  have h2:n / 16384≠0:=by omega
  have h3:n / 2097152≠0:=by omega
  simp[zaT,hiB,d2,d3,d4,d5,h1,h2,h3,h4,zl0]
def ziA (w:World) (l:List Int) (e:Ending) (w':World):Prop :=
 ∃ v,e=.returned (.tuple #[v,.int .i64 0])∧w'.ownsRow w.heap.size 5 1 v (zaj l).length ((zaj l).map bv)∧Ext w w'
def zjo (w:World) (e:Ending) (w':World):Prop:=e=.returned (.tuple #[.slice none 0 0,.int .i64 2])∧Ext w w'
theorem zkA (n:Nat):1≤(zbO n).length∧(zbO n).length≤5:=by
 have:=zg1 7 n true 4
 simp[zbO];omega
theorem zcu (l:List Int):(zaj l).length≤5*l.length:=by
 induction l with
 | nil=>simp[zaj]
 | cons n l ih=>have:=(zkA n.toNat).2;simp[zaj] at ih ⊢;omega
theorem zjh {l:List Int} {k:Nat} (h:k<l.length):zaj (l.take (k+1))=zaj (l.take k)++zbO l[k].toNat:=by
 rw[P2 h];unfold zaj;rw[List.flatMap_append];simp
theorem zhk {l:List Int} (h:zav l=true) {k:Nat} (hk:k<l.length):0≤l[k]∧l[k]≤1073741824:=by
 have:=List.all_eq_true.1 h l[k] (P9 hk)
 simpa [zaE] using this
set_option maxRecDepth 100000 in
theorem zoa (v:Value) (l:List Int) (w:World) (h:Is w v l) (hn:zav l=true) (hl:l.length≤2000000) :
  Calls Tryz.prog 127 #[v,.func (.func 128) #[] #[]] w (ziA w l):=by
 obtain ⟨A,c,rfl,h1,h2⟩:=xO h;have Hn:=zhd hn
 go_enter Tryz.func127,Tryz.ntmps127
 go_wp2_with (go_at_call 161;refine (zhN _ _ _ h).mono ?_;rintro e w' ⟨rfl,rfl⟩)
 clear hn
 go_loopw [4,13] (fun vb i wr=>∃ k:Nat,k≤l.length∧i=.int .i64 k∧wr.ownsRow w.heap.size 5 1 vb (zaj (l.take k)).length ((zaj (l.take k)).map bv)∧Ext w wr) (fun _ i _=>l.length-(intOf i).toNat)
 case atStart=>exact ⟨0,Pc _,rfl,P0 _ _ _ _,xR _⟩
 case round =>
  obtain ⟨k,hk,rfl,H4,hB⟩:=hrel
  by_cases H2:k<l.length
  ·obtain ⟨_,b,H0,rfl,hc⟩:=Is.at_ (h.ext hB) (by omega)
   have Ho:=hc k H2;clear hc;obtain ⟨KC,KZ⟩:=zhk Hn.out H2;have Hy:=zcu (l.take k)
   have J1:(l.take k).length≤k:=List.length_take_le _ _
   have key:=zo4 (zaj (l.take k)) l[k].toNat (by omega) _ w.heap.size wr H4 hB.size (by omega);rw[Int.toNat_of_nonneg KC] at key;have He:=zhd key;clear key
   go_wp2_with (go_at_call 128;refine He.out.mono ?_;rintro e w1 ⟨v',rfl,H6,Ku⟩)
   go_roundw
   case rel=>exact ⟨k+1,by omega,by go_num,by rw[zjh H2];exact H6,Below.trans hB Ku⟩
   case measure=>simp[intOf];omega
  ·have HP:l.take k=l:=P3 (by omega)
   rw[HP] at H4;clear HP;go_wp2_with fail
   go_ret2
   exact ⟨_,rfl,H4,hB⟩
theorem zma (v:Value) (l:List Int) (w:World) (h:Is w v l) (hn:zav l=true) (hl:l.length≤2000000):Calls Tryz.prog 84 #[v] w (ziA w l):=by
 go_enter Tryz.func84,Tryz.ntmps84
 go_wp2_with (go_at_call 127;refine (zoa _ _ _ h hn hl).mono ?_;rintro e w' ⟨v',rfl,ho,hb⟩)
 go_ret2
 exact ⟨_,rfl,ho,hb⟩
open Go.RowKit Go.Mv Go.Shelf
theorem mcTakesa0 {P:Prop} (h:P:=by
 have Ha:(!zav [(n:Int)*128+(q':Int) % 128])=false:=by assumption
 have ht:=H3.out
 rw[if_neg hb,if_pos (by simp[zav,zaE] at Ha;omega)] at ht
 refine ⟨v',by rw[ht];simp,?_,?_⟩
 ·rw[ht]
  rw[P5]
  simpa using H6
 ·refine Below.grown H8 H5 H8.size (fun k ek=>?_)
  have:w.heap.size+1=k:=by simpa [Value.ownBlock] using ek
  omega):P:=h
theorem mcTakesa1 {P:Prop} (h:P:=by
 have ht:=H3.out
 rw[if_neg hb,if_neg (by simp[zav,zaE] at Hi;omega)] at ht
 exact ⟨_,by rw[ht];rfl,by rw[ht];exact P0 _ _ _ _,xA (xR _) _⟩):P:=h
def zbL:Nat→Nat→List UInt8→Int×Nat×List UInt8
 | 0,_,_=>(11,0,[])
 | _+1,_,[]=>(10,0,[])
 | f+1,n,b::l=>if 128≤b.toNat then zbL f (n*128+b.toNat % 128) l else if n*128+b.toNat % 128≤1073741824 then (0,n*128+b.toNat % 128,l) else (11,0,[])
def zaK (l:List UInt8):Int×Nat×List UInt8:=if l.head?=some 128 then (11,0,[]) else zbL 5 0 l
def ziB (w:World) (r:Int×Nat×List UInt8) (e:Ending) (w':World):Prop :=
 ∃ v,e=.returned (.tuple #[.int .i64 r.2.1,v,.int .i64 r.1])∧w'.ownsRow w.heap.size 5 1 v r.2.2.length (r.2.2.map bv)∧Ext w w'
theorem Bs.at_ {w:World} {A:Option Addr} {m c:Nat} {l:List UInt8} (h:Bs w (.slice A m c) l) (hn:0<l.length):m=l.length∧∃ b H0,A=some ⟨b,H0,none⟩∧∀ (k:Nat) (hk:k<l.length),w.cell? ⟨b,H0+k,none⟩=some (.int .u8 (l[k].toNat:Int)):=by
 obtain ⟨rfl,b,H0,rfl,hc⟩:=Pm h hn
 exact ⟨rfl,b,H0,rfl,fun k hk=>hc k _ (by simp[P7 hk,bv])⟩
def TkR (bs:List UInt8) (A:Option Addr) (c:Nat) (w:World) (a:Act) (w':World):Prop :=
 ∃ (i n:Nat) (u6 u7 u8 u9 HQ HR HS HU HV HW HX HY HZ K0 K1 K2 K3 K4 K5 K6 K7 K8 K9 Ka Kb Kc Kd Ke Kf Kg Kh Ki Kj Kk Kl Km Kn Ko Kp Kq Kr Ks Kt:Value),(i≤5∧i≤bs.length∧n<128^i∧Hid (zaK bs=zbL (5-i) n (bs.drop i))∧w=w')∧a=⟨#[.slice A bs.length c,undef,.int .i64 n,.slice none 0 0,.int .i64 0,.int .i64 i,u6,u7,u8,u9,HQ,HR,HS,HU,HV,HW,HX,HY,HZ,K0,K1,K2,K3,K4,K5,K6,K7,K8,K9,Ka,Kb,Kc,Kd,Ke,Kf,Kg,Kh,Ki,Kj,Kk,Kl,Km,Kn,Ko,Kp,Kq,Kr,Ks,Kt],[]⟩
set_option maxRecDepth 100000 in
theorem zmb (v:Value) (bs:List UInt8) (w:World) (H9:Bs w v bs) (hl:bs.length≤140737488355328):Calls Tryz.prog 139 #[v] w (ziB w (zaK bs)):=by
 obtain ⟨A,c,rfl,h1,h2⟩:=xO H9
 refine (callsIn_wd (ro:=none) (n:=9)).1 ?_
 refine callsIn_of_wp Tryz.func139 rfl trivial ?_ rfl
 simp only[Tryz.ntmps139,List.size_toArray,xC,List.length_nil,Pf,Nat.reduceSub,Array.replicate_succ,Array.replicate_zero,P8,List.append_toArray,xI,Pa]
 gi_wp2
 refine zbl 0 (TkR bs A c w) (fun a _=>5-(intOf (a.tmps.getD 5 undef)).toNat) rfl (fun l' h=>by cases l' <;> first | exact absurd rfl h | rfl) ?_ ?_
 ·intro Hc
  have Hg:=zhd Hc;clear Hc
  by_cases h0:bs.length=0
  ·have hz:¬ (0<bs.length):=by omega
   have hb:bs=[]:=P6 h0
   subst hb
   have HA:Hid (zaK []=zbL (5-0) 0 ([].drop 0)):=rfl
   gi_wp2
   refine wpIn_label ?_
   gi_step
   gi_step
   exact Hg.out _ _ ⟨0,0,_,_,_,_,_,_,_,_,_,_,_,_,_,_,_,_,_,_,_,_,_,_,_,_,_,_,_,_,_,_,_,_,_,_,_,_,_,_,_,_,_,_,_,⟨by omega,by simp,by decide,HA,rfl⟩,rfl⟩
  ·obtain ⟨_,b,H0,rfl,hc⟩:=Bs.at_ H9 (by omega)
   have Ho:w.cell? ⟨b,H0,none⟩=some (.int .u8 (bs[0].toNat:Int)):=hc 0 (by omega)
   by_cases h128:bs[0].toNat=128
   ·have e:((bs[0].toNat:Int)==128)=true:=by simp;omega
    have ht:zaK bs=(11,0,[]):=by
     have:bs[0]=128:=by apply Pj.1;simpa using h128
     cases bs with
     | nil=>simp at h0
     | cons x l=>simp at this;simp[zaK,this]
    have Ht:=zhd ht;clear ht hc
    gi_wp2
    refine zat ?_
    go_ret3
    exact ⟨_,by rw[Ht.out];rfl,by rw[Ht.out];exact P0 _ _ _ _,xR _⟩
   ·have e:((bs[0].toNat:Int)==128)=false:=by simp;omega
    have ht:zaK bs=zbL (5-0) 0 (bs.drop 0):=by
     have:bs[0]≠128:=fun e=>h128 (by rw[e];rfl)
     cases bs with
     | nil=>simp at h0
     | cons x l=>simp at this;simp[zaK,this]
    have HA:=zhd ht;clear ht hc
    gi_wp2
    refine wpIn_label ?_
    gi_step
    gi_step
    exact Hg.out _ _ ⟨0,0,_,_,_,_,_,_,_,_,_,_,_,_,_,_,_,_,_,_,_,_,_,_,_,_,_,_,_,_,_,_,_,_,_,_,_,_,_,_,_,_,_,_,_,⟨by omega,by omega,by decide,HA,rfl⟩,rfl⟩
 ·intro a w' hR
  obtain ⟨i,n,u6,u7,u8,u9,HQ,HR,HS,HU,HV,HW,HX,HY,HZ,K0,K1,K2,K3,K4,K5,K6,K7,K8,K9,Ka,Kb,Kc,Kd,Ke,Kf,Kg,Kh,Ki,Kj,Kk,Kl,Km,Kn,Ko,Kp,Kq,Kr,Ks,Kt,⟨Kx,Ky,hn,HT,rfl⟩,rfl⟩:=hR
  by_cases h5:i=5
  ·subst h5
   gi_wp2
   refine zat ?_
   go_ret3
   have ht:zaK bs=(11,0,[]):=HT.out
   exact ⟨_,by rw[ht];rfl,by rw[ht];exact P0 _ _ _ _,xR _⟩
  have e1:((i:Int)==5)=false:=by simp;omega
  have HO:i≤4:=by omega
  have hf:5-i=(4-i)+1:=by omega
  have hT:=HT.out;rw[hf] at hT
  by_cases hlen:i=bs.length
  ·have e2:((i:Int)==(bs.length:Int))=true:=by simp;omega
   have ht:zaK bs=(10,0,[]):=by
    rw[hT,P4 (by omega),zbL]
   have Ht:=zhd ht;clear ht hT hf hlen
   gi_wp2
   refine zat ?_
   go_ret3
   exact ⟨_,by rw[Ht.out];rfl,by rw[Ht.out];exact P0 _ _ _ _,xR _⟩
  obtain ⟨_,b,H0,rfl,hc⟩:=Bs.at_ H9 (by omega)
  have H2:i<bs.length:=by omega
  have Kv:=hc i H2
  have e2:((i:Int)==(bs.length:Int))=false:=by simp;omega
  rw[P1 H2,zbL] at hT
  have KD:n<268435456:=Pe hn (Ph (Pd (by decide) HO) (by decide))
  have hq:=bs[i].toNat_lt
  generalize bs[i].toNat=q at *
  have ha:bits .and .u8 (q:Int) 127=(q:Int) % 128:=bits_mask .u8 8 (by decide) wraps_u8 7 (by decide) _ (by omega) (by omega)
  have ho:bits .or .i64 ((n:Int)*128) ((q:Int) % 128)=(n:Int)*128+(q:Int) % 128:=bits_join .i64 62 (by decide) zei 7 _ _ (by omega) (by omega) (by omega) (by omega) (by omega) (by omega)
  have H3:=zhd hT
  have Hv:n*128+q % 128<128^(i+1):=by rw[Pg];omega
  have HB:=zhd Hv;clear hT hf hc Hv hn HT
  by_cases hb:128≤q
  ·have Hh:=H3.out
   rw[if_pos hb] at Hh;have Hz:=zhd Hh;clear Hh
   gi_wp2
   refine wpIn_goto ?_
   try simp only[Exit.then]
   refine zag (by simp) ⟨?_,by simp[intOf];omega⟩
   have ec:((n:Int)*128+(q:Int) % 128)=((n*128+q % 128:Nat):Int):=by simp
   rw[ec]
   exact ⟨i+1,n*128+q % 128,_,_,_,_,_,_,_,_,_,_,_,_,_,_,_,_,_,_,_,_,_,_,_,_,_,_,_,_,_,_,_,_,_,_,_,_,_,_,_,_,_,_,_,⟨by omega,by omega,HB.out,by show _=_;rw[Hz.out,show 5-(i+1)=4-i from by omega],rfl⟩,rfl⟩
  ·have HK:=xW (zaV w [.int .i64 ((n:Int)*128+(q:Int) % 128)] 3 1 rfl (by simp[maxLen]) (xN _))
   have Hf:Is (w.alloc (.cells #[.int .i64 ((n:Int)*128+(q:Int) % 128)] 3)) (.slice (some ⟨w.heap.size,0,none⟩) 1 1) [(n:Int)*128+(q:Int) % 128]:=HK
   clear HK
   gi_wp2_with (refine ⟨trivial,?_⟩;gi_at_call 161;refine (callsIn_wd.2 (zhN _ _ _ Hf)).mono ?_;rintro e w' ⟨rfl,rfl⟩)
   ·refine zat ?_
    go_ret3
    have Hi:(!zav [(n:Int)*128+(q:Int) % 128])=true:=by assumption
    exact mcTakesa1
   all_goals
    have Ha:(!zav [(n:Int)*128+(q:Int) % 128])=false:=by assumption
    have ht:=H3.out
    rw[if_neg hb,if_pos (by simp[zav,zaE] at Ha;omega)] at ht
    have Ht:=zhd ht;clear ht Ha H3
   ·refine ⟨trivial,(callsIn_wd.2 (zfZ _ (bs.drop (i+1)) _ (Bs.cut0 (by omega) rfl (by omega)) (by simp;omega))).mono ?_⟩
    rintro e w1 ⟨v',rfl,ho,hE⟩
    gi_wp2
    refine zat ?_
    go_ret3
    exact ⟨v',by rw[Ht.out];simp,by rw[Ht.out];exact zai ho (by simp),xT (xA (xR _) _) hE⟩
   ·refine ⟨trivial,(callsIn_wd.2 (zfZ _ (bs.drop (i+1)) _ (Bs.cut (H9.ext (xA (xR _) _)) (i+1) (by omega) rfl) (by simp;omega))).mono ?_⟩
    rintro e w1 ⟨v',rfl,ho,hE⟩
    gi_wp2
    refine zat ?_
    go_ret3
    exact ⟨v',by rw[Ht.out];simp,by rw[Ht.out];exact zai ho (by simp),xT (xA (xR _) _) hE⟩
set_option maxRecDepth 100000 in
theorem zlK (A:Option Addr) (c:Nat) (bs:List UInt8) (w:World) (hz:¬ (0<bs.length)) (J2:bs.length<5):Calls Tryz.prog 100 #[.slice A bs.length c] w (ziB w (zaK bs)):=by
 have ht:zaK bs=(10,0,[]):=by rw[P6 (by omega:bs.length=0)];rfl
 have Ht:=zhd ht;clear ht
 go_enter Tryz.func100,Tryz.ntmps100
 go_wp2_with fail
 go_loop [5,6] (fun n i=>∃ k:Nat,Hid (k=0)∧n=.int .i64 k∧i=.int .i64 k) (fun _ i=>(intOf i).toNat)
 case atStart=>exact ⟨0,rfl,rfl,rfl⟩
 case round =>
  obtain ⟨k,hk,rfl,rfl⟩:=hrel
  obtain rfl:k=0:=hk.out
  go_wp2_with fail
  go_ret3
  exact ⟨_,by rw[Ht.out];rfl,by rw[Ht.out];exact P0 _ _ _ _,xR _⟩
set_option maxRecDepth 100000 in
theorem zm1 (c:Nat) (bs:List UInt8) (w:World) (b H0 q:Nat) (H9:Bs w (.slice (some ⟨b,H0,none⟩) bs.length c) bs) (hl:bs.length≤140737488355328) (h1:bs.length≤c) (h2:c≤9223372036854775807) (h0:0<bs.length)
  (hq:w.cell? ⟨b,H0,none⟩=some (.int .u8 q)) (e128:((q:Int)==128)=false) (HT0:Hid (zaK bs=zbL 5 0 bs)):Calls Tryz.prog 100 #[.slice (some ⟨b,H0,none⟩) bs.length c] w (ziB w (zaK bs)):=by
 obtain ⟨i0,hi,Hp,Hq,Hr⟩:=info_parts zb8
 go_enter Tryz.func100,Tryz.ntmps100
 go_wp2_with fail
 go_loop [5,6] (fun nn ii=>∃ i n:Nat,i≤5∧i≤bs.length∧Hid (n<128^i)∧Hid (zaK bs=zbL (5-i) n (bs.drop i))∧nn=.int .i64 n∧ii=.int .i64 i) (fun _ i=>5-(intOf i).toNat)
 case atStart=>exact ⟨0,0,by omega,by omega,by show _<_;decide,HT0.out,rfl,rfl⟩
 case round =>
  obtain ⟨i,n,Kx,Ky,Hn,HT,rfl,rfl⟩:=hrel
  by_cases hend:i<bs.length∧i<5
  ·obtain ⟨H2,HO⟩:=hend
   obtain ⟨_,b',KI,e',hc⟩:=Bs.at_ H9 (by omega)
   cases e'
   have Kv:=hc i H2;have hT:=HT.out
   rw[show 5-i=(4-i)+1 from by omega,P1 H2,zbL] at hT
   have KD:n<268435456:=Pe Hn.out (Ph (Pd (by decide) (by omega:i≤4)) (by decide))
   have J0:=bs[i].toNat_lt
   generalize bs[i].toNat=q' at *
   have Hv:n*128+q' % 128<128^(i+1):=by have:=Hn.out;rw[Pg];omega
   have H3:=zhd hT;have HB:=zhd Hv;clear hT hc Hv Hn HT HT0
   by_cases hb:128≤q'
   ·have Hh:=H3.out
    rw[if_pos hb] at Hh;have Hz:=zhd Hh;clear Hh;go_wp2_with fail
    go_round
    case rel=>exact ⟨i+1,n*128+q' % 128,by omega,by omega,HB.out,by show _=_;rw[Hz.out,show 5-(i+1)=4-i from by omega],by go_num,by go_num⟩
    case measure=>simp[intOf];omega
   ·have Hf:Is (w.alloc (.cells #[.int .i64 ((n:Int)*128+(q':Int) % 128)] 3)) (.slice (some ⟨w.heap.size,0,none⟩) 1 1) [(n:Int)*128+(q':Int) % 128]:=xW (zaV w [.int .i64 ((n:Int)*128+(q':Int) % 128)] 3 1 rfl (by simp[maxLen]) (xN _))
    have Hw:((w.alloc (.cells #[.int .i64 ((n:Int)*128+(q':Int) % 128)] 3)).alloc (.cells #[] 5)).ownsRow w.heap.size 5 1 (.slice (some ⟨w.heap.size+1,0,none⟩) 0 0) 0 []:=by
     have:=zaV (w.alloc (.cells #[.int .i64 ((n:Int)*128+(q':Int) % 128)] 3)) [] 5 0 rfl (by simp[maxLen]) (base:=w.heap.size) (by simp)
     rwa [xS] at this
    have H8:Ext w ((w.alloc (.cells #[.int .i64 ((n:Int)*128+(q':Int) % 128)] 3)).alloc (.cells #[] 5)):=xA (xA (xR w) _) _
    by_cases hcc:c=i+1
    ·have Hy:SlR ((w.alloc (.cells #[.int .i64 ((n:Int)*128+(q':Int) % 128)] 3)).alloc (.cells #[] 5)) 1 (.slice (some ⟨b,H0,none⟩) (bs.length-(i+1)) 0) (bs.length-(i+1)) ((bs.drop (i+1)).map bv):=by
      have h:=Bs.cut0 (w:=((w.alloc (.cells #[.int .i64 ((n:Int)*128+(q':Int) % 128)] 3)).alloc (.cells #[] 5))) (A:=some ⟨b,H0,none⟩) (n:=bs.length) (k:=i+1) (c:=0) (bs:=bs) (by omega) rfl (by omega);unfold Bs at h
      rwa [P5] at h
     go_wp2_with (first
      | (go_at_call 97;refine (zih _ _ _ Hf).mono ?_;rintro e w' ⟨rfl,rfl⟩)
      | (at_builtin;refine zbd _ rfl (.tmp 45) (.tmp 49) 38 rfl w.heap.size 5 i0 (.int .u8 0) 1 1 Tryz.underlying38 hi Hp Hq Hr rfl (by decide) (.slice (some ⟨w.heap.size+1,0,none⟩) 0 0) 0 [] rfl Hw (.slice (some ⟨b,H0,none⟩) (bs.length-(i+1)) 0) (bs.length-(i+1)) ((bs.drop (i+1)).map bv) rfl Hy (zcP _) (by unfold maxLen;omega) (by omega) H8.size ?_;intro v' w1 H6 H5))
     ·go_ret3
      have Hi:(!zav [(n:Int)*128+(q':Int) % 128])=true:=by assumption
      exact mcTakesa1
     ·go_ret3
      exact mcTakesa0
    ·have Hy:SlR ((w.alloc (.cells #[.int .i64 ((n:Int)*128+(q':Int) % 128)] 3)).alloc (.cells #[] 5)) 1 (.slice (some ⟨b,H0+(i+1),none⟩) (bs.length-(i+1)) (c-(i+1))) (bs.length-(i+1)) ((bs.drop (i+1)).map bv):=by
      have h:=Bs.cut (H9.ext H8) (i+1) (by omega) rfl;unfold Bs at h
      rwa [P5] at h
     go_wp2_with (first
      | (go_at_call 97;refine (zih _ _ _ Hf).mono ?_;rintro e w' ⟨rfl,rfl⟩)
      | (at_builtin;refine zbd _ rfl (.tmp 45) (.tmp 49) 38 rfl w.heap.size 5 i0 (.int .u8 0) 1 1 Tryz.underlying38 hi Hp Hq Hr rfl (by decide) (.slice (some ⟨w.heap.size+1,0,none⟩) 0 0) 0 [] rfl Hw (.slice (some ⟨b,H0+(i+1),none⟩) (bs.length-(i+1)) (c-(i+1))) (bs.length-(i+1)) ((bs.drop (i+1)).map bv) rfl Hy (zcP _) (by unfold maxLen;omega) (by omega) H8.size ?_;intro v' w1 H6 H5))
     ·go_ret3
      have Hi:(!zav [(n:Int)*128+(q':Int) % 128])=true:=by assumption
      exact mcTakesa1
     ·go_ret3
      exact mcTakesa0
  ·by_cases hl5:bs.length<5
   ·have H2:¬ (i<bs.length):=by omega
    have ht:zaK bs=(10,0,[]):=by
     rw[HT.out,show 5-i=(4-i)+1 from by omega,P4 (by omega),zbL]
    have Ht:=zhd ht;clear ht HT HT0 Hn;go_wp2_with fail
    go_ret3
    exact ⟨_,by rw[Ht.out];rfl,by rw[Ht.out];exact P0 _ _ _ _,xR _⟩
   ·have hi:i=5:=by omega
    subst hi
    have ht:zaK bs=(11,0,[]):=HT.out
    have Ht:=zhd ht;clear ht HT HT0 Hn hend;go_wp2_with fail
    all_goals go_ret3
    all_goals exact ⟨_,by rw[Ht.out];rfl,by rw[Ht.out];exact P0 _ _ _ _,xR _⟩
set_option maxRecDepth 100000 in
theorem zoh (v:Value) (bs:List UInt8) (w:World) (H9:Bs w v bs) (hl:bs.length≤140737488355328):Calls Tryz.prog 100 #[v] w (ziB w (zaK bs)):=by
 obtain ⟨A,c,rfl,h1,h2⟩:=xO H9
 by_cases h0:bs.length=0
 ·exact zlK A c bs w (by omega) (by omega)
 obtain ⟨_,b,H0,rfl,hc⟩:=Bs.at_ H9 (by omega)
 have Ho:w.cell? ⟨b,H0,none⟩=some (.int .u8 (bs[0].toNat:Int)):=hc 0 (by omega)
 by_cases h128:bs[0].toNat=128
 ·have e:((bs[0].toNat:Int)==128)=true:=by simp;omega
  have ht:zaK bs=(11,0,[]):=by
   have:bs[0]=128:=by apply Pj.1;simpa using h128
   cases bs with
   | nil=>simp at h0
   | cons x l=>simp at this;simp[zaK,this]
  have Ht:=zhd ht;clear ht hc
  go_enter Tryz.func100,Tryz.ntmps100
  go_wp2_with fail
  go_ret3
  exact ⟨_,by rw[Ht.out];rfl,by rw[Ht.out];exact P0 _ _ _ _,xR _⟩
 ·refine zm1 c bs w b H0 bs[0].toNat H9 hl h1 h2 (by omega) Ho (by simp;omega) ?_
  have:bs[0]≠128:=fun e=>h128 (by rw[e];rfl)
  cases bs with
  | nil=>simp at h0
  | cons x l=>simp at this;show zaK _=_;simp[zaK,this]
def zae:Nat→List Int→List UInt8→Int×List Int×List UInt8
 | 0,H7,bs=>(0,H7,bs)
 | k+1,H7,bs=>if (zaK bs).1=0 then zae k (H7++[((zaK bs).2.1:Int)]) (zaK bs).2.2 else ((zaK bs).1,[],[])
def zgw (w:World) (r:Int×List Int×List UInt8) (e:Ending) (w':World):Prop :=
 ∃ vl vr,e=.returned (.tuple #[vl,vr,.int .i64 r.1])∧w'.ownsRow w.heap.size 3 1 vl r.2.1.length (r.2.1.map iv)∧w'.ownsRow w.heap.size 5 1 vr r.2.2.length (r.2.2.map bv)∧Ext w w'
theorem zon (f n:Nat) (l:List UInt8):(zbL f n l).2.2.length≤l.length:=by
 induction f generalizing n l with
 | zero=>simp[zbL]
 | succ f ih =>
  cases l with
  | nil=>simp[zbL]
  | cons b l =>
   simp only[zbL]
   split
   ·have:=ih (n*128+b.toNat % 128) l;simp;omega
   ·split <;> simp
theorem zhw (l:List UInt8):(zaK l).2.2.length≤l.length:=by
 unfold zaK;split
 ·simp
 ·exact zon _ _ _
theorem zfL:(Tryz.prog.info? 3).map (fun i=>(i.zero,i.size,i.bytes))=some (some (.int .i64 0),1,8):=by kernel_rfl
set_option maxRecDepth 100000 in
theorem zdb (v:Value) (bs:List UInt8) (many:Nat) (hm:many≤2000000) (w:World) (H9:Bs w v bs) (hl:bs.length≤140737488355328):Calls Tryz.prog 103 #[v,.int .i64 many] w (zgw w (zae many [] bs)):=by
 obtain ⟨i0,hi,Hp,Hq,Hr⟩:=info_parts zfL
 go_enter Tryz.func103,Tryz.ntmps103
 go_wp2_with (go_at_call 138;refine (zfZ _ _ _ H9 hl).mono ?_;rintro e w1 ⟨v1,rfl,HH,HE⟩)
 go_loopw [4,5,6,11] (fun vl vr er i wr=>∃ (k:Nat) (H7:List Int) (rest:List UInt8),k≤many∧i=.int .i64 k∧er=.int .i64 0∧H7.length≤k∧rest.length≤bs.length∧Hid (zae many [] bs=zae (many-k) H7 rest) ∧
   wr.ownsRow w.heap.size 3 1 vl H7.length (H7.map iv)∧wr.ownsRow w.heap.size 5 1 vr rest.length (rest.map bv)∧Ext w wr) (fun _ _ _ i _=>many-(intOf i).toNat)
 case atStart=>exact ⟨0,[],bs,Pc _,rfl,rfl,by simp,xN _,rfl,P0 _ _ _ _,HH,HE⟩
 case round =>
    
  obtain ⟨k,H7,rest,hk,rfl,rfl,HG,Hc,HT,H4,Hs,hE⟩:=hrel
  by_cases H2:k<many
  ·have hT:=HT.out
   rw[show many-k=(many-k-1)+1 from by omega,zae] at hT
   have Hx:=zhw rest;have key:=zmb _ rest wr (xW Hs) (by omega)
   rcases hts:zaK rest with ⟨er,n,r2⟩
   rw[hts] at hT Hx key
   simp only at hT Hx
   by_cases her:er=0
   ·subst her
    simp only[if_true] at hT;have H3:=zhd hT;have He:=zhd key;clear hT HT key hts
    go_wp2_with (first
     | (go_at_call 139;refine He.out.mono ?_;rintro e w2 ⟨v2,rfl,Hm,H8⟩)
     | (at_builtin;refine zbd _ rfl (.tmp 22) (.tmp 24) 96 rfl w.heap.size 3 i0 (.int .i64 0) 1 8 Tryz.underlying96 hi Hp Hq Hr rfl (by decide) _ H7.length (H7.map iv) rfl (zaf H4 (xA H8 _)) (.slice (some ⟨w2.heap.size,0,none⟩) 1 1) 1 [.int .i64 n] rfl (xW (zaV w2 [.int .i64 n] 3 1 rfl (by simp[maxLen]) (xN _))) (by simp[Value.oneCell']) (by unfold maxLen;omega) (by omega) (by have:=hE.size;have:=H8.size;simp;omega) ?_;intro v' w3 H6 H5))
    go_roundw
    case rel =>
     have HF:Ext w w3:=Ext.grownOwn (xA (xT hE H8) _) (zaf H4 (xA H8 _)) H5
     refine ⟨k+1,H7++[(n:Int)],r2,by omega,by go_num,rfl,by simp;omega,by omega,?_,by simpa [iv] using H6,?_,HF⟩
     ·show _=_;rw[H3.out,show many-(k+1)=many-k-1 from by omega]
     ·have hb3:(w2.alloc (.cells #[.int .i64 n] 3)).ownsRow w.heap.size 5 1 v2 r2.length (r2.map bv):=zaf (zai Hm hE.size) (xA (xR _) _)
      have HI:(w2.alloc (.cells #[.int .i64 n] 3)).ownsRow w.heap.size 3 1 _ H7.length (H7.map iv):=zaf H4 (xA H8 _)
      exact hb3.kept H5 (zlg hb3 HI (by decide))
    case measure=>simp[intOf];omega
   ·have Hk:((er:Int) != 0)=true:=by simp[her]
    rw[if_neg her] at hT;have H3:=zhd hT;have He:=zhd key;clear hT HT key hts
    go_wp2_with (go_at_call 139;refine He.out.mono ?_;rintro e w2 ⟨v2,rfl,Hm,H8⟩)
    go_ret3
    exact ⟨_,_,by rw[H3.out];rfl,by rw[H3.out];exact P0 _ _ _ _,by rw[H3.out];exact P0 _ _ _ _,xT hE H8⟩
  ·have hT:=HT.out
   rw[show many-k=0 from by omega,zae] at hT
   have H3:=zhd hT;clear hT HT;go_wp2_with fail
   go_ret3
   exact ⟨_,_,by rw[H3.out];rfl,by rw[H3.out];exact H4,by rw[H3.out];exact Hs,hE⟩
set_option maxRecDepth 100000 in
theorem zfR (v:Value) (bs:List UInt8) (many:Nat) (hm:many≤2000000) (w:World) (H9:Bs w v bs) (hl:bs.length≤140737488355328):Calls Tryz.prog 57 #[v,.int .i64 many] w (zgw w (zae many [] bs)):=by
 obtain ⟨i0,hi,Hp,Hq,Hr⟩:=info_parts zfL
 go_enter Tryz.func57,Tryz.ntmps57
 obtain ⟨j0,hj,KE,KF,KH⟩:=info_parts zb8
 have Hw:(w.alloc (.cells #[] 5)).ownsRow w.heap.size 5 1 (.slice (some ⟨w.heap.size,0,none⟩) 0 0) 0 []:=zaV w [] 5 0 rfl (by simp[maxLen]) (xN _)
 have HD:Ext w (w.alloc (.cells #[] 5)):=xA (xR _) _
 go_wp2_with (at_builtin;refine zbd _ rfl (.tmp 13) (.tmp 14) 38 rfl w.heap.size 5 j0 (.int .u8 0) 1 1 Tryz.underlying38 hj KE KF KH rfl (by decide) (.slice (some ⟨w.heap.size,0,none⟩) 0 0) 0 [] rfl Hw v bs.length (bs.map bv) rfl (Pn H9 HD) (zcP _) (by unfold maxLen;omega) (by omega) HD.size ?_;intro v1 w1 HH Hj)
 have HE:Ext w w1:=Ext.grownOwn HD Hw Hj
 go_loopw [7,8,9] (fun vr vl i wr=>∃ (k:Nat) (H7:List Int) (rest:List UInt8),k≤many∧i=.int .i64 k∧H7.length≤k∧rest.length≤bs.length∧Hid (zae many [] bs=zae (many-k) H7 rest) ∧
   wr.ownsRow w.heap.size 3 1 vl H7.length (H7.map iv)∧wr.ownsRow w.heap.size 5 1 vr rest.length (rest.map bv)∧Ext w wr) (fun _ _ i _=>many-(intOf i).toNat)
 case atStart=>exact ⟨0,[],bs,Pc _,rfl,by simp,xN _,rfl,P0 _ _ _ _,by simpa using HH,HE⟩
 case round =>
    
  obtain ⟨k,H7,rest,hk,rfl,HG,Hc,HT,H4,Hs,hE⟩:=hrel
  by_cases H2:k<many
  ·have hT:=HT.out
   rw[show many-k=(many-k-1)+1 from by omega,zae] at hT
   have Hx:=zhw rest;have key:=zoh _ rest wr (xW Hs) (by omega)
   rcases hts:zaK rest with ⟨er,n,r2⟩
   rw[hts] at hT Hx key
   simp only at hT Hx
   by_cases her:er=0
   ·subst her
    simp only[if_true] at hT;have H3:=zhd hT;have He:=zhd key;clear hT HT key hts
    go_wp2_with (first
     | (go_at_call 100;refine He.out.mono ?_;rintro e w2 ⟨v2,rfl,Hm,H8⟩)
     | (at_builtin;refine zbd _ rfl (.tmp 30) (.tmp 32) 96 rfl w.heap.size 3 i0 (.int .i64 0) 1 8 Tryz.underlying96 hi Hp Hq Hr rfl (by decide) _ H7.length (H7.map iv) rfl (zaf H4 (xA H8 _)) (.slice (some ⟨w2.heap.size,0,none⟩) 1 1) 1 [.int .i64 n] rfl (xW (zaV w2 [.int .i64 n] 3 1 rfl (by simp[maxLen]) (xN _))) (by simp[Value.oneCell']) (by unfold maxLen;omega) (by omega) (by have:=hE.size;have:=H8.size;simp;omega) ?_;intro v' w3 H6 H5))
    go_roundw
    case rel =>
     have HF:Ext w w3:=Ext.grownOwn (xA (xT hE H8) _) (zaf H4 (xA H8 _)) H5
     refine ⟨k+1,H7++[(n:Int)],r2,by omega,by go_num,by simp;omega,by omega,?_,by simpa [iv] using H6,?_,HF⟩
     ·show _=_;rw[H3.out,show many-(k+1)=many-k-1 from by omega]
     ·have hb3:(w2.alloc (.cells #[.int .i64 n] 3)).ownsRow w.heap.size 5 1 v2 r2.length (r2.map bv):=zaf (zai Hm hE.size) (xA (xR _) _)
      have HI:(w2.alloc (.cells #[.int .i64 n] 3)).ownsRow w.heap.size 3 1 _ H7.length (H7.map iv):=zaf H4 (xA H8 _)
      exact hb3.kept H5 (zlg hb3 HI (by decide))
    case measure=>simp[intOf];omega
   ·have Hk:((er:Int) != 0)=true:=by simp[her]
    rw[if_neg her] at hT;have H3:=zhd hT;have He:=zhd key;clear hT HT key hts
    go_wp2_with (go_at_call 100;refine He.out.mono ?_;rintro e w2 ⟨v2,rfl,Hm,H8⟩)
    go_ret3
    exact ⟨_,_,by rw[H3.out];rfl,by rw[H3.out];exact P0 _ _ _ _,by rw[H3.out];exact P0 _ _ _ _,xT hE H8⟩
  ·have hT:=HT.out
   rw[show many-k=0 from by omega,zae] at hT
   have H3:=zhd hT;clear hT HT;go_wp2_with fail
   go_ret3
   exact ⟨_,_,by rw[H3.out];rfl,by rw[H3.out];exact H4,by rw[H3.out];exact Hs,hE⟩
end Go.Proofs.YtgonhdeochgkoaaGreatDoor

namespace Go.Mv
open Go.RowKit
def zaL (p:Nat×Nat) (bs:List UInt8):Nat×Nat:=bs.foldl zhi p
theorem zi0 (p:Nat×Nat) (bs:List UInt8) (b:UInt8):zaL p (bs++[b])=zhi (zaL p bs) b:=by unfold zaL;rw[List.foldl_append];rfl
theorem PtV.pt {v:Value} {p:Nat×Nat} (h:PtV v p):ptV v=p:=by
 obtain ⟨a,b,rfl,ha,hb⟩:=h
 unfold ptV;simp only[ha,hb]
theorem PtV.zero:PtV (.complex .f64 0 0) (0,0):=⟨0,0,rfl,zho zdN (by decide) (fun h=>by cases h),zho zdN (by decide) (fun h=>by cases h)⟩
theorem zrx {a b:Nat} (h:((zaR a).isSome&&(zaR b).isSome)=true):PtV (.complex .f64 a b) (ptV (.complex .f64 a b)):=by
 obtain ⟨x,ha⟩:∃ x,zaR a=some x:=by cases h:zaR a <;> simp_all
 obtain ⟨y,hb⟩:∃ y,zaR b=some y:=by cases h:zaR b <;> simp_all
 have e:ptV (.complex .f64 a b)=(x,y):=by unfold ptV;simp only[ha,hb]
 rw[e];exact ⟨a,b,rfl,ha,hb⟩
theorem zuo {a b:Nat} (h:((zaR a).isSome&&(zaR b).isSome)=false):ptV (.complex .f64 a b)=(0,0):=by
 unfold ptV
 cases ha:zaR a <;> cases hb:zaR b <;> simp_all
end Go.Mv
namespace Go.Proofs.YtgonhdeochgkoaaGreatDoor
open Go.RowKit Go.Mv
theorem zsL:Tryz.prog.underlying 79=some (.struct (Tryz.prog.fieldsOf 79)):=by kernel_rfl
theorem zt4:Tryz.prog.stoodInHeld 79=false:=by kernel_rfl
theorem zsK:Tryz.prog.eqGuardType Tryz.prog.depth 79=false:=by kernel_rfl
theorem zqT (a b:Ent) (W:World):(Op.equalIn 10000 79 (.agg #[.int .i64 a.t,.int .i64 a.k,.int .i64 a.v]) (.agg #[.int .i64 b.t,.int .i64 b.k,.int .i64 b.v])).run Tryz.prog W=.ok (decide (a=b)) W:=by
 have e:decide (a=b)=(a.t==b.t&&a.k==b.k&&a.v==b.v):=by
  rw[Po]
  cases a;cases b
  simp[and_assoc]
 rw[run_equalIn_struct W 9999 79 _ _ zsL zt4,e]
 cases h0:(a.t==b.t) <;> cases h1:(a.k==b.k) <;> cases h2:(a.v==b.v) <;> simp[go_sem,h0,h1,h2]
set_option maxRecDepth 100000 in
theorem zsh (va vb:Value) (a b:List Ent) (w:World) (ha:Es w va a) (hb:Es w vb b) :
  Calls Tryz.prog 66 #[va,vb] w fun e w'=>e=.returned (.bool (decide (a=b)))∧Below w.heap.size w w':=by
 obtain ⟨A,ca,rfl,h1,h2⟩:=xO ha;obtain ⟨B,cb,rfl,h3,h4⟩:=xO hb;have KA:=Pl ha;have KB:=Pl hb;unfold maxLen at KA KB
 by_cases hl:a.length=b.length
 case neg =>
  go_enter Tryz.func66,Tryz.ntmps66
  have Hk:((a.length:Int) != (b.length:Int))=true:=by simp;omega
  have Hn:=zhd hl;clear hl
  go_wp2
  go_ret
  refine ⟨ret_bool ?_,Pk _ _⟩
  simp;intro e;exact Hn.out (by rw[e])
 case pos =>
  have Hk:((a.length:Int) != (b.length:Int))=false:=by simp;omega
  have Hl:=zhd hl
  have KX:b.length≤a.length:=by omega
  have Kz:a.length≤b.length:=by omega
  clear hl
  go_enter Tryz.func66,Tryz.ntmps66
  go_wp2_with fail
  go_loopw [5] (fun i wr=>∃ k:Nat,k≤a.length∧i=.int .i64 k∧Hid (a.take k=b.take k)∧Below w.heap.size w wr) (fun i _=>a.length-(intOf i).toNat)
  case atStart=>exact ⟨0,Pc _,rfl,rfl,Pk _ _⟩
  case round =>
   obtain ⟨k,hk,rfl,Hb,hB⟩:=hrel
   by_cases H2:k<a.length
   ·obtain ⟨_,ba,KJ,rfl,HL⟩:=Es.at_ (ha.ext hB) (by omega)
    obtain ⟨_,bb,KK,rfl,HM⟩:=Es.at_ (hb.ext hB) (by omega);obtain ⟨KL,KM,KN⟩:=HL k H2;obtain ⟨KO,KP,Hm⟩:=HM k (by omega);clear HL HM
    have KT:(0:Int)≤(k:Int):=by omega
    have KU:(k:Int)<(a.length:Int):=by omega
    have KV:(k:Int)<(b.length:Int):=by omega
    have HN:=zqT a[k] b[k];have Kw:=zsK
    have Hu:∃ d,decide (a[k]=b[k])=d:=⟨_,rfl⟩
    obtain ⟨d,hd⟩:=Hu;have Hd:=zhd hd;rw[hd] at HN;clear hd;go_wp2_with fail
    go_quiet (fail)
    clear HN Kw
    cases d
    ·go_wp2_with fail
     go_ret
     refine ⟨ret_bool ?_,zmd hB _⟩
     have hd:=Hd.out
     symm
     simp only[decide_eq_false_iff_not] at hd ⊢
     intro e;subst e;exact hd rfl
    ·go_wp2_with fail
     go_roundw
     case rel =>
      have hd:a[k]=b[k]:=by simpa using Hd.out
      refine ⟨k+1,by omega,by go_num,?_,zmd hB _⟩
      show Pb (k+1) a=Pb (k+1) b
      rw[P2 H2,P2 (by omega),Hb.out,hd]
     case measure=>simp[intOf];omega
   ·go_wp2_with fail
    go_ret
    refine ⟨ret_bool ?_,hB⟩
    have:=Hb.out
    rw[P3 (by omega),P3 (by omega)] at this
    simpa using this
end Go.Proofs.YtgonhdeochgkoaaGreatDoor
