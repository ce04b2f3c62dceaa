/- Merged: Find Rd1 Rd2 HeldC St1 -/
import Derived.Test.YtgonhdeochgkoaaGreatDoorStoreReads14
import Derived.WalkLawsBesides
import Derived.Defers
import Derived.Recover
set_option linter.all false
set_option maxHeartbeats 8000000
set_option maxRecDepth 100000
namespace Go.Proofs.YtgonhdeochgkoaaGreatDoor
open Go.RowKit Go.Mv Go.Shelf
def zbo (fs:List Fil) (n:List UInt8):Int:=match fs.findIdx? (fun f=>f.1==n) with | none=>-1 | some i=>(i:Int)
def zcW (fs:List Fil) (r:Option (List UInt8)):Int:=match r with | none=>-1 | some n=>zbo fs n
theorem ziZ {fs:List Fil} {n:List UInt8} {k:Nat} (hk:k<fs.length) (h:fs[k].1=n) (hn:∀ j (_:j<k) (h2:j<fs.length),fs[j].1≠n):zbo fs n=k:=by
 have:fs.findIdx? (fun f=>f.1==n)=some k:=by
  rw[List.findIdx?_eq_some_iff_getElem]
  exact ⟨hk,by simpa using h,fun j hj=>by simpa using hn j hj (by omega)⟩
 unfold zbo
 rw[this]
theorem zgU {fs:List Fil} {n:List UInt8} (hn:∀ j (h2:j<fs.length),fs[j].1≠n):zbo fs n = -1:=by
 have:fs.findIdx? (fun f=>f.1==n)=none:=by
  rw[List.findIdx?_eq_none_iff]
  intro x hx
  obtain ⟨j,hj,rfl⟩:=List.mem_iff_getElem.1 hx
  simpa using hn j hj
 unfold zbo
 rw[this]
theorem zna (v:Value) (fs:List Fil) (k s f:Int) (w:World) (hS:StW w) (hF:Fs w v fs) (hl:fs.length≤4000000):Calls Tryz.prog 18 #[v,.agg #[.int .u8 k,.int .i64 s,.int .i64 f]] w fun e w'=>e=.returned (.int .i64 (zcW fs (zav k s f)))∧Ext w w':=by
 obtain ⟨A,c,rfl,h1,h2⟩:=Fs.open_ hF
 have hX:Ext w (w.alloc (.cells #[.int .u8 k,.int .i64 s,.int .i64 f] 49)):=Ext.alloc (Ext.refl _) _
 have key:=ziy k s f _ (hS.ext hX)
 obtain ⟨r,hr⟩:∃ r,zav k s f=r:=⟨_,rfl⟩
 rw[hr] at key ⊢
 have Key:=zhd key
 have HF:=zhd hF
 clear key hr hF hS
 cases r with
 | none =>
  go_enter Tryz.func18,Tryz.ntmps18
  go_wp2_with fail
  refine Key.out.mono ?_
  rintro e w1 ⟨rfl,hE1⟩
  dsimp only[Option.isSome]
  go_wp2_with fail
  go_loopw [7] (fun i wr=>i=.int .i64 0∧w1=wr) (fun _ _=>0)
  case atStart=>exact ⟨rfl,rfl⟩
  case round =>
   obtain ⟨rfl,rfl⟩:=hrel
   go_wp2_with fail
   all_goals go_ret
   all_goals exact ⟨rfl,Ext.trans hX hE1⟩
 | some n =>
  go_enter Tryz.func18,Tryz.ntmps18
  go_wp2_with fail
  refine Key.out.mono ?_
  rintro e w1 ⟨rfl,hE1⟩
  dsimp only[Option.isSome,Option.getD]
  have hE01:=Ext.trans hX hE1
  go_wp2_with fail
  go_loopw [7] (fun i wr=>∃ j:Nat,j≤fs.length∧i=.int .i64 j∧Hid (∀ q (_:q<j) (h2:q<fs.length),fs[q].1≠n)∧w1=wr) (fun i _=>fs.length-(intOf i).toNat)
  case atStart=>exact ⟨0,by omega,rfl,fun q hq=>by omega,rfl⟩
  case round =>
   obtain ⟨j,hj,rfl,Hn,rfl⟩:=hrel
   by_cases hlt:j<fs.length
   ·obtain ⟨_,b,off,rfl,hc⟩:=(HF.out.ext hE01).at_ (by omega)
    obtain ⟨hc0,_⟩:=hc j hlt
    have hp:fs[j].1=n→zcW fs (some n)=j:=fun h=>ziZ hlt h Hn.out
    have hq:fs[j].1≠n→∀ q (_:q<j+1) (h2:q<fs.length),fs[q].1≠n:=fun h q h3 h2=>by
     by_cases e:q=j
     ·subst e;exact h
     ·exact Hn.out q (by omega) h2
    have Hp:=zhd hp
    have Hq:=zhd hq
    clear hc hp hq
    generalize fs[j].1=x at *
    simp only[sv] at hc0 ⊢
    by_cases hx:x=n
    ·have hxe:(x==n)=true:=by simpa using hx
     have hfin:=zhd (Hp.out hx)
     go_wp2_with fail
     go_ret
     exact ⟨by rw[hfin.out];rfl,hE01⟩
    ·have hxe:(x==n)=false:=by simpa using hx
     have Hq2:=zhd (Hq.out hx)
     go_wp2_with fail
     go_roundw
     case rel=>exact ⟨j+1,by omega,by go_num,Hq2,trivial⟩
     case measure=>simp[intOf];omega
   ·obtain rfl:j=fs.length:=by omega
    have hfin:=zhd (show zcW fs (some n) = -1 from zgU fun q h2=>Hn.out q h2 h2)
    go_wp2_with fail
    go_ret
    exact ⟨by rw[hfin.out];rfl,hE01⟩
def nmP:Nat→List Fil→List (Nat×List UInt8)
 | _,[]=>[]
 | k,f::l=>(k,f.1)::nmP (k+1) l
theorem zlR {fs:List Fil} {k:Nat} (h:k<fs.length):nmP k (fs.drop k)=(k,fs[k].1)::nmP (k+1) (fs.drop (k+1)):=by
 rw[List.drop_eq_getElem_cons h];rfl
theorem znD (l:List Fil):∀ k,(nmP k l).length=l.length:=by
 induction l with
 | nil=>intro k;rfl
 | cons f l ih=>intro k;simp[nmP,ih]
theorem znC {fs:List Fil}:∀ (k j:Nat) (h:k+j<fs.length),(nmP k (fs.drop k))[j]?=some (k+j,fs[k+j].1):=by
 intro k j
 induction j generalizing k with
 | zero=>intro h;rw[zlR (by omega)];rfl
 | succ j ih =>
  intro h
  rw[zlR (by omega),List.getElem?_cons_succ,ih (k+1) (by omega)]
  simp only[Nat.add_assoc,Nat.add_comm 1 j]
theorem Hold.keptK {wo A B:World} {K:Nat→Obj→Prop} {n:Nat} (h:Hold wo A) (hK:∀ k o,k<wo.heap.size→o.isCells=true→K k o) (hk:Kept (zab K n) A B):Hold wo B:=fun q u hq =>
 hk.cell (h q u hq) fun o ho=>.inl (hK _ o (World.block_lt_of_cell? _ _ hq) (by
  obtain ⟨o',ho',hc⟩:=cells_of_cell (h q u hq)
  rw[ho] at ho'
  cases ho'
  exact hc))
attribute [local go_sem] Oper.semAt_some in
theorem zhw (K:Nat→Obj→Prop) (wo W0:World) (v:Value) (fs:List Fil) (hF:Fs wo v fs) (hlen:fs.length≤4000000) (hH:Hold wo W0) (B:Nat) (hB:Boxed W0 B 22 v) (hKB:∀ o:Obj,o.isCells=true→K B o) (hKw:∀ k o,k<wo.heap.size→o.isCells=true→K k o) :
  Seq Tryz.prog 152 #[.pointer (some ⟨B,0,none⟩)] (fun (x:Nat×List UInt8) av _=>av = #[.int .i64 x.1,sv x.2]) K (fun _ _=>False) (nmP 0 fs) W0:=by
 intro l J Jx hJ hJx hY h0
 obtain ⟨A,c,rfl,hb1,hb2⟩:=Fs.open_ hF
 refine (callsIn_wd (ro:=none) (n:=9)).1 ?_
 refine callsIn_of_wp Tryz.func152 rfl trivial ?_ rfl
 simp only[Tryz.ntmps152,List.size_toArray,List.length_cons,List.length_nil,Nat.reduceAdd,Nat.reduceSub,Array.replicate_succ,Array.replicate_zero,List.push_toArray,List.append_toArray,List.nil_append,List.cons_append]
 have Hes:=zhd hF
 clear hF
 obtain ⟨all,hall⟩:∃ all,nmP 0 fs=all:=⟨_,rfl⟩
 rw[hall] at hY ⊢
 have HA:=zhd hall
 have c1:=hB.cell
 clear hall
 gi_wp2
 clear c1
 gi_loopw [7] (fun j W=>∃ (k:Nat) (pre:List (Nat×List UInt8)),j=.int .i64 k∧k≤fs.length∧Hid (all=pre++nmP k (fs.drop k))∧Hid (J pre W)∧Hold wo W∧Boxed W B 22 (.slice A fs.length c)∧W0.heap.size≤W.heap.size) (fun j _=>fs.length+1-(intOf j).toNat)
 case atStart=>exact ⟨0,[],rfl,by omega,HA.out.symm,h0,hH,hB,Nat.le_refl _⟩
 case round =>
  obtain ⟨k,pre,rfl,hkl,HP,HJ,HH,bB,hsz⟩:=hrel
  by_cases hlt:k<fs.length
  ·obtain ⟨_,b,off,rfl,hc⟩:=(Hes.out.keep HH).at_ (by omega)
   obtain ⟨hc0,B2,d2,hc1,_⟩:=hc k hlt
   have hPP:=HP.out
   rw[zlR hlt] at hPP
   have HPP:=zhd hPP
   have Hno:=zhd hY
   clear hc hPP hY
   generalize fs[k].2.length=m2 at *
   generalize fs[k].1=x at *
   simp only[sv] at hc0
   have hX1:Ext wr (wr.alloc (.cells #[sv x,.slice B2 m2 d2] 51)):=Ext.alloc (Ext.refl _) _
   have hJ1:=hJ pre wr (wr.alloc (.cells #[sv x,.slice B2 m2 d2] 51)) HJ.out (Moves.refl.alloc _)
   have hsz1:=Nat.le_trans hsz hX1.size
   have hB1:Boxed (wr.alloc (.cells #[sv x,.slice B2 m2 d2] 51)) B 22 (.slice (some ⟨b,off,none⟩) fs.length c):=bB.kept (row:=none) (Ext.grown hX1 none) (by simp)
   have hH1:Hold wo (wr.alloc (.cells #[sv x,.slice B2 m2 d2] 51)):=fun q u hq=>Ext.cell hX1 (HH q u hq)
   have hy:=Hno.out pre (k,x) _ HPP.out _ #[.int .i64 (k:Int),sv x] hJ1 hsz1 rfl
   have Hy:=zhd hy
   have HH1:=zhd hH1
   have hbx:=Blk.new wr 51 #[sv x,.slice B2 m2 d2]
   have g0:=hbx.cell 0 rfl
   have g1:=hbx.cell 1 rfl
   clear hy hJ1 hH1 hX1 hbx
   simp only[sv] at *
   gi_wp2
   refine zaZ Hy.out ?_
   rintro e W' ⟨hk',⟨rfl,hj⟩ | ⟨rfl,hj⟩⟩
   ·refine ⟨true,rfl,?_⟩
    have d1:Boxed W' B 22 (.slice (some ⟨b,off,none⟩) fs.length c):=hk'.boxed hB1 (.inl (hKB _ rfl))
    have hs':W0.heap.size≤W'.heap.size:=Nat.le_trans hsz1 hk'.size
    have HH2:=zhd (Hold.keptK HH1.out hKw hk')
    have HJ3:=zhd hj
    have hsp:all=(pre++[(k,x)])++nmP (k+1) (fs.drop (k+1)):=by rw[List.append_assoc];exact HPP.out
    have Hsp:=zhd hsp
    clear hj hk' g0 g1 hsp Hy hc0 hc1
    gi_wp2
    exact ⟨⟨k+1,pre++[(k,x)],by go_num,by omega,Hsp.out,HJ3.out,HH2.out,d1,hs'⟩,by simp[intOf];omega⟩
   ·refine ⟨false,rfl,?_⟩
    have HJ3:=zhd hj
    clear hj hk' g0 g1 hc0 hc1
    gi_wp2
    refine bodyPost_ret (results_none rfl _ _ _) rfl ?_
    refine ⟨⟨_,rfl⟩,.inr ⟨pre++[(k,x)],?_,HJ3.out⟩⟩
    exact ⟨nmP (k+1) (fs.drop (k+1)),by rw[List.append_assoc];exact HPP.out.symm⟩
  ·obtain rfl:k=fs.length:=by omega
   have hPP:=HP.out
   rw[List.drop_length,show nmP fs.length ([]:List Fil)=[] from rfl,List.append_nil] at hPP
   subst hPP
   clear HP hY
   gi_wp2
   refine bodyPost_end (results_none rfl _ _ _) rfl ?_
   exact ⟨⟨_,rfl⟩,.inl HJ.out⟩
theorem zmF (wo W0:World) (v:Value) (fs:List Fil) (hF:Fs wo v fs) (hlen:fs.length≤4000000) (hH:Hold wo W0) (B bo:Nat) (hB:Boxed W0 B 22 v) (hBo:B≠bo) (h1:wo.heap.size≤bo) :
  Seq Tryz.prog 152 #[.pointer (some ⟨B,0,none⟩)] (fun (x:Nat×List UInt8) av _=>av = #[.int .i64 x.1,sv x.2]) (fun k o=>k≠bo∧o.isCells=true) (fun _ _=>False) (nmP 0 fs) W0 :=
 zhw (fun k o=>k≠bo∧o.isCells=true) wo W0 v fs hF hlen hH B hB (fun _ ho=>⟨hBo,ho⟩) (fun _ _ hk ho=>⟨by omega,ho⟩)
theorem zjk (A:Option Addr) (n c:Nat) (w:World):Calls Tryz.prog 117 #[.slice A n c] w fun e w'=>e=.returned (.func (.func 152) #[] #[.pointer (some ⟨w.heap.size,0,none⟩)])∧w.alloc (.cells #[.slice A n c] 22)=w':=by
 go_enter Tryz.func117,Tryz.ntmps117
 go_wp2
 go_ret
 exact ⟨rfl,rfl⟩
def FiI (w:World) (sb:Nat) (n:List UInt8) (pre:List (Nat×List UInt8)) (X:World):Prop:=(∀ x∈pre,x.2≠n)∧(∃ v,Boxed X (w.heap.size+1) 3 v)∧Boxed X sb 9 (.string ⟨n.toArray⟩)∧Ext w X
def FiX (w:World) (n:List UInt8) (cd:Code) (pre:List (Nat×List UInt8)) (X:World):Prop:=cd=Code.ret∧∃ (pre':List (Nat×List UInt8)) (k:Nat),pre=pre'++[(k,n)]∧(∀ x∈pre',x.2≠n)∧Boxed X (w.heap.size+1) 3 (.int .i64 (k:Int))∧Ext w X
theorem zjt (k s f:Int) (w:World):Boxed ((w.alloc (.cells #[.int .u8 k,.int .i64 s,.int .i64 f] 49)).alloc (.cells #[.int .i64 0] 3)) (w.heap.size+1) 3 (.int .i64 0):=by
 have:=Boxed.new (w.alloc (.cells #[.int .u8 k,.int .i64 s,.int .i64 f] 49)) 3 (.int .i64 0)
 rwa [World.size_alloc] at this
theorem ziR (tmps:Array Value) (W:World) (b:Nat) (u:Value) (h4:tmps.getD 4 undef=.pointer (some ⟨b,0,none⟩)) (hc:W.cell? ⟨b,0,none⟩=some u) (hu:∃ n,u=.int .i64 n):(results Tryz.f106 tmps).run Tryz.prog W=.ok u W:=by
 obtain ⟨n,rfl⟩:=hu
 have h4':tmps[4]?.getD undef=.pointer (some ⟨b,0,none⟩):=by simpa using h4
 simp[results,Tryz.results106,h4',hc,go_sem]
attribute [local go_sem] Oper.semAt_some in
theorem zo6 (v:Value) (fs:List Fil) (k s f:Int) (w:World) (hS:StW w) (hF:Fs w v fs) (hn:zav k s f=none):Calls Tryz.prog 106 #[v,.agg #[.int .u8 k,.int .i64 s,.int .i64 f]] w fun e w'=>e=.returned (.int .i64 (-1))∧Ext w w':=by
 obtain ⟨A,c,rfl,h1,h2⟩:=Fs.open_ hF
 have hX:Ext w ((w.alloc (.cells #[.int .u8 k,.int .i64 s,.int .i64 f] 49)).alloc (.cells #[.int .i64 0] 3)):=Ext.alloc (Ext.alloc (Ext.refl _) _) _
 have key:=zeg k s f _ (hS.ext hX)
 rw[hn] at key
 have key':Calls Tryz.prog 48 #[.agg #[.int .u8 k,.int .i64 s,.int .i64 f]] ((w.alloc (.cells #[.int .u8 k,.int .i64 s,.int .i64 f] 49)).alloc (.cells #[.int .i64 0] 3)) (fun e w'=>e=.returned (.tuple #[.string ⟨#[]⟩,.int .i64 2])∧Ext ((w.alloc (.cells #[.int .u8 k,.int .i64 s,.int .i64 f] 49)).alloc (.cells #[.int .i64 0] 3)) w'):=key
 have Key:=zhd key'
 have q0:=zjt k s f w
 clear key key' hF hS hn
 refine (callsIn_wd (ro:=none) (n:=9)).1 ?_
 refine callsIn_of_wp_marks Tryz.func106 rfl trivial ?_ rfl
 simp only[Tryz.ntmps106,List.size_toArray,List.length_cons,List.length_nil,Nat.reduceAdd,Nat.reduceSub,Array.replicate_succ,Array.replicate_zero,List.push_toArray,List.append_toArray,List.nil_append,List.cons_append]
 gi_wp2_with (refine ⟨trivial,?_⟩;gi_at_call 48;refine (callsIn_wd.2 Key.out).mono ?_;rintro e w1 ⟨rfl,hE1⟩;have q1:=(q0.kept (row:=none) (Ext.grown hE1 none) (by simp)).alloc (.cells #[.string ⟨#[]⟩] 9);have c1:=q1.cell;have f1:=q1.frozen)
 have q2:=q1.set (.int .i64 (-1))
 refine zcj (.int .i64 (-1)) (ziR _ _ _ _ rfl q2.cell ⟨_,rfl⟩) ?_
 exact ⟨rfl,Below.setCell (p:=⟨w.heap.size+1,0,none⟩) (Ext.alloc (Ext.trans hX hE1) _) (by show w.heap.size≤w.heap.size+1;omega) _⟩
attribute [local go_sem] Oper.semAt_some in
theorem zo7 (v:Value) (fs:List Fil) (k s f:Int) (w:World) (hS:StW w) (hF:Fs w v fs) (hl:fs.length≤4000000) (n:List UInt8) (hn:zav k s f=some n):Calls Tryz.prog 106 #[v,.agg #[.int .u8 k,.int .i64 s,.int .i64 f]] w fun e w'=>e=.returned (.int .i64 (zbo fs n))∧Ext w w':=by
 obtain ⟨A,c,rfl,h1,h2⟩:=Fs.open_ hF
 have hX:Ext w ((w.alloc (.cells #[.int .u8 k,.int .i64 s,.int .i64 f] 49)).alloc (.cells #[.int .i64 0] 3)):=Ext.alloc (Ext.alloc (Ext.refl _) _) _
 have key:=zeg k s f _ (hS.ext hX)
 rw[hn] at key
 have key':Calls Tryz.prog 48 #[.agg #[.int .u8 k,.int .i64 s,.int .i64 f]] ((w.alloc (.cells #[.int .u8 k,.int .i64 s,.int .i64 f] 49)).alloc (.cells #[.int .i64 0] 3)) (fun e w'=>e=.returned (.tuple #[.string ⟨n.toArray⟩,.int .i64 0])∧Ext ((w.alloc (.cells #[.int .u8 k,.int .i64 s,.int .i64 f] 49)).alloc (.cells #[.int .i64 0] 3)) w'):=key
 have Key:=zhd key'
 have q0:=zjt k s f w
 have HF:=zhd hF
 clear key key' hF hS hn
 refine (callsIn_wd (ro:=none) (n:=9)).1 ?_
 refine callsIn_of_wp_marks Tryz.func106 rfl trivial ?_ rfl
 simp only[Tryz.ntmps106,List.size_toArray,List.length_cons,List.length_nil,Nat.reduceAdd,Nat.reduceSub,Array.replicate_succ,Array.replicate_zero,List.push_toArray,List.append_toArray,List.nil_append,List.cons_append]
 gi_wp2_with (first
  | (refine ⟨trivial,?_⟩;gi_at_call 48;refine (callsIn_wd.2 Key.out).mono ?_;rintro e w1 ⟨rfl,hE1⟩;have q1:=(q0.kept (row:=none) (Ext.grown hE1 none) (by simp)).alloc (.cells #[.string ⟨n.toArray⟩] 9);have c1:=q1.cell;have f1:=q1.frozen)
  | (refine ⟨trivial,?_⟩;gi_at_call 117;refine (callsIn_wd.2 (zjk _ _ _ _)).mono ?_;rintro e w' ⟨rfl,rfl⟩))
 have hsz1:w.heap.size+2≤w1.heap.size:=by have:=hE1.size;simp at this;omega
 have q3:Boxed ((w1.alloc (.cells #[.string ⟨n.toArray⟩] 9)).alloc (.cells #[.slice A fs.length c] 22)) (w1.heap.size+1) 22 (.slice A fs.length c):=by
  have:=Boxed.new (w1.alloc (.cells #[.string ⟨n.toArray⟩] 9)) 22 (.slice A fs.length c)
  rwa [World.size_alloc] at this
 have hE3:Ext w ((w1.alloc (.cells #[.string ⟨n.toArray⟩] 9)).alloc (.cells #[.slice A fs.length c] 22)):=Ext.alloc (Ext.alloc (Ext.trans hX hE1) _) _
 have h0:FiI w w1.heap.size n [] ((w1.alloc (.cells #[.string ⟨n.toArray⟩] 9)).alloc (.cells #[.slice A fs.length c] 22)):=⟨fun x h=>(by cases h),⟨_,q1.alloc _⟩,(Boxed.new w1 _ _).alloc _,hE3⟩
 have hs3:w1.heap.size+2=((w1.alloc (.cells #[.string ⟨n.toArray⟩] 9)).alloc (.cells #[.slice A fs.length c] 22)).heap.size:=by simp
 generalize (w1.alloc (.cells #[.string ⟨n.toArray⟩] 9)).alloc (.cells #[.slice A fs.length c] 22)=w3 at *
 clear c1 f1 q1
 refine zbu (a:=⟨_,_⟩) rfl (enters_of Tryz.func152 (by kernel_rfl) rfl)
  (fun W1 hb hs=>zmF w W1 _ fs HF.out hl (fun q u hq=>Ext.cell (Ext.trans hE3 hb) hq) (w1.heap.size+1) (w.heap.size+1) (q3.kept (row:=none) (Ext.grown hb none) (by simp)) (by omega) (by omega))
  (fun k o h=>h.elim) (fun k o h=>h.2) (fun x av W h=>by rw[h];rfl)
  (FiI w w1.heap.size n) (FiX w n) ?hI ?hIx h0
  (fun x a' _=>a'=⟨#[.slice A fs.length c,.agg #[.int .u8 k,.int .i64 s,.int .i64 f],undef,.pointer (some ⟨w.heap.size,0,none⟩),.pointer (some ⟨w.heap.size+1,0,none⟩),.pointer (some ⟨w1.heap.size,0,none⟩),.int .i64 0,.int .i64 x.1,sv x.2,
    .tuple #[.string ⟨n.toArray⟩,.int .i64 0],.agg #[.int .u8 k,.int .i64 s,.int .i64 f],.tuple #[.string ⟨n.toArray⟩,.int .i64 0],.string ⟨n.toArray⟩,.int .i64 0,.int .i64 0,.bool false,.slice A fs.length c,
    .func (.func 152) #[] #[.pointer (some ⟨w1.heap.size+1,0,none⟩)],.int .i64 x.1,sv x.2,undef,undef,undef,undef],[]⟩)
  (fun _ _ _ _ h _=>h) ?assign ?body ?done ?stop
 case hI =>
  rintro s X Y ⟨hne,⟨v,hv⟩,hs,hE⟩ hm
  refine ⟨hne,⟨v,hm.boxed hv ?_⟩,hm.boxed hs ?_,hm.belowOf hE ?_ (Nat.le_trans (by omega) (Nat.le_refl _))⟩
  ·rintro (h | h)
   ·exact h
   ·cases h.2
  ·rintro (h | h)
   ·exact h
   ·cases h.2
  ·rintro k o hk (h | h)
   ·exact h
   ·have:=h.1;omega
 case hIx =>
  rintro cd s X Y ⟨rfl,pre',j,rfl,hne,hv,hE⟩ hm
  refine ⟨rfl,pre',j,rfl,hne,hm.boxed hv ?_,hm.belowOf hE ?_ (Nat.le_refl _)⟩
  ·rintro (h | h)
   ·exact h
   ·cases h.2
  ·rintro k o hk (h | h)
   ·exact h
   ·have:=h.1;omega
 case assign =>
  rintro l' pre x post W av K' hx hi hsz rfl hK
  gi_wp2
  exact hK _ _ Kept.refl hi rfl
 case body =>
  rintro l' pre ⟨j,x⟩ post a' W hx hl' hr ⟨hne,⟨v,hv⟩,hs,hE⟩ hsz rfl
  have hc:=hv.cell
  have hf:=hv.frozen
  have hcs:=hs.cell
  simp only[sv]
  by_cases he:x=n
  ·have heq:(x==n)=true:=by simpa using he
   have He:=zhd he
   clear he
   gi_wp2
   refine ⟨Kept.refl.setCell (fun o ho _=>?_) _,rfl,pre,j,by rw[He.out],hne,hv.set _,Below.setCell (p:=⟨w.heap.size+1,0,none⟩) hE (by show w.heap.size≤w.heap.size+1;omega) _⟩
   rw[show W.heap[w.heap.size+1]?=_ from hv] at ho;cases ho
   rintro (⟨h,_⟩ | ⟨_,h⟩)
   ·exact h rfl
   ·cases h
  ·have heq:(x==n)=false:=by simpa using he
   have He:=zhd he
   clear he
   gi_wp2
   refine ⟨Kept.refl,fun y hy=>?_,⟨v,hv⟩,hs,hE⟩
   rcases List.mem_append.1 hy with h | h
   ·exact hne y h
   ·rcases List.mem_singleton.1 h with rfl
    exact He.out
 case done =>
  rintro D W hD ⟨hne,⟨v,hv⟩,hs,hE⟩ hK
  have hc:=hv.cell
  have hf:=hv.frozen
  gi_wp2
  have hv2:=hv.set (.int .i64 (-1))
  have hK2:=zaw hK rfl ⟨w.heap.size+1,0,none⟩ (.int .i64 (-1))
  have hcd:=zbV hv2.cell hK2 rfl (.deferred none)
  refine za0 hK2 (.int .i64 (-1)) (ziR _ _ _ _ rfl hcd ⟨_,rfl⟩) ?_
  refine ⟨?_,zan (Below.setCell (p:=⟨w.heap.size+1,0,none⟩) hE (by show w.heap.size≤w.heap.size+1;omega) _) (by omega) _⟩
  rw[zgU]
  intro q hq he
  refine hne (q,fs[q].1) ?_ he
  have:=znC (fs:=fs) 0 q (by omega)
  simp only[Nat.zero_add,List.drop_zero] at this
  exact List.mem_of_getElem? this
 case stop =>
  rintro D cd pre W hD hpre ⟨rfl,pre',j,rfl,hne,hv,hE⟩ hK
  have hcd:=zbV hv.cell hK rfl (.deferred none)
  gi_wp2
  refine za0 hK (.int .i64 (j:Int)) (ziR _ _ _ _ rfl hcd ⟨_,rfl⟩) ?_
  refine ⟨?_,zan hE (by omega) _⟩
  obtain ⟨post,hpost⟩:=hpre
  have hall:∀ q,(hq:q<fs.length)→(nmP 0 fs)[q]?=some (q,fs[q].1):=fun q hq=>by
   have:=znC (fs:=fs) 0 q (by omega)
   simpa only[Nat.zero_add,List.drop_zero] using this
  have hlt:pre'.length<fs.length:=by
   have:=congrArg List.length hpost
   rw[znD] at this
   simp at this;omega
  have h9:=hall pre'.length hlt
  rw[←hpost,List.append_assoc,List.getElem?_append_right (Nat.le_refl _),Nat.sub_self] at h9
  have h8:(j,n)=(pre'.length,fs[pre'.length].1):=Option.some.inj h9
  injection h8 with h7 h6
  rw[h7,ziZ hlt h6.symm]
  intro q hq h2 he
  have h5:=hall q h2
  rw[←hpost,List.append_assoc,List.getElem?_append_left hq] at h5
  exact hne _ (List.mem_of_getElem? h5) he
theorem zq0 (v:Value) (fs:List Fil) (k s f:Int) (w:World) (hS:StW w) (hF:Fs w v fs) (hl:fs.length≤4000000):Calls Tryz.prog 106 #[v,.agg #[.int .u8 k,.int .i64 s,.int .i64 f]] w fun e w'=>e=.returned (.int .i64 (zcW fs (zav k s f)))∧Ext w w':=by
 cases hn:zav k s f with
 | none=>exact zo6 v fs k s f w hS hF hn
 | some n=>exact zo7 v fs k s f w hS hF hl n hn
open Go.RowKit Go.Mv
def zaF (fs:List Fil) (r:Option (List UInt8)):Option (List UInt8):=if zcW fs r<0 then none else (fs[(zcW fs r).toNat]?).map (·.2)
theorem zlB (fs:List Fil) (r:Option (List UInt8)) (h:¬ zcW fs r<0):∃ i:Nat,zcW fs r=(i:Int)∧i<fs.length:=by
 unfold zcW at h ⊢
 cases r with
 | none=>exact absurd (show ((-1:Int)<0) by decide) h
 | some n =>
  dsimp only at h ⊢
  unfold zbo at h ⊢
  cases hf:fs.findIdx? (fun f=>f.1==n) with
  | none=>rw[hf] at h;exact absurd (show ((-1:Int)<0) by decide) h
  | some i =>
   refine ⟨i,rfl,?_⟩
   rw[List.findIdx?_eq_some_iff_getElem] at hf
   exact hf.1
def zbB (n:Nat) (count:Int):Bool:=(decide (count = -1)&&(decide (n<1)||decide (4<n)))||(decide (count≠-1)&&decide ((n:Int)≠count))
def zay (fs:List Fil) (s:Sg4):Option (List Ent):=match zaF fs (zav 3 s.seq s.fmt) with
 | none=>none
 | some b=>if (zbW rT b s.fmt).err≠0 then none else if (zbW rT b s.fmt).first≠s.first then none else if zbB (zbW rT b s.fmt).log.length s.count=true then none else some (zbW rT b s.fmt).log
def ztq (w:World) (r:Option (List Ent)) (e:Ending) (w':World):Prop:=∃ v,e=.returned (.tuple #[v,.int .i64 (if r.isSome then 0 else 130)])∧OwnE w' w.heap.size v (r.getD [])∧Ext w w'
theorem zn6 {fs:List Fil} {r:Option (List UInt8)} {b:List UInt8} (h:zaF fs r=some b):∃ f∈fs,f.2=b:=by
 unfold zaF at h
 split at h
 ·cases h
 ·cases hg:fs[(zcW fs r).toNat]? with
  | none=>rw[hg] at h;cases h
  | some f =>
   rw[hg] at h
   obtain rfl:f.2=b:=by simpa using h
   obtain ⟨hi,rfl⟩:=List.getElem?_eq_some_iff.1 hg
   exact ⟨_,List.getElem_mem hi,rfl⟩
end Go.Proofs.YtgonhdeochgkoaaGreatDoor

namespace Go.Mv
open Go.RowKit
section
variable {n:Nat} {P:Program} {ops:Array Oper} {Q:Exit→Act→World→Prop} {md:Region.Mode} {S:World→Prop}
def NoH (Q:Exit→Act→World→Prop) (df:List Deferred) (Pn:List PanicEntry→World→Prop):Exit→Act→World→Prop
 | .normal,a,w=>Q .normal a w
 | .panic c,a,w=>a.defers=df∧Pn c w
 | _,_,_=>False
theorem zfa {df:List Deferred} {Pn:List PanicEntry→World→Prop} {a:Act} {w:World} (h:Q .normal a w):NoH Q df Pn .normal a w:=h
theorem zsk {df:List Deferred} {Pn:List PanicEntry→World→Prop} {i:Nat} {K:Act→World→Prop} {a:Act} {w:World} (h:wpOp P ops (NoH Q df Pn) i K a w):wpOpIn (Wd none) n P ops (NoH Q df Pn) i K a w:=by
 unfold wpOp at h
 unfold wpOpIn
 cases ho:ops[i]? with
 | none=>rw[ho] at h;exact h
 | some o =>
  rw[ho] at h
  dsimp only at h ⊢
  split
  ·rename_i hw
   rw[if_pos hw] at h
   rcases h with h | ⟨_,_,_,h⟩
   ·refine ⟨fun _ _=>trivial,?_⟩
    rw[show (Wd none).round=none from rfl,Oper.semAt_none]
    exact znL h
   ·exact h.elim
  ·rename_i hw
   rw[if_neg hw] at h
   exact ⟨fun _ _=>trivial,h⟩
theorem zkS {df:List Deferred} {Pn:List PanicEntry→World→Prop}:∀ (fuel:Nat) (listed:Array Bool) (a:Act) (w:World),wpAny P md ops (NoH Q df Pn) fuel listed a w→wpAnyIn (Wd none) n P md ops (NoH Q df Pn) fuel listed a w
 | 0,_,_,_,h=>h
 | fuel+1,listed,a,w,h=>⟨h.1,fun i hi=>wpOpIn_mono (fun a w=>zkS fuel _ a w) (zsk (h.2 i hi))⟩
theorem zc2 {id:Nat} {a:Act} {w:World} (df:List Deferred) (Pn:List PanicEntry→World→Prop) (hp:∀ c a w,a.defers=df→Pn c w→Q (.panic c) a w) (hm:P.follows .mixedOrders=true) (hS:S w.drew)
  (h:S w.drew→wpAnyH P .any ops (NoH Q df Pn) S ops.size (Array.replicate ops.size false) a w.drew):(Code.region id ops true).wpIn (Wd none) n P Q a w :=
 wpIn_mono (wpIn_region_any hm (zkS _ _ _ _ (wpAny_of_held _ _ _ _ (h hS)))) fun e a w h=>by
  cases e <;> first | exact h | exact hp _ _ _ h.1 h.2 | exact h.elim
end
end Go.Mv
namespace Go.Proofs.YtgonhdeochgkoaaGreatDoor
open Go.RowKit Go.Mv
abbrev HC (A B:World):Prop:=Kept (fun _ o=>o.isCells=true) A B
theorem HC.of_ext {A B:World} (h:Ext A B):HC A B:=⟨h.size,fun k _ hk _=>(h.block k (Array.getElem?_eq_some_iff.1 hk).1).trans hk⟩
theorem HC.keptG {w0 W W':World} {G:Nat→Prop} {n:Nat} (h:HC w0 W) (hk:Kept (zab (KG G) n) W W') (hG:∀ k,G k→w0.heap.size≤k):HC w0 W' :=
 ⟨Nat.le_trans h.size hk.size,fun k o h1 h2=>hk.same k o (h.same k o h1 h2) (.inl ⟨h2,fun hg=>by
   have:=hG k hg
   have:=(Array.getElem?_eq_some_iff.1 h1).1
   omega⟩)⟩
theorem HC.cell {A B:World} {p:Addr} {u:Value} (h:HC A B) (hc:A.cell? p=some u):B.cell? p=some u:=by
 obtain ⟨o,ho,hcells⟩:=cells_of_cell hc
 exact Kept.cell h hc (fun o' ho'=>by rw[ho] at ho';cases ho';exact hcells)
theorem Fs.hc {A B:World} {v:Value} {fs:List Fil} (h:Fs A v fs) (hk:HC A B):Fs B v fs:=by
 obtain ⟨vs,h1,h2⟩:=h
 refine ⟨vs,h1.keep fun _ _ hc=>hk.cell hc,fun i hi=>?_⟩
 obtain ⟨h3,u,h4,h5⟩:=h2 i hi
 exact ⟨h3,u,h4,SlR.keep h5 fun _ _ hc=>hk.cell hc⟩
theorem Sgs.hc {A B:World} {v:Value} {l:List Sg4} (h:Sgs A v l) (hk:HC A B):Sgs B v l:=h.keep fun _ _ hc=>hk.cell hc
theorem StW.hc {A B:World} (h:StW A) (hk:HC A B):StW B:=by
 refine ⟨fun i hi=>hk.cell (h.tab i hi),?_⟩
 have h:=h.pow
 unfold Lib.TabIs World.var? at *
 cases hg:(Tryz.prog).globalNamed "internal/strconv.uint64pow10" with
 | none=>simp[hg] at h
 | some g =>
  simp only[hg,Option.bind_some] at h ⊢
  cases ho:A.heap[g]? with
  | none=>simp[ho] at h
  | some o =>
   cases o with
   | cells cs t d=>rw[hk.same g _ ho rfl];simp only[ho] at h;exact h
   | _=>simp[ho] at h
theorem Blk.keptG {A B:World} {b n:Nat} {t:TypeId} {cs:Array Value} {G:Nat→Prop} (h:Blk A b t cs) (hk:Kept (zab (KG G) n) A B) (hG:¬ G b):Blk B b t cs:=hk.same b _ h (.inl ⟨rfl,hG⟩)
theorem OwnE.keptG {A B:World} {base n:Nat} {v:Value} {l:List Ent} {G:Nat→Prop} (h:OwnE A base v l) (hk:Kept (zab (KG G) n) A B) (hG:∀ q,v.ownBlock=some q→¬ G q):OwnE B base v l:=by
 refine ⟨h.1,?_⟩
 rcases h.2 with hn | ⟨g,cap,cur,e,hb,hgg,rest⟩
 ·exact .inl hn
 ·exact .inr ⟨g,cap,cur,e,hb,hk.same _ _ hgg (.inl ⟨rfl,hG g (by rw[e];rfl)⟩),rest⟩
theorem Moves.of_ext {M:Nat→Obj→Prop} {A B:World} (h:Ext A B):Moves M A B:=⟨h.os,h.tape,h.output,h.size,fun k _ hk _=>(h.block k (Array.getElem?_eq_some_iff.1 hk).1).trans hk⟩
theorem mcSt10 {P:Prop} (h:P:=by
 have heb:(r.err==0)=true:=by simpa using he
 have hfb:((r.first:Int)==s.first)=true:=by simpa using hf
 have He:=zhd he
 have Hf:=zhd hf
 clear he hf
 go_wp2_with fail
 with_reducible refine (zbH _ _).mono ?_
 rintro e6 w6 ⟨rfl,rfl⟩
 cases hcb:zbB r.log.length s.count with
 | true =>
  obtain rfl:none=R:=by rw[←HR.out,if_pos (by unfold zbJ;simp[hcb])]
  have hne:(((r.log.length:Nat):Int)==s.count)=false:=by
   unfold zbB at hcb
   simp only[Bool.or_eq_true,Bool.and_eq_true,decide_eq_true_eq] at hcb
   simp;omega
  by_cases c1:s.count = -1
  ·have c1b:(s.count == -1)=true:=by simpa using c1
   have hn14:r.log.length<1∨4<r.log.length:=by
    unfold zbB at hcb
    simp only[Bool.or_eq_true,Bool.and_eq_true,decide_eq_true_eq] at hcb
    omega
   clear c1
   by_cases n1:r.log.length<1
   ·have n1z:¬ ((1:Int)≤(r.log.length:Int)):=by omega
    clear n1 hn14
    go_wp2_with fail
    try rw[decide_eq_false (show ¬ ((r.log.length:Int)≤4) by omega)]
    with_reducible refine (zaP _ _).mono ?_
    rintro e6 w6 ⟨rfl,rfl⟩
    exact ⟨rfl,rfl,HE.out⟩
   ·have n1z:(1:Int)≤(r.log.length:Int):=by omega
    have n4z:¬ ((r.log.length:Int)≤4):=by omega
    clear n1 hn14
    go_wp2_with fail
    try rw[decide_eq_false (show ¬ ((r.log.length:Int)≤4) by omega)]
    with_reducible refine (zaP _ _).mono ?_
    rintro e6 w6 ⟨rfl,rfl⟩
    exact ⟨rfl,rfl,HE.out⟩
  ·have c1b:(s.count == -1)=false:=by simpa using c1
   clear c1
   go_wp2_with fail
   with_reducible refine (zaP _ _).mono ?_
   rintro e6 w6 ⟨rfl,rfl⟩
   exact ⟨rfl,rfl,HE.out⟩
 | false =>
  obtain rfl:some r.log=R:=by rw[←HR.out,if_neg (by unfold zbJ;simp[He.out,Hf.out,hcb])]
  by_cases ce:(r.log.length:Int)=s.count
  ·have hne:(((r.log.length:Nat):Int)==s.count)=true:=by simpa using ce
   clear ce
   go_wp2_with fail
   with_reducible refine (zbH _ _).mono ?_
   rintro e6 w6 ⟨rfl,rfl⟩
   go_wp2_with fail
   go_ret
   exact ⟨⟨_,rfl,HO.out⟩,HE.out⟩
  ·have hne:(((r.log.length:Nat):Int)==s.count)=false:=by simpa using ce
   have hh:s.count = -1∧1≤r.log.length∧r.log.length≤4:=by
    unfold zbB at hcb
    simp only[Bool.or_eq_false_iff,Bool.and_eq_false_iff,decide_eq_false_iff_not] at hcb
    omega
   have c1b:(s.count == -1)=true:=by simpa using hh.1
   have n1z:(1:Int)≤(r.log.length:Int):=by omega
   have n4z:(r.log.length:Int)≤4:=by omega
   clear hh ce
   go_wp2_with fail
   with_reducible refine (zbH _ _).mono ?_
   rintro e6 w6 ⟨rfl,rfl⟩
   go_wp2_with fail
   go_ret
   exact ⟨⟨_,rfl,HO.out⟩,HE.out⟩):P:=h
def pan (e:Int):Ending:=.panicked [{ v:=.iface 32 (.int .i64 e),recovered:=false }]
theorem zbH (e:Int) (w:World):Calls Tryz.prog 62 #[.bool true,.int .i64 e] w fun en w'=>en=.returned (.tuple #[])∧w=w':=by
 go_enter Tryz.func62,Tryz.ntmps62
 go_wp2
 go_end0
 exact ⟨rfl,rfl⟩
theorem zaP (e:Int) (w:World):Calls Tryz.prog 62 #[.bool false,.int .i64 e] w fun en w'=>en=pan e∧w=w':=by
 go_enter Tryz.func62,Tryz.ntmps62
 go_wp2
 exact ⟨rfl,rfl,rfl⟩
def zsC (w:World) (r:Option (List UInt8)) (e:Int) (en:Ending) (w':World):Prop:=(match r with
 | some b=>∃ v,en=.returned v∧Bs w' v b
 | none=>en=pan e)∧Ext w w'
theorem ze1 (v:Value) (fs:List Fil) (k s f e:Int) (w:World) (hS:StW w) (hF:Fs w v fs) (hl:fs.length≤4000000):Calls Tryz.prog 61 #[v,.agg #[.int .u8 k,.int .i64 s,.int .i64 f],.int .i64 e] w (zsC w (zaF fs (zav k s f)) e):=by
 obtain ⟨A,c,rfl,h1,h2⟩:=Fs.open_ hF
 have hX:Ext w (w.alloc (.cells #[.int .u8 k,.int .i64 s,.int .i64 f] 49)):=Ext.alloc (Ext.refl _) _
 have key:=zq0 _ fs k s f _ (hS.ext hX) (hF.ext hX) hl
 obtain ⟨r,hr⟩:∃ r,zav k s f=r:=⟨_,rfl⟩
 rw[hr] at key ⊢
 obtain ⟨m0,m1,m2⟩:=zc8 (Blk.new w 49 #[.int .u8 k,.int .i64 s,.int .i64 f])
 have Key:=zhd key
 have HF:=zhd (hF.ext hX)
 have HX:=zhd hX
 clear key hF hX hS hr
 obtain ⟨R,hR⟩:∃ R,zaF fs r=R:=⟨_,rfl⟩
 rw[hR]
 unfold zaF at hR
 have HR:=zhd hR
 clear hR
 by_cases hneg:zcW fs r<0
 ·obtain rfl:none=R:=by have:=HR.out;rwa [if_pos hneg] at this
  obtain ⟨x,hx⟩:∃ x,zcW fs r=x:=⟨_,rfl⟩
  rw[hx] at Key hneg
  go_enter Tryz.func61,Tryz.ntmps61
  go_wp2_with fail
  refine Key.out.mono ?_
  rintro e1 w1 ⟨rfl,hE1⟩
  have hx0:¬ (0≤x):=by omega
  have HE:=zhd (Ext.trans HX.out hE1)
  go_wp2_with fail
  rw[decide_eq_false (show ¬ (0≤x) by omega)]
  with_reducible refine (zaP _ _).mono ?_
  rintro e2 w2 ⟨rfl,rfl⟩
  exact ⟨rfl,rfl,HE.out⟩
 ·obtain ⟨i,hi,hil⟩:=zlB fs r hneg
  have hR2:=HR.out
  rw[if_neg hneg,hi] at hR2
  rw[show ((i:Int).toNat)=i from by omega,List.getElem?_eq_getElem hil] at hR2
  obtain rfl:some fs[i].2=R:=hR2
  rw[hi] at Key
  obtain ⟨y,hy⟩:∃ y,fs[i].2=y:=⟨_,rfl⟩
  rw[hy]
  have Hy:=zhd hy
  clear HR hneg hi hy
  go_enter Tryz.func61,Tryz.ntmps61
  go_wp2_with fail
  refine Key.out.mono ?_
  rintro e1 w1 ⟨rfl,hE1⟩
  have hE1:Ext _ w1:=hE1
  have HE:=zhd (Ext.trans HX.out hE1)
  have hx0:(0:Int)≤(i:Int):=by omega
  obtain ⟨_,b,off,rfl,hc⟩:=(HF.out.ext hE1).at_ (by omega)
  obtain ⟨hc0,B2,d2,hc1,hB2⟩:=hc i hil
  have hlz:(i:Int)<(fs.length:Int):=by omega
  rw[Hy.out] at hB2 hc1
  have HB:=zhd hB2
  clear hc hB2 hc0 hE1
  go_wp2_with fail
  with_reducible refine (zbH _ _).mono ?_
  rintro e2 w2 ⟨rfl,rfl⟩
  go_wp2_with fail
  go_ret
  exact ⟨⟨.slice B2 y.length d2,rfl,HB.out⟩,HE.out⟩
def zsq (w:World) (r:Option (List Ent)) (en:Ending) (w':World):Prop:=(match r with
 | some x=>∃ v,en=.returned v∧OwnE w' w.heap.size v x
 | none=>en=pan 130)∧Ext w w'
theorem zkV (v:Value) (fs:List Fil) (s:Sg4) (w:World) (hS:StW w) (hF:Fs w v fs) (hl:fs.length≤4000000) (hn:zaF fs (zav 3 s.seq s.fmt)=none) :
  Calls Tryz.prog 76 #[v,.agg #[.int .i64 s.seq,.int .i64 s.fmt,.int .i64 s.first,.int .i64 s.count]] w fun en w'=>en=pan 130∧Ext w w':=by
 obtain ⟨A,c,rfl,h1,h2⟩:=Fs.open_ hF
 have hX:Ext w (w.alloc (.cells #[.int .i64 s.seq,.int .i64 s.fmt,.int .i64 s.first,.int .i64 s.count] 74)):=Ext.alloc (Ext.refl _) _
 have hb0:=Blk.new w 74 #[.int .i64 s.seq,.int .i64 s.fmt,.int .i64 s.first,.int .i64 s.count]
 have key:=fun W (h:Ext w W)=>ze1 (.slice A fs.length c) fs 3 s.seq s.fmt 130 W (hS.ext h) (hF.ext h) hl
 rw[hn] at key
 have Key:=zhd key
 have HX:=zhd hX
 have Hb0:=zhd hb0
 obtain ⟨m0,m1,m2,m3⟩:=zat hb0
 clear hX hb0 key hF hS hn
 go_enter Tryz.func76,Tryz.ntmps76
 go_wp2_with fail
 refine wp_region_held_drew (S:=fun W=>W.cell? ⟨w.heap.size,0,none⟩=some (.int .i64 s.seq)∧W.cell? ⟨w.heap.size,1,none⟩=some (.int .i64 s.fmt)) (by kernel_rfl) ⟨m0,m1⟩ (fun _=>?_)
 clear m0 m1 m2 m3
 refine tkN 0 rfl ?_
 refine tkN 1 rfl ?_
 refine tkN 2 rfl ?_
 refine tkN 3 rfl ?_
 refine tkN 4 rfl ?_
 refine tkN 5 rfl ?_
 refine tkN 7 rfl ?_
 refine tkN 8 rfl ?_
 refine AllReadyH.two (i:=6) (j:=13) rfl rfl (by kernel_rfl) (by rfl) (by rfl) (fun K hK=>?_) (fun K hK=>?_)
 ·go_simp
  refine (Key.out _ (Ext.drew HX.out)).mono ?_
  rintro e w2 ⟨rfl,hE2⟩
  exact ⟨rfl,rfl,Ext.trans HX.out (Ext.trans (Ext.drew (Ext.refl _)) hE2)⟩
 ·go_simp
  have hX2:Ext w ((w.alloc (.cells #[.int .i64 s.seq,.int .i64 s.fmt,.int .i64 s.first,.int .i64 s.count] 74)).alloc (.cells #[.int .i64 0,.slice none 0 0,.int .i64 0] 121)).drew:=Ext.drew (Ext.alloc HX.out _)
  obtain ⟨m0,m1,m2,m3⟩:=zat (Hb0.out.ext (Ext.drew (Ext.alloc (Ext.refl _) (.cells #[.int .i64 0,.slice none 0 0,.int .i64 0] 121))))
  refine shK hK _ _ ⟨m0,m1⟩ (fun _=>?_)
  refine ar1 6 rfl (fun K hK=>?_)
  go_simp
  refine (Key.out _ hX2).mono ?_
  rintro e w2 ⟨rfl,hE2⟩
  exact ⟨rfl,rfl,Ext.trans hX2 hE2⟩
def zbJ (s:Sg4) (r:zfI):Bool:=decide (r.err≠0)||decide (r.first≠s.first)||zbB r.log.length s.count
theorem zis {fs:List Fil} {s:Sg4} {b:List UInt8} (h:zaF fs (zav 3 s.seq s.fmt)=some b):zay fs s=if zbJ s (zbW rT b s.fmt) then none else some (zbW rT b s.fmt).log:=by
 unfold zay zbJ
 rw[h]
 dsimp only
 by_cases h1:(zbW rT b s.fmt).err≠0
 ·simp[h1]
 ·by_cases h2:(zbW rT b s.fmt).first≠s.first
  ·simp[h1,h2]
  ·cases h3:zbB (zbW rT b s.fmt).log.length s.count <;> simp[h1,h2,h3]
theorem zkW (v:Value) (fs:List Fil) (s:Sg4) (b:List UInt8) (w:World) (hS:StW w) (hF:Fs w v fs) (hl:fs.length≤4000000) (hn:zaF fs (zav 3 s.seq s.fmt)=some b) (hbl:b.length≤2000000) :
  Calls Tryz.prog 76 #[v,.agg #[.int .i64 s.seq,.int .i64 s.fmt,.int .i64 s.first,.int .i64 s.count]] w (zsq w (zay fs s)):=by
 rw[zis hn]
 obtain ⟨A,c,rfl,h1,h2⟩:=Fs.open_ hF
 have hX:Ext w (w.alloc (.cells #[.int .i64 s.seq,.int .i64 s.fmt,.int .i64 s.first,.int .i64 s.count] 74)):=Ext.alloc (Ext.refl _) _
 have hb0:=Blk.new w 74 #[.int .i64 s.seq,.int .i64 s.fmt,.int .i64 s.first,.int .i64 s.count]
 have key:=fun W (h:Ext w W)=>ze1 (.slice A fs.length c) fs 3 s.seq s.fmt 130 W (hS.ext h) (hF.ext h) hl
 rw[hn] at key
 have key2:=fun W (u:Value) (h:Ext w W) (hB:Bs W u b)=>zpn (T:=rT) u b s.fmt W hB hbl (hS.ext h).tab
 obtain ⟨r,hr⟩:∃ r,zbW rT b s.fmt=r:=⟨_,rfl⟩
 rw[hr] at key2 ⊢
 have Key:=zhd key
 have Key2:=zhd key2
 have HX:=zhd hX
 have Hb0:=zhd hb0
 obtain ⟨m0,m1,m2,m3⟩:=zat hb0
 obtain ⟨R,hR⟩:∃ R,(if zbJ s r then none else some r.log)=R:=⟨_,rfl⟩
 rw[hR]
 have HR:=zhd hR
 clear hX hb0 key key2 hF hS hn hr hbl hR
 go_enter Tryz.func76,Tryz.ntmps76
 go_wp2_with fail
 refine wp_region_held_drew (S:=fun W=>W.cell? ⟨w.heap.size,0,none⟩=some (.int .i64 s.seq)∧W.cell? ⟨w.heap.size,1,none⟩=some (.int .i64 s.fmt)) (by kernel_rfl) ⟨m0,m1⟩ (fun _=>?_)
 clear m0 m1 m2 m3
 refine tkN 0 rfl ?_
 refine tkN 1 rfl ?_
 refine tkN 2 rfl ?_
 refine tkN 3 rfl ?_
 refine tkN 4 rfl ?_
 refine tkN 5 rfl ?_
 refine tkN 7 rfl ?_
 refine tkN 8 rfl ?_
 refine AllReadyH.two (i:=6) (j:=13) rfl rfl (by kernel_rfl) (by rfl) (by rfl) (fun K hK=>?_) (fun K hK=>?_)
 ·go_simp
  refine (Key.out _ (Ext.drew HX.out)).mono ?_
  rintro e w2 ⟨⟨v2,rfl,hB2⟩,hE2⟩
  have hE2:Ext (w.alloc (.cells #[.int .i64 s.seq,.int .i64 s.fmt,.int .i64 s.first,.int .i64 s.count] 74)) w2:=Ext.trans (Ext.drew (Ext.refl _)) hE2
  have E2:=Ext.trans HX.out hE2
  have hb2:=Hb0.out.ext hE2
  obtain ⟨m0,m1,m2,m3⟩:=zat hb2
  refine shK hK _ _ ⟨m0,m1⟩ (fun _=>?_)
  refine AllReadyH.two (i:=9) (j:=13) rfl rfl (by kernel_rfl) (by rfl) (by rfl) (fun K hK=>?_) (fun K hK=>?_)
  ·go_simp
   refine (Key2.out _ _ E2 hB2).mono ?_
   rintro e w3 ⟨v3,rfl,ho3,hE3⟩
   obtain ⟨A3,c3,rfl,_,_⟩:=SlR.open_ (SlR.of_own ho3)
   have hb3:=hb2.ext hE3
   have E3:=Ext.trans E2 hE3
   clear m0 m1 m2 m3
   obtain ⟨m0,m1,m2,m3⟩:=zat hb3
   refine shK hK _ _ ⟨m0,m1⟩ (fun _=>?_)
   refine tkN 10 rfl ?_
   refine tkN 11 rfl ?_
   refine tkN 12 rfl ?_
   refine ar1 13 rfl (fun K hK=>?_)
   go_simp
   have hE4:Ext w3 (w3.alloc (.cells #[.int .i64 0,.slice none 0 0,.int .i64 0] 121)):=Ext.alloc (Ext.refl _) _
   have hb4:=hb3.ext hE4
   have hz4:=Blk.new w3 121 #[.int .i64 0,.slice none 0 0,.int .i64 0]
   have E4:=Ext.trans E3 hE4
   have ho4:=zae ho3 hE4
   have hbs:w2.heap.size≤w3.heap.size:=hE3.size
   have hw2:w.heap.size≤w2.heap.size:=E2.size
   clear m0 m1 m2 m3
   obtain ⟨m0,m1,m2,m3⟩:=zat hb4
   refine shK hK _ _ ⟨m0,m1⟩ (fun _=>?_)
   obtain ⟨g0,g1,g2,f0,f1,f2⟩:=za4 hz4
   refine ar1 14 rfl (fun K hK=>?_)
   go_simp
   have HBz:Hid (Blk (w3.alloc (.cells #[.int .i64 r.first,.slice A3 r.log.length c3,.int .i64 r.used] 121)) w3.heap.size 121 #[.int .i64 r.first,.slice A3 r.log.length c3,.int .i64 r.used]):=zhd (Blk.new w3 _ _)
   have HBs:=zhd (hb3.ext (Ext.alloc (Ext.refl w3) (.cells #[.int .i64 r.first,.slice A3 r.log.length c3,.int .i64 r.used] 121)))
   have HE:=zhd (Ext.trans E3 (Ext.alloc (Ext.refl w3) (.cells #[.int .i64 r.first,.slice A3 r.log.length c3,.int .i64 r.used] 121)))
   have HO:Hid (OwnE _ w.heap.size _ r.log):=zhd (zah (zae ho3 (Ext.alloc (Ext.refl w3) (.cells #[.int .i64 r.first,.slice A3 r.log.length c3,.int .i64 r.used] 121))) hw2)
   clear m0 m1 m2 m3 g0 g1 g2 f0 f1 f2 hb4 hz4 E4 ho4 hE4
   obtain ⟨m0,m1,m2,m3⟩:=zat HBs.out
   refine shK hK _ _ ⟨m0,m1⟩ (fun _=>?_)
   refine tkN 15 rfl ?_
   refine wpAnyH_done (by kernel_rfl) ?_ _
   clear m0 m1 m2 m3
   obtain ⟨g0,g1,g2,_,_,_⟩:=za4 HBz.out
   obtain ⟨m0,m1,m2,m3⟩:=zat HBs.out
   by_cases he:r.err=0
   case neg =>
    have heb:(r.err==0)=false:=by simpa using he
    obtain rfl:none=R:=by rw[←HR.out,if_pos (by unfold zbJ;simp[he])]
    go_wp2_with fail
    with_reducible refine (zaP _ _).mono ?_
    rintro e6 w6 ⟨rfl,rfl⟩
    exact ⟨rfl,rfl,HE.out⟩
   by_cases hf:(r.first:Int)=s.first
   case neg =>
    have heb:(r.err==0)=true:=by simpa using he
    clear he
    have hfb:((r.first:Int)==s.first)=false:=by simpa using hf
    obtain rfl:none=R:=by rw[←HR.out,if_pos (by unfold zbJ;simp[hf])]
    go_wp2_with fail
    with_reducible refine (zaP _ _).mono ?_
    rintro e6 w6 ⟨rfl,rfl⟩
    exact ⟨rfl,rfl,HE.out⟩
   exact mcSt10
  ·go_simp
   have hX3:Ext w2 (w2.alloc (.cells #[.int .i64 0,.slice none 0 0,.int .i64 0] 121)):=Ext.alloc (Ext.refl _) _
   have hz3:=Blk.new w2 121 #[.int .i64 0,.slice none 0 0,.int .i64 0]
   have hb3:=hb2.ext hX3
   have E3:=Ext.trans E2 hX3
   have hw2:w.heap.size≤(w2.alloc (.cells #[.int .i64 0,.slice none 0 0,.int .i64 0] 121)).heap.size:=E3.size
   have hnz:w.heap.size≠w2.heap.size:=by have:=hb2.lt;omega
   have hbz:w.heap.size≤w2.heap.size:=E2.size
   obtain ⟨m0,m1,m2,m3⟩:=zat hb3
   refine shK hK _ _ ⟨m0,m1⟩ (fun _=>?_)
   clear m0 m1 m2 m3
   refine ar1 9 rfl (fun K hK=>?_)
   go_simp
   refine (Key2.out _ _ E3 (hB2.ext hX3)).mono ?_
   rintro e w3 ⟨v3,rfl,ho3,hE3⟩
   obtain ⟨A3,c3,rfl,_,_⟩:=SlR.open_ (SlR.of_own ho3)
   have hb4:=hb3.ext hE3
   have hz4:=hz3.ext hE3
   have E4:=Ext.trans E3 hE3
   obtain ⟨m0,m1,m2,m3⟩:=zat hb4
   refine shK hK _ _ ⟨m0,m1⟩ (fun _=>?_)
   clear m0 m1 m2 m3
   refine tkN 10 rfl ?_
   refine tkN 11 rfl ?_
   refine tkN 12 rfl ?_
   obtain ⟨g0,g1,g2,f0,f1,f2⟩:=za4 hz4
   refine ar1 14 rfl (fun K hK=>?_)
   go_simp
   show K _ (zc9 w3 w2.heap.size (.int .i64 r.first) (.slice A3 r.log.length c3) (.int .i64 r.used))
   have HBz:Hid (Blk (zc9 w3 w2.heap.size (.int .i64 r.first) (.slice A3 r.log.length c3) (.int .i64 r.used)) w2.heap.size 121 #[.int .i64 r.first,.slice A3 r.log.length c3,.int .i64 r.used]):=zhd (za5 hz4 _ _ _)
   have HBs:Hid (Blk (zc9 w3 w2.heap.size (.int .i64 r.first) (.slice A3 r.log.length c3) (.int .i64 r.used)) w.heap.size 74 _):=zhd (((hb4.other hnz 0 _).other hnz 1 _).other hnz 2 _)
   have HE:Hid (Ext w (zc9 w3 w2.heap.size (.int .i64 r.first) (.slice A3 r.log.length c3) (.int .i64 r.used))):=zhd (zcf E4 hbz _ _ _)
   have HO:Hid (OwnE (zc9 w3 w2.heap.size (.int .i64 r.first) (.slice A3 r.log.length c3) (.int .i64 r.used)) w.heap.size _ r.log):=zhd (zah (zdR hz4 (by decide) ho3 _ _ _) hw2)
   generalize zc9 w3 w2.heap.size (.int .i64 r.first) (.slice A3 r.log.length c3) (.int .i64 r.used)=w5 at *
   clear g0 g1 g2 f0 f1 f2
   obtain ⟨m0,m1,m2,m3⟩:=zat HBs.out
   refine shK hK _ _ ⟨m0,m1⟩ (fun _=>?_)
   refine tkN 15 rfl ?_
   refine wpAnyH_done (by kernel_rfl) ?_ _
   clear m0 m1 m2 m3
   obtain ⟨g0,g1,g2,_,_,_⟩:=za4 HBz.out
   obtain ⟨m0,m1,m2,m3⟩:=zat HBs.out
   by_cases he:r.err=0
   case neg =>
    have heb:(r.err==0)=false:=by simpa using he
    obtain rfl:none=R:=by rw[←HR.out,if_pos (by unfold zbJ;simp[he])]
    go_wp2_with fail
    with_reducible refine (zaP _ _).mono ?_
    rintro e6 w6 ⟨rfl,rfl⟩
    exact ⟨rfl,rfl,HE.out⟩
   by_cases hf:(r.first:Int)=s.first
   case neg =>
    have heb:(r.err==0)=true:=by simpa using he
    clear he
    have hfb:((r.first:Int)==s.first)=false:=by simpa using hf
    obtain rfl:none=R:=by rw[←HR.out,if_pos (by unfold zbJ;simp[hf])]
    go_wp2_with fail
    with_reducible refine (zaP _ _).mono ?_
    rintro e6 w6 ⟨rfl,rfl⟩
    exact ⟨rfl,rfl,HE.out⟩
   exact mcSt10
 ·go_simp
  have hX1:Ext (w.alloc (.cells #[.int .i64 s.seq,.int .i64 s.fmt,.int .i64 s.first,.int .i64 s.count] 74)) ((w.alloc (.cells #[.int .i64 s.seq,.int .i64 s.fmt,.int .i64 s.first,.int .i64 s.count] 74)).alloc (.cells #[.int .i64 0,.slice none 0 0,.int .i64 0] 121)).drew:=Ext.drew (Ext.alloc (Ext.refl _) _)
  have hz1:=(Blk.new (w.alloc (.cells #[.int .i64 s.seq,.int .i64 s.fmt,.int .i64 s.first,.int .i64 s.count] 74)) 121 #[.int .i64 0,.slice none 0 0,.int .i64 0]).ext (Ext.drew (Ext.refl _))
  rw[World.size_alloc] at hz1
  have hb1:=Hb0.out.ext hX1
  have E1:=Ext.trans HX.out hX1
  have hnz:w.heap.size≠w.heap.size+1:=by omega
  have hbz:w.heap.size≤w.heap.size+1:=by omega
  obtain ⟨m0,m1,m2,m3⟩:=zat hb1
  refine shK hK _ _ ⟨m0,m1⟩ (fun _=>?_)
  clear m0 m1 m2 m3
  refine ar1 6 rfl (fun K hK=>?_)
  go_simp
  refine (Key.out _ E1).mono ?_
  rintro e w2 ⟨⟨v2,rfl,hB2⟩,hE2⟩
  have hb2:=hb1.ext hE2
  have hz2:=hz1.ext hE2
  have E2:=Ext.trans E1 hE2
  have hw2:w.heap.size≤w2.heap.size:=E2.size
  obtain ⟨m0,m1,m2,m3⟩:=zat hb2
  refine shK hK _ _ ⟨m0,m1⟩ (fun _=>?_)
  clear m0 m1 m2 m3
  refine ar1 9 rfl (fun K hK=>?_)
  go_simp
  refine (Key2.out _ _ E2 hB2).mono ?_
  rintro e w3 ⟨v3,rfl,ho3,hE3⟩
  obtain ⟨A3,c3,rfl,_,_⟩:=SlR.open_ (SlR.of_own ho3)
  have hb4:=hb2.ext hE3
  have hz4:=hz2.ext hE3
  have E4:=Ext.trans E2 hE3
  obtain ⟨m0,m1,m2,m3⟩:=zat hb4
  refine shK hK _ _ ⟨m0,m1⟩ (fun _=>?_)
  clear m0 m1 m2 m3
  refine tkN 10 rfl ?_
  refine tkN 11 rfl ?_
  refine tkN 12 rfl ?_
  obtain ⟨g0,g1,g2,f0,f1,f2⟩:=za4 hz4
  refine ar1 14 rfl (fun K hK=>?_)
  go_simp
  show K _ (zc9 w3 (w.heap.size+1) (.int .i64 r.first) (.slice A3 r.log.length c3) (.int .i64 r.used))
  have HBz:Hid (Blk (zc9 w3 (w.heap.size+1) (.int .i64 r.first) (.slice A3 r.log.length c3) (.int .i64 r.used)) (w.heap.size+1) 121 #[.int .i64 r.first,.slice A3 r.log.length c3,.int .i64 r.used]):=zhd (za5 hz4 _ _ _)
  have HBs:Hid (Blk (zc9 w3 (w.heap.size+1) (.int .i64 r.first) (.slice A3 r.log.length c3) (.int .i64 r.used)) w.heap.size 74 _):=zhd (((hb4.other hnz 0 _).other hnz 1 _).other hnz 2 _)
  have HE:Hid (Ext w (zc9 w3 (w.heap.size+1) (.int .i64 r.first) (.slice A3 r.log.length c3) (.int .i64 r.used))):=zhd (zcf E4 hbz _ _ _)
  have HO:Hid (OwnE (zc9 w3 (w.heap.size+1) (.int .i64 r.first) (.slice A3 r.log.length c3) (.int .i64 r.used)) w.heap.size _ r.log):=zhd (zah (zdR hz4 (by decide) ho3 _ _ _) hw2)
  generalize zc9 w3 (w.heap.size+1) (.int .i64 r.first) (.slice A3 r.log.length c3) (.int .i64 r.used)=w5 at *
  clear g0 g1 g2 f0 f1 f2
  obtain ⟨m0,m1,m2,m3⟩:=zat HBs.out
  refine shK hK _ _ ⟨m0,m1⟩ (fun _=>?_)
  refine tkN 15 rfl ?_
  refine wpAnyH_done (by kernel_rfl) ?_ _
  clear m0 m1 m2 m3
  obtain ⟨g0,g1,g2,_,_,_⟩:=za4 HBz.out
  obtain ⟨m0,m1,m2,m3⟩:=zat HBs.out
  by_cases he:r.err=0
  case neg =>
   have heb:(r.err==0)=false:=by simpa using he
   obtain rfl:none=R:=by rw[←HR.out,if_pos (by unfold zbJ;simp[he])]
   go_wp2_with fail
   with_reducible refine (zaP _ _).mono ?_
   rintro e6 w6 ⟨rfl,rfl⟩
   exact ⟨rfl,rfl,HE.out⟩
  by_cases hf:(r.first:Int)=s.first
  case neg =>
   have heb:(r.err==0)=true:=by simpa using he
   have hfb:((r.first:Int)==s.first)=false:=by simpa using hf
   obtain rfl:none=R:=by rw[←HR.out,if_pos (by unfold zbJ;simp[hf])]
   go_wp2_with fail
   with_reducible refine (zaP _ _).mono ?_
   rintro e6 w6 ⟨rfl,rfl⟩
   exact ⟨rfl,rfl,HE.out⟩
  exact mcSt10
end Go.Proofs.YtgonhdeochgkoaaGreatDoor
