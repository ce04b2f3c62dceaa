/- Merged -/
import Derived.Test.YtgonhdeochgkoaaGreatDoorZx12
import Derived.Test.YtgonhdeochgkoaaGreatDoorZx15
import Derived.Test.YtgonhdeochgkoaaGreatDoorZx16
set_option linter.all false
set_option maxHeartbeats 8000000
set_option maxRecDepth 100000
open List renaming append_assoc→P0,getElem_cons_zero→P1,take_succ_cons→P2,append_toArray→P3,findIdx?_eq_some_iff_getElem→P4,size_toArray→P5,push_toArray→P6,cons_append→P7,length_nil→P8,take_zero→P9,getElem?_eq_some_iff→Pa,getElem?_cons_succ→Pb,getElem_cons_succ→Pc,mem_of_getElem?→Pd,getElem_mem→Pe,foldl_cons→Pf,drop_zero→Pg
open Array renaming getElem?_eq_some_iff→Ph,replicate_zero→Pi,replicate_succ→Pj
open Nat renaming le_trans→Pk,reduceSub→Pl,reduceAdd→Pm,zero_add→Po
open Go.Oper renaming semAt_some→Pp
namespace Go.Proofs.YtgonhdeochgkoaaGreatDoor
open Go.RowKit Go.Mv Go.Shelf
def zbz (fs:List Fil) (n:List UInt8):Int:=match fs.findIdx? (fun f=>f.1==n) with | none=>-1 | some i=>(i:Int)
def zb4 (fs:List Fil) (r:Option (List UInt8)):Int:=match r with | none=>-1 | some n=>zbz fs n
theorem zjI {fs:List Fil} {n:List UInt8} {k:Nat} (hk:k<fs.length) (h:fs[k].1=n) (hn:∀ j (_:j<k) (h2:j<fs.length),fs[j].1≠n):zbz fs n=k:=by
 have:fs.findIdx? (fun f=>f.1==n)=some k:=by
  rw[P4]
  exact ⟨hk,by simpa using h,fun j hj=>by simpa using hn j hj (by omega)⟩
 unfold zbz;rw[this]
theorem zhn {fs:List Fil} {n:List UInt8} (hn:∀ j (h2:j<fs.length),fs[j].1≠n):zbz fs n = -1:=by
 have:fs.findIdx? (fun f=>f.1==n)=none:=by
  rw[List.findIdx?_eq_none_iff];intro x hx;obtain ⟨j,hj,rfl⟩:=List.mem_iff_getElem.1 hx
  simpa using hn j hj
 unfold zbz;rw[this]
theorem zdZ (v:Value) (fs:List Fil) (k s f:Int) (w:World) (hS:StW w) (hF:Fs w v fs) (hl:fs.length≤4000000):Calls Tryz.prog 18 #[v,.agg #[.int .u8 k,.int .i64 s,.int .i64 f]] w fun e w'=>e=.returned (.int .i64 (zb4 fs (zas k s f)))∧Ext w w':=by
 obtain ⟨A,c,rfl,h1,h2⟩:=Fs.open_ hF
 have hX:Ext w (w.alloc (.cells #[.int .u8 k,.int .i64 s,.int .i64 f] 49)):=xA (xR _) _
 have key:=zof k s f _ (hS.ext hX);obtain ⟨r,hr⟩:∃ r,zas k s f=r:=⟨_,rfl⟩
 rw[hr] at key ⊢
 have Hd:=zhd key;have HF:=zhd hF;clear key hr hF hS
 cases r with
 | none =>
  go_enter Tryz.func18,Tryz.ntmps18
  go_wp2_with fail
  refine Hd.out.mono ?_
  rintro e w1 ⟨rfl,H6⟩
  dsimp only[Option.isSome]
  go_wp2_with fail
  go_loopw [7] (fun i wr=>i=.int .i64 0∧w1=wr) (fun _ _=>0)
  case atStart=>exact ⟨rfl,rfl⟩
  case round =>
   obtain ⟨rfl,rfl⟩:=hrel;go_wp2_with fail
   all_goals go_ret
   all_goals exact ⟨rfl,xT hX H6⟩
 | some n =>
  go_enter Tryz.func18,Tryz.ntmps18
  go_wp2_with fail
  refine Hd.out.mono ?_
  rintro e w1 ⟨rfl,H6⟩
  dsimp only[Option.isSome,Option.getD]
  have H9:=xT hX H6;go_wp2_with fail
  go_loopw [7] (fun i wr=>∃ j:Nat,j≤fs.length∧i=.int .i64 j∧Hid (∀ q (_:q<j) (h2:q<fs.length),fs[q].1≠n)∧w1=wr) (fun i _=>fs.length-(intOf i).toNat)
  case atStart=>exact ⟨0,by omega,rfl,fun q hq=>by omega,rfl⟩
  case round =>
   obtain ⟨j,hj,rfl,Hn,rfl⟩:=hrel
   by_cases H8:j<fs.length
   ·obtain ⟨_,b,Hu,rfl,hc⟩:=(HF.out.ext H9).at_ (by omega)
    obtain ⟨Hg,_⟩:=hc j H8
    have hp:fs[j].1=n→zb4 fs (some n)=j:=fun h=>zjI H8 h Hn.out
    have hq:fs[j].1≠n→∀ q (_:q<j+1) (h2:q<fs.length),fs[q].1≠n:=fun h q h3 h2=>by
     by_cases e:q=j
     ·subst e;exact h
     ·exact Hn.out q (by omega) h2
    have Hp:=zhd hp;have Hq:=zhd hq;clear hc hp hq
    generalize fs[j].1=x at *
    simp only[sv] at Hg ⊢
    by_cases hx:x=n
    ·have HW:(x==n)=true:=by simpa using hx
     have Hb:=zhd (Hp.out hx);go_wp2_with fail;go_ret
     exact ⟨by rw[Hb.out];rfl,H9⟩
    ·have HW:(x==n)=false:=by simpa using hx
     have HL:=zhd (Hq.out hx);go_wp2_with fail
     go_roundw
     case rel=>exact ⟨j+1,by omega,by go_num,HL,trivial⟩
     case measure=>simp[intOf];omega
   ·obtain rfl:j=fs.length:=by omega
    have Hb:=zhd (show zb4 fs (some n) = -1 from zhn fun q h2=>Hn.out q h2 h2)
    go_wp2_with fail;go_ret
    exact ⟨by rw[Hb.out];rfl,H9⟩
def nmP:Nat→List Fil→List (Nat×List UInt8)
 | _,[]=>[]
 | k,f::l=>(k,f.1)::nmP (k+1) l
theorem zmF {fs:List Fil} {k:Nat} (h:k<fs.length):nmP k (fs.drop k)=(k,fs[k].1)::nmP (k+1) (fs.drop (k+1)):=by
 rw[List.drop_eq_getElem_cons h];rfl
theorem zoJ (l:List Fil):∀ k,(nmP k l).length=l.length:=by
 induction l with
 | nil=>intro k;rfl
 | cons f l ih=>intro k;simp[nmP,ih]
theorem zoI {fs:List Fil}:∀ (k j:Nat) (h:k+j<fs.length),(nmP k (fs.drop k))[j]?=some (k+j,fs[k+j].1):=by
 intro k j
 induction j generalizing k with
 | zero=>intro h;rw[zmF (by omega)];rfl
 | succ j ih =>
  intro h;rw[zmF (by omega),Pb,ih (k+1) (by omega)];simp only[Nat.add_assoc,Nat.add_comm 1 j]
theorem Hold.keptK {wo A B:World} {K:Nat→Obj→Prop} {n:Nat} (h:Hold wo A) (hK:∀ k o,k<wo.heap.size→o.isCells=true→K k o) (hk:Kept (zad K n) A B):Hold wo B:=fun q u hq =>
 hk.cell (h q u hq) fun o ho=>.inl (hK _ o (World.block_lt_of_cell? _ _ hq) (by
  obtain ⟨o',Hj,hc⟩:=cells_of_cell (h q u hq);rw[ho] at Hj
  cases Hj
  exact hc))
attribute [local go_sem] Pp in
theorem zh0 (K:Nat→Obj→Prop) (wo W0:World) (v:Value) (fs:List Fil) (hF:Fs wo v fs) (Hi:fs.length≤4000000) (hH:Hold wo W0) (B:Nat) (hB:Boxed W0 B 22 v) (HR:∀ o:Obj,o.isCells=true→K B o) (HS:∀ k o,k<wo.heap.size→o.isCells=true→K k o) :
  Seq Tryz.prog 152 #[.pointer (some ⟨B,0,none⟩)] (fun (x:Nat×List UInt8) av _=>av = #[.int .i64 x.1,sv x.2]) K (fun _ _=>False) (nmP 0 fs) W0:=by
 intro l J Jx hJ HX hY h0;obtain ⟨A,c,rfl,HY,HZ⟩:=Fs.open_ hF
 refine (callsIn_wd (ro:=none) (n:=9)).1 ?_
 refine callsIn_of_wp Tryz.func152 rfl trivial ?_ rfl
 simp only[Tryz.ntmps152,P5,xC,P8,Pm,Pl,Pj,Pi,P6,P3,xI,P7];have HI:=zhd hF;clear hF;obtain ⟨all,H2⟩:∃ all,nmP 0 fs=all:=⟨_,rfl⟩
 rw[H2] at hY ⊢
 have HA:=zhd H2;have c1:=hB.cell;clear H2
 gi_wp2
 clear c1
 gi_loopw [7] (fun j W=>∃ (k:Nat) (H1:List (Nat×List UInt8)),j=.int .i64 k∧k≤fs.length∧Hid (all=H1++nmP k (fs.drop k))∧Hid (J H1 W)∧Hold wo W∧Boxed W B 22 (.slice A fs.length c)∧W0.heap.size≤W.heap.size) (fun j _=>fs.length+1-(intOf j).toNat)
 case atStart=>exact ⟨0,[],rfl,by omega,HA.out.symm,h0,hH,hB,xN _⟩
 case round =>
  obtain ⟨k,H1,rfl,K1,HP,HJ,HH,bB,Ht⟩:=hrel
  by_cases H8:k<fs.length
  ·obtain ⟨_,b,Hu,rfl,hc⟩:=(HI.out.keep HH).at_ (by omega)
   obtain ⟨Hg,B2,d2,HB,_⟩:=hc k H8;have Hf:=HP.out;rw[zmF H8] at Hf;have Hm:=zhd Hf;have HK:=zhd hY;clear hc Hf hY
   generalize fs[k].2.length=m2 at *
   generalize fs[k].1=x at *
   simp only[sv] at Hg
   have Hk:Ext wr (wr.alloc (.cells #[sv x,.slice B2 m2 d2] 51)):=xA (xR _) _
   have Hx:=hJ H1 wr (wr.alloc (.cells #[sv x,.slice B2 m2 d2] 51)) HJ.out (Moves.refl.alloc _);have Hc:=Pk Ht Hk.size
   have HO:Boxed (wr.alloc (.cells #[sv x,.slice B2 m2 d2] 51)) B 22 (.slice (some ⟨b,Hu,none⟩) fs.length c):=bB.kept (row:=none) (Ext.grown Hk none) (by simp)
   have Hw:Hold wo (wr.alloc (.cells #[sv x,.slice B2 m2 d2] 51)):=fun q u hq=>Ext.cell Hk (HH q u hq)
   have hy:=HK.out H1 (k,x) _ Hm.out _ #[.int .i64 (k:Int),sv x] Hx Hc rfl;have Hy:=zhd hy;have HE:=zhd Hw;have Ho:=Blk.new wr 51 #[sv x,.slice B2 m2 d2];have g0:=Ho.cell 0 rfl;have g1:=Ho.cell 1 rfl;clear hy Hx Hw Hk Ho
   simp only[sv] at *
   gi_wp2
   refine zbb Hy.out ?_
   rintro e W' ⟨Hh,⟨rfl,hj⟩ | ⟨rfl,hj⟩⟩
   ·refine ⟨true,rfl,?_⟩
    have d1:Boxed W' B 22 (.slice (some ⟨b,Hu,none⟩) fs.length c):=Hh.boxed HO (.inl (HR _ rfl))
    have HU:W0.heap.size≤W'.heap.size:=Pk Hc Hh.size
    have HG:=zhd (Hold.keptK HE.out HS Hh);have Hl:=zhd hj
    have HD:all=(H1++[(k,x)])++nmP (k+1) (fs.drop (k+1)):=by rw[P0];exact Hm.out
    have HM:=zhd HD;clear hj Hh g0 g1 HD Hy Hg HB
    gi_wp2
    exact ⟨⟨k+1,H1++[(k,x)],by go_num,by omega,HM.out,Hl.out,HG.out,d1,HU⟩,by simp[intOf];omega⟩
   ·refine ⟨false,rfl,?_⟩
    have Hl:=zhd hj;clear hj Hh g0 g1 Hg HB
    gi_wp2
    refine bodyPost_ret (results_none rfl _ _ _) rfl ?_
    refine ⟨⟨_,rfl⟩,.inr ⟨H1++[(k,x)],?_,Hl.out⟩⟩
    exact ⟨nmP (k+1) (fs.drop (k+1)),by rw[P0];exact Hm.out.symm⟩
  ·obtain rfl:k=fs.length:=by omega
   have Hf:=HP.out
   rw[List.drop_length,show nmP fs.length ([]:List Fil)=[] from rfl,List.append_nil] at Hf
   subst Hf;clear HP hY
   gi_wp2
   refine bodyPost_end (results_none rfl _ _ _) rfl ?_
   exact ⟨⟨_,rfl⟩,.inl HJ.out⟩
theorem znA (wo W0:World) (v:Value) (fs:List Fil) (hF:Fs wo v fs) (Hi:fs.length≤4000000) (hH:Hold wo W0) (B bo:Nat) (hB:Boxed W0 B 22 v) (HQ:B≠bo) (h1:wo.heap.size≤bo) :
  Seq Tryz.prog 152 #[.pointer (some ⟨B,0,none⟩)] (fun (x:Nat×List UInt8) av _=>av = #[.int .i64 x.1,sv x.2]) (fun k o=>k≠bo∧o.isCells=true) (fun _ _=>False) (nmP 0 fs) W0 :=
 zh0 (fun k o=>k≠bo∧o.isCells=true) wo W0 v fs hF Hi hH B hB (fun _ ho=>⟨HQ,ho⟩) (fun _ _ hk ho=>⟨by omega,ho⟩)
theorem zj5 (A:Option Addr) (n c:Nat) (w:World):Calls Tryz.prog 117 #[.slice A n c] w fun e w'=>e=.returned (.func (.func 152) #[] #[.pointer (some ⟨w.heap.size,0,none⟩)])∧w.alloc (.cells #[.slice A n c] 22)=w':=by
 go_enter Tryz.func117,Tryz.ntmps117
 go_wp2
 go_ret
 exact ⟨rfl,rfl⟩
def FiI (w:World) (sb:Nat) (n:List UInt8) (H1:List (Nat×List UInt8)) (X:World):Prop:=(∀ x∈H1,x.2≠n)∧(∃ v,Boxed X (w.heap.size+1) 3 v)∧Boxed X sb 9 (.string ⟨n.toArray⟩)∧Ext w X
def FiX (w:World) (n:List UInt8) (cd:Code) (H1:List (Nat×List UInt8)) (X:World):Prop:=cd=Code.ret∧∃ (H0:List (Nat×List UInt8)) (k:Nat),H1=H0++[(k,n)]∧(∀ x∈H0,x.2≠n)∧Boxed X (w.heap.size+1) 3 (.int .i64 (k:Int))∧Ext w X
theorem zke (k s f:Int) (w:World):Boxed ((w.alloc (.cells #[.int .u8 k,.int .i64 s,.int .i64 f] 49)).alloc (.cells #[.int .i64 0] 3)) (w.heap.size+1) 3 (.int .i64 0):=by
 have:=Boxed.new (w.alloc (.cells #[.int .u8 k,.int .i64 s,.int .i64 f] 49)) 3 (.int .i64 0)
 rwa [xS] at this
theorem zjy (tmps:Array Value) (W:World) (b:Nat) (u:Value) (h4:tmps.getD 4 undef=.pointer (some ⟨b,0,none⟩)) (hc:W.cell? ⟨b,0,none⟩=some u) (hu:∃ n,u=.int .i64 n):(results Tryz.f106 tmps).run Tryz.prog W=.ok u W:=by
 obtain ⟨n,rfl⟩:=hu
 have HN:tmps[4]?.getD undef=.pointer (some ⟨b,0,none⟩):=by simpa using h4
 simp[results,Tryz.results106,HN,hc,go_sem]
attribute [local go_sem] Pp in
theorem zqd (v:Value) (fs:List Fil) (k s f:Int) (w:World) (hS:StW w) (hF:Fs w v fs) (hn:zas k s f=none):Calls Tryz.prog 106 #[v,.agg #[.int .u8 k,.int .i64 s,.int .i64 f]] w fun e w'=>e=.returned (.int .i64 (-1))∧Ext w w':=by
 obtain ⟨A,c,rfl,h1,h2⟩:=Fs.open_ hF
 have hX:Ext w ((w.alloc (.cells #[.int .u8 k,.int .i64 s,.int .i64 f] 49)).alloc (.cells #[.int .i64 0] 3)):=xA (xA (xR _) _) _
 have key:=zeA k s f _ (hS.ext hX);rw[hn] at key
 have H5:Calls Tryz.prog 48 #[.agg #[.int .u8 k,.int .i64 s,.int .i64 f]] ((w.alloc (.cells #[.int .u8 k,.int .i64 s,.int .i64 f] 49)).alloc (.cells #[.int .i64 0] 3)) (fun e w'=>e=.returned (.tuple #[.string ⟨#[]⟩,.int .i64 2])∧Ext ((w.alloc (.cells #[.int .u8 k,.int .i64 s,.int .i64 f] 49)).alloc (.cells #[.int .i64 0] 3)) w'):=key
 have Hd:=zhd H5;have q0:=zke k s f w;clear key H5 hF hS hn
 refine (callsIn_wd (ro:=none) (n:=9)).1 ?_
 refine callsIn_of_wp_marks Tryz.func106 rfl trivial ?_ rfl
 simp only[Tryz.ntmps106,P5,xC,P8,Pm,Pl,Pj,Pi,P6,P3,xI,P7]
 gi_wp2_with (refine ⟨trivial,?_⟩;gi_at_call 48;refine (callsIn_wd.2 Hd.out).mono ?_;rintro e w1 ⟨rfl,H6⟩;have q1:=(q0.kept (row:=none) (Ext.grown H6 none) (by simp)).alloc (.cells #[.string ⟨#[]⟩] 9);have c1:=q1.cell;have f1:=q1.frozen)
 have q2:=q1.set (.int .i64 (-1))
 refine zcF (.int .i64 (-1)) (zjy _ _ _ _ rfl q2.cell ⟨_,rfl⟩) ?_
 exact ⟨rfl,Below.setCell (p:=⟨w.heap.size+1,0,none⟩) (xA (xT hX H6) _) (by show w.heap.size≤w.heap.size+1;omega) _⟩
attribute [local go_sem] Pp in
theorem zqe (v:Value) (fs:List Fil) (k s f:Int) (w:World) (hS:StW w) (hF:Fs w v fs) (hl:fs.length≤4000000) (n:List UInt8) (hn:zas k s f=some n):Calls Tryz.prog 106 #[v,.agg #[.int .u8 k,.int .i64 s,.int .i64 f]] w fun e w'=>e=.returned (.int .i64 (zbz fs n))∧Ext w w':=by
 obtain ⟨A,c,rfl,h1,h2⟩:=Fs.open_ hF
 have hX:Ext w ((w.alloc (.cells #[.int .u8 k,.int .i64 s,.int .i64 f] 49)).alloc (.cells #[.int .i64 0] 3)):=xA (xA (xR _) _) _
 have key:=zeA k s f _ (hS.ext hX);rw[hn] at key
 have H5:Calls Tryz.prog 48 #[.agg #[.int .u8 k,.int .i64 s,.int .i64 f]] ((w.alloc (.cells #[.int .u8 k,.int .i64 s,.int .i64 f] 49)).alloc (.cells #[.int .i64 0] 3)) (fun e w'=>e=.returned (.tuple #[.string ⟨n.toArray⟩,.int .i64 0])∧Ext ((w.alloc (.cells #[.int .u8 k,.int .i64 s,.int .i64 f] 49)).alloc (.cells #[.int .i64 0] 3)) w'):=key
 have Hd:=zhd H5;have q0:=zke k s f w;have HF:=zhd hF;clear key H5 hF hS hn
 refine (callsIn_wd (ro:=none) (n:=9)).1 ?_
 refine callsIn_of_wp_marks Tryz.func106 rfl trivial ?_ rfl
 simp only[Tryz.ntmps106,P5,xC,P8,Pm,Pl,Pj,Pi,P6,P3,xI,P7]
 gi_wp2_with (first
  | (refine ⟨trivial,?_⟩;gi_at_call 48;refine (callsIn_wd.2 Hd.out).mono ?_;rintro e w1 ⟨rfl,H6⟩;have q1:=(q0.kept (row:=none) (Ext.grown H6 none) (by simp)).alloc (.cells #[.string ⟨n.toArray⟩] 9);have c1:=q1.cell;have f1:=q1.frozen)
  | (refine ⟨trivial,?_⟩;gi_at_call 117;refine (callsIn_wd.2 (zj5 _ _ _ _)).mono ?_;rintro e w' ⟨rfl,rfl⟩))
 have Hc:w.heap.size+2≤w1.heap.size:=by have:=H6.size;simp at this;omega
 have q3:Boxed ((w1.alloc (.cells #[.string ⟨n.toArray⟩] 9)).alloc (.cells #[.slice A fs.length c] 22)) (w1.heap.size+1) 22 (.slice A fs.length c):=by
  have:=Boxed.new (w1.alloc (.cells #[.string ⟨n.toArray⟩] 9)) 22 (.slice A fs.length c)
  rwa [xS] at this
 have Hv:Ext w ((w1.alloc (.cells #[.string ⟨n.toArray⟩] 9)).alloc (.cells #[.slice A fs.length c] 22)):=xA (xA (xT hX H6) _) _
 have h0:FiI w w1.heap.size n [] ((w1.alloc (.cells #[.string ⟨n.toArray⟩] 9)).alloc (.cells #[.slice A fs.length c] 22)):=⟨fun x h=>(by cases h),⟨_,q1.alloc _⟩,(Boxed.new w1 _ _).alloc _,Hv⟩
 have K3:w1.heap.size+2=((w1.alloc (.cells #[.string ⟨n.toArray⟩] 9)).alloc (.cells #[.slice A fs.length c] 22)).heap.size:=by simp
 generalize (w1.alloc (.cells #[.string ⟨n.toArray⟩] 9)).alloc (.cells #[.slice A fs.length c] 22)=w3 at *
 clear c1 f1 q1
 refine zbN (a:=⟨_,_⟩) rfl (enters_of Tryz.func152 (by kernel_rfl) rfl)
  (fun W1 hb hs=>znA w W1 _ fs HF.out hl (fun q u hq=>Ext.cell (xT Hv hb) hq) (w1.heap.size+1) (w.heap.size+1) (q3.kept (row:=none) (Ext.grown hb none) (by simp)) (by omega) (by omega))
  (fun k o h=>h.elim) (fun k o h=>h.2) (fun x av W h=>by rw[h];rfl)
  (FiI w w1.heap.size n) (FiX w n) ?hI ?hIx h0
  (fun x a' _=>a'=⟨#[.slice A fs.length c,.agg #[.int .u8 k,.int .i64 s,.int .i64 f],undef,.pointer (some ⟨w.heap.size,0,none⟩),.pointer (some ⟨w.heap.size+1,0,none⟩),.pointer (some ⟨w1.heap.size,0,none⟩),.int .i64 0,.int .i64 x.1,sv x.2,
    .tuple #[.string ⟨n.toArray⟩,.int .i64 0],.agg #[.int .u8 k,.int .i64 s,.int .i64 f],.tuple #[.string ⟨n.toArray⟩,.int .i64 0],.string ⟨n.toArray⟩,.int .i64 0,.int .i64 0,.bool false,.slice A fs.length c,
    .func (.func 152) #[] #[.pointer (some ⟨w1.heap.size+1,0,none⟩)],.int .i64 x.1,sv x.2,undef,undef,undef,undef],[]⟩)
  (fun _ _ _ _ h _=>h) ?assign ?body ?done ?stop
 case hI =>
  rintro s X Y ⟨H7,⟨v,hv⟩,hs,hE⟩ hm
  refine ⟨H7,⟨v,hm.boxed hv ?_⟩,hm.boxed hs ?_,hm.belowOf hE ?_ (Pk (by omega) (xN _))⟩
  ·rintro (h | h)
   ·exact h
   ·cases h.2
  ·rintro (h | h)
   ·exact h
   ·cases h.2
  ·rintro k o hk (h | h)
   ·exact h
   ·have:=h.1;omega
 case hIx =>
  rintro cd s X Y ⟨rfl,H0,j,rfl,H7,hv,hE⟩ hm
  refine ⟨rfl,H0,j,rfl,H7,hm.boxed hv ?_,hm.belowOf hE ?_ (xN _)⟩
  ·rintro (h | h)
   ·exact h
   ·cases h.2
  ·rintro k o hk (h | h)
   ·exact h
   ·have:=h.1;omega
 case assign =>
  rintro l' H1 x H3 W av K' hx hi Ht rfl hK
  gi_wp2
  exact hK _ _ Kept.refl hi rfl
 case body =>
  rintro l' H1 ⟨j,x⟩ H3 a' W hx K2 hr ⟨H7,⟨v,hv⟩,hs,hE⟩ Ht rfl;have hc:=hv.cell;have hf:=hv.frozen;have K0:=hs.cell;simp only[sv]
  by_cases he:x=n
  ·have HT:(x==n)=true:=by simpa using he
   have He:=zhd he;clear he
   gi_wp2
   refine ⟨Kept.refl.setCell (fun o ho _=>?_) _,rfl,H1,j,by rw[He.out],H7,hv.set _,Below.setCell (p:=⟨w.heap.size+1,0,none⟩) hE (by show w.heap.size≤w.heap.size+1;omega) _⟩
   rw[show W.heap[w.heap.size+1]?=_ from hv] at ho;cases ho
   rintro (⟨h,_⟩ | ⟨_,h⟩)
   ·exact h rfl
   ·cases h
  ·have HT:(x==n)=false:=by simpa using he
   have He:=zhd he;clear he
   gi_wp2
   refine ⟨Kept.refl,fun y hy=>?_,⟨v,hv⟩,hs,hE⟩
   rcases List.mem_append.1 hy with h | h
   ·exact H7 y h
   ·rcases List.mem_singleton.1 h with rfl
    exact He.out
 case done =>
  rintro D W hD ⟨H7,⟨v,hv⟩,hs,hE⟩ hK;have hc:=hv.cell;have hf:=hv.frozen
  gi_wp2
  have HV:=hv.set (.int .i64 (-1));have Hz:=zaC hK rfl ⟨w.heap.size+1,0,none⟩ (.int .i64 (-1));have Hr:=zcd HV.cell Hz rfl (.deferred none)
  refine zbc Hz (.int .i64 (-1)) (zjy _ _ _ _ rfl Hr ⟨_,rfl⟩) ?_
  refine ⟨?_,zaq (Below.setCell (p:=⟨w.heap.size+1,0,none⟩) hE (by show w.heap.size≤w.heap.size+1;omega) _) (by omega) _⟩
  rw[zhn];intro q hq he
  refine H7 (q,fs[q].1) ?_ he
  have:=zoI (fs:=fs) 0 q (by omega)
  simp only[Po,Pg] at this
  exact Pd this
 case stop =>
  rintro D cd H1 W hD Hs ⟨rfl,H0,j,rfl,H7,hv,hE⟩ hK;have Hr:=zcd hv.cell hK rfl (.deferred none)
  gi_wp2
  refine zbc hK (.int .i64 (j:Int)) (zjy _ _ _ _ rfl Hr ⟨_,rfl⟩) ?_
  refine ⟨?_,zaq hE (by omega) _⟩
  obtain ⟨H3,H4⟩:=Hs
  have H2:∀ q,(hq:q<fs.length)→(nmP 0 fs)[q]?=some (q,fs[q].1):=fun q hq=>by
   have:=zoI (fs:=fs) 0 q (by omega)
   simpa only[Po,Pg] using this
  have H8:H0.length<fs.length:=by
   have:=congrArg List.length H4
   rw[zoJ] at this
   simp at this;omega
  have h9:=H2 H0.length H8;rw[←H4,P0,List.getElem?_append_right (xN _),Nat.sub_self] at h9
  have h8:(j,n)=(H0.length,fs[H0.length].1):=Option.some.inj h9
  injection h8 with h7 h6
  rw[h7,zjI H8 h6.symm];intro q hq h2 he;have h5:=H2 q h2;rw[←H4,P0,List.getElem?_append_left hq] at h5
  exact H7 _ (Pd h5) he
theorem zsc (v:Value) (fs:List Fil) (k s f:Int) (w:World) (hS:StW w) (hF:Fs w v fs) (hl:fs.length≤4000000):Calls Tryz.prog 106 #[v,.agg #[.int .u8 k,.int .i64 s,.int .i64 f]] w fun e w'=>e=.returned (.int .i64 (zb4 fs (zas k s f)))∧Ext w w':=by
 cases hn:zas k s f with
 | none=>exact zqd v fs k s f w hS hF hn
 | some n=>exact zqe v fs k s f w hS hF hl n hn
open Go.RowKit Go.Mv
def zao (fs:List Fil) (r:Option (List UInt8)):Option (List UInt8):=if zb4 fs r<0 then none else (fs[(zb4 fs r).toNat]?).map (·.2)
theorem zjx (fs:List Fil) (r:Option (List UInt8)) (h:¬ zb4 fs r<0):∃ i:Nat,zb4 fs r=(i:Int)∧i<fs.length:=by
 unfold zb4 at h ⊢
 cases r with
 | none=>exact absurd (show ((-1:Int)<0) by decide) h
 | some n =>
  dsimp only at h ⊢
  unfold zbz at h ⊢
  cases hf:fs.findIdx? (fun f=>f.1==n) with
  | none=>rw[hf] at h;exact absurd (show ((-1:Int)<0) by decide) h
  | some i =>
   refine ⟨i,rfl,?_⟩
   rw[P4] at hf
   exact hf.1
def zcS (fs:List Fil) (m:Mf):Option Sta:=if m.sq=0 then some ⟨0,0,0,1,false⟩ else match zao fs (zas 4 m.sq m.sf) with | none=>none | some b=>zd6 b m.sf
theorem ziY {fs:List Fil} {r:Option (List UInt8)} {b:List UInt8} (h:zao fs r=some b):∃ f∈fs,f.2=b:=by
 unfold zao at h
 split at h
 ·cases h
 ·cases hg:fs[(zb4 fs r).toNat]? with
  | none=>rw[hg] at h;cases h
  | some f =>
   rw[hg] at h
   obtain rfl:f.2=b:=by simpa using h
   obtain ⟨hi,rfl⟩:=Pa.1 hg
   exact ⟨_,Pe hi,rfl⟩
def zcp (n:Nat) (count:Int):Bool:=(decide (count = -1)&&(decide (n<1)||decide (4<n)))||(decide (count≠-1)&&decide ((n:Int)≠count))
def zbo (fs:List Fil) (s:Sg4):Option (List Ent):=match zao fs (zas 3 s.seq s.fmt) with
 | none=>none
 | some b=>if (zc4 rT b s.fmt).err≠0 then none else if (zc4 rT b s.fmt).first≠s.first then none else if zcp (zc4 rT b s.fmt).log.length s.count=true then none else some (zc4 rT b s.fmt).log
theorem zpb {fs:List Fil} {r:Option (List UInt8)} {b:List UInt8} (h:zao fs r=some b):∃ f∈fs,f.2=b:=by
 unfold zao at h
 split at h
 ·cases h
 ·cases hg:fs[(zb4 fs r).toNat]? with
  | none=>rw[hg] at h;cases h
  | some f =>
   rw[hg] at h
   obtain rfl:f.2=b:=by simpa using h
   obtain ⟨hi,rfl⟩:=Pa.1 hg
   exact ⟨_,Pe hi,rfl⟩
theorem zkd {fs:List Fil} {s:Sg4} {x:List Ent} (h:zbo fs s=some x):(s.count = -1→1≤x.length∧x.length≤4)∧(s.count≠-1→(x.length:Int)=s.count):=by
 unfold zbo at h
 cases hb:zao fs (zas 3 s.seq s.fmt) with
 | none=>rw[hb] at h;cases h
 | some b =>
  rw[hb] at h;dsimp only at h
  split at h
  ·cases h
  ·split at h
   ·cases h
   ·split at h
    ·cases h
    ·rename_i hc
     cases h
     unfold zcp at hc;simp only[Bool.or_eq_true,Bool.and_eq_true,decide_eq_true_eq] at hc
     constructor
     ·intro h1;omega
     ·intro h1;omega
def zft (fs:List Fil) (index:Int):List Sg4→Int→List Ent→Option (Int×List Ent)
 | [],last,out=>some (last,out)
 | s::l,last,out=>match zbo fs s with
  | none=>none
  | some x=>zft fs index l (if x.length=0 then last else s.first+x.length-1) (out++x.drop (index+1-s.first).toNat)
def zeH (fs:List Fil) (m:Mf) (index:Int):List Ent×Bool:=match zft fs index m.segs (index+1) [] with
 | none=>([],false)
 | some (last,out)=>(out,decide (index<last)&&(match m.segs with | []=>true | s::_=>decide (s.first≤index+1)))
end Go.Proofs.YtgonhdeochgkoaaGreatDoor

namespace Go.Mv
open Go.RowKit
section
variable {n:Nat} {P:Program} {ops:Array Oper} {Q:Exit→Act→World→Prop} {md:Region.Mode} {S:World→Prop}
def NoH (Q:Exit→Act→World→Prop) (df:List Deferred) (Pn:List PanicEntry→World→Prop):Exit→Act→World→Prop
 | .normal,a,w=>Q .normal a w
 | .panic c,a,w=>a.defers=df∧Pn c w
 | _,_,_=>False
theorem zfu {df:List Deferred} {Pn:List PanicEntry→World→Prop} {a:Act} {w:World} (h:Q .normal a w):NoH Q df Pn .normal a w:=h
theorem ztw {df:List Deferred} {Pn:List PanicEntry→World→Prop} {i:Nat} {K:Act→World→Prop} {a:Act} {w:World} (h:wpOp P ops (NoH Q df Pn) i K a w):wpOpIn (Wd none) n P ops (NoH Q df Pn) i K a w:=by
 unfold wpOp at h;unfold wpOpIn
 cases ho:ops[i]? with
 | none=>rw[ho] at h;exact h
 | some o =>
  rw[ho] at h
  dsimp only at h ⊢
  split
  ·rename_i hw
   rw[if_pos hw] at h
   rcases h with h | ⟨_,_,_,h⟩
   ·refine ⟨fun _ _=>trivial,?_⟩
    rw[show (Wd none).round=none from rfl,Oper.semAt_none]
    exact zoR h
   ·exact h.elim
  ·rename_i hw
   rw[if_neg hw] at h
   exact ⟨fun _ _=>trivial,h⟩
theorem zlB {df:List Deferred} {Pn:List PanicEntry→World→Prop}:∀ (fuel:Nat) (listed:Array Bool) (a:Act) (w:World),wpAny P md ops (NoH Q df Pn) fuel listed a w→wpAnyIn (Wd none) n P md ops (NoH Q df Pn) fuel listed a w
 | 0,_,_,_,h=>h
 | fuel+1,listed,a,w,h=>⟨h.1,fun i hi=>wpOpIn_mono (fun a w=>zlB fuel _ a w) (ztw (h.2 i hi))⟩
theorem zdn {id:Nat} {a:Act} {w:World} (df:List Deferred) (Pn:List PanicEntry→World→Prop) (hp:∀ c a w,a.defers=df→Pn c w→Q (.panic c) a w) (hm:P.follows .mixedOrders=true) (hS:S w.drew)
  (h:S w.drew→wpAnyH P .any ops (NoH Q df Pn) S ops.size (Array.replicate ops.size false) a w.drew):(Code.region id ops true).wpIn (Wd none) n P Q a w :=
 wpIn_mono (wpIn_region_any hm (zlB _ _ _ _ (wpAny_of_held _ _ _ _ (h hS)))) fun e a w h=>by
  cases e <;> first | exact h | exact hp _ _ _ h.1 h.2 | exact h.elim
end
end Go.Mv
namespace Go.Proofs.YtgonhdeochgkoaaGreatDoor
open Go.RowKit Go.Mv
abbrev HC (A B:World):Prop:=Kept (fun _ o=>o.isCells=true) A B
theorem HC.of_ext {A B:World} (h:Ext A B):HC A B:=⟨h.size,fun k _ hk _=>(h.block k (Ph.1 hk).1).trans hk⟩
theorem HC.keptG {w0 W W':World} {G:Nat→Prop} {n:Nat} (h:HC w0 W) (hk:Kept (zad (KG G) n) W W') (hG:∀ k,G k→w0.heap.size≤k):HC w0 W' :=
 ⟨Pk h.size hk.size,fun k o h1 h2=>hk.same k o (h.same k o h1 h2) (.inl ⟨h2,fun hg=>by
   have:=hG k hg
   have:=(Ph.1 h1).1
   omega⟩)⟩
theorem HC.cell {A B:World} {p:Addr} {u:Value} (h:HC A B) (hc:A.cell? p=some u):B.cell? p=some u:=by
 obtain ⟨o,ho,Ha⟩:=cells_of_cell hc
 exact Kept.cell h hc (fun o' Hj=>by rw[ho] at Hj;cases Hj;exact Ha)
theorem Fs.hc {A B:World} {v:Value} {fs:List Fil} (h:Fs A v fs) (hk:HC A B):Fs B v fs:=by
 obtain ⟨vs,h1,h2⟩:=h
 refine ⟨vs,h1.keep fun _ _ hc=>hk.cell hc,fun i hi=>?_⟩
 obtain ⟨h3,u,h4,h5⟩:=h2 i hi
 exact ⟨h3,u,h4,SlR.keep h5 fun _ _ hc=>hk.cell hc⟩
theorem Sgs.hc {A B:World} {v:Value} {l:List Sg4} (h:Sgs A v l) (hk:HC A B):Sgs B v l:=h.keep fun _ _ hc=>hk.cell hc
theorem StW.hc {A B:World} (h:StW A) (hk:HC A B):StW B:=by
 refine ⟨fun i hi=>hk.cell (h.tab i hi),?_⟩
 have h:=h.pow
 unfold Lib.TabIs World.var? at *
 cases hg:(Tryz.prog).globalNamed "internal/strconv.uint64pow10" with
 | none=>simp[hg] at h
 | some g =>
  simp only[hg,Option.bind_some] at h ⊢
  cases ho:A.heap[g]? with
  | none=>simp[ho] at h
  | some o =>
   cases o with
   | cells cs t d=>rw[hk.same g _ ho rfl];simp only[ho] at h;exact h
   | _=>simp[ho] at h
theorem Blk.keptG {A B:World} {b n:Nat} {t:TypeId} {cs:Array Value} {G:Nat→Prop} (h:Blk A b t cs) (hk:Kept (zad (KG G) n) A B) (hG:¬ G b):Blk B b t cs:=hk.same b _ h (.inl ⟨rfl,hG⟩)
theorem OwnE.keptG {A B:World} {base n:Nat} {v:Value} {l:List Ent} {G:Nat→Prop} (h:OwnE A base v l) (hk:Kept (zad (KG G) n) A B) (hG:∀ q,v.ownBlock=some q→¬ G q):OwnE B base v l:=by
 refine ⟨h.1,?_⟩
 rcases h.2 with hn | ⟨g,cap,cur,e,hb,hgg,rest⟩
 ·exact .inl hn
 ·exact .inr ⟨g,cap,cur,e,hb,hk.same _ _ hgg (.inl ⟨rfl,hG g (by rw[e];rfl)⟩),rest⟩
theorem Moves.of_ext {M:Nat→Obj→Prop} {A B:World} (h:Ext A B):Moves M A B:=⟨h.os,h.tape,h.output,h.size,fun k _ hk _=>(h.block k (Ph.1 hk).1).trans hk⟩
def zct:Int→List Ent→List (Int×Ent)
 | _,[]=>[]
 | n,e::x=>(n,e)::zct (n+1) x
def zaQ (fs:List Fil):List Sg4→List (Int×Ent)×Bool
 | []=>([],true)
 | s::l=>match zbo fs s with
  | none=>([],false)
  | some x=>(zct s.first x++(zaQ fs l).1,(zaQ fs l).2)
def zeV (index:Int) (st:Int×List Ent) (p:Int×Ent):Int×List Ent:=(p.1,if index<p.1 then st.2++[p.2] else st.2)
theorem zm7 (index:Int):∀ (x:List Ent) (first last:Int) (out:List Ent),(zct first x).foldl (zeV index) (last,out)=(if x.length=0 then last else first+x.length-1,out++x.drop (index+1-first).toNat)
 | [],first,last,out=>by simp[zct]
 | e::x,first,last,out=>by
  rw[zct,Pf,show zeV index (last,out) (first,e)=(first,if index<first then out++[e] else out) from rfl,zm7 index x]
  have h1:(if x.length=0 then first else first+1+(x.length:Int)-1)=(if (e::x).length=0 then last else first+((e::x).length:Nat)-1):=by
   rw[if_neg (show ¬ (e::x).length=0 by simp),xC]
   split <;> omega
  rw[h1]
  congr 1
  by_cases h:index<first
  ·rw[if_pos h,show (index+1-(first+1)).toNat=0 from by omega,show (index+1-first).toNat=0 from by omega,P0]
   rfl
  ·rw[if_neg h,show (index+1-first).toNat=(index+1-(first+1)).toNat+1 from by omega,List.drop_succ_cons]
theorem zgk (fs:List Fil) (index:Int):∀ (l:List Sg4) (last:Int) (out:List Ent),zft fs index l last out=if (zaQ fs l).2=true then some ((zaQ fs l).1.foldl (zeV index) (last,out)) else none
 | [],last,out=>by rw[zft,zaQ,if_pos rfl];rfl
 | s::l,last,out=>by
  rw[zft,zaQ]
  cases h:zbo fs s with
  | none=>simp
  | some x =>
   dsimp only;rw[zgk fs index l,List.foldl_append,zm7]
theorem zhq:∀ (x:List Ent) (n:Int),(zct n x).length=x.length
 | [],_=>rfl
 | _::x,n=>by rw[zct,xC,zhq x,xC]
theorem zjO:∀ (x:List Ent) (n:Int) (k:Nat) (h:k<x.length),(zct n x)[k]?=some (n+k,x[k])
 | e::x,n,0,_=>by simp[zct]
 | e::x,n,k+1,h=>by
  rw[zct,Pb,zjO x (n+1) k (by simpa using h)]
  rw[show n+1+(k:Int)=n+((k+1:Nat):Int) by omega]
  rfl
theorem zrN (x:List Ent) (n:Int) (k:Nat) (h:k<x.length):(zct n x).take (k+1)=(zct n x).take k++[(n+k,x[k])]:=by
 have h1:=zjO x n k h;rw[List.take_succ,h1];rfl
theorem zjA (index:Int):∀ (l:List (Int×Ent)) (st:Int×List Ent),(l.foldl (zeV index) st).2.length≤st.2.length+l.length
 | [],_=>xN _
 | p::l,st=>by
  have:=zjA index l (zeV index st p)
  rw[Pf,xC]
  have h2:(zeV index st p).2.length≤st.2.length+1:=by
   unfold zeV;dsimp only
   split <;> simp
  omega
theorem zqA (fs:List Fil) (l:List Sg4) (k:Nat) (h:k<l.length) (hk:(zaQ fs (l.take k)).2=true):zaQ fs (l.take (k+1))=match zbo fs l[k] with
  | none=>((zaQ fs (l.take k)).1,false)
  | some x=>((zaQ fs (l.take k)).1++zct l[k].first x,true):=by
 induction l generalizing k with
 | nil=>simp at h
 | cons s l ih =>
  cases k with
  | zero =>
   simp only[P9,P2,P1,zaQ]
   cases zbo fs s <;> simp
  | succ k =>
   simp only[P2,zaQ,Pc] at hk ⊢
   cases he:zbo fs s with
   | none=>rw[he] at hk;cases hk
   | some x =>
    rw[he] at hk
    dsimp only at hk ⊢
    rw[ih k (by simpa using h) hk]
    cases zbo fs (l[k]'(by simpa using h)) with
    | none=>rfl
    | some y=>simp[P0]
theorem zsp (fs:List Fil) (l:List Sg4) (k:Nat) (h:k<l.length) (hk:(zaQ fs (l.take k)).2=true) (he:zbo fs l[k]=none):zaQ fs l=((zaQ fs (l.take k)).1,false):=by
 induction l generalizing k with
 | nil=>simp at h
 | cons s l ih =>
  cases k with
  | zero =>
   simp only[P1] at he;simp only[P9,zaQ,he]
  | succ k =>
   rw[P2] at hk ⊢
   rw[zaQ] at hk ⊢
   rw[zaQ]
   cases hs:zbo fs s with
   | none=>simp[hs] at hk
   | some x =>
    rw[hs] at hk
    dsimp only at hk ⊢
    rw[ih k (by simpa using h) hk he]
theorem zsq (fs:List Fil) (l:List Sg4) (k:Nat) (h:k<l.length) (hk:(zaQ fs (l.take k)).2=true) {x:List Ent} (he:zbo fs l[k]=some x):∃ H3,(zaQ fs l).1=(zaQ fs (l.take k)).1++zct l[k].first x++H3:=by
 induction l generalizing k with
 | nil=>simp at h
 | cons s l ih =>
  cases k with
  | zero =>
   simp only[P1] at he
   refine ⟨(zaQ fs l).1,?_⟩
   simp only[P9,zaQ,he,P1,xI]
  | succ k =>
   rw[P2] at hk ⊢
   rw[zaQ] at hk ⊢
   rw[zaQ]
   cases hs:zbo fs s with
   | none=>simp[hs] at hk
   | some y =>
    rw[hs] at hk
    dsimp only at hk ⊢
    obtain ⟨H3,hp⟩:=ih k (by simpa using h) hk (by simpa using he)
    refine ⟨H3,?_⟩
    rw[hp,Pc];simp only[P0]
end Go.Proofs.YtgonhdeochgkoaaGreatDoor
