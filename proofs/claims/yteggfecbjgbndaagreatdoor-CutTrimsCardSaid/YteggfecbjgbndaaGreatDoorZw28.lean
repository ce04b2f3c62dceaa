/- Merged -/
import Derived.Test.YteggfecbjgbndaaGreatDoorZw27
import Derived.Shelf.Sort.Plain
import Derived.Shelf.Slices.In.SortNone
import Derived.Sort.OwnSorted
set_option linter.all false
set_option maxHeartbeats 8000000
set_option maxRecDepth 100000
open Go.Value renaming slice→G,int→H
open Go.Mv renaming zhd→I
open Go.Proofs.Tryz renaming prog→O
open Go.IntKind renaming i64→R
open Option renaming some→U
open Go.Obj renaming cells→V
open Array renaming getElem?_eq_some_iff→P0,replicate_zero→P1,replicate_succ→P2
open Nat renaming le_trans→P3,le_succ→P4,reduceSub→P5,reduceAdd→P6,zero_le→P7
open List renaming getElem?_eq_getElem→P8,length_map→P9,length_mergeSort→Pa,length_nil→Pb,mem_cons→Pc,append_toArray→Pd,size_toArray→Pe,push_toArray→Pf,getElem?_map→Pg,append_assoc→Ph,cons_append→Pi,mem_append→Pj
open Go.RowKit.Below renaming setCell→Pk
open Go.World renaming cell?_of_block→Pl,block_lt_of_cell?→Pm
open Option.some renaming inj→Pn
open Go.Oper renaming semAt_some→Po
namespace Go.Proofs
open Go.Shelf
def Tryz.lays190_ren:Go.Shelf.Ren:=⟨fun | 190=>165 | 125=>217 | 258=>216 | 128=>264 | 129=>265 | 302=>255 | 303=>256 | 304=>257 | 305=>258 | 306=>259 | 307=>260 | 308=>261 | 309=>262 | 310=>263 | 333=>284 | 329=>285 | 330=>286 | 334=>287 | 335=>288 | 336=>289 | 344=>299 | n=>n,fun | 31=>102 | 9=>9 | 3=>3 | 46=>245 | 0=>0 | 51=>190 | 53=>303 | 4=>4 | 183=>295 | 182=>294 | 131=>275 | 5=>5 | 218=>321 | 222=>325 | 228=>334 | 229=>335 | n=>n,fun | n=>n⟩
theorem Tryz.lays190:Go.Proofs.Lays.n190 O Tryz.lays190_ren:={
 mixed:=by kernel_rfl
 f125:=Tryz.func217.trans (congrArg some (by kernel_rfl))
 f128:=Tryz.func264.trans (congrArg some (by kernel_rfl))
 f129:=Tryz.func265.trans (congrArg some (by kernel_rfl))
 f190:=Tryz.func165.trans (congrArg some (by kernel_rfl))
 f258:=Tryz.func216.trans (congrArg some (by kernel_rfl))
 f302:=Tryz.func255.trans (congrArg some (by kernel_rfl))
 f303:=Tryz.func256.trans (congrArg some (by kernel_rfl))
 f304:=Tryz.func257.trans (congrArg some (by kernel_rfl))
 f305:=Tryz.func258.trans (congrArg some (by kernel_rfl))
 f306:=Tryz.func259.trans (congrArg some (by kernel_rfl))
 f307:=Tryz.func260.trans (congrArg some (by kernel_rfl))
 f308:=Tryz.func261.trans (congrArg some (by kernel_rfl))
 f309:=Tryz.func262.trans (congrArg some (by kernel_rfl))
 f310:=Tryz.func263.trans (congrArg some (by kernel_rfl))
 f329:=Tryz.func285.trans (congrArg some (by kernel_rfl))
 f330:=Tryz.func286.trans (congrArg some (by kernel_rfl))
 f333:=Tryz.func284.trans (congrArg some (by kernel_rfl))
 f334:=Tryz.func287.trans (congrArg some (by kernel_rfl))
 f335:=Tryz.func288.trans (congrArg some (by kernel_rfl))
 f336:=Tryz.func289.trans (congrArg some (by kernel_rfl))
 f344:=Tryz.func299.trans (congrArg some (by kernel_rfl))
 t0:=Tryz.underlying0
 a0:=Tryz.isAgg0
 z0:=Tryz.sizeOf0
 v0:=Tryz.zeroValue0
 t3:=Tryz.underlying3
 a3:=Tryz.isAgg3
 z3:=Tryz.sizeOf3
 v3:=Tryz.zeroValue3
 t4:=Tryz.underlying4
 a4:=Tryz.isAgg4
 z4:=Tryz.sizeOf4
 v4:=Tryz.zeroValue4
 t5:=Tryz.underlying5
 a5:=Tryz.isAgg5
 z5:=Tryz.sizeOf5
 v5:=Tryz.zeroValue5
 t9:=Tryz.underlying9
 a9:=Tryz.isAgg9
 z9:=Tryz.sizeOf9
 v9:=Tryz.zeroValue9
 t31:=Tryz.underlying102
 a31:=Tryz.isAgg102
 z31:=Tryz.sizeOf102
 v31:=Tryz.zeroValue102
 t46:=Tryz.underlying245
 a46:=Tryz.isAgg245
 z46:=Tryz.sizeOf245
 v46:=Tryz.zeroValue245
 t51:=Tryz.underlying190
 a51:=Tryz.isAgg190
 z51:=Tryz.sizeOf190
 v51:=Tryz.zeroValue190
 t53:=Tryz.underlying303
 a53:=Tryz.isAgg303
 z53:=Tryz.sizeOf303
 v53:=Tryz.zeroValue303
 t131:=Tryz.underlying275
 a131:=Tryz.isAgg275
 z131:=Tryz.sizeOf275
 v131:=Tryz.zeroValue275
 t182:=Tryz.underlying294
 a182:=Tryz.isAgg294
 z182:=Tryz.sizeOf294
 v182:=Tryz.zeroValue294
 t183:=Tryz.underlying295
 a183:=Tryz.isAgg295
 z183:=Tryz.sizeOf295
 v183:=Tryz.zeroValue295
 t218:=Tryz.underlying321
 a218:=Tryz.isAgg321
 z218:=Tryz.sizeOf321
 v218:=Tryz.zeroValue321
 t222:=Tryz.underlying325
 a222:=Tryz.isAgg325
 z222:=Tryz.sizeOf325
 v222:=Tryz.zeroValue325
 t228:=Tryz.underlying334
 a228:=Tryz.isAgg334
 z228:=Tryz.sizeOf334
 v228:=Tryz.zeroValue334
 t229:=Tryz.underlying335
 a229:=Tryz.isAgg335
 z229:=Tryz.sizeOf335
 v229:=Tryz.zeroValue335 }
open Go.Sort Go.RowKit in
theorem Tryz.slices_Sort_string (blk Hg cap:Nat) (ss:List (List UInt8)) (w:World) (hH:Holds encStr w blk Hg ss.toArray) (Hs:blk<w.heap.size) (HR:ss.length<4611686018427387904) :
  Calls O 165 #[G (U ⟨blk,Hg,none⟩) ss.length cap] w fun e w' =>
   e=.returned (.tuple #[])∧∃ n os,w'=grow (putRow encStr (Sort.ahead w n) blk Hg (ss.mergeSort fun x y=>decide (x≤y)).toArray) os:=Any.slices_Sort_string Tryz.lays190 blk Hg cap ss w hH Hs HR
open Go.RowKit Go.Sort in
theorem Tryz.slices_Sort_string_none (p:Option Addr) (cap:Nat) (w:World) :
  Calls O 165 #[G p 0 cap] w fun e w'=>e=.returned (.tuple #[])∧w'=w:=Any.slices_Sort_string_none Tryz.lays190 p cap w
end Go.Proofs

namespace Go.Proofs.YteggfecbjgbndaaGreatDoor
open Go.RowKit Go.Mv Go.Shelf
theorem zrH (base:Nat) (v:Value) (ss:List (List UInt8)) (w:World) (Hk:w.ownsRow base 9 1 v ss.length (ss.map sv)) (hl:ss.length≤2000000) :
  Calls O 165 #[v] w fun e w'=>e=.returned (.tuple #[])∧w'.ownsRow base 9 1 v ss.length ((ss.mergeSort leB).map sv)∧w.grownBy w' v.ownBlock:=by
 rcases Hk.2 with ⟨rfl,hx⟩ | ⟨g,cap,Hn,rfl,hbg,hg,hnc,hcm,Hc,htake⟩
 ·have h0:ss=[]:=List.eq_nil_of_length_eq_zero hx
  subst h0
  refine (Tryz.slices_Sort_string_none none 0 w).mono ?_
  rintro e w' ⟨rfl,rfl⟩
  exact ⟨rfl,by simpa using Hk,⟨rfl,rfl,rfl,xN _,fun _ _ _=>rfl⟩⟩
 ·have hH:Go.Sort.Holds encStr w g 0 ss.toArray:=holds_of_block hg (by have:=htake;rw[Nat.mul_one] at this;exact this)
  refine (Tryz.slices_Sort_string g 0 cap ss w hH (P0.1 hg).1 (by omega)).mono ?_
  rintro e w' ⟨rfl,n,os,rfl⟩
  refine ⟨rfl,?_,grownBy_sorted _⟩
  exact ownsRow_sorted (ts:=ss.mergeSort leB) (Pa ss) hbg hg hnc hcm Hc
theorem zi8:(Tryz.prog.info? 9).map (fun i=>(i.zero,i.size,i.bytes))=U (some (.string ⟨#[]⟩),1,16):=by kernel_rfl
theorem zmo (l:List (List UInt8)):∀ u∈l.map sv,u.oneCell'=true:=by
 intro u hu;obtain ⟨n,_,rfl⟩:=List.mem_map.1 hu;rfl
def SoK (n0 bo:Nat) (k:Nat) (o:Obj):Prop:=(∀ r,o≠.loop r)∧((k<n0∧k≠bo)∨(n0≤k∧o.ty=U 9))
theorem zog {w w':World} {bo:Nat} {t:TypeId} {cs:Array Value} (hB:Blk w bo t cs) (HK:∀ (k:Nat) (n:Int),cs[k]?≠some (H .u8 n)) (hk:∀ p x,w.cell? p=U x→p.block≠bo→w'.cell? p=U x):∀ {es:List MapEntry} {l:List Fil},E2 w es l→E2 w' es l
 | [],[],_=>trivial
 | _::_,_::_,h=>⟨h.1,Bs.away h.2.1 (Bs.awayBlk h.2.1 hB HK) hk,zog hB HK hk h.2.2⟩
 | [],_::_,h=>h.elim
 | _::_,[],h=>h.elim
structure SoO (W0:World) (bo:Nat) (W:World):Prop where
 old:∀ k o,W0.heap[k]?=U o→(∀ r,o≠.loop r)→k≠bo→W.heap[k]?=U o
 sz:W0.heap.size≤W.heap.size
theorem SoO.cell {W0 W:World} {bo:Nat} (h:SoO W0 bo W) {p:Addr} {x:Value} (hc:W0.cell? p=U x) (hp:p.block≠bo):W.cell? p=U x:=by
 obtain ⟨o,ho,Hc⟩:=cells_of_cell hc
 exact (Pl ((h.old _ o ho (fun r e=>by rw[e] at Hc;cases Hc) hp).trans ho.symm)).trans hc
theorem SoO.fmap {W0 W:World} {bo r:Nat} {l:List Fil} {t:TypeId} {cs:Array Value} (h:SoO W0 bo W) (hM:FMap W0 r l) (hB:Blk W0 bo t cs) (HK:∀ (k:Nat) (n:Int),cs[k]?≠some (H .u8 n)):FMap W r l:=by
 obtain ⟨es,c,hb,hs,he⟩:=hM
 have H4:r≠bo:=by
  rintro rfl
  rw[show W0.heap[r]?=_ from hB] at hb
  cases hb
 exact ⟨es,c,h.old r _ hb (fun r e=>(by cases e)) H4,hs,zog hB HK (fun p x hc hp=>h.cell hc hp) he⟩
theorem SoO.boxed {W0 W:World} {bo b:Nat} {t:TypeId} {v:Value} (h:SoO W0 bo W) (hB:Boxed W0 b t v) (H4:b≠bo):Boxed W b t v:=h.old b _ hB (fun r e=>by cases e) H4
theorem SoO.kept {W0 W W':World} {bo n:Nat} (h:SoO W0 bo W) (hk:Kept (zac (SoK W0.heap.size bo) n) W W'):SoO W0 bo W':=by
 refine ⟨fun k o ho hl H4=>?_,P3 h.sz hk.size⟩
 exact hk.same k _ (h.old k o ho hl H4) (.inl ⟨hl,.inl ⟨(P0.1 ho).1,H4⟩⟩)
theorem SoO.ext {W0 W W':World} {bo:Nat} (h:SoO W0 bo W) (hE:Ext W W'):SoO W0 bo W' :=
 ⟨fun k o ho hl H4=>by
   have h1:=h.old k o ho hl H4
   exact (hE.block k (P0.1 h1).1).trans h1,P3 h.sz hE.size⟩
theorem SoO.of_ext {W0 W:World} (bo:Nat) (hE:Ext W0 W):SoO W0 bo W:=⟨fun k o ho _ _=>(hE.block k (P0.1 ho).1).trans ho,hE.size⟩
theorem zpE {n0 bo n1:Nat} (hn:n0≤n1) {W W':World} {v:Value} {n:Nat} {xs:List Value} (h:W.ownsRow n1 9 1 v n xs) (hk:Kept (zac (SoK n0 bo) n1) W W'):W'.ownsRow n1 9 1 v n xs:=by
 refine ⟨h.1,?_⟩
 rcases h.2 with hn | ⟨g,cap,Hn,rfl,hb,hgg,rest⟩
 ·exact .inl hn
 ·exact .inr ⟨g,cap,Hn,rfl,hb,hk.same _ _ hgg (.inl ⟨fun r e=>(by cases e),.inr ⟨P3 hn hb,rfl⟩⟩),rest⟩
def SoR (x:Fil) (av:Array Value) (W:World):Prop:=∃ C d,av = #[.agg #[sv x.1,G C x.2.length d]]∧OwnB W 0 (G C x.2.length d) x.2
theorem ztu {w:World}:∀ {Z:List Ze},E2 w (Z.map (·.1)) (Z.map (·.2))→∀ z∈Z,Bs w z.1.val z.2.2
 | z::Z,h,y,hy=>by
  rcases Pc.1 hy with rfl | hy
  ·exact h.2.1
  ·exact ztu h.2.2 y hy
theorem FIt.with_ {W W':World} {r i:Nat} {l L:List Fil} (h:FIt W r i l L) (hr:W'.heap[r]?=W.heap[r]?) (hi:W'.heap[i]?=W.heap[i]?) (hM:FMap W' r l):FIt W' r i l L:=by
 obtain ⟨es,Hm,Hq,seen,c0,Z,h1,h2,h3,h4,h5,Jn,h6,h7,h8,h9⟩:=h;obtain ⟨JJ,c',g1,_,g3⟩:=hM;rw[hr,h1] at g1
 cases g1
 rw[h6,h7] at g3
 exact ⟨es,Hm,Hq,seen,c0,Z,hr.trans h1,hi.trans h2,h3,h4,h5,Jn,h6,h7,fun z hz=>⟨(h8 z hz).1,ztu g3 z hz⟩,h9⟩
structure SoC (r i:Nat) (l:List Fil) (W0:World) (v:Value) (ss:List (List UInt8)) (W:World):Prop where
 e:Ext W0 W
 ex:∃ L,FIt W r i l L∧(ss++L.map (·.1)).Perm (l.map (·.1))
 ow:W.ownsRow W0.heap.size 9 1 v ss.length (ss.map sv)
theorem zfB {W:World} {base:Nat} {e:TypeId} {size:Nat} {v:Value} {n:Nat} {xs:List Value} (h:W.ownsRow base e size v n xs) {k:Nat} {o:Obj} (hk:W.heap[k]?=U o) (hc:o.isCells=false):some k≠v.ownBlock:=by
 intro he
 rcases h.2 with ⟨rfl,_⟩ | ⟨g,cap,Hn,rfl,_,hg,_⟩
 ·cases he
 ·cases he
  rw[hk] at hg
  cases hg
  cases hc
theorem FIt.objs {W:World} {r i:Nat} {l L:List Fil} (h:FIt W r i l L):(∃ es c,W.heap[r]?=U (.map es c))∧∃ m a s c,W.heap[i]?=U (.mapIter m a s c):=by
 obtain ⟨es,Hm,Hq,seen,c0,Z,h1,h2,_⟩:=h
 exact ⟨⟨_,_,h1⟩,⟨_,_,_,_,h2⟩⟩
attribute [local go_sem] Po in
theorem zn1 (Wm W0:World) (HV:Ext Wm W0) (r B bo:Nat) (l:List Fil) (hM:FMap Wm r l) (hB:Boxed Wm B 142 (.map (some r))) (Jo:B≠bo) {tb:TypeId} {cb:Array Value} (K2:Blk Wm bo tb cb) (HK:∀ (k:Nat) (n:Int),cb[k]?≠some (H .u8 n)) (hl:l.length≤2000000) (Ke:∀ p∈l,p.2.length≤2000000) :
  Seq O 164 #[.pointer (U ⟨B,0,none⟩)] SoR (SoK Wm.heap.size bo) (fun _ _=>False) (zbp l) W0:=by
 intro lp J Jx hJ JL hY h0
 refine (callsIn_wd (ro:=none) (n:=9)).1 ?_
 refine callsIn_of_wp Tryz.func164 rfl trivial ?_ rfl
 simp only[Tryz.ntmps164,Pe,xC,Pb,P6,P5,P2,P1,Pf,Pd,xI,Pi];have c1:=(hB.kept (row:=none) (Ext.grown HV none) (by simp)).cell;have HM:=I hM;have HY:=I hY;have Kh:=I hB;have Je:=I K2;clear hM hY hB K2
 gi_wp2_with (gi_at_range;refine zjm rfl (.tmp 7) rfl Tryz.underlying142 r l rfl (HM.out.ext HV) ?_;intro w1 J2 Ha)
 have HC:=I (show SoC r W0.heap.size l W0 (G none 0 0) [] w1 from ⟨Ha,⟨l,J2,by simp⟩,⟨by simp,.inl ⟨rfl,rfl⟩⟩⟩)
 clear J2 Ha c1;obtain ⟨i0,hi,Hz,HA,HD⟩:=info_parts zi8
 go_frame
 gi_loopw [3,4] (fun vs _ W=>∃ (ss:List (List UInt8)) (A:Option Addr) (c:Nat),vs=G A ss.length c∧Hid (SoC r W0.heap.size l W0 (G A ss.length c) ss W)) (fun _ _ W=>zg2 W r W0.heap.size)
 case atStart=>exact ⟨[],none,0,rfl,HC⟩
 case round =>
  clear HC;obtain ⟨ss,A,c,rfl,HC⟩:=hrel;obtain ⟨L,hI,hp⟩:=HC.out.ex;have HI:=I hI;have HP:=I hp;have HE:=I HC.out.e;have HO:=I HC.out.ow;clear hI hp HC
  gi_wp2_with (gi_at_next;refine zj4 rfl (.tmp 8) rfl r W0.heap.size l L rfl HI.out ?_ ?_)
  ·intro hL
   subst hL
   have Hd:ss.Perm (l.map (·.1)):=by simpa using HP.out
   have J7:zbp l=(ss.mergeSort leB).map fun n=>(n,(zaj n l).getD []):=by unfold zbp;rw[mergeSort_of_perm Hd]
   have Ku:(ss.mergeSort leB).length=ss.length:=Pa ss
   have Ka:ss.length≤2000000:=by have:=Hd.length_eq;rw[P9] at this;omega
   have KK:=I J7;have Jg:=I Ku;clear Hd J7 Ku HP HI
   gi_wp2_with (refine ⟨trivial,?_⟩;gi_at_call 165;refine (callsIn_wd.2 (zrH W0.heap.size _ ss wr HO.out Ka)).mono ?_;rintro e w2 ⟨rfl,Hu,J1⟩)
   have H6:Ext W0 w2:=Ext.grownOwn HE.out HO.out J1
   have J3:=hJ [] W0 w2 h0 ⟨H6.os,H6.tape,H6.output,H6.size,fun k o hk _=>(H6.block k (P0.1 hk).1).trans hk⟩
   have KF:=I J3;have Hr:=I Hu;have HF:=I (SoO.of_ext bo (xT HV H6));have Ky:=H6.size;clear H6 J3 Hu J1 HO HE h0 hi Hz HA HD
   generalize ss.mergeSort leB=N at *
   gi_loopw [6,21] (fun _ i W=>∃ k:Nat,k≤N.length∧i=H R k∧Hid (J ((zbp l).take k) W)∧Hid (SoO Wm bo W)∧Hid (W.ownsRow W0.heap.size 9 1 (G A ss.length c) ss.length (N.map sv))∧W0.heap.size≤W.heap.size) (fun _ i _=>N.length-(intOf i).toNat)
   case atStart=>exact ⟨0,P7 _,rfl,KF,HF,Hr,Ky⟩
   case round =>
    clear KF HF Hr;obtain ⟨k,hk,rfl,HJ,HF,HO,KU⟩:=hrel;have Ku:=Jg.out
    by_cases hlt:k<N.length
    ·have Kb:SlR wr 1 (G A ss.length c) ss.length (N.map sv):=xW HO.out
     obtain ⟨_,b,Hg,rfl,J0⟩:=Kb.at_ (by omega);have HG:=J0 k (sv N[k]) (by rw[Pg,P8 hlt];rfl);obtain ⟨bs,He⟩:∃ bs,(zaj N[k] l).getD []=bs:=⟨_,rfl⟩
     have Kr:bs.length≤2000000:=by
      rw[←He]
      cases hg:zaj N[k] l with
      | none=>simp
      | some b0=>exact Ke _ (zdq hg)
     have hx:(zbp l)[k]?=U (N[k],bs):=by rw[KK.out,Pg,P8 hlt,Option.map_some,He]
     have K7:k<(zbp l).length:=(List.getElem?_eq_some_iff.1 hx).1
     have J8:zbp l=(zbp l).take k++(N[k],bs)::(zbp l).drop (k+1):=by
      have h9:(zbp l)[k]=(N[k],bs):=by rw[P8 K7] at hx;exact Pn hx
      rw[←h9];rw[←List.drop_eq_getElem_cons K7,List.take_append_drop]
     have J9:(zbp l).take (k+1)=(zbp l).take k++[(N[k],bs)]:=by
      rw[List.take_succ_eq_append_getElem K7]
      congr 2
      rw[P8 K7] at hx
      exact Pn hx
     have KL:=I J8;have Jl:=I J9;have Kg:=I He;have KH:=I (HF.out.fmap HM.out Je.out HK);have c1:=(HF.out.boxed Kh.out Jo).cell;clear J0 Kb He hx J8 J9 K7
     generalize N[k]=n at *
     simp only[sv] at HG
     gi_wp2_with (first
      | (gi_at_lookup;refine ziE rfl (.tmp 27) (.tmp 28) false rfl Tryz.underlying142 Tryz.underlying9 (zgM _) r l rfl KH.out n rfl ?_;rw[Kg.out];intro A1 JG H2;have Hb:=I H2;clear H2)
      | (refine ⟨trivial,?_⟩;gi_at_call 146;refine (callsIn_wd.2 (zil _ bs wr Hb.out Kr)).mono ?_;rintro e w3 ⟨A2,c2,rfl,Hf,H7⟩))
     have J5:Moves (zac (fun _ _=>False) W0.heap.size) wr w3:=⟨H7.os,H7.tape,H7.output,H7.size,fun k o hk _=>(H7.block k (P0.1 hk).1).trans hk⟩
     have hy:=HY.out ((zbp l).take k) (n,bs) _ KL.out w3 #[.agg #[sv n,G A2 bs.length c2]] (hJ _ _ _ HJ.out J5) (P3 KU H7.size) ⟨A2,c2,rfl,zaf Hf (P7 _)⟩;have Hy:=I hy;have Kk:=I (HF.out.ext H7);have Jh:=I (zab HO.out H7);have Ko:=P3 KU H7.size;clear hy J5 Hf H7 c1 Hb KH
     refine zbh Hy.out ?_
     rintro e W' ⟨K6,⟨rfl,hj⟩ | ⟨rfl,hj⟩⟩
     ·refine ⟨true,rfl,?_⟩
      have Kj:=I hj;have Kl:=I (Kk.out.kept K6);have Ji:=I (zpE HV.size Jh.out K6);have Kp:=P3 Ko K6.size;clear hj K6 Hy HG
      gi_wp2
      exact ⟨⟨k+1,by omega,by go_num,by rw[Jl.out];exact Kj.out,Kl,Ji,Kp⟩,by simp[intOf];omega⟩
     ·refine ⟨false,rfl,?_⟩
      have Kj:=I hj;clear hj K6 Hy HG
      gi_wp2
      refine bodyPost_ret (results_none rfl _ _ _) rfl ?_
      refine ⟨⟨_,rfl⟩,.inr ⟨(zbp l).take k++[(n,bs)],⟨(zbp l).drop (k+1),?_⟩,Kj.out⟩⟩
      rw[Ph]
      exact KL.out.symm
    ·have Jw:k=N.length:=by omega
     have K5:J (zbp l) wr:=by
      have:=HJ.out
      rwa [List.take_of_length_le (by rw[KK.out,P9];omega)] at this
     have Ki:=I K5
     have Jv:ss.length≤k:=by omega
     clear K5 Jw
     gi_wp2
     refine bodyPost_end (results_none rfl _ _ _) rfl ?_
     exact ⟨⟨_,rfl⟩,.inl Ki.out⟩
  ·intro n b A1 c1 L' w2 Kv KR H3 Hj JC Ks
   have Ka:ss.length+L.length=l.length:=by have:=HP.out.length_eq;simpa using this
   have JP:L.length=L'.length+1:=by have:=Kv.length_eq;simpa using this
   have KD:=I (Hj.ext HE.out (xN _))
   have Hu:=HO.out.kept (row:=U W0.heap.size) ⟨Hj.os,Hj.tape,Hj.output,Nat.le_of_eq Hj.size.symm,fun k hk H4=>Hj.block k (fun e=>H4 (by rw[e]))⟩ (.inr (by obtain ⟨m,a,s,c',hh⟩:=HI.out.objs.2;exact (zfB HO.out hh rfl).symm))
   have Hr:=I Hu;have KE:=I KR
   have Jj:=I (show (ss++[n]++L'.map (·.1)).Perm (l.map (·.1)) from by
    refine List.Perm.trans ?_ HP.out
    rw[Ph]
    refine List.Perm.append_left ss ?_
    exact (Kv.map (·.1)).symm)
   have Jf:=I (show L'.length<zg2 wr r W0.heap.size by rw[HI.out.left];omega)
   clear Kv KR H3 Hj JC Hu HI HP HO
   simp only[sv] at Ks ⊢
   gi_wp2_with (gi_at_builtin;refine zb9 _ rfl (.tmp 13) (.tmp 15) 102 rfl W0.heap.size 9 i0 _ 1 16 Tryz.underlying102 hi Hz HA HD rfl (by decide) _ ss.length (ss.map sv) rfl (zab Hr.out (xA (xR _) _)) _ 1 [sv n] rfl (zda w2 [sv n] 9 1 rfl rfl) (zmo [n]) (by unfold maxLen;omega) (by omega) (by have:=KD.out.size;simp;omega) ?_;intro v3 w3 Hf HH)
   have hX:Ext w2 (w2.alloc (V #[sv n] 9)):=xA (xR _) _
   have H7:Ext W0 w3:=Ext.grownOwn (xT KD.out hX) (zab Hr.out hX) HH
   have KT:FIt w3 r W0.heap.size l L':=by
    obtain ⟨⟨es,cc,g1⟩,m,aa,JR,JI,g2⟩:=(KE.out.ext hX).objs
    exact (KE.out.ext hX).with_ (HH.block _ (P0.1 g1).1 (zfB (zab Hr.out hX) g1 rfl)) (HH.block _ (P0.1 g2).1 (zfB (zab Hr.out hX) g2 rfl)) (HM.out.ext (xT HV H7))
   obtain ⟨A3,c3,rfl,_,_⟩:=xO (xW Hf)
   have HQ:w3.ownsRow W0.heap.size 9 1 (G A3 (ss++[n]).length c3) (ss++[n]).length ((ss++[n]).map sv):=by
    rw[xL,List.map_append]
    exact Hf
   exact ⟨⟨ss++[n],A3,c3,by rw[xL];rfl,⟨H7,⟨L',KT,Jj.out⟩,HQ⟩⟩,by rw[KT.left];exact Jf.out⟩
theorem zks {α:Type} {sz:Nat} {E:World→(Nat→Option Value)→α→Prop} (hE:zdA sz E) {F:Fence} {nf:Nat} {ops:Array Oper} {rest:List Oper} {o:Oper} {a:Act} {w:World} {Q:Exit→Act→World→Prop} (Ju:o.guard=none) (s x:Operand) (T:TypeId)
  (ho:o.op=.call { callee:=.builtin .append,args:=#[s,x],argTypes:=#[T,T] }) (t:TypeId) (i0:TypeInfo) (z:Value) (bytes:Nat) (hT:Tryz.prog.underlying T=U (.slice t)) (hi:Tryz.prog.info? t=U i0) (Hz:i0.zero=U z) (HA:i0.size=sz) (HD:i0.bytes=bytes) (JF:z.cells.size=sz) (HR:0<sz) (Jr:bytes≤1000)
  (base:Nat) (v:Value) (l:List α) (hs:a.eval s=v) (Hk:OwnX sz E t w base v l) (vx:Value) (m:List α) (ys:List Value) (hx:a.eval x=vx) (hr:SlR w sz vx m.length ys) (Kf:RowOf sz E w ys m) (HG:0<m.length)
  (KW:∀ g,v.ownBlock=U g→∀ u∈ys,zaZ g u) (Kt:l.length+m.length≤4000000) (K0:base≤w.heap.size)
  (h:∀ A c w',OwnX sz E t w' base (G A (l.length+m.length) c) (l++m)→zcz base w w'→w.grownBy w' v.ownBlock→wpListIn F nf O ops Q rest (a.put o.dst (G A (l.length+m.length) c)) w'):wpListIn F nf O ops Q (o::rest) a w:=by
 obtain ⟨xs,h1,h2,h3⟩:=Hk
 have KY:(l.length+m.length)*bytes≤140737488355328:=P3 (Nat.mul_le_mul Kt Jr) (by decide)
 obtain ⟨v',w',K9,g1,g2⟩:=zbD (P:=O) w base T o.type t i0 _ sz bytes hT hi Hz HA HD JF HR v l.length xs h1 vx m.length ys hr (Kf.one hE) (by unfold maxLen;omega) KY K0
 have Hs:v'.ownBlock=v.ownBlock∨v'.ownBlock=U w.heap.size:=by
  obtain ⟨hl,A,c,rfl,_,_,hc⟩:=hr;obtain ⟨b,Hg,rfl,K3⟩:=hc HG
  have Kq:∀ j,(⟨b,Hg,none⟩:Addr).add j=⟨b,Hg+j,none⟩:=by intro j;unfold Addr.add;split <;> simp_all
  exact zd7 (P:=O) w base T o.type t i0 _ sz bytes hT hi Hz HA HD v l.length xs h1 ⟨b,Hg,none⟩ m.length c ys hl HG (fun j u hu=>by rw[Kq];exact K3 j u hu) (Kf.one hE) (by unfold maxLen;omega) KY K9
 have Ho:∀ {zs:List Value} {k:List α},RowOf sz E w zs k→(∀ g,v.ownBlock=U g→∀ u∈zs,zaZ g u)→RowOf sz E w' zs k:=by
  intro zs k Kz Jq
  cases hg:v.ownBlock with
  | none =>
   refine Kz.keep hE (Kz.fresh hE) fun p y hc _=>?_
   exact (Pl (g2.block _ (Pm _ _ hc) (by rw[hg];simp))).trans hc
  | some g =>
   refine Kz.keep hE (Jq g hg) fun p y hc H4=>?_
   exact (Pl (g2.block _ (Pm _ _ hc) (by rw[hg];simpa using H4))).trans hc
 refine wpListIn_plain Ju fun K hK=>?_
 have Kw:o.semAt F.round a.eval=execOp a.eval o:=by
  cases hr:F.round with
  | none=>rw[Oper.semAt_none]
  | some l=>exact Po l _ o (by rw[ho];intro c hc;cases hc)
 unfold Oper.wpIn
 refine ⟨?_,?_⟩
 ·intro f hf
  simp[Oper.about,ho,resolve,Target.leads,go_sem] at hf
 rw[Kw];unfold execOp;simp only[ho,resolve,invoke,builtin,Sem.run_bind,Sem.run_pure,Result.andThen_ok,List.map_toArray,List.map_cons,List.map_nil,hs,hx,K9]
 refine hK _ _ ?_
 obtain ⟨A,c,rfl,_,_⟩:=xO (xW g1)
 refine h A c w' ⟨xs++ys,?_,(Ho h2 h3).append (Ho Kf KW),fun g hg u hu=>?_⟩ (fun W0 hX hb=>Ext.grownOwn hX (zaf h1 hb) g2) g2
 ·rw[xL]
  exact g1
 ·rcases Hs with hb | hb
  ·rw[hb] at hg
   rcases Pj.1 hu with hu | hu
   ·exact h3 g hg u hu
   ·exact KW g hg u hu
  ·rw[hb] at hg
   cases hg
   rcases Pj.1 hu with hu | hu
   ·exact h2.fresh hE u hu
   ·exact Kf.fresh hE u hu
theorem zp1 (r:Nat) (w:World):Calls O 97 #[.map (some r)] w fun e w'=>e=.returned (.func (.func 164) #[] #[.pointer (U ⟨w.heap.size,0,none⟩)])∧w.alloc (V #[.map (some r)] 142)=w':=by
 go_enter Tryz.func97,Tryz.ntmps97
 go_wp2
 go_ret
 exact ⟨rfl,rfl⟩
theorem zgD (n b:List UInt8):∀ l:List Fil,(zbg n b l).length≤l.length+1
 | []=>by simp[zbg]
 | p::l=>by
  have:=zgD n b l
  rw[zbg]
  split <;> simp <;> omega
theorem zki (n:List UInt8):∀ l:List Fil,(za7 n l).length≤l.length
 | []=>by simp[za7]
 | p::l=>by
  have:=zki n l
  rw[za7]
  split <;> simp <;> omega
theorem zsR (m:List Fil) (o:Oq):(zbn m o).length≤m.length+1:=by
 unfold zbn
 split
 ·exact zgD _ _ _
 ·split
  ·split
   ·omega
   ·exact zgD _ _ _
  ·split
   ·split
    ·omega
    ·rename_i b _
     have h1:=zgD o.t b (za7 o.n m);have h2:=zki o.n m;omega
   ·split
    ·have:=zki o.n m;omega
    ·omega
theorem zkK:∀ (q:List Oq) (m:List Fil),(q.foldl zbn m).length≤m.length+q.length
 | [],m=>by simp
 | o::q,m=>by
  have h1:=zsR m o;have h2:=zkK q (zbn m o);rw[List.foldl_cons,xC];omega
theorem zmg:∀ l:List Fil,(zcE l).length≤l.length
 | []=>by simp[zcE]
 | p::l=>by
  have h1:=zmg l;have h2:=zgD p.1 p.2 (zcE l);rw[zcE,xC];omega
theorem zmf (fs:List Fil) (q:List Oq):(zbF fs q).length≤fs.length+q.length:=by
 have h1:=zkK q (zcE fs);have h2:=zmg fs;unfold zbF;omega
theorem zfh {p:Fil}:∀ {l:List Fil},p∈l→p.2.length≤tot l
 | q::l,h=>by
  rw[zcO]
  rcases Pc.1 h with rfl | h
  ·omega
  ·have:=zfh h;omega
theorem OwnB.awayT {W:World} {base g:Nat} {u:Value} {b:List UInt8} (h:OwnB W base u b) {t:TypeId} {cs:Array Value} {fr:Nat×Nat} (hg:W.heap[g]?=U (V cs t fr)) (ht:t≠5):zaZ g u:=by
 intro b' Hg n c _ hu he;subst hu;subst he
 rcases h.2 with ⟨hn,_⟩ | ⟨g',cap,Hn,e,_,hh,_⟩
 ·cases hn
 ·cases e
  rw[hh] at hg
  cases hg
  exact ht rfl
theorem OwnX.moves {α:Type} {sz:Nat} {E:World→(Nat→Option Value)→α→Prop} (hE:zdA sz E) {t:TypeId} {A B:World} {base n:Nat} {v:Value} {l:List α} (h:OwnX sz E t A base v l) (hm:Moves (zac (fun _ _=>False) n) A B):OwnX sz E t B base v l:=by
 obtain ⟨xs,h1,h2,h3⟩:=h
 refine ⟨xs,hm.ownsRow h1 ?_,h2.keep hE (h2.fresh hE) fun p x hc _=>hm.cell hc fun o ho Hc=>?_,h3⟩
 ·intro k Hn hk
  rintro (h | ⟨_,h⟩)
  ·exact h
  ·cases h
 ·rintro (h | ⟨_,h⟩)
  ·exact h
  ·rw[Hc] at h;cases h
theorem OwnX.putObj {α:Type} {sz:Nat} {E:World→(Nat→Option Value)→α→Prop} (hE:zdA sz E) {t:TypeId} {A:World} {base:Nat} {v:Value} {l:List α} (h:OwnX sz E t A base v l) {D:Nat} {o:Obj} (hK:A.heap[D]?=U o) (hc:o.isCells=false) (o':Obj):OwnX sz E t (A.putObj D o') base v l:=by
 obtain ⟨xs,h1,h2,h3⟩:=h
 refine ⟨xs,⟨h1.1,?_⟩,h2.keep hE (h2.fresh hE) fun p x Js _=>zcL Js hK hc o',h3⟩
 rcases h1.2 with hn | ⟨g,cap,Hn,rfl,hb,hgg,rest⟩
 ·exact .inl hn
 ·exact .inr ⟨g,cap,Hn,rfl,hb,(World.putObj_heap_other (fun e=>by subst e;rw[hK] at hgg;cases hgg;cases hc)).trans hgg,rest⟩
theorem no1 {A:Option Addr} {n c:Nat}:∀ (k:Nat) (z:Int),(#[G A n c]:Array Value)[k]?≠some (H .u8 z):=by
 intro k z h
 match k,h with
 | 0,h=>cases h
 | k+1,h=>simp at h
theorem zt3 (tmps:Array Value) (W:World) (b:Nat) (A:Option Addr) (n c:Nat) (h4:tmps.getD 2 undef=.pointer (U ⟨b,0,none⟩)) (hc:W.cell? ⟨b,0,none⟩=U (G A n c)):(results Tryz.f46 tmps).run O W=.ok (G A n c) W:=by
 have Km:tmps[2]?.getD undef=.pointer (U ⟨b,0,none⟩):=by simpa using h4
 simp[results,Tryz.results46,Km,hc,go_sem]
structure NwI (w:World) (base bo:Nat) (Hp:List Fil) (X:World):Prop where
 bx:∃ v,Boxed X bo 22 v∧OwnF X base v Hp
 e:Ext w X
attribute [local go_sem] Po in
theorem ztB (v:Value) (d:Dk) (w:World) (hD:DkV w v d) (JN:d.fs.length≤1000000) (JO:d.q.length≤1000000) (hb:tot d.fs+zaW d.q≤2000000) :
  Calls O 46 #[v] w fun e w'=>∃ A c,e=.returned (G A d.now.length c)∧OwnF w' w.heap.size (G A d.now.length c) d.now∧Ext w w':=by
 obtain ⟨vf,vq,rfl,hF,hQ⟩:=hD;obtain ⟨A,c,rfl,_,_⟩:=Fs.open_ hF;obtain ⟨B,e2,rfl,_,_⟩:=Qs.open_ hQ
 have Kc:Ext w ((w.alloc (V #[G A d.fs.length c,G B d.q.length e2,H R d.quota,H R d.fuse,.bool d.dead] 25)).alloc (V #[G none 0 0] 22)):=xA (xA (xR _) _) _
 have KX:=(Blk.new w 25 #[G A d.fs.length c,G B d.q.length e2,H R d.quota,H R d.fuse,.bool d.dead]).alloc (V #[G none 0 0] 22);have H2:=Blk.new (w.alloc (V #[G A d.fs.length c,G B d.q.length e2,H R d.quota,H R d.fuse,.bool d.dead] 25)) 22 #[G none 0 0];rw[xS] at H2
 have HC:=I (zi2 _ d _ (show DkV _ _ d from ⟨_,_,rfl,hF.ext Kc,hQ.ext Kc⟩) (by omega) (by omega) (by omega))
 have Hh:=I Kc;have Hb:=I H2;have JD:=zfO d.fs d.q;have Jy:=zmf d.fs d.q
 have K8:zbp (zbF d.fs d.q)=d.now:=zmP d.fs d.q
 have HN:=I K8
 have HT:=I (show tot (zbF d.fs d.q)≤2000000 by omega)
 have HL:=I (show (zbF d.fs d.q).length≤2000000 by omega)
 clear hF hQ Kc JD Jy K8 hb H2;obtain ⟨g0,g1,g2,g3,g4⟩:=zaa KX;clear KX
 generalize zbF d.fs d.q=M at *
 refine (callsIn_wd (ro:=none) (n:=9)).1 ?_
 refine callsIn_of_wp_marks Tryz.func46 rfl trivial ?_ rfl
 simp only[Tryz.ntmps46,Pe,xC,Pb,P6,P5,P2,P1,Pf,Pd,xI,Pi]
 gi_wp2_with (first
  | (refine ⟨trivial,?_⟩;gi_at_call 96;refine (callsIn_wd.2 HC.out).mono ?_;rintro e w1 ⟨r,rfl,J4,JB,Ha⟩)
  | (refine ⟨trivial,?_⟩;gi_at_call 97;refine (callsIn_wd.2 (zp1 r w1)).mono ?_;rintro e w2 ⟨rfl,Kx⟩))
 have Hi:Ext w1 w2:=by rw[←Kx];exact xA (xR _) _
 have KZ:Boxed w2 w1.heap.size 142 (.map (some r)):=by rw[←Kx];exact Boxed.new w1 _ _
 clear Kx;have Hj:=J4.ext Hi;have H6:=xT Hh.out (xT Ha Hi)
 have K2:Blk w2 (w.heap.size+1) 22 #[G none 0 0]:=Hb.out.ext (xT Ha Hi)
 have Jz:w.heap.size+1<w1.heap.size:=by have:=Ha.size;simp only[xS] at this;omega
 have JA:w1.heap.size<w2.heap.size:=KZ.lt
 have h0:NwI w w2.heap.size (w.heap.size+1) [] w2:=⟨⟨_,K2,OwnX.nil _ _ _⟩,H6⟩
 obtain ⟨i0,hi,Hz,HA,HD⟩:=info_parts zke
 have Ke:∀ p∈M,p.2.length≤2000000:=fun p hp=>P3 (zfh hp) HT.out
 have Jd:=I Ke
 have Ka:(zbp M).length≤2000000:=by unfold zbp;rw[P9,Pa,P9];exact HL.out
 have Jk:=I Ka;clear J4 JB Ha Hi H6 g0 g1 g2 g3 g4 HC Hb Hh Ke Ka
 refine zig (a:=⟨_,_⟩) rfl (enters_of Tryz.func164 (by kernel_rfl) rfl)
  (fun W1 hb hs=>zn1 w2 W1 hb r w1.heap.size (w.heap.size+1) M Hj KZ (by omega) K2 no1 HL.out Jd.out)
  (fun k o h=>h.elim) (fun k o h r e=>h.1 r e) (fun x av W h=>by obtain ⟨C,dd,rfl,_⟩:=h;rfl)
  (NwI w w2.heap.size (w.heap.size+1)) (fun _ _ _=>False) ?hI (fun _ _ _ _ h _=>h) h0
  (fun x a' W=>∃ nb C dd,a'=⟨#[.agg #[G A d.fs.length c,G B d.q.length e2,H R d.quota,H R d.fuse,.bool d.dead],.pointer (U ⟨w.heap.size,0,none⟩),.pointer (U ⟨w.heap.size+1,0,none⟩),.pointer (U ⟨nb,0,none⟩),.agg #[G A d.fs.length c,G B d.q.length e2,H R d.quota,H R d.fuse,.bool d.dead],.map (some r),.func (.func 164) #[] #[.pointer (U ⟨w1.heap.size,0,none⟩)],.agg #[sv x.1,G C x.2.length dd],undef,undef,undef,undef,undef],[]⟩∧Blk W nb 68 #[sv x.1,G C x.2.length dd]∧OwnB W 0 (G C x.2.length dd) x.2)
  ?hAx ?assign ?body ?done ?stop
 case hI =>
  rintro s X Y ⟨⟨u,hb,ho⟩,hE⟩ hm
  refine ⟨⟨u,hm.boxed hb ?_,OwnX.moves zbq ho hm⟩,hm.belowOf hE ?_ (xN _)⟩
  ·rintro (h | h)
   ·exact h
   ·cases h.2
  ·rintro k o hk (h | h)
   ·exact h
   ·have:=h.1;omega
 case hAx =>
  rintro x a' X Y ⟨nb,C,dd,rfl,hb,ho⟩ hm
  refine ⟨nb,C,dd,rfl,hm.same _ _ hb ?_,hm.ownsRow ho ?_⟩
  ·rintro (h | h)
   ·exact h
   ·cases h.2
  ·intro k Hn _
   rintro (h | h)
   ·exact h
   ·cases h.2
 case assign =>
  rintro l' Hp x KA W av K' hx ⟨⟨u,hb,ho⟩,hE⟩ HR ⟨C,dd,rfl,He⟩ hK
  simp only[sv] at *
  gi_wp2
  exact hK _ _ (Kept.refl.alloc _) ⟨⟨u,hb.alloc _,OwnX.ext zbq ho (xA (xR _) _)⟩,xA hE _⟩ ⟨_,C,dd,rfl,Blk.new _ _ _,zab He (xA (xR _) _)⟩
 case body =>
  rintro l' Hp ⟨n,b⟩ KA a' W hx JM hr ⟨⟨u,hb,ho⟩,hE⟩ HR ⟨nb,C,dd,rfl,JE,He⟩
  dsimp only at *
  obtain ⟨A1,c1,rfl⟩:=ho.open_;obtain ⟨y0,y1⟩:=zhF JE;have cb:=hb.cell;have fb:=hb.frozen
  have JQ:Hp.length+1≤2000000:=by have h9:=congrArg List.length hx;rw[xL,xC] at h9;have:=Jk.out;omega
  have hX:Ext W (W.alloc (V #[sv n,G C b.length dd] 68)):=xA (xR _) _
  have KV:∀ g,(Value.slice A1 Hp.length c1).ownBlock=U g→∀ y∈[sv n,G C b.length dd],zaZ g y:=by
   intro g hg y hy;obtain ⟨_,cs,Hc⟩:=zaS ho hg;simp only[Pc,List.not_mem_nil,or_false] at hy
   rcases hy with rfl | rfl
   ·exact zaB _ n
   ·exact OwnB.awayT He Hc (by decide)
  have Jc:=I KV;have HO:=I ho;have Kh:=I hb;have Kg:=I He;have HE:=I hE;clear KV ho hb He hE
  simp only[sv] at *
  gi_wp2_with (gi_at_builtin;refine zks zbq rfl (.tmp 8) (.tmp 10) 22 rfl 68 i0 _ 40 Tryz.underlying22 hi Hz HA HD rfl (by decide) (by decide) w2.heap.size _ Hp rfl (OwnX.ext zbq HO.out hX) _ [(n,b)] [.string ⟨n.toArray⟩,G C b.length dd] rfl (zda W [.string ⟨n.toArray⟩,G C b.length dd] 68 2 rfl rfl) (zjh (n:=n) (Bs.ext Kg.out.bs hX)) (by simp) Jc.out (by simp;omega) (P3 HR hX.size) ?_;intro A3 c3 W3 Hf Jp HH;simp only[xC,Pb,Nat.zero_add] at Hf ⊢;have b3:=((Kh.out.alloc (V #[.string ⟨n.toArray⟩,G C b.length dd] 68)).kept HH (fun e=>by have:=(zaS HO.out e.symm).1;omega));have JH:=b3.cell;have JK:=b3.frozen)
  have HQ:=OwnF.setD (u:=G A3 (Hp.length+1) c3) (j:=0) Hf (by decide) b3 no1
  refine ⟨((Kept.refl.alloc _).grown HH (fun k o ek hk=>?_)).setCell (fun o hk _=>?_) _,⟨_,b3.set _,by simpa using HQ⟩,Pk (Jp w (xT HE.out hX) (by omega)) (P4 _) _⟩
  ·obtain ⟨Jv,cs,Hc⟩:=zaS HO.out ek
   rw[hk] at Hc
   cases Hc
   rintro (⟨_,⟨h1,_⟩ | ⟨_,h1⟩⟩ | ⟨_,h1⟩)
   ·omega
   ·exact absurd (Pn h1) (by decide)
   ·cases h1
  ·rintro (⟨_,⟨_,h1⟩ | ⟨h1,_⟩⟩ | ⟨h1,_⟩)
   ·exact h1 rfl
   ·dsimp only at h1;omega
   ·dsimp only at h1;omega
 case done =>
  rintro D W hD ⟨⟨u,hb,ho⟩,hE⟩ hK;obtain ⟨A1,c1,rfl⟩:=ho.open_;have hc:=hb.cell;have hf:=hb.frozen
  gi_wp2
  have Kn:=zaA hK rfl ⟨w.heap.size+1,0,none⟩ (G A1 (zbp M).length c1);have Jt:=zcL (hb.set (G A1 (zbp M).length c1)).cell Kn rfl (.deferred none);have Hu:=OwnF.setD (u:=G A1 (zbp M).length c1) (j:=0) ho (by decide) hb no1;have Hf:=(OwnX.putObj zbq Hu Kn rfl (.deferred none)).base (base':=w.heap.size) (by omega)
  refine zbO Kn (G A1 (zbp M).length c1) (zt3 _ _ _ A1 _ c1 rfl Jt) ⟨A1,c1,by rw[←HN.out],by rw[←HN.out];exact Hf,?_⟩
  exact zaN (Pk hE (P4 _) _) (by omega) _
 case stop =>
  rintro D cd Hp W _ _ h _
  exact h.elim
structure Sz (n:Nat) (d:Dk):Prop where
 l:d.fs.length+d.q.length≤n
 t:tot d.fs+zaW d.q≤n
 f:d.fuse≤9223372036854775807
theorem zkL (d:Dk):d.may=0∨d.may=2∨d.may=40:=by
 unfold Dk.may
 split
 ·exact .inr (.inl rfl)
 ·split
  ·exact .inr (.inr rfl)
  ·exact .inl rfl
theorem zja {o:Oq}:∀ {l:List Oq},o∈l→o.b.length≤zaW l
 | q::l,h=>by
  rw[zcm]
  rcases Pc.1 h with rfl | h
  ·omega
  ·have:=zja h;omega
theorem zfm (v:Value) (d:Dk) (n:Nat) (w:World) (hD:DkV w v d) (hn:n≤1000000) (hs:Sz n d) :
  Calls O 51 #[v] w fun e w'=>∃ u,e=.returned u∧OwnDs w' w.heap.size u d∧Ext w w':=by
 obtain ⟨h1,h2,_⟩:=hs
 exact zr8 v d w hD (by omega) (by omega) (fun f hf=>by have:=zfh hf;omega) (fun o ho=>by have:=zja ho;omega)
theorem zro (v:Value) (d:Dk) (n:Nat) (w:World) (hD:DkV w v d) (hn:n≤1000000) (hs:Sz n d) :
  Calls O 171 #[v] w fun e w'=>e=.returned (H R d.may)∧Ext w w':=by
 obtain ⟨h1,h2,_⟩:=hs
 exact zsB v d w hD (by omega) (by omega) (by omega)
theorem zlM (v:Value) (d:Dk) (n:Nat) (w:World) (hD:DkV w v d) (hn:n≤1000000) (hs:Sz n d) :
  Calls O 46 #[v] w fun e w'=>∃ A c,e=.returned (G A d.now.length c)∧OwnF w' w.heap.size (G A d.now.length c) d.now∧Ext w w':=by
 obtain ⟨h1,h2,_⟩:=hs
 exact ztB v d w hD (by omega) (by omega) (by omega)
theorem zfg (d:Dk):d.now.length≤d.fs.length+d.q.length:=by
 have h:=zmf d.fs d.q
 have e:d.now.length=(zbF d.fs d.q).length:=by
  rw[←show zbp (zbF d.fs d.q)=d.now from zmP d.fs d.q]
  unfold zbp;rw[P9,Pa,P9]
 omega
theorem zj1 (d:Dk):tot d.now≤tot d.fs+zaW d.q:=by
 have h1:tot d.now=tot (zbF d.fs d.q):=ziy d.fs d.q
 have h2:=zfO d.fs d.q;omega
theorem Sz.burn {n:Nat} {d:Dk} (h:Sz n d):Sz n d.burn:=by
 obtain ⟨h1,h2,h3⟩:=h;unfold Dk.burn
 split
 ·exact ⟨h1,h2,by dsimp only;omega⟩
 ·exact ⟨h1,h2,h3⟩
theorem Sz.mono {n m:Nat} {d:Dk} (h:Sz n d) (hm:n≤m):Sz m d:=⟨P3 h.l hm,P3 h.t hm,h.f⟩
theorem Sz.sync {n:Nat} {d:Dk} (h:Sz n d):Sz n d.syncS.1:=by
 unfold Dk.syncS
 split
 ·exact h
 ·refine Sz.burn ⟨?_,?_,h.f⟩
  ·have:=zfg d;have:=h.l;simp only[Pb];omega
  ·have:=zj1 d;have:=h.t;show tot d.now+0≤n;omega
theorem Sz.doS {n:Nat} {d:Dk} (h:Sz n d) (o:Oq):Sz (n+1+o.b.length) (d.doS o).1:=by
 have hm:=h.mono (m:=n+1+o.b.length) (by omega);unfold Dk.doS
 split
 ·exact hm
 ·split
  ·exact hm
  ·split
   ·exact hm
   ·split
    ·exact hm
    ·refine Sz.burn ⟨?_,?_,h.f⟩
     ·have:=h.l;show d.fs.length+(d.q++[o]).length≤_;simp;omega
     ·have:=h.t;show tot d.fs+zaW (d.q++[o])≤_;rw[zeF,zcm];show _+(zaW d.q+(o.b.length+0))≤_;omega
theorem zlX {W:World} {base b:Nat} {A B:Option Addr} {c e:Nat} {d:Dk} (hB:Blk W b 25 (zan A d.fs.length c B d.q.length e d.quota d.fuse d.dead)) (hf:OwnF W base (G A d.fs.length c) d.fs) (hq:OwnQ W base (G B d.q.length e) d.q) :
  Blk (zfT W b d.fuse) b 25 (zan A d.burn.fs.length c B d.burn.q.length e d.burn.quota d.burn.fuse d.burn.dead)∧OwnF (zfT W b d.fuse) base (G A d.burn.fs.length c) d.burn.fs∧OwnQ (zfT W b d.fuse) base (G B d.burn.q.length e) d.burn.q
   ∧ (∀ (b':Nat) (t:TypeId) (cs:Array Value),b'≠b→Blk W b' t cs→Blk (zfT W b d.fuse) b' t cs)∧(∀ w,Ext w W→w.heap.size≤b→Ext w (zfT W b d.fuse)):=by
 unfold zfT Dk.burn
 by_cases h:0<d.fuse
 ·rw[if_pos h,if_pos h]
  have b1:Blk _ b 25 (zan A d.fs.length c B d.q.length e d.quota (d.fuse-1) d.dead):=hB.set 3 (H R (d.fuse-1))
  have b2:Blk _ b 25 (zan A d.fs.length c B d.q.length e d.quota (d.fuse-1) (d.fuse-1==0)):=b1.set 4 (.bool (d.fuse-1==0))
  refine ⟨b2,OwnF.setD (OwnF.setD hf (by decide) hB zay) (by decide) b1 zay,OwnQ.setD (OwnQ.setD hq (by decide) hB zay) (by decide) b1 zay,fun b' t cs H4 Kd=>?_,fun w hX Kd=>?_⟩
  ·exact (Kd.other H4 3 _).other H4 4 _
  ·exact Pk (p:=⟨b,4,none⟩) (Pk (p:=⟨b,3,none⟩) hX Kd _) Kd _
 ·rw[if_neg h,if_neg h]
  exact ⟨hB,hf,hq,fun _ _ _ _ h=>h,fun _ h _=>h⟩
theorem zjj (tmps:Array Value) (W:World) (b:Nat) (cs:Array Value) (e:Value) (h4:tmps.getD 2 undef=.pointer (U ⟨b,0,none⟩)) (h3:tmps.getD 3 undef=e) (hb:Blk W b 25 cs) (hs:cs.size=5):(results Tryz.f109 tmps).run O W=.ok (.tuple #[.agg cs,e]) W:=by
 have Km:tmps[2]?.getD undef=.pointer (U ⟨b,0,none⟩):=by simpa using h4
 have Jm:tmps[3]?.getD undef=e:=by simpa using h3
 have hl:=hb.load (P:=O) zc3 rfl (by rw[hs];kernel_rfl)
 simp[results,Tryz.results109,Km,Jm,asAddr,hl,Sem.run_bind,Sem.run_pure,Result.andThen_ok]
theorem zse (v:Value) (d:Dk) (n:Nat) (w:World) (hD:DkV w v d) (hn:n≤1000000) (hs:Sz n d) :
  Calls O 109 #[v] w fun e w'=>∃ u,e=.returned (.tuple #[u,H R d.syncS.2])∧OwnD w' w.heap.size u d.syncS.1∧Ext w w':=by
 obtain ⟨vf,vq,rfl,hF,hQ⟩:=hD;obtain ⟨A,c,rfl,_,_⟩:=Fs.open_ hF;obtain ⟨B,e2,rfl,_,_⟩:=Qs.open_ hQ
 have Hh:=I (show Ext w ((w.alloc (V #[G A d.fs.length c,G B d.q.length e2,H R d.quota,H R d.fuse,.bool d.dead] 25)).alloc (V #[G none 0 0,G none 0 0,H R 0,H R 0,.bool false] 25)) from xA (xA (xR _) _) _)
 have H0:=I (show Blk ((w.alloc (V #[G A d.fs.length c,G B d.q.length e2,H R d.quota,H R d.fuse,.bool d.dead] 25)).alloc (V #[G none 0 0,G none 0 0,H R 0,H R 0,.bool false] 25)) w.heap.size 25 (zan A d.fs.length c B d.q.length e2 d.quota d.fuse d.dead) from (Blk.new w _ _).alloc _)
 have h1:Blk ((w.alloc (V #[G A d.fs.length c,G B d.q.length e2,H R d.quota,H R d.fuse,.bool d.dead] 25)).alloc (V #[G none 0 0,G none 0 0,H R 0,H R 0,.bool false] 25)) (w.heap.size+1) 25 (zan none 0 0 none 0 0 0 0 false):=by
  have:=Blk.new (w.alloc (V #[G A d.fs.length c,G B d.q.length e2,H R d.quota,H R d.fuse,.bool d.dead] 25)) 25 #[G none 0 0,G none 0 0,H R 0,H R 0,.bool false]
  rwa [xS] at this
 have H1:=I h1
 have HC:=I (zfm _ d n _ (show DkV _ _ d from ⟨_,_,rfl,hF.ext Hh.out,hQ.ext Hh.out⟩) hn hs)
 clear h1 hF hQ;obtain ⟨g0,g1,g2,g3,g4⟩:=zaa H0.out;have HZ:=I hs;obtain ⟨S,hS⟩:∃ S,d.syncS=S:=⟨_,rfl⟩;rw[hS];have HS:=I hS;clear hs hS
 go_enter Tryz.func109,Tryz.ntmps109
 go_wp2_with fail
 refine HC.out.mono ?_
 rintro e w1 ⟨u,rfl,⟨A3,c3,B3,e3,rfl,of,oq⟩,Ha⟩;have H2:=H0.out.ext Ha;have H3:=H1.out.ext Ha;have KC:=I (xT Hh.out Ha)
 have H8:OwnF w1 w.heap.size (G A3 d.fs.length c3) d.fs:=OwnX.base of.f Hh.out.size
 have H9:OwnQ w1 w.heap.size (G B3 d.q.length e3) d.q:=OwnX.base oq Hh.out.size
 clear g0 g1 g2 g3 g4 HC H0 H1 Hh of oq Ha
 have HW:Blk (zaR w1 w.heap.size (G A3 d.fs.length c3) (G B3 d.q.length e3) (H R d.quota) (H R d.fuse) (.bool d.dead)) w.heap.size 25 (zan A3 d.fs.length c3 B3 d.q.length e3 d.quota d.fuse d.dead):=zal H2 _ _ _ _ _
 have H4:w.heap.size+1≠w.heap.size:=by omega
 have HX:Blk (zaR w1 w.heap.size (G A3 d.fs.length c3) (G B3 d.q.length e3) (H R d.quota) (H R d.fuse) (.bool d.dead)) (w.heap.size+1) 25 (zan none 0 0 none 0 0 0 0 false):=((((H3.other H4 0 _).other H4 1 _).other H4 2 _).other H4 3 _).other H4 4 _
 have Hv:=OwnF.box1 (A':=A3) (n':=d.fs.length) (c':=c3) (B':=B3) (m':=d.q.length) (e':=e3) (q':=d.quota) (f':=d.fuse) (d':=d.dead) H8 H2;have Hw:=OwnQ.box1 (A':=A3) (n':=d.fs.length) (c':=c3) (B':=B3) (m':=d.q.length) (e':=e3) (q':=d.quota) (f':=d.fuse) (d':=d.dead) H9 H2;have KM:=I (zae KC.out (xN _) (G A3 d.fs.length c3) (G B3 d.q.length e3) (H R d.quota) (H R d.fuse) (.bool d.dead))
 have HC:=I (zro _ d n _ (show DkV _ _ d from ⟨_,_,rfl,Hv.fs,Hw.qs⟩) hn HZ.out)
 have Hb:=I HW;have Hl:=I HX;have KI:=I Hv;have KJ:=I Hw;clear H8 H9 Hv Hw H3 HX KC;obtain ⟨f0,f1,f2,f3,f4⟩:=zam H2;obtain ⟨g0,g1,g2,g3,g4⟩:=zaa H2;clear H2 HW;go_wp2_with fail;clear f0 f1 f2 f3 f4 g0 g1 g2 g3 g4
 refine HC.out.mono ?_
 rintro e w2 ⟨rfl,H6⟩;have H2:=Hb.out.ext H6;have H3:=Hl.out.ext H6
 have H8:OwnF w2 w.heap.size (G A3 d.fs.length c3) d.fs:=OwnX.ext zbq KI.out H6
 have H9:OwnQ w2 w.heap.size (G B3 d.q.length e3) d.q:=OwnX.ext zbt KJ.out H6
 have HU:=I (xT KM.out H6);clear HC Hb Hl KI KJ KM H6
 have HC:=I (zlM _ d n _ (show DkV w2 (.agg #[G A3 d.fs.length c3,G B3 d.q.length e3,H R d.quota,H R d.fuse,.bool d.dead]) d from ⟨_,_,rfl,H8.fs,H9.qs⟩) hn HZ.out)
 obtain ⟨g0,g1,g2,g3,g4⟩:=zaa H2
 rcases zkL d with hm | hm | hm
 ·have e1:S=({ d with fs:=d.now,q:=[] }.burn,0):=by rw[←HS.out];unfold Dk.syncS;rw[if_neg (by simp[hm])]
  subst e1;rw[hm];have Hb:=I H2;have Hl:=I H3;clear H8 H9 H2 H3 HS;go_wp2_with fail;clear g0 g1 g2 g3 g4
  refine HC.out.mono ?_
  rintro e w3 ⟨A4,c4,rfl,HQ,H7⟩;have H2:=Hb.out.ext H7;have H3:=Hl.out.ext H7
  have J6:OwnF w3 w.heap.size (G A4 d.now.length c4) d.now:=OwnX.base HQ HU.out.size
  have KN:=I (xT HU.out H7);clear HC Hb Hl HU H7 HQ;have f0:=H2.frozen 0
  have k0:Blk _ w.heap.size 25 (zan A4 d.now.length c4 B3 d.q.length e3 d.quota d.fuse d.dead):=H2.set 0 (G A4 d.now.length c4)
  have f1:=k0.frozen 1
  have k1:Blk _ w.heap.size 25 (zan A4 d.now.length c4 none 0 0 d.quota d.fuse d.dead):=k0.set 1 (G none 0 0)
  have Jb:=OwnF.setD (j:=1) (u:=G none 0 0) (OwnF.setD (j:=0) (u:=G A4 d.now.length c4) J6 (by decide) H2 zay) (by decide) k0 zay;have K1:=I k1;have KP:=I Jb
  have HB:=I (H3.other (show w.heap.size+1≠w.heap.size by omega) 0 (G A4 d.now.length c4))
  have Hl:=I (HB.out.other (show w.heap.size+1≠w.heap.size by omega) 1 (G none 0 0))
  have KO:=I (Pk (p:=⟨w.heap.size,1,none⟩) (Pk (p:=⟨w.heap.size,0,none⟩) KN.out (xN _) (G A4 d.now.length c4)) (xN _) (G none 0 0));obtain ⟨g0,g1,_,_,_⟩:=zaa H2;clear H2 H3 J6 k0 k1 Jb HB KN;go_wp2_with fail;clear f0 f1 g0 g1
  refine (zlW w.heap.size _ _ d.quota d.fuse d.dead _ K1.out HZ.out.f).mono ?_
  rintro e w4 ⟨rfl,Ja⟩;obtain ⟨H2,H8,H9,Hx,Ht⟩:=zlX (d:={ d with fs:=d.now,q:=[] }) K1.out KP.out (OwnX.nil _ _ _);rw[Ja] at H2 H8 H9 Hx Ht;have H3:=Hx _ _ _ (by omega) Hl.out;have KQ:=Ht _ KO.out (xN _);obtain ⟨d5,K4⟩:∃ x,({ d with fs:=d.now,q:=[] }:Dk).burn=x:=⟨_,rfl⟩;rw[K4] at H2 H8 H9;have H5:=I K4;clear K4;obtain ⟨g0,g1,g2,g3,g4⟩:=zaa H2;obtain ⟨f0,f1,f2,f3,f4⟩:=zam H3;obtain ⟨d0,d1,d2,d3,d4⟩:=zaa H3;have Q1:=I H3;have Q2:=I H8;have Q3:=I H9;have Q4:=I KQ;clear H2 H3 H8 H9 Hx Ht KQ K1 KP Hl KO Ja;go_wp2_with fail
  refine bodyPost_ret (zjj _ _ _ _ (H R 0) rfl rfl (zal Q1.out _ _ _ _ _) rfl) rfl ?_
  have K4:=H5.out;subst K4
  exact ⟨_,rfl,⟨_,_,_,_,rfl,OwnF.box1 Q2.out Q1.out,OwnQ.box1 Q3.out Q1.out⟩,zae Q4.out (P4 _) _ _ _ _ _⟩
 ·have e1:S=(d,2):=by rw[←HS.out];unfold Dk.syncS;rw[if_pos (by simp[hm]),hm]
  subst e1;rw[hm];clear HC HS;obtain ⟨f0,f1,f2,f3,f4⟩:=zam H3;obtain ⟨d0,d1,d2,d3,d4⟩:=zaa H3;have Q1:=I H3;have Q2:=I H8;have Q3:=I H9;clear H2 H3 H8 H9;go_wp2_with fail
  refine bodyPost_ret (zjj _ _ _ _ (H R 2) rfl rfl (zal Q1.out _ _ _ _ _) rfl) rfl ?_
  exact ⟨_,rfl,⟨_,_,_,_,rfl,OwnF.box1 Q2.out Q1.out,OwnQ.box1 Q3.out Q1.out⟩,zae HU.out (P4 _) _ _ _ _ _⟩
 ·have e1:S=(d,40):=by rw[←HS.out];unfold Dk.syncS;rw[if_pos (by simp[hm]),hm]
  subst e1;rw[hm];clear HC HS;obtain ⟨f0,f1,f2,f3,f4⟩:=zam H3;obtain ⟨d0,d1,d2,d3,d4⟩:=zaa H3;have Q1:=I H3;have Q2:=I H8;have Q3:=I H9;clear H2 H3 H8 H9;go_wp2_with fail
  refine bodyPost_ret (zjj _ _ _ _ (H R 40) rfl rfl (zal Q1.out _ _ _ _ _) rfl) rfl ?_
  exact ⟨_,rfl,⟨_,_,_,_,rfl,OwnF.box1 Q2.out Q1.out,OwnQ.box1 Q3.out Q1.out⟩,zae HU.out (P4 _) _ _ _ _ _⟩
end Go.Proofs.YteggfecbjgbndaaGreatDoor
