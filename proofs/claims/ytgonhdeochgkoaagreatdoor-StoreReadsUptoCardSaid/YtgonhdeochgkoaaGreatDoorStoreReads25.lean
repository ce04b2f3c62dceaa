/- Merged: DMay DSort Sh1 Sh2 Sh3 Sh4 Sh5 Sh6 ShP Wk17 AppF Keep PutsP SwapP -/
import Derived.Test.YtgonhdeochgkoaaGreatDoorStoreReads24
import Derived.Sort.OwnSorted
set_option linter.all false
set_option maxHeartbeats 8000000
set_option maxRecDepth 100000
namespace Go.Proofs.YtgonhdeochgkoaaGreatDoor
open Go.RowKit Go.Mv Go.Shelf
theorem zrw (v:Value) (d:Dk) (w:World) (hD:DkV w v d) (hl1:d.fs.length≤2000000) (hl2:d.q.length≤2000000) (hb:tot d.fs+za8 d.q≤70000000) :
  Calls Tryz.prog 133 #[v] w fun e w'=>e=.returned (.int .i64 d.may)∧Ext w w':=by
 obtain ⟨vf,vq,rfl,hF,hQ⟩:=hD
 obtain ⟨A,c,rfl,_,_⟩:=Fs.open_ hF
 obtain ⟨B,e2,rfl,_,_⟩:=Qs.open_ hQ
 have hE0:Ext w (w.alloc (.cells #[.slice A d.fs.length c,.slice B d.q.length e2,.int .i64 d.quota,.int .i64 d.fuse,.bool d.dead] 25)):=Ext.alloc (Ext.refl _) _
 have hb0:=Blk.new w 25 #[.slice A d.fs.length c,.slice B d.q.length e2,.int .i64 d.quota,.int .i64 d.fuse,.bool d.dead]
 have HC:=zhd (zoc _ d _ (show DkV _ _ d from ⟨_,_,rfl,hF.ext hE0,hQ.ext hE0⟩) hl1 hl2 hb)
 have HE0:=zhd hE0
 have HB0:=zhd hb0
 obtain ⟨M,hM⟩:∃ M,d.may=M:=⟨_,rfl⟩
 rw[hM]
 have HM:=zhd hM
 clear hF hQ hE0 hb hM
 obtain ⟨g0,g1,g2,g3,g4⟩:=zad hb0
 clear hb0
 go_enter Tryz.func133,Tryz.ntmps133
 go_wp2_with fail
 refine HC.out.mono ?_
 rintro e w1 ⟨rfl,hE1⟩
 have HB1:=zhd (HB0.out.ext hE1)
 have HE1:=zhd (Ext.trans HE0.out hE1)
 clear g0 g1 g2 g3 g4 HC HB0 HE0 hE1
 obtain ⟨g0,g1,g2,g3,g4⟩:=zad HB1.out
 cases hr:d.right with
 | false =>
  have hm:(2:Int)=M:=by rw[←HM.out];unfold Dk.may;rw[if_pos hr]
  subst hm
  clear hr
  go_wp2_with fail
  go_ret
  exact ⟨rfl,HE1.out⟩
 | true =>
  cases hd:d.dead with
  | true =>
   have hm:(40:Int)=M:=by rw[←HM.out];unfold Dk.may;rw[if_neg (by rw[hr];simp),if_pos hd]
   subst hm
   clear hr
   rw[hd] at g4
   go_wp2_with fail
   go_ret
   exact ⟨rfl,HE1.out⟩
  | false =>
   have hm:(0:Int)=M:=by rw[←HM.out];unfold Dk.may;rw[if_neg (by rw[hr];simp),if_neg (by rw[hd];simp)]
   subst hm
   clear hr
   rw[hd] at g4
   go_wp2_with fail
   go_ret
   exact ⟨rfl,HE1.out⟩
def zfK (W:World) (b:Nat) (f:Int):World:=if 0<f then (W.setCell ⟨b,3,none⟩ (.int .i64 (f-1))).setCell ⟨b,4,none⟩ (.bool (f-1==0)) else W
theorem zlr (b:Nat) (vf vq:Value) (q f:Int) (dd:Bool) (w:World) (hB:Blk w b 25 #[vf,vq,.int .i64 q,.int .i64 f,.bool dd]) (hf:f≤9223372036854775807) :
  Calls Tryz.prog 136 #[.pointer (some ⟨b,0,none⟩)] w fun e w'=>e=.returned (.tuple #[])∧zfK w b f=w':=by
 obtain ⟨g0,g1,g2,g3,g4⟩:=zad hB
 have f3:=hB.frozen 3
 have f4:=hB.frozen 4
 unfold zfK
 by_cases h0:0<f
 ·rw[if_pos h0]
  have hw:wrap64 (f-1)=f-1:=by unfold wrap64;omega
  go_enter Tryz.func136,Tryz.ntmps136
  go_wp2_with fail
  refine bodyPost_end (results_none rfl _ _ _) rfl ?_
  exact ⟨rfl,rfl⟩
 ·rw[if_neg h0]
  go_enter Tryz.func136,Tryz.ntmps136
  go_wp2_with fail
  refine bodyPost_end (results_none rfl _ _ _) rfl ?_
  exact ⟨rfl,rfl⟩
theorem zqH (base:Nat) (v:Value) (ss:List (List UInt8)) (w:World) (hown:w.ownsRow base 9 1 v ss.length (ss.map sv)) (hl:ss.length≤2000000) :
  Calls Tryz.prog 151 #[v] w fun e w'=>e=.returned (.tuple #[])∧w'.ownsRow base 9 1 v ss.length ((ss.mergeSort leB).map sv)∧w.grownBy w' v.ownBlock:=by
 rcases hown.2 with ⟨rfl,hx⟩ | ⟨g,cap,cur,rfl,hbg,hg,hnc,hcm,hcs,htake⟩
 ·have h0:ss=[]:=List.eq_nil_of_length_eq_zero hx
  subst h0
  refine (Tryz.slices_Sort_string_none none 0 w).mono ?_
  rintro e w' ⟨rfl,rfl⟩
  exact ⟨rfl,by simpa using hown,⟨rfl,rfl,rfl,Nat.le_refl _,fun _ _ _=>rfl⟩⟩
 ·have hH:Go.Sort.Holds encStr w g 0 ss.toArray:=holds_of_block hg (by have:=htake;rw[Nat.mul_one] at this;exact this)
  refine (Tryz.slices_Sort_string g 0 cap ss w hH (Array.getElem?_eq_some_iff.1 hg).1 (by omega)).mono ?_
  rintro e w' ⟨rfl,n,os,rfl⟩
  refine ⟨rfl,?_,grownBy_sorted _⟩
  exact ownsRow_sorted (ts:=ss.mergeSort leB) (List.length_mergeSort ss) hbg hg hnc hcm hcs
theorem zlH:(Tryz.prog.info? 9).map (fun i=>(i.zero,i.size,i.bytes))=some (some (.string ⟨#[]⟩),1,16):=by kernel_rfl
theorem zqi (l:List (List UInt8)):∀ u∈l.map sv,u.oneCell'=true:=by
 intro u hu
 obtain ⟨n,_,rfl⟩:=List.mem_map.1 hu
 rfl
def SoK (n0 bo:Nat) (k:Nat) (o:Obj):Prop:=(∀ r,o≠.loop r)∧((k<n0∧k≠bo)∨(n0≤k∧o.ty=some 9))
theorem znu {w w':World} {bo:Nat} {t:TypeId} {cs:Array Value} (hB:Blk w bo t cs) (hno:∀ (k:Nat) (n:Int),cs[k]?≠some (.int .u8 n)) (hk:∀ p x,w.cell? p=some x→p.block≠bo→w'.cell? p=some x):∀ {es:List MapEntry} {l:List Fil},E2 w es l→E2 w' es l
 | [],[],_=>trivial
 | _::_,_::_,h=>⟨h.1,Bs.away h.2.1 (Bs.awayBlk h.2.1 hB hno) hk,znu hB hno hk h.2.2⟩
 | [],_::_,h=>h.elim
 | _::_,[],h=>h.elim
structure SoO (W0:World) (bo:Nat) (W:World):Prop where
 old:∀ k o,W0.heap[k]?=some o→(∀ r,o≠.loop r)→k≠bo→W.heap[k]?=some o
 sz:W0.heap.size≤W.heap.size
theorem SoO.cell {W0 W:World} {bo:Nat} (h:SoO W0 bo W) {p:Addr} {x:Value} (hc:W0.cell? p=some x) (hp:p.block≠bo):W.cell? p=some x:=by
 obtain ⟨o,ho,hcs⟩:=cells_of_cell hc
 exact (World.cell?_of_block ((h.old _ o ho (fun r e=>by rw[e] at hcs;cases hcs) hp).trans ho.symm)).trans hc
theorem SoO.fmap {W0 W:World} {bo r:Nat} {l:List Fil} {t:TypeId} {cs:Array Value} (h:SoO W0 bo W) (hM:FMap W0 r l) (hB:Blk W0 bo t cs) (hno:∀ (k:Nat) (n:Int),cs[k]?≠some (.int .u8 n)):FMap W r l:=by
 obtain ⟨es,c,hb,hs,he⟩:=hM
 have hne:r≠bo:=by
  rintro rfl
  rw[show W0.heap[r]?=_ from hB] at hb
  cases hb
 exact ⟨es,c,h.old r _ hb (fun r e=>(by cases e)) hne,hs,znu hB hno (fun p x hc hp=>h.cell hc hp) he⟩
theorem SoO.boxed {W0 W:World} {bo b:Nat} {t:TypeId} {v:Value} (h:SoO W0 bo W) (hB:Boxed W0 b t v) (hne:b≠bo):Boxed W b t v:=h.old b _ hB (fun r e=>by cases e) hne
theorem SoO.kept {W0 W W':World} {bo n:Nat} (h:SoO W0 bo W) (hk:Kept (zab (SoK W0.heap.size bo) n) W W'):SoO W0 bo W':=by
 refine ⟨fun k o ho hl hne=>?_,Nat.le_trans h.sz hk.size⟩
 exact hk.same k _ (h.old k o ho hl hne) (.inl ⟨hl,.inl ⟨(Array.getElem?_eq_some_iff.1 ho).1,hne⟩⟩)
theorem SoO.ext {W0 W W':World} {bo:Nat} (h:SoO W0 bo W) (hE:Ext W W'):SoO W0 bo W' :=
 ⟨fun k o ho hl hne=>by
   have h1:=h.old k o ho hl hne
   exact (hE.block k (Array.getElem?_eq_some_iff.1 h1).1).trans h1,Nat.le_trans h.sz hE.size⟩
theorem SoO.of_ext {W0 W:World} (bo:Nat) (hE:Ext W0 W):SoO W0 bo W:=⟨fun k o ho _ _=>(hE.block k (Array.getElem?_eq_some_iff.1 ho).1).trans ho,hE.size⟩
theorem zow {n0 bo n1:Nat} (hn:n0≤n1) {W W':World} {v:Value} {n:Nat} {xs:List Value} (h:W.ownsRow n1 9 1 v n xs) (hk:Kept (zab (SoK n0 bo) n1) W W'):W'.ownsRow n1 9 1 v n xs:=by
 refine ⟨h.1,?_⟩
 rcases h.2 with hn | ⟨g,cap,cur,rfl,hb,hgg,rest⟩
 ·exact .inl hn
 ·exact .inr ⟨g,cap,cur,rfl,hb,hk.same _ _ hgg (.inl ⟨fun r e=>(by cases e),.inr ⟨Nat.le_trans hn hb,rfl⟩⟩),rest⟩
def SoR (x:Fil) (av:Array Value) (W:World):Prop:=∃ C d,av = #[.agg #[sv x.1,.slice C x.2.length d]]∧OwnB W 0 (.slice C x.2.length d) x.2
theorem zsr {w:World}:∀ {Z:List Ze},E2 w (Z.map (·.1)) (Z.map (·.2))→∀ z∈Z,Bs w z.1.val z.2.2
 | z::Z,h,y,hy=>by
  rcases List.mem_cons.1 hy with rfl | hy
  ·exact h.2.1
  ·exact zsr h.2.2 y hy
theorem FIt.with_ {W W':World} {r i:Nat} {l L:List Fil} (h:FIt W r i l L) (hr:W'.heap[r]?=W.heap[r]?) (hi:W'.heap[i]?=W.heap[i]?) (hM:FMap W' r l):FIt W' r i l L:=by
 obtain ⟨es,clock,since,seen,c0,Z,h1,h2,h3,h4,h5,h5',h6,h7,h8,h9⟩:=h
 obtain ⟨es',c',g1,_,g3⟩:=hM
 rw[hr,h1] at g1
 cases g1
 rw[h6,h7] at g3
 exact ⟨es,clock,since,seen,c0,Z,hr.trans h1,hi.trans h2,h3,h4,h5,h5',h6,h7,fun z hz=>⟨(h8 z hz).1,zsr g3 z hz⟩,h9⟩
structure SoC (r i:Nat) (l:List Fil) (W0:World) (v:Value) (ss:List (List UInt8)) (W:World):Prop where
 e:Ext W0 W
 ex:∃ L,FIt W r i l L∧(ss++L.map (·.1)).Perm (l.map (·.1))
 ow:W.ownsRow W0.heap.size 9 1 v ss.length (ss.map sv)
theorem zfx {W:World} {base:Nat} {e:TypeId} {size:Nat} {v:Value} {n:Nat} {xs:List Value} (h:W.ownsRow base e size v n xs) {k:Nat} {o:Obj} (hk:W.heap[k]?=some o) (hc:o.isCells=false):some k≠v.ownBlock:=by
 intro he
 rcases h.2 with ⟨rfl,_⟩ | ⟨g,cap,cur,rfl,_,hg,_⟩
 ·cases he
 ·cases he
  rw[hk] at hg
  cases hg
  cases hc
theorem FIt.objs {W:World} {r i:Nat} {l L:List Fil} (h:FIt W r i l L):(∃ es c,W.heap[r]?=some (.map es c))∧∃ m a s c,W.heap[i]?=some (.mapIter m a s c):=by
 obtain ⟨es,clock,since,seen,c0,Z,h1,h2,_⟩:=h
 exact ⟨⟨_,_,h1⟩,⟨_,_,_,_,h2⟩⟩
attribute [local go_sem] Oper.semAt_some in
theorem znf (Wm W0:World) (hEm:Ext Wm W0) (r B bo:Nat) (l:List Fil) (hM:FMap Wm r l) (hB:Boxed Wm B 160 (.map (some r))) (hBo:B≠bo) {tb:TypeId} {cb:Array Value} (hbo:Blk Wm bo tb cb) (hno:∀ (k:Nat) (n:Int),cb[k]?≠some (.int .u8 n)) (hl:l.length≤2000000) (hbl:∀ p∈l,p.2.length≤2000000) :
  Seq Tryz.prog 150 #[.pointer (some ⟨B,0,none⟩)] SoR (SoK Wm.heap.size bo) (fun _ _=>False) (zbl l) W0:=by
 intro lp J Jx hJ hJx hY h0
 refine (callsIn_wd (ro:=none) (n:=9)).1 ?_
 refine callsIn_of_wp Tryz.func150 rfl trivial ?_ rfl
 simp only[Tryz.ntmps150,List.size_toArray,List.length_cons,List.length_nil,Nat.reduceAdd,Nat.reduceSub,Array.replicate_succ,Array.replicate_zero,List.push_toArray,List.append_toArray,List.nil_append,List.cons_append]
 have c1:=(hB.kept (row:=none) (Ext.grown hEm none) (by simp)).cell
 have HM:=zhd hM
 have HY:=zhd hY
 have HBX:=zhd hB
 have HBO:=zhd hbo
 clear hM hY hB hbo
 gi_wp2_with (gi_at_range;refine zjb rfl (.tmp 7) rfl Tryz.underlying160 r l rfl (HM.out.ext hEm) ?_;intro w1 hi1 hE1)
 have HC:=zhd (show SoC r W0.heap.size l W0 (.slice none 0 0) [] w1 from ⟨hE1,⟨l,hi1,by simp⟩,⟨by simp,.inl ⟨rfl,rfl⟩⟩⟩)
 clear hi1 hE1 c1
 obtain ⟨i0,hi,hz0,hz1,hz2⟩:=info_parts zlH
 go_frame
 gi_loopw [3,4] (fun vs _ W=>∃ (ss:List (List UInt8)) (A:Option Addr) (c:Nat),vs=.slice A ss.length c∧Hid (SoC r W0.heap.size l W0 (.slice A ss.length c) ss W)) (fun _ _ W=>zgJ W r W0.heap.size)
 case atStart=>exact ⟨[],none,0,rfl,HC⟩
 case round =>
  clear HC
  obtain ⟨ss,A,c,rfl,HC⟩:=hrel
  obtain ⟨L,hI,hp⟩:=HC.out.ex
  have HI:=zhd hI
  have HP:=zhd hp
  have HE:=zhd HC.out.e
  have HO:=zhd HC.out.ow
  clear hI hp HC
  gi_wp2_with (gi_at_next;refine zjP rfl (.tmp 8) rfl r W0.heap.size l L rfl HI.out ?_ ?_)
  ·intro hL
   subst hL
   have hperm:ss.Perm (l.map (·.1)):=by simpa using HP.out
   have hsf:zbl l=(ss.mergeSort leB).map fun n=>(n,(zai n l).getD []):=by unfold zbl;rw[mergeSort_of_perm hperm]
   have hnl:(ss.mergeSort leB).length=ss.length:=List.length_mergeSort ss
   have hsl:ss.length≤2000000:=by have:=hperm.length_eq;rw[List.length_map] at this;omega
   have HSF:=zhd hsf
   have HNL:=zhd hnl
   clear hperm hsf hnl HP HI
   gi_wp2_with (refine ⟨trivial,?_⟩;gi_at_call 151;refine (callsIn_wd.2 (zqH W0.heap.size _ ss wr HO.out hsl)).mono ?_;rintro e w2 ⟨rfl,ho2,hg2⟩)
   have hE2:Ext W0 w2:=Ext.grownOwn HE.out HO.out hg2
   have hj0:=hJ [] W0 w2 h0 ⟨hE2.os,hE2.tape,hE2.output,hE2.size,fun k o hk _=>(hE2.block k (Array.getElem?_eq_some_iff.1 hk).1).trans hk⟩
   have HJ0:=zhd hj0
   have HO2:=zhd ho2
   have HSO:=zhd (SoO.of_ext bo (Ext.trans hEm hE2))
   have hz2w:=hE2.size
   clear hE2 hj0 ho2 hg2 HO HE h0 hi hz0 hz1 hz2
   generalize ss.mergeSort leB=N at *
   gi_loopw [6,21] (fun _ i W=>∃ k:Nat,k≤N.length∧i=.int .i64 k∧Hid (J ((zbl l).take k) W)∧Hid (SoO Wm bo W)∧Hid (W.ownsRow W0.heap.size 9 1 (.slice A ss.length c) ss.length (N.map sv))∧W0.heap.size≤W.heap.size) (fun _ i _=>N.length-(intOf i).toNat)
   case atStart=>exact ⟨0,Nat.zero_le _,rfl,HJ0,HSO,HO2,hz2w⟩
   case round =>
    clear HJ0 HSO HO2
    obtain ⟨k,hk,rfl,HJ,HSO,HO,hWz⟩:=hrel
    have hnl:=HNL.out
    by_cases hlt:k<N.length
    ·have hsl2:SlR wr 1 (.slice A ss.length c) ss.length (N.map sv):=SlR.of_own HO.out
     obtain ⟨_,b,off,rfl,hcl⟩:=hsl2.at_ (by omega)
     have hc0:=hcl k (sv N[k]) (by rw[List.getElem?_map,List.getElem?_eq_getElem hlt];rfl)
     obtain ⟨bs,hbs⟩:∃ bs,(zai N[k] l).getD []=bs:=⟨_,rfl⟩
     have hbl2:bs.length≤2000000:=by
      rw[←hbs]
      cases hg:zai N[k] l with
      | none=>simp
      | some b0=>exact hbl _ (zdj hg)
     have hx:(zbl l)[k]?=some (N[k],bs):=by rw[HSF.out,List.getElem?_map,List.getElem?_eq_getElem hlt,Option.map_some,hbs]
     have hkl:k<(zbl l).length:=(List.getElem?_eq_some_iff.1 hx).1
     have hsp:zbl l=(zbl l).take k++(N[k],bs)::(zbl l).drop (k+1):=by
      have h9:(zbl l)[k]=(N[k],bs):=by rw[List.getElem?_eq_getElem hkl] at hx;exact Option.some.inj hx
      rw[←h9]
      rw[←List.drop_eq_getElem_cons hkl,List.take_append_drop]
     have htk:(zbl l).take (k+1)=(zbl l).take k++[(N[k],bs)]:=by
      rw[List.take_succ_eq_append_getElem hkl]
      congr 2
      rw[List.getElem?_eq_getElem hkl] at hx
      exact Option.some.inj hx
     have HSP:=zhd hsp
     have HTK:=zhd htk
     have HBS:=zhd hbs
     have HMM:=zhd (HSO.out.fmap HM.out HBO.out hno)
     have c1:=(HSO.out.boxed HBX.out hBo).cell
     clear hcl hsl2 hbs hx hsp htk hkl
     generalize N[k]=n at *
     simp only[sv] at hc0
     gi_wp2_with (first
      | (gi_at_lookup;refine zii rfl (.tmp 27) (.tmp 28) false rfl Tryz.underlying160 Tryz.underlying9 (zgp _) r l rfl HMM.out n rfl ?_;rw[HBS.out];intro A1 c1' hb1;have HB1:=zhd hb1;clear hb1)
      | (refine ⟨trivial,?_⟩;gi_at_call 132;refine (callsIn_wd.2 (zh5 _ bs wr HB1.out hbl2)).mono ?_;rintro e w3 ⟨A2,c2,rfl,ho3,hE3⟩))
     have hmv:Moves (zab (fun _ _=>False) W0.heap.size) wr w3:=⟨hE3.os,hE3.tape,hE3.output,hE3.size,fun k o hk _=>(hE3.block k (Array.getElem?_eq_some_iff.1 hk).1).trans hk⟩
     have hy:=HY.out ((zbl l).take k) (n,bs) _ HSP.out w3 #[.agg #[sv n,.slice A2 bs.length c2]] (hJ _ _ _ HJ.out hmv) (Nat.le_trans hWz hE3.size) ⟨A2,c2,rfl,zah ho3 (Nat.zero_le _)⟩
     have Hy:=zhd hy
     have HSO3:=zhd (HSO.out.ext hE3)
     have HO3:=zhd (zae HO.out hE3)
     have hWz3:=Nat.le_trans hWz hE3.size
     clear hy hmv ho3 hE3 c1 HB1 HMM
     refine zaZ Hy.out ?_
     rintro e W' ⟨hk',⟨rfl,hj⟩ | ⟨rfl,hj⟩⟩
     ·refine ⟨true,rfl,?_⟩
      have HJ4:=zhd hj
      have HSO4:=zhd (HSO3.out.kept hk')
      have HO4:=zhd (zow hEm.size HO3.out hk')
      have hWz4:=Nat.le_trans hWz3 hk'.size
      clear hj hk' Hy hc0
      gi_wp2
      exact ⟨⟨k+1,by omega,by go_num,by rw[HTK.out];exact HJ4.out,HSO4,HO4,hWz4⟩,by simp[intOf];omega⟩
     ·refine ⟨false,rfl,?_⟩
      have HJ4:=zhd hj
      clear hj hk' Hy hc0
      gi_wp2
      refine bodyPost_ret (results_none rfl _ _ _) rfl ?_
      refine ⟨⟨_,rfl⟩,.inr ⟨(zbl l).take k++[(n,bs)],⟨(zbl l).drop (k+1),?_⟩,HJ4.out⟩⟩
      rw[List.append_assoc]
      exact HSP.out.symm
    ·have hkn:k=N.length:=by omega
     have hfin:J (zbl l) wr:=by
      have:=HJ.out
      rwa [List.take_of_length_le (by rw[HSF.out,List.length_map];omega)] at this
     have HFIN:=zhd hfin
     have hge:ss.length≤k:=by omega
     clear hfin hkn
     gi_wp2
     refine bodyPost_end (results_none rfl _ _ _) rfl ?_
     exact ⟨⟨_,rfl⟩,.inl HFIN.out⟩
  ·intro n b A1 c1 L' w2 hp2 hI2 hb2 hm2 hri hent
   have hsl:ss.length+L.length=l.length:=by have:=HP.out.length_eq;simpa using this
   have hll:L.length=L'.length+1:=by have:=hp2.length_eq;simpa using this
   have HE2:=zhd (hm2.ext HE.out (Nat.le_refl _))
   have ho2:=HO.out.kept (row:=some W0.heap.size) ⟨hm2.os,hm2.tape,hm2.output,Nat.le_of_eq hm2.size.symm,fun k hk hne=>hm2.block k (fun e=>hne (by rw[e]))⟩ (.inr (by obtain ⟨m,a,s,c',hh⟩:=HI.out.objs.2;exact (zfx HO.out hh rfl).symm))
   have HO2:=zhd ho2
   have HI2:=zhd hI2
   have HP2:=zhd (show (ss++[n]++L'.map (·.1)).Perm (l.map (·.1)) from by
    refine List.Perm.trans ?_ HP.out
    rw[List.append_assoc]
    refine List.Perm.append_left ss ?_
    exact (hp2.map (·.1)).symm)
   have HLN:=zhd (show L'.length<zgJ wr r W0.heap.size by rw[HI.out.left];omega)
   clear hp2 hI2 hb2 hm2 hri ho2 HI HP HO
   simp only[sv] at hent ⊢
   gi_wp2_with (gi_at_builtin;refine zbC _ rfl (.tmp 13) (.tmp 15) 64 rfl W0.heap.size 9 i0 _ 1 16 Tryz.underlying64 hi hz0 hz1 hz2 rfl (by decide) _ ss.length (ss.map sv) rfl (zae HO2.out (Ext.alloc (Ext.refl _) _)) _ 1 [sv n] rfl (zeW w2 [sv n] 9 1 rfl rfl) (zqi [n]) (by unfold maxLen;omega) (by omega) (by have:=HE2.out.size;simp;omega) ?_;intro v3 w3 ho3 hg3)
   have hX:Ext w2 (w2.alloc (.cells #[sv n] 9)):=Ext.alloc (Ext.refl _) _
   have hE3:Ext W0 w3:=Ext.grownOwn (Ext.trans HE2.out hX) (zae HO2.out hX) hg3
   have hI3:FIt w3 r W0.heap.size l L':=by
    obtain ⟨⟨es,cc,g1⟩,m,aa,ss',cc',g2⟩:=(HI2.out.ext hX).objs
    exact (HI2.out.ext hX).with_ (hg3.block _ (Array.getElem?_eq_some_iff.1 g1).1 (zfx (zae HO2.out hX) g1 rfl)) (hg3.block _ (Array.getElem?_eq_some_iff.1 g2).1 (zfx (zae HO2.out hX) g2 rfl)) (HM.out.ext (Ext.trans hEm hE3))
   obtain ⟨A3,c3,rfl,_,_⟩:=SlR.open_ (SlR.of_own ho3)
   have ho4:w3.ownsRow W0.heap.size 9 1 (.slice A3 (ss++[n]).length c3) (ss++[n]).length ((ss++[n]).map sv):=by
    rw[List.length_append,List.map_append]
    exact ho3
   exact ⟨⟨ss++[n],A3,c3,by rw[List.length_append];rfl,⟨hE3,⟨L',hI3,HP2.out⟩,ho4⟩⟩,by rw[hI3.left];exact HLN.out⟩
end Go.Proofs.YtgonhdeochgkoaaGreatDoor

namespace Go.Mv
open Go.RowKit
theorem Moves.blk {M:Nat→Obj→Prop} {A B:World} (h:Moves M A B) {b:Nat} {t:TypeId} {cs:Array Value} (hb:Blk A b t cs) (hM:¬ M b (.cells cs t (0,0))):Blk B b t cs:=h.same b _ hb hM
theorem Moves.blkF {n:Nat} {A B:World} (h:Moves (zab (fun _ _=>False) n) A B) {b:Nat} {t:TypeId} {cs:Array Value} (hb:Blk A b t cs):Blk B b t cs:=h.blk hb (by rintro (h | ⟨_,h⟩);exact h;cases h)
theorem Moves.belowF {n:Nat} {A B w:World} (h:Moves (zab (fun _ _=>False) n) A B) (he:Ext w A) (hn:w.heap.size≤n):Ext w B:=h.belowOf he (by rintro k o hk (h | h);exact h;omega) (Nat.le_refl _)
end Go.Mv
namespace Go.Proofs.YtgonhdeochgkoaaGreatDoor
open Go.RowKit Go.Mv Go.Shelf
attribute [local go_sem] Oper.semAt_some
theorem ze2 {W:World} {b:Nat} {t:TypeId} {cs:Array Value} (h:Blk W b t cs) {D:Nat} {o:Obj} (hD:W.heap[D]?=some o) (hc:o.isCells=false) (o':Obj):Blk (W.putObj D o') b t cs:=by
 refine (World.putObj_heap_other (fun e=>?_)).trans h
 subst e
 rw[show W.heap[b]?=_ from h] at hD;cases hD;cases hc
attribute [local go_sem] Oper.semAt_some
theorem zjz {W:World} {base:Nat} {e:TypeId} {size:Nat} {v:Value} {n:Nat} {xs:List Value} (h:W.ownsRow base e size v n xs) {D:Nat} {o:Obj} (hD:W.heap[D]?=some o) (hc:o.isCells=false) (o':Obj):(W.putObj D o').ownsRow base e size v n xs:=by
 refine ⟨h.1,?_⟩
 rcases h.2 with hn | ⟨g,cap,cur,hv,hb,hg,rest⟩
 ·exact .inl hn
 ·exact .inr ⟨g,cap,cur,hv,hb,ze2 (W:=W) (b:=g) (t:=e) (cs:=cur) hg hD hc o',rest⟩
open Go.RowKit Go.Mv
/-! Names -/
theorem zov {k s f:Int} (hk:k=3∨k=4) (h1:1≤s) (h2:s≤1073741824) (hf:f=1∨f=2):zav k s f=some ((if k=3 then 115 else 112)::(zbK s++46::zbK f)):=by
 have hm:zfu k s f=true:=by
  unfold zfu
  rw[if_neg (by omega)]
  simp only[decide_eq_true_eq]
  exact ⟨hk,h1,h2,hf⟩
 unfold zav
 rw[if_pos hm]
 unfold zfN
 rw[if_neg (by omega),if_neg (by omega)]
theorem zku {k s f:Int} {n:List UInt8} (hk:k=3∨k=4) (hn:zav k s f=some n):n≠[77]:=by
 unfold zav at hn
 split at hn
 ·cases hn
  unfold zfN
  rw[if_neg (by omega),if_neg (by omega)]
  intro h
  injection h with h _
  rcases hk with rfl | rfl <;> simp at h
 ·cases hn
theorem zhL:zav 1 0 0=some [77]:=rfl
/-! Files -/
theorem zmE (f:Fil) (fs:List Fil) (n:List UInt8):zaF (f::fs) (some n)=if f.1=n then some f.2 else zaF fs (some n):=by
 unfold zaF zcW zbo
 simp only[List.findIdx?_cons]
 by_cases h:f.1=n
 ·simp[h]
 ·have hb:(f.1==n)=false:=by simpa using h
  rw[if_neg h,hb]
  simp only[Bool.false_eq_true,if_false]
  cases hi:fs.findIdx? (fun f=>f.1==n) with
  | none=>simp
  | some i =>
   simp only[Option.map_some]
   rw[if_neg (by omega),if_neg (by omega)]
   have e1:((i+1:Nat):Int).toNat=i+1:=by omega
   have e2:((i:Nat):Int).toNat=i:=by omega
   rw[e1,e2,List.getElem?_cons_succ]
/-! Manifests -/
/-! Segments -/
theorem zse {b:List UInt8} {e:Ent} (h:zcO rT b=some e):e.ok=true:=by
 unfold zcO at h
 split at h
 ·cases h
 ·split at h
  ·split at h
   ·split at h
    ·rename_i hok
     cases h
     exact hok
    ·cases h
   ·cases h
  ·cases h
theorem ztb (b:List UInt8):∀ p,∀ x∈zb0 rT b p,x.2.ok=true:=by
 generalize hn:b.length=n
 induction n using Nat.strongRecOn generalizing b with
 | _ n ih =>
  intro p x hx
  by_cases hs:b.length<15
  ·rw[zf2 hs] at hx;cases hx
  ·cases ht:zcO rT (b.take 15) with
   | none=>rw[zgX hs ht] at hx;cases hx
   | some e =>
    rw[zgY hs ht,List.mem_cons] at hx
    rcases hx with rfl | hx
    ·exact zse ht
    ·exact ih (b.drop 15).length (by rw[List.length_drop];omega) (b.drop 15) rfl _ x hx
theorem ztd {b:List UInt8} {m:Int}:zbL (zbW rT b m).log=true:=by
 unfold zbW
 split
 ·unfold zb2
  split
  ·rfl
  ·split
   ·show zbL ((zb0 rT (b.drop 6) 6).map (·.2))=true
    unfold zbL
    rw[List.all_eq_true]
    intro x hx
    obtain ⟨q,hq,rfl⟩:=List.mem_map.1 hx
    exact ztb _ _ q hq
   ·rfl
 ·split
  ·unfold zcv
   split
   ·rfl
   ·rename_i x _
    dsimp only
    obtain ⟨cs,h1,h2,_⟩:=zoN (zaz (0,0) (zcp (x.1:Int)).2) x.2
    rw[h2]
    unfold zbL
    rw[List.all_eq_true]
    intro e he
    obtain ⟨c,hc,hec⟩:=List.mem_flatten.1 he
    have:=((zfJ c).1 (h1 c hc)).2
    unfold zbL at this
    rw[List.all_eq_true] at this
    exact this e hec
  ·rfl
theorem ztD {fs:List Fil} {s:Sg4} {y:List Ent} (h:zay fs s=some y):zbL y=true∧zbB y.length s.count=false:=by
 unfold zay at h
 split at h
 ·cases h
 ·split at h
  ·cases h
  ·split at h
   ·cases h
   ·split at h
    ·cases h
    ·rename_i hc
     cases h
     exact ⟨ztd,Bool.eq_false_iff.2 hc⟩
theorem zkq {fs:List Fil} {index:Int}:∀ {l:List Sg4} {last:Int} {out:List Ent} {r},zdM fs index l last out=some r→∀ s∈l,∃ y,zay fs s=some y
 | [],_,_,_,_,s,hs=>by cases hs
 | x::l,last,out,r,h,s,hs=>by
  rw[zdM] at h
  cases hx:zay fs x with
  | none=>rw[hx] at h;cases h
  | some y =>
   rw[hx] at h
   rcases List.mem_cons.1 hs with rfl | hs
   ·exact ⟨y,hx⟩
   ·exact zkq h s hs
theorem zlN {fs:List Fil} {m:Mf} {index:Int} (h:(zd5 fs m index).2=true):∀ s∈m.segs,∃ y,zay fs s=some y:=by
 unfold zd5 at h
 cases hg:zdM fs index m.segs (index+1) [] with
 | none=>rw[hg] at h;cases h
 | some r=>exact zkq hg
/-! A step -/
theorem zj9 {fs:List Fil} {t:Tup} {m:Mf} (h:zaK fs=⟨0,t,m⟩):∃ b s,zaF fs (some [77])=some b∧zbv b=some m∧zcn fs m=some s∧(zd5 fs m s.idx).2=true∧zbt ⟨s,(zd5 fs m s.idx).1,m.term,m.vote⟩=true∧t=⟨s,(zd5 fs m s.idx).1,m.term,m.vote⟩:=by
 unfold zaK at h
 rw[zhL] at h
 cases hb:zaF fs (some [77]) with
 | none=>rw[hb] at h;cases h
 | some b =>
  rw[hb] at h
  dsimp only at h
  cases hm:zbv b with
  | none=>rw[hm] at h;cases h
  | some m' =>
   rw[hm] at h
   dsimp only at h
   cases hs:zcn fs m' with
   | none=>rw[hs] at h;cases h
   | some s =>
    rw[hs] at h
    dsimp only at h
    split at h
    ·rename_i hc
     rw[Bool.and_eq_true] at hc
     cases h
     exact ⟨b,s,rfl,hm,hs,hc.1,hc.2,rfl⟩
    ·cases h
inductive zli (m:Mf):Int→Int→Int→Prop
 | snap:m.sq≠0→zli m 4 m.sq m.sf
 | seg (j:Nat) (h:j<m.segs.length):zli m 3 m.segs[j].seq m.segs[j].fmt
theorem zj2 {m:Mf} {k s f:Int} (hm:zaD m=true) (h:zli m k s f):(k=3∨k=4)∧(1≤s∧s≤1073741824)∧(f=1∨f=2):=by
 obtain ⟨h1,_,_,_,h5,h6⟩:=zdi hm
 cases h with
 | snap hq =>
  rcases h5 with ⟨h7,_⟩ | ⟨h7,h8,h9⟩
  ·exact absurd h7 hq
  ·exact ⟨.inr rfl,⟨h7,by omega⟩,h9⟩
 | seg j hj =>
  obtain ⟨h7,h8,h9⟩:=zeo (zgj (h6 j hj)).1
  exact ⟨.inl rfl,⟨h7,by omega⟩,h9⟩
/-! What a shadow says -/
theorem zpS (W:World):Fs W (.slice none 0 0) []:=⟨[],SlR.nil W 2,fun i hi=>absurd hi (by simp)⟩
theorem ztG (W:World) (n b:List UInt8) (v:Value) (h:Bs W v b):Fs (W.alloc (.cells #[sv n,v] 51)) (.slice (some ⟨W.heap.size,0,none⟩) 1 1) [(n,b)]:=by
 refine ⟨[sv n,v],⟨rfl,_,1,rfl,Nat.le_refl _,by simp[maxLen],fun _=>⟨W.heap.size,0,rfl,fun j u hu=>?_⟩⟩,fun i hi=>?_⟩
 ·rw[Nat.zero_add]
  have hb:=Blk.new W 51 #[sv n,v]
  exact hb.cell j (by simpa using hu)
 ·have:i=0:=by simp at hi;omega
  subst this
  exact ⟨rfl,v,rfl,h.ext (Ext.alloc (Ext.refl _) _)⟩
theorem zlF:(Tryz.prog.info? 51).map (fun i=>(i.zero,i.size,i.bytes))=some (some (.agg #[.string ⟨#[]⟩,.slice none 0 0]),2,40):=by kernel_rfl
def FRow (W:World) (xs:List Value) (fs:List Fil):Prop:=xs.length=fs.length*2∧∀ (i:Nat) (hi:i<fs.length),xs[i*2]?=some (sv fs[i].1)∧∃ u,xs[i*2+1]?=some u∧Bs W u fs[i].2
theorem FRow.ext {W W':World} {xs:List Value} {fs:List Fil} (h:FRow W xs fs) (hE:Ext W W'):FRow W' xs fs:=⟨h.1,fun i hi=>by
 obtain ⟨h3,u,h4,h5⟩:=h.2 i hi
 exact ⟨h3,u,h4,h5.ext hE⟩⟩
theorem FRow.one {W:World} {xs:List Value} {fs:List Fil} (h:FRow W xs fs):∀ u∈xs,u.oneCell'=true:=by
 intro u hu
 obtain ⟨j,hj,rfl⟩:=List.mem_iff_getElem.1 hu
 have hl:=h.1
 obtain ⟨h3,v,h4,h5⟩:=h.2 (j / 2) (by omega)
 rcases Nat.mod_two_eq_zero_or_one j with hm | hm
 ·have e:j / 2*2=j:=by omega
  rw[e,List.getElem?_eq_getElem hj] at h3
  injection h3 with h3
  rw[h3]
  rfl
 ·have e:j / 2*2+1=j:=by omega
  rw[e,List.getElem?_eq_getElem hj] at h4
  injection h4 with h4
  rw[h4]
  obtain ⟨A,c,rfl,_,_⟩:=SlR.open_ h5
  rfl
theorem FRow.append {W:World} {xs ys:List Value} {fs gs:List Fil} (h1:FRow W xs fs) (h2:FRow W ys gs):FRow W (xs++ys) (fs++gs):=by
 refine ⟨by rw[List.length_append,List.length_append,h1.1,h2.1];omega,fun i hi=>?_⟩
 have hl:=h1.1
 rw[List.length_append] at hi
 by_cases h:i<fs.length
 ·rw[List.getElem?_append_left (by omega),List.getElem?_append_left (by omega)]
  simp only[List.getElem_append_left h]
  exact h1.2 i h
 ·have e1:i*2-xs.length=(i-fs.length)*2:=by omega
  have e2:i*2+1-xs.length=(i-fs.length)*2+1:=by omega
  rw[List.getElem?_append_right (by omega),List.getElem?_append_right (by omega),e1,e2]
  simp only[List.getElem_append_right (Nat.le_of_not_lt h)]
  exact h2.2 (i-fs.length) (by omega)
theorem FRow.one' {W:World} {n1 b1:List UInt8} {v1:Value} (h1:Bs W v1 b1):FRow W [sv n1,v1] [(n1,b1)]:=by
 refine ⟨rfl,fun i hi=>?_⟩
 match i,hi with
 | 0,_=>exact ⟨rfl,v1,rfl,h1⟩
theorem zfw (w:World) (cs:List Value) (m:Nat) (hm:cs.length=m*2) (hl:m≤maxLen) {base:Nat} (hb:base≤w.heap.size):(w.alloc (.cells cs.toArray 51)).ownsRow base 51 2 (.slice (some ⟨w.heap.size,0,none⟩) m m) m cs :=
 ⟨hm,.inr ⟨w.heap.size,m,cs.toArray,rfl,hb,heap_alloc_new w _,Nat.le_refl _,hl,by simp[hm],by simp[←hm]⟩⟩
/-! A manifest laid into an old box -/
theorem zeK {W:World} {b:Nat} {p:Addr} {u:Value} (h:W.cell? p=some u) (hp:p.block≠b) (a' v' u' x' y' z':Value):(zbF W b a' v' u' x' y' z').cell? p=some u:=by
 have hh:(zbF W b a' v' u' x' y' z').heap[p.block]?=W.heap[p.block]?:=by
  unfold zbF
  rw[Below.heap_setCell _ _ _ _ hp,Below.heap_setCell _ _ _ _ hp,Below.heap_setCell _ _ _ _ hp,Below.heap_setCell _ _ _ _ hp,Below.heap_setCell _ _ _ _ hp,Below.heap_setCell _ _ _ _ hp]
 unfold World.cell? at h ⊢
 rw[hh]
 exact h
theorem mcKeep0 {P:Prop} (h:P:=by
 rw[hlen] at HOk
 obtain ⟨_,bs,of,rfl,hcells⟩:=Sgs.at_ HS.out (by omega)
 obtain ⟨d0,d1,_,_⟩:=hcells k hlt
 have c0:=HXk.out.cell d0
 have c1:=HXk.out.cell d1
 have D0:=zhd d0
 have D1:=zhd d1
 clear hcells d0 d1
 go_wp2_with fail
 refine wp_region_held_drew (S:=fun W=>W.cell? ⟨w.heap.size,5,none⟩=some (.slice (some ⟨bs,of,none⟩) sg.length c)∧W.cell? ⟨bs,of+k*4,none⟩=some (.int .i64 sg[k].seq)∧W.cell? ⟨bs,of+k*4+1,none⟩=some (.int .i64 sg[k].fmt)) (by kernel_rfl) ⟨m5,c0,c1⟩ (fun _=>?_)
 refine tkN 0 rfl ?_
 refine tkN 1 rfl ?_
 refine tkN 2 rfl ?_
 refine tkN 3 rfl ?_
 refine tkN 4 rfl ?_
 refine tkN 5 rfl ?_
 refine tkN 6 rfl ?_
 refine tkN 7 rfl ?_
 refine tkN 8 rfl ?_
 refine tkN 9 rfl ?_
 refine tkN 10 rfl ?_
 refine tkN 11 rfl ?_
 refine tkN 12 rfl ?_
 refine tkN 13 rfl ?_
 refine ar1 14 rfl (fun K hK=>?_)
 go_simp
 have X1:Ext wr (wr.alloc (.cells #[.int .u8 3,.int .i64 sg[k].seq,.int .i64 sg[k].fmt] 49)).drew:=Ext.drew (Ext.alloc (Ext.refl _) _)
 have hr6:SlR (wr.alloc (.cells #[.int .u8 3,.int .i64 sg[k].seq,.int .i64 sg[k].fmt] 49)).drew 3 (.slice (some ⟨wr.heap.size,0,none⟩) 1 1) 1 (idCells [zaN sg[k]]):=SlR.ext (SlR.of_own (zeT wr (zaN sg[k]))) (Ext.drew (Ext.refl _))
 have X2:=Ext.trans HXk.out X1
 have ho6:=zae HOk.out X1
 have hb6:=HBk.out.ext X1
 refine shK hK _ _ ⟨X1.cell m5,X1.cell c0,X1.cell c1⟩ (fun _=>?_)
 obtain ⟨i0,hi,hz0,hz1,hz2⟩:=info_parts zjZ
 refine ar1 15 rfl (fun K hK=>?_)
 refine zcR _ (.tmp 28) (.tmp 42) 43 (by rfl) w.heap.size 49 i0 _ 3 24 Tryz.underlying43 hi hz0 hz1 hz2 rfl (by decide) _ _ _ (by rfl) ho6 _ 1 (idCells [zaN sg[k]]) (by rfl) hr6 (zlU _) (by rw[hlen];unfold maxLen;omega) (by rw[hlen];omega) X2.size ?_
 intro v7 w7 ho7 hg7
 have E7:Ext w w7:=Ext.grownOwn X2 ho6 hg7
 have hb7:=hb6.kept hg7 (hb6.not_row (by decide) ho6)
 refine shK hK _ _ ⟨hb7.cell 5 rfl,E7.cell D0.out,E7.cell D1.out⟩ (fun _=>?_)
 obtain ⟨A7,c7,rfl,_,_⟩:=SlR.open_ (SlR.of_own ho7)
 refine tkN 16 rfl ?_
 refine wpAnyH_done (by kernel_rfl) ?_ _
 have HE7:=zhd E7
 have HB7:=zhd hb7
 have HO7:=zhd ho7
 clear E7 hb7 ho7 hg7 ho6 hb6 X2 X1 hr6
 go_wp2_with fail
 go_roundw
 case rel =>
  refine ⟨k+1,by omega,by go_num,?_,HB7,HE7⟩
  have:=HO7.out
  rw[hlen] at this
  unfold Hid zc7
  rw[List.take_succ_eq_append_getElem hlt,List.map_append,List.map_cons,List.map_nil,←List.append_assoc,List.length_append,hlen,show ∀ a b:List (Int×Int×Int),idCells (a++b)=idCells a++idCells b from fun a b=>by simp[idCells]]
  exact this
 case measure=>simp[intOf];omega):P:=h
def idC (x:Int×Int×Int):List Value:=[.int .u8 x.1,.int .i64 x.2.1,.int .i64 x.2.2]
def idCells (l:List (Int×Int×Int)):List Value:=l.flatMap idC
def zc7 (w:World) (base:Nat) (v:Value) (l:List (Int×Int×Int)):Prop:=w.ownsRow base 49 3 v l.length (idCells l)
theorem zjZ:(Tryz.prog.info? 49).map (fun i=>(i.zero,i.size,i.bytes))=some (some (.agg #[.int .u8 0,.int .i64 0,.int .i64 0]),3,24):=by kernel_rfl
theorem zlU (l:List (Int×Int×Int)):∀ u∈idCells l,u.oneCell'=true:=by
 intro u hu
 obtain ⟨s,_,hu⟩:=List.mem_flatMap.1 hu
 simp only[idC,List.mem_cons,List.not_mem_nil,or_false] at hu
 rcases hu with rfl | rfl | rfl <;> rfl
theorem zeT (W:World) (x:Int×Int×Int):zc7 (W.alloc (.cells #[.int .u8 x.1,.int .i64 x.2.1,.int .i64 x.2.2] 49)) W.heap.size (.slice (some ⟨W.heap.size,0,none⟩) 1 1) [x] :=
 ⟨rfl,.inr ⟨W.heap.size,1,#[.int .u8 x.1,.int .i64 x.2.1,.int .i64 x.2.2],rfl,Nat.le_refl _,heap_alloc_new W _,Nat.le_refl _,by simp[maxLen],rfl,rfl⟩⟩
theorem zdO {ops:Array Oper} {rest:List Oper} {o:Oper} {a:Act} {w:World} {Q:Exit→Act→World→Prop} (hgd:o.guard=none) (s x:Operand)
  (ho:o.op=.call { callee:=.builtin .append,args:=#[s,x],argTypes:=#[43,43] })
  (base:Nat) (v:Value) (bs:List (Int×Int×Int)) (hs:a.eval s=v) (hown:zc7 w base v bs) (vx:Value) (c:Int×Int×Int) (hx:a.eval x=vx) (hr:SlR w 3 vx 1 (idCells [c]))
  (hlen:bs.length≤2000000) (hbase:base≤w.heap.size)
  (h:∀ A cc w',zc7 w' base (.slice A (bs.length+1) cc) (bs++[c])→w.grownBy w' v.ownBlock→wpList Tryz.prog ops Q rest (a.put o.dst (.slice A (bs.length+1) cc)) w'):wpList Tryz.prog ops Q (o::rest) a w:=by
 obtain ⟨i0,hi,hz0,hz1,hz2⟩:=info_parts zjZ
 refine zbU _ hgd s x 43 ho base 49 i0 _ 3 24 Tryz.underlying43 hi hz0 hz1 hz2 rfl (by decide) v bs.length (idCells bs) hs hown vx 1 (idCells [c]) hx hr (zlU _) (by unfold maxLen;omega) (by omega) hbase ?_
 intro v' w' h1 h2
 obtain ⟨A,cc,rfl,_,_⟩:=SlR.open_ (SlR.of_own h1)
 refine h A cc w' ?_ h2
 unfold zc7
 rw[List.length_append,show idCells (bs++[c])=idCells bs++idCells [c] from by simp[idCells]]
 exact h1
def zfM (m:Mf):List (Int×Int×Int):=(1,0,0)::(if m.sq=0 then [] else [(4,m.sq,m.sf)])
def zaN (s:Sg4):Int×Int×Int:=(3,s.seq,s.fmt)
def zbh (m:Mf):List (Int×Int×Int):=zfM m++m.segs.map zaN
theorem zp4 (m:Mf):(zfM m).length≤2:=by unfold zfM;split <;> simp
theorem zq2 (m:Mf) (v:Value) (w:World) (hS:Sgs w v m.segs) (hl:m.segs.length≤1000000) :
  Calls Tryz.prog 16 #[.agg #[.int .i64 m.next,.int .i64 m.term,.int .i64 m.vote,.int .i64 m.sq,.int .i64 m.sf,v]] w fun e w'=>∃ v',e=.returned v'∧zc7 w' w.heap.size v' (zbh m)∧Ext w w':=by
 obtain ⟨A,c,rfl,_,_⟩:=hS.open_
 have HS:=zhd hS
 clear hS
 obtain ⟨nx,tm,vt,sq,sf,sg⟩:=m
 dsimp only at *
 have hb:=Blk.new w 30 #[.int .i64 nx,.int .i64 tm,.int .i64 vt,.int .i64 sq,.int .i64 sf,.slice A sg.length c]
 have hX:Ext w ((w.alloc (.cells #[.int .i64 nx,.int .i64 tm,.int .i64 vt,.int .i64 sq,.int .i64 sf,.slice A sg.length c] 30)).alloc (.cells #[.int .u8 1,.int .i64 0,.int .i64 0] 49)):=Ext.alloc (Ext.alloc (Ext.refl _) _) _
 have hbX:Blk ((w.alloc (.cells #[.int .i64 nx,.int .i64 tm,.int .i64 vt,.int .i64 sq,.int .i64 sf,.slice A sg.length c] 30)).alloc (.cells #[.int .u8 1,.int .i64 0,.int .i64 0] 49)) w.heap.size 30 #[.int .i64 nx,.int .i64 tm,.int .i64 vt,.int .i64 sq,.int .i64 sf,.slice A sg.length c]:=hb.alloc _
 have hoX:zc7 ((w.alloc (.cells #[.int .i64 nx,.int .i64 tm,.int .i64 vt,.int .i64 sq,.int .i64 sf,.slice A sg.length c] 30)).alloc (.cells #[.int .u8 1,.int .i64 0,.int .i64 0] 49)) w.heap.size (.slice (some ⟨w.heap.size+1,0,none⟩) 1 1) [(1,0,0)]:=by
  have:=zeT (w.alloc (.cells #[.int .i64 nx,.int .i64 tm,.int .i64 vt,.int .i64 sq,.int .i64 sf,.slice A sg.length c] 30)) (1,0,0)
  rw[World.size_alloc] at this
  exact zah this (Nat.le_succ _)
 by_cases hq:sq=0
 ·subst hq
  have hk0:zbh ⟨nx,tm,vt,0,sf,sg⟩=[(1,0,0)]++sg.map zaN:=by unfold zbh zfM;rw[if_pos rfl]
  rw[hk0]
  obtain ⟨m0,m1,m2,m3,m4,m5⟩:=zao hbX
  have HX:=zhd hX
  have HB:=zhd hbX
  have HO:=zhd hoX
  clear hb hX hbX hoX hk0
  go_enter Tryz.func16,Tryz.ntmps16
  go_wp2_with fail
  clear m0 m1 m2 m3 m4 m5
  go_loopw [3,4] (fun v3 v4 wr=>∃ k:Nat,k≤sg.length∧v4=.int .i64 k∧Hid (zc7 wr w.heap.size v3 ([(1,0,0)]++(sg.take k).map zaN))∧Hid (Blk wr w.heap.size 30 #[.int .i64 nx,.int .i64 tm,.int .i64 vt,.int .i64 0,.int .i64 sf,.slice A sg.length c])∧Hid (Ext w wr)) (fun _ v4 _=>sg.length-(intOf v4).toNat)
  case atStart=>exact ⟨0,Nat.zero_le _,rfl,HO,HB,HX⟩
  case round =>
   obtain ⟨k,hk,rfl,HOk,HBk,HXk⟩:=hrel
   obtain ⟨m0,m1,m2,m3,m4,m5⟩:=zao HBk.out
   obtain ⟨Ao,co,rfl,_,_⟩:=SlR.open_ (SlR.of_own HOk.out)
   by_cases hlt:k<sg.length
   ·have hlen:([(1,0,0)]++(sg.take k).map zaN).length=k+1:=by simp;omega
    exact mcKeep0
   ·obtain rfl:k=sg.length:=by omega
    have ek:[(1,0,0)]++(sg.take sg.length).map zaN=[(1,0,0)]++sg.map zaN:=by rw[List.take_length]
    have EK:=zhd ek
    clear ek
    go_wp2_with fail
    go_ret
    refine ⟨_,rfl,?_,HXk.out⟩
    show zc7 _ _ _ ([(1,0,0)]++sg.map zaN)
    rw[←EK.out]
    exact HOk.out
 ·have hk0:zbh ⟨nx,tm,vt,sq,sf,sg⟩=[(1,0,0),(4,sq,sf)]++sg.map zaN:=by unfold zbh zfM;rw[if_neg hq]
  rw[hk0]
  have hn:=zeT ((w.alloc (.cells #[.int .i64 nx,.int .i64 tm,.int .i64 vt,.int .i64 sq,.int .i64 sf,.slice A sg.length c] 30)).alloc (.cells #[.int .u8 1,.int .i64 0,.int .i64 0] 49)) (4,sq,sf)
  have X1:Ext ((w.alloc (.cells #[.int .i64 nx,.int .i64 tm,.int .i64 vt,.int .i64 sq,.int .i64 sf,.slice A sg.length c] 30)).alloc (.cells #[.int .u8 1,.int .i64 0,.int .i64 0] 49)) (((w.alloc (.cells #[.int .i64 nx,.int .i64 tm,.int .i64 vt,.int .i64 sq,.int .i64 sf,.slice A sg.length c] 30)).alloc (.cells #[.int .u8 1,.int .i64 0,.int .i64 0] 49)).alloc (.cells #[.int .u8 4,.int .i64 sq,.int .i64 sf] 49)):=Ext.alloc (Ext.refl _) _
  have hb1:=hbX.ext X1
  have ho1:=zae hoX X1
  obtain ⟨m0,m1,m2,m3,m4,m5⟩:=zao hbX
  have HX:=zhd (Ext.trans hX X1)
  have HB:=zhd hb1
  have HO:=zhd ho1
  rw[World.size_alloc,World.size_alloc] at hn
  have HN:=zhd (SlR.of_own hn)
  have Hq:=zhd hq
  clear hb hX hbX hoX hk0 hn X1 hb1 ho1
  go_enter Tryz.func16,Tryz.ntmps16
  go_wp2_with (at_builtin;refine zdO rfl (.tmp 11) (.tmp 19) rfl w.heap.size _ [(1,0,0)] rfl HO.out _ (4,sq,sf) rfl HN.out (by decide) HX.out.size ?_;intro A1 c1 w1 ho1 hg1)
  replace HB:=zhd (HB.out.kept hg1 (HB.out.not_row (by decide) HO.out))
  replace HX:=zhd (Ext.grownOwn HX.out HO.out hg1)
  replace HO:=zhd ho1
  clear m0 m1 m2 m3 m4 m5 ho1 hg1 HN
  go_loopw [3,4] (fun v3 v4 wr=>∃ k:Nat,k≤sg.length∧v4=.int .i64 k∧Hid (zc7 wr w.heap.size v3 ([(1,0,0),(4,sq,sf)]++(sg.take k).map zaN))∧Hid (Blk wr w.heap.size 30 #[.int .i64 nx,.int .i64 tm,.int .i64 vt,.int .i64 sq,.int .i64 sf,.slice A sg.length c])∧Hid (Ext w wr)) (fun _ v4 _=>sg.length-(intOf v4).toNat)
  case atStart=>exact ⟨0,Nat.zero_le _,rfl,HO,HB,HX⟩
  case round =>
   obtain ⟨k,hk,rfl,HOk,HBk,HXk⟩:=hrel
   obtain ⟨m0,m1,m2,m3,m4,m5⟩:=zao HBk.out
   obtain ⟨Ao,co,rfl,_,_⟩:=SlR.open_ (SlR.of_own HOk.out)
   by_cases hlt:k<sg.length
   ·have hlen:([(1,0,0),(4,sq,sf)]++(sg.take k).map zaN).length=k+2:=by simp;omega
    exact mcKeep0
   ·obtain rfl:k=sg.length:=by omega
    have ek:[(1,0,0),(4,sq,sf)]++(sg.take sg.length).map zaN=[(1,0,0),(4,sq,sf)]++sg.map zaN:=by rw[List.take_length]
    have EK:=zhd ek
    clear ek
    go_wp2_with fail
    go_ret
    refine ⟨_,rfl,?_,HXk.out⟩
    show zc7 _ _ _ ([(1,0,0),(4,sq,sf)]++sg.map zaN)
    rw[←EK.out]
    exact HOk.out
def zem (n:List UInt8):Oq:=⟨1,n,[],[]⟩
def zeh (n b:List UInt8):Oq:=⟨2,n,[],b⟩
def zcN (n:List UInt8):Oq:=⟨4,n,[],[]⟩
def zcJ (l:List Fil) (ks:List (List UInt8)):List (List UInt8):=(l.map (·.1)).filter fun n=>!decide (n∈ks)
def zjr (d:Dk) (ks:List (List UInt8)):Dk×Int:=zcH false d ((zcJ d.now ks).map zcN)
def zf0 (d:Dk) (n b:List UInt8):Dk×Int:=zcH true d [zem n,zeh n b]
def zcr (n t:List UInt8):Oq:=⟨3,n,t,[]⟩
def zb5:List UInt8:=[77,46,110,101,119]
def zeq:List UInt8:=[77]
def zoU (d:Dk) (b:List UInt8) (ks:List (List UInt8)):Dk×Int :=
 if (zf0 d zb5 b).2≠0 then zf0 d zb5 b else
 if (zcH true (zf0 d zb5 b).1 [zcr zb5 zeq]).2≠0 then zcH true (zf0 d zb5 b).1 [zcr zb5 zeq] else
 zjr (zcH true (zf0 d zb5 b).1 [zcr zb5 zeq]).1 ks
end Go.Proofs.YtgonhdeochgkoaaGreatDoor
