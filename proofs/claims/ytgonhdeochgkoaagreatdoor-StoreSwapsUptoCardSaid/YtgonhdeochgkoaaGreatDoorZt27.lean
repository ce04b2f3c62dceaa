/- Merged: DMay DSort DNow DSync -/
import Derived.Test.YtgonhdeochgkoaaGreatDoorZt26
import Derived.Sort.OwnSorted
set_option linter.all false
set_option maxHeartbeats 8000000
set_option maxRecDepth 100000
namespace Go.Proofs.YtgonhdeochgkoaaGreatDoor
open Go.RowKit Go.Mv Go.Shelf
theorem zts (v:Value) (d:Dk) (w:World) (hD:DkV w v d) (hl1:d.fs.length≤2000000) (hl2:d.q.length≤2000000) (hb:tot d.fs+zaT d.q≤70000000) :
  Calls Tryz.prog 133 #[v] w fun e w'=>e=.returned (.int .i64 d.may)∧Ext w w':=by
 obtain ⟨vf,vq,rfl,hF,hQ⟩:=hD;obtain ⟨A,c,rfl,_,_⟩:=Fs.open_ hF;obtain ⟨B,e2,rfl,_,_⟩:=Qs.open_ hQ
 have hE0:Ext w (w.alloc (.cells #[.slice A d.fs.length c,.slice B d.q.length e2,.int .i64 d.quota,.int .i64 d.fuse,.bool d.dead] 25)):=Ext.alloc (Ext.refl _) _
 have hb0:=Blk.new w 25 #[.slice A d.fs.length c,.slice B d.q.length e2,.int .i64 d.quota,.int .i64 d.fuse,.bool d.dead]
 have HC:=zhd (zpR _ d _ (show DkV _ _ d from ⟨_,_,rfl,hF.ext hE0,hQ.ext hE0⟩) hl1 hl2 hb)
 have HE0:=zhd hE0;have HB0:=zhd hb0;obtain ⟨M,hM⟩:∃ M,d.may=M:=⟨_,rfl⟩;rw[hM];have HM:=zhd hM;clear hF hQ hE0 hb hM;obtain ⟨g0,g1,g2,g3,g4⟩:=zac hb0;clear hb0
 go_enter Tryz.func133,Tryz.ntmps133
 go_wp2_with fail
 refine HC.out.mono ?_
 rintro e w1 ⟨rfl,hE1⟩;have HB1:=zhd (HB0.out.ext hE1);have HE1:=zhd (Ext.trans HE0.out hE1);clear g0 g1 g2 g3 g4 HC HB0 HE0 hE1;obtain ⟨g0,g1,g2,g3,g4⟩:=zac HB1.out
 cases hr:d.right with
 | false =>
  have hm:(2:Int)=M:=by rw[←HM.out];unfold Dk.may;rw[if_pos hr]
  subst hm;clear hr;go_wp2_with fail;go_ret
  exact ⟨rfl,HE1.out⟩
 | true =>
  cases hd:d.dead with
  | true =>
   have hm:(40:Int)=M:=by rw[←HM.out];unfold Dk.may;rw[if_neg (by rw[hr];simp),if_pos hd]
   subst hm;clear hr;rw[hd] at g4;go_wp2_with fail;go_ret
   exact ⟨rfl,HE1.out⟩
  | false =>
   have hm:(0:Int)=M:=by rw[←HM.out];unfold Dk.may;rw[if_neg (by rw[hr];simp),if_neg (by rw[hd];simp)]
   subst hm;clear hr;rw[hd] at g4;go_wp2_with fail;go_ret
   exact ⟨rfl,HE1.out⟩
def zgk (W:World) (b:Nat) (f:Int):World:=if 0<f then (W.setCell ⟨b,3,none⟩ (.int .i64 (f-1))).setCell ⟨b,4,none⟩ (.bool (f-1==0)) else W
theorem zmL (b:Nat) (vf vq:Value) (q f:Int) (dd:Bool) (w:World) (hB:Blk w b 25 #[vf,vq,.int .i64 q,.int .i64 f,.bool dd]) (hf:f≤9223372036854775807) :
  Calls Tryz.prog 136 #[.pointer (some ⟨b,0,none⟩)] w fun e w'=>e=.returned (.tuple #[])∧zgk w b f=w':=by
 obtain ⟨g0,g1,g2,g3,g4⟩:=zac hB;have f3:=hB.frozen 3;have f4:=hB.frozen 4;unfold zgk
 by_cases h0:0<f
 ·rw[if_pos h0]
  have hw:wrap64 (f-1)=f-1:=by unfold wrap64;omega
  go_enter Tryz.func136,Tryz.ntmps136
  go_wp2_with fail
  refine bodyPost_end (results_none rfl _ _ _) rfl ?_
  exact ⟨rfl,rfl⟩
 ·rw[if_neg h0]
  go_enter Tryz.func136,Tryz.ntmps136
  go_wp2_with fail
  refine bodyPost_end (results_none rfl _ _ _) rfl ?_
  exact ⟨rfl,rfl⟩
theorem zsz (base:Nat) (v:Value) (ss:List (List UInt8)) (w:World) (hown:w.ownsRow base 9 1 v ss.length (ss.map sv)) (hl:ss.length≤2000000) :
  Calls Tryz.prog 151 #[v] w fun e w'=>e=.returned (.tuple #[])∧w'.ownsRow base 9 1 v ss.length ((ss.mergeSort leB).map sv)∧w.grownBy w' v.ownBlock:=by
 rcases hown.2 with ⟨rfl,hx⟩ | ⟨g,cap,cur,rfl,hbg,hg,hnc,hcm,hcs,htake⟩
 ·have h0:ss=[]:=List.eq_nil_of_length_eq_zero hx
  subst h0
  refine (Tryz.slices_Sort_string_none none 0 w).mono ?_
  rintro e w' ⟨rfl,rfl⟩
  exact ⟨rfl,by simpa using hown,⟨rfl,rfl,rfl,Nat.le_refl _,fun _ _ _=>rfl⟩⟩
 ·have hH:Go.Sort.Holds encStr w g 0 ss.toArray:=holds_of_block hg (by have:=htake;rw[Nat.mul_one] at this;exact this)
  refine (Tryz.slices_Sort_string g 0 cap ss w hH (Array.getElem?_eq_some_iff.1 hg).1 (by omega)).mono ?_
  rintro e w' ⟨rfl,n,os,rfl⟩
  refine ⟨rfl,?_,grownBy_sorted _⟩
  exact ownsRow_sorted (ts:=ss.mergeSort leB) (List.length_mergeSort ss) hbg hg hnc hcm hcs
theorem zjX:(Tryz.prog.info? 9).map (fun i=>(i.zero,i.size,i.bytes))=some (some (.string ⟨#[]⟩),1,16):=by kernel_rfl
theorem znh (l:List (List UInt8)):∀ u∈l.map sv,u.oneCell'=true:=by
 intro u hu;obtain ⟨n,_,rfl⟩:=List.mem_map.1 hu;rfl
def SoK (n0 bo:Nat) (k:Nat) (o:Obj):Prop:=(∀ r,o≠.loop r)∧((k<n0∧k≠bo)∨(n0≤k∧o.ty=some 9))
theorem zo4 {w w':World} {bo:Nat} {t:TypeId} {cs:Array Value} (hB:Blk w bo t cs) (hno:∀ (k:Nat) (n:Int),cs[k]?≠some (.int .u8 n)) (hk:∀ p x,w.cell? p=some x→p.block≠bo→w'.cell? p=some x):∀ {es:List MapEntry} {l:List Fil},E2 w es l→E2 w' es l
 | [],[],_=>trivial
 | _::_,_::_,h=>⟨h.1,Bs.away h.2.1 (Bs.awayBlk h.2.1 hB hno) hk,zo4 hB hno hk h.2.2⟩
 | [],_::_,h=>h.elim
 | _::_,[],h=>h.elim
structure SoO (W0:World) (bo:Nat) (W:World):Prop where
 old:∀ k o,W0.heap[k]?=some o→(∀ r,o≠.loop r)→k≠bo→W.heap[k]?=some o
 sz:W0.heap.size≤W.heap.size
theorem SoO.cell {W0 W:World} {bo:Nat} (h:SoO W0 bo W) {p:Addr} {x:Value} (hc:W0.cell? p=some x) (hp:p.block≠bo):W.cell? p=some x:=by
 obtain ⟨o,ho,hcs⟩:=cells_of_cell hc
 exact (World.cell?_of_block ((h.old _ o ho (fun r e=>by rw[e] at hcs;cases hcs) hp).trans ho.symm)).trans hc
theorem SoO.fmap {W0 W:World} {bo r:Nat} {l:List Fil} {t:TypeId} {cs:Array Value} (h:SoO W0 bo W) (hM:FMap W0 r l) (hB:Blk W0 bo t cs) (hno:∀ (k:Nat) (n:Int),cs[k]?≠some (.int .u8 n)):FMap W r l:=by
 obtain ⟨es,c,hb,hs,he⟩:=hM
 have hne:r≠bo:=by
  rintro rfl
  rw[show W0.heap[r]?=_ from hB] at hb
  cases hb
 exact ⟨es,c,h.old r _ hb (fun r e=>(by cases e)) hne,hs,zo4 hB hno (fun p x hc hp=>h.cell hc hp) he⟩
theorem SoO.boxed {W0 W:World} {bo b:Nat} {t:TypeId} {v:Value} (h:SoO W0 bo W) (hB:Boxed W0 b t v) (hne:b≠bo):Boxed W b t v:=h.old b _ hB (fun r e=>by cases e) hne
theorem SoO.kept {W0 W W':World} {bo n:Nat} (h:SoO W0 bo W) (hk:Kept (zab (SoK W0.heap.size bo) n) W W'):SoO W0 bo W':=by
 refine ⟨fun k o ho hl hne=>?_,Nat.le_trans h.sz hk.size⟩
 exact hk.same k _ (h.old k o ho hl hne) (.inl ⟨hl,.inl ⟨(Array.getElem?_eq_some_iff.1 ho).1,hne⟩⟩)
theorem SoO.ext {W0 W W':World} {bo:Nat} (h:SoO W0 bo W) (hE:Ext W W'):SoO W0 bo W' :=
 ⟨fun k o ho hl hne=>by
   have h1:=h.old k o ho hl hne
   exact (hE.block k (Array.getElem?_eq_some_iff.1 h1).1).trans h1,Nat.le_trans h.sz hE.size⟩
theorem SoO.of_ext {W0 W:World} (bo:Nat) (hE:Ext W0 W):SoO W0 bo W:=⟨fun k o ho _ _=>(hE.block k (Array.getElem?_eq_some_iff.1 ho).1).trans ho,hE.size⟩
theorem zqb {n0 bo n1:Nat} (hn:n0≤n1) {W W':World} {v:Value} {n:Nat} {xs:List Value} (h:W.ownsRow n1 9 1 v n xs) (hk:Kept (zab (SoK n0 bo) n1) W W'):W'.ownsRow n1 9 1 v n xs:=by
 refine ⟨h.1,?_⟩
 rcases h.2 with hn | ⟨g,cap,cur,rfl,hb,hgg,rest⟩
 ·exact .inl hn
 ·exact .inr ⟨g,cap,cur,rfl,hb,hk.same _ _ hgg (.inl ⟨fun r e=>(by cases e),.inr ⟨Nat.le_trans hn hb,rfl⟩⟩),rest⟩
def SoR (x:Fil) (av:Array Value) (W:World):Prop:=∃ C d,av = #[.agg #[sv x.1,.slice C x.2.length d]]∧OwnB W 0 (.slice C x.2.length d) x.2
theorem zuq {w:World}:∀ {Z:List Ze},E2 w (Z.map (·.1)) (Z.map (·.2))→∀ z∈Z,Bs w z.1.val z.2.2
 | z::Z,h,y,hy=>by
  rcases List.mem_cons.1 hy with rfl | hy
  ·exact h.2.1
  ·exact zuq h.2.2 y hy
theorem FIt.with_ {W W':World} {r i:Nat} {l L:List Fil} (h:FIt W r i l L) (hr:W'.heap[r]?=W.heap[r]?) (hi:W'.heap[i]?=W.heap[i]?) (hM:FMap W' r l):FIt W' r i l L:=by
 obtain ⟨es,clock,since,seen,c0,Z,h1,h2,h3,h4,h5,h5',h6,h7,h8,h9⟩:=h;obtain ⟨es',c',g1,_,g3⟩:=hM;rw[hr,h1] at g1
 cases g1
 rw[h6,h7] at g3
 exact ⟨es,clock,since,seen,c0,Z,hr.trans h1,hi.trans h2,h3,h4,h5,h5',h6,h7,fun z hz=>⟨(h8 z hz).1,zuq g3 z hz⟩,h9⟩
structure SoC (r i:Nat) (l:List Fil) (W0:World) (v:Value) (ss:List (List UInt8)) (W:World):Prop where
 e:Ext W0 W
 ex:∃ L,FIt W r i l L∧(ss++L.map (·.1)).Perm (l.map (·.1))
 ow:W.ownsRow W0.heap.size 9 1 v ss.length (ss.map sv)
theorem zf6 {W:World} {base:Nat} {e:TypeId} {size:Nat} {v:Value} {n:Nat} {xs:List Value} (h:W.ownsRow base e size v n xs) {k:Nat} {o:Obj} (hk:W.heap[k]?=some o) (hc:o.isCells=false):some k≠v.ownBlock:=by
 intro he
 rcases h.2 with ⟨rfl,_⟩ | ⟨g,cap,cur,rfl,_,hg,_⟩
 ·cases he
 ·cases he
  rw[hk] at hg
  cases hg
  cases hc
theorem FIt.objs {W:World} {r i:Nat} {l L:List Fil} (h:FIt W r i l L):(∃ es c,W.heap[r]?=some (.map es c))∧∃ m a s c,W.heap[i]?=some (.mapIter m a s c):=by
 obtain ⟨es,clock,since,seen,c0,Z,h1,h2,_⟩:=h
 exact ⟨⟨_,_,h1⟩,⟨_,_,_,_,h2⟩⟩
attribute [local go_sem] Oper.semAt_some in
theorem zoO (Wm W0:World) (hEm:Ext Wm W0) (r B bo:Nat) (l:List Fil) (hM:FMap Wm r l) (hB:Boxed Wm B 160 (.map (some r))) (hBo:B≠bo) {tb:TypeId} {cb:Array Value} (hbo:Blk Wm bo tb cb) (hno:∀ (k:Nat) (n:Int),cb[k]?≠some (.int .u8 n)) (hl:l.length≤2000000) (hbl:∀ p∈l,p.2.length≤2000000) :
  Seq Tryz.prog 150 #[.pointer (some ⟨B,0,none⟩)] SoR (SoK Wm.heap.size bo) (fun _ _=>False) (zbA l) W0:=by
 intro lp J Jx hJ hJx hY h0
 refine (callsIn_wd (ro:=none) (n:=9)).1 ?_
 refine callsIn_of_wp Tryz.func150 rfl trivial ?_ rfl
 simp only[Tryz.ntmps150,List.size_toArray,List.length_cons,List.length_nil,Nat.reduceAdd,Nat.reduceSub,Array.replicate_succ,Array.replicate_zero,List.push_toArray,List.append_toArray,List.nil_append,List.cons_append];have c1:=(hB.kept (row:=none) (Ext.grown hEm none) (by simp)).cell;have HM:=zhd hM;have HY:=zhd hY;have HBX:=zhd hB;have HBO:=zhd hbo;clear hM hY hB hbo
 gi_wp2_with (gi_at_range;refine zki rfl (.tmp 7) rfl Tryz.underlying160 r l rfl (HM.out.ext hEm) ?_;intro w1 hi1 hE1)
 have HC:=zhd (show SoC r W0.heap.size l W0 (.slice none 0 0) [] w1 from ⟨hE1,⟨l,hi1,by simp⟩,⟨by simp,.inl ⟨rfl,rfl⟩⟩⟩)
 clear hi1 hE1 c1;obtain ⟨i0,hi,hz0,hz1,hz2⟩:=info_parts zjX
 go_frame
 gi_loopw [3,4] (fun vs _ W=>∃ (ss:List (List UInt8)) (A:Option Addr) (c:Nat),vs=.slice A ss.length c∧Hid (SoC r W0.heap.size l W0 (.slice A ss.length c) ss W)) (fun _ _ W=>zhy W r W0.heap.size)
 case atStart=>exact ⟨[],none,0,rfl,HC⟩
 case round =>
  clear HC;obtain ⟨ss,A,c,rfl,HC⟩:=hrel;obtain ⟨L,hI,hp⟩:=HC.out.ex;have HI:=zhd hI;have HP:=zhd hp;have HE:=zhd HC.out.e;have HO:=zhd HC.out.ow;clear hI hp HC
  gi_wp2_with (gi_at_next;refine zk8 rfl (.tmp 8) rfl r W0.heap.size l L rfl HI.out ?_ ?_)
  ·intro hL
   subst hL
   have hperm:ss.Perm (l.map (·.1)):=by simpa using HP.out
   have hsf:zbA l=(ss.mergeSort leB).map fun n=>(n,(zae n l).getD []):=by unfold zbA;rw[mergeSort_of_perm hperm]
   have hnl:(ss.mergeSort leB).length=ss.length:=List.length_mergeSort ss
   have hsl:ss.length≤2000000:=by have:=hperm.length_eq;rw[List.length_map] at this;omega
   have HSF:=zhd hsf;have HNL:=zhd hnl;clear hperm hsf hnl HP HI
   gi_wp2_with (refine ⟨trivial,?_⟩;gi_at_call 151;refine (callsIn_wd.2 (zsz W0.heap.size _ ss wr HO.out hsl)).mono ?_;rintro e w2 ⟨rfl,ho2,hg2⟩)
   have hE2:Ext W0 w2:=Ext.grownOwn HE.out HO.out hg2
   have hj0:=hJ [] W0 w2 h0 ⟨hE2.os,hE2.tape,hE2.output,hE2.size,fun k o hk _=>(hE2.block k (Array.getElem?_eq_some_iff.1 hk).1).trans hk⟩
   have HJ0:=zhd hj0;have HO2:=zhd ho2;have HSO:=zhd (SoO.of_ext bo (Ext.trans hEm hE2));have hz2w:=hE2.size;clear hE2 hj0 ho2 hg2 HO HE h0 hi hz0 hz1 hz2
   generalize ss.mergeSort leB=N at *
   gi_loopw [6,21] (fun _ i W=>∃ k:Nat,k≤N.length∧i=.int .i64 k∧Hid (J ((zbA l).take k) W)∧Hid (SoO Wm bo W)∧Hid (W.ownsRow W0.heap.size 9 1 (.slice A ss.length c) ss.length (N.map sv))∧W0.heap.size≤W.heap.size) (fun _ i _=>N.length-(intOf i).toNat)
   case atStart=>exact ⟨0,Nat.zero_le _,rfl,HJ0,HSO,HO2,hz2w⟩
   case round =>
    clear HJ0 HSO HO2;obtain ⟨k,hk,rfl,HJ,HSO,HO,hWz⟩:=hrel;have hnl:=HNL.out
    by_cases hlt:k<N.length
    ·have hsl2:SlR wr 1 (.slice A ss.length c) ss.length (N.map sv):=SlR.of_own HO.out
     obtain ⟨_,b,off,rfl,hcl⟩:=hsl2.at_ (by omega);have hc0:=hcl k (sv N[k]) (by rw[List.getElem?_map,List.getElem?_eq_getElem hlt];rfl);obtain ⟨bs,hbs⟩:∃ bs,(zae N[k] l).getD []=bs:=⟨_,rfl⟩
     have hbl2:bs.length≤2000000:=by
      rw[←hbs]
      cases hg:zae N[k] l with
      | none=>simp
      | some b0=>exact hbl _ (zcZ hg)
     have hx:(zbA l)[k]?=some (N[k],bs):=by rw[HSF.out,List.getElem?_map,List.getElem?_eq_getElem hlt,Option.map_some,hbs]
     have hkl:k<(zbA l).length:=(List.getElem?_eq_some_iff.1 hx).1
     have hsp:zbA l=(zbA l).take k++(N[k],bs)::(zbA l).drop (k+1):=by
      have h9:(zbA l)[k]=(N[k],bs):=by rw[List.getElem?_eq_getElem hkl] at hx;exact Option.some.inj hx
      rw[←h9];rw[←List.drop_eq_getElem_cons hkl,List.take_append_drop]
     have htk:(zbA l).take (k+1)=(zbA l).take k++[(N[k],bs)]:=by
      rw[List.take_succ_eq_append_getElem hkl]
      congr 2
      rw[List.getElem?_eq_getElem hkl] at hx
      exact Option.some.inj hx
     have HSP:=zhd hsp;have HTK:=zhd htk;have HBS:=zhd hbs;have HMM:=zhd (HSO.out.fmap HM.out HBO.out hno);have c1:=(HSO.out.boxed HBX.out hBo).cell;clear hcl hsl2 hbs hx hsp htk hkl
     generalize N[k]=n at *
     simp only[sv] at hc0
     gi_wp2_with (first
      | (gi_at_lookup;refine zjb rfl (.tmp 27) (.tmp 28) false rfl Tryz.underlying160 Tryz.underlying9 (zg4 _) r l rfl HMM.out n rfl ?_;rw[HBS.out];intro A1 c1' hb1;have HB1:=zhd hb1;clear hb1)
      | (refine ⟨trivial,?_⟩;gi_at_call 132;refine (callsIn_wd.2 (ziX _ bs wr HB1.out hbl2)).mono ?_;rintro e w3 ⟨A2,c2,rfl,ho3,hE3⟩))
     have hmv:Moves (zab (fun _ _=>False) W0.heap.size) wr w3:=⟨hE3.os,hE3.tape,hE3.output,hE3.size,fun k o hk _=>(hE3.block k (Array.getElem?_eq_some_iff.1 hk).1).trans hk⟩
     have hy:=HY.out ((zbA l).take k) (n,bs) _ HSP.out w3 #[.agg #[sv n,.slice A2 bs.length c2]] (hJ _ _ _ HJ.out hmv) (Nat.le_trans hWz hE3.size) ⟨A2,c2,rfl,zaj ho3 (Nat.zero_le _)⟩;have Hy:=zhd hy;have HSO3:=zhd (HSO.out.ext hE3);have HO3:=zhd (zag HO.out hE3);have hWz3:=Nat.le_trans hWz hE3.size;clear hy hmv ho3 hE3 c1 HB1 HMM
     refine zbf Hy.out ?_
     rintro e W' ⟨hk',⟨rfl,hj⟩ | ⟨rfl,hj⟩⟩
     ·refine ⟨true,rfl,?_⟩
      have HJ4:=zhd hj;have HSO4:=zhd (HSO3.out.kept hk');have HO4:=zhd (zqb hEm.size HO3.out hk');have hWz4:=Nat.le_trans hWz3 hk'.size;clear hj hk' Hy hc0
      gi_wp2
      exact ⟨⟨k+1,by omega,by go_num,by rw[HTK.out];exact HJ4.out,HSO4,HO4,hWz4⟩,by simp[intOf];omega⟩
     ·refine ⟨false,rfl,?_⟩
      have HJ4:=zhd hj;clear hj hk' Hy hc0
      gi_wp2
      refine bodyPost_ret (results_none rfl _ _ _) rfl ?_
      refine ⟨⟨_,rfl⟩,.inr ⟨(zbA l).take k++[(n,bs)],⟨(zbA l).drop (k+1),?_⟩,HJ4.out⟩⟩
      rw[List.append_assoc]
      exact HSP.out.symm
    ·have hkn:k=N.length:=by omega
     have hfin:J (zbA l) wr:=by
      have:=HJ.out
      rwa [List.take_of_length_le (by rw[HSF.out,List.length_map];omega)] at this
     have HFIN:=zhd hfin
     have hge:ss.length≤k:=by omega
     clear hfin hkn
     gi_wp2
     refine bodyPost_end (results_none rfl _ _ _) rfl ?_
     exact ⟨⟨_,rfl⟩,.inl HFIN.out⟩
  ·intro n b A1 c1 L' w2 hp2 hI2 hb2 hm2 hri hent
   have hsl:ss.length+L.length=l.length:=by have:=HP.out.length_eq;simpa using this
   have hll:L.length=L'.length+1:=by have:=hp2.length_eq;simpa using this
   have HE2:=zhd (hm2.ext HE.out (Nat.le_refl _))
   have ho2:=HO.out.kept (row:=some W0.heap.size) ⟨hm2.os,hm2.tape,hm2.output,Nat.le_of_eq hm2.size.symm,fun k hk hne=>hm2.block k (fun e=>hne (by rw[e]))⟩ (.inr (by obtain ⟨m,a,s,c',hh⟩:=HI.out.objs.2;exact (zf6 HO.out hh rfl).symm))
   have HO2:=zhd ho2;have HI2:=zhd hI2
   have HP2:=zhd (show (ss++[n]++L'.map (·.1)).Perm (l.map (·.1)) from by
    refine List.Perm.trans ?_ HP.out
    rw[List.append_assoc]
    refine List.Perm.append_left ss ?_
    exact (hp2.map (·.1)).symm)
   have HLN:=zhd (show L'.length<zhy wr r W0.heap.size by rw[HI.out.left];omega)
   clear hp2 hI2 hb2 hm2 hri ho2 HI HP HO
   simp only[sv] at hent ⊢
   gi_wp2_with (gi_at_builtin;refine zbX _ rfl (.tmp 13) (.tmp 15) 64 rfl W0.heap.size 9 i0 _ 1 16 Tryz.underlying64 hi hz0 hz1 hz2 rfl (by decide) _ ss.length (ss.map sv) rfl (zag HO2.out (Ext.alloc (Ext.refl _) _)) _ 1 [sv n] rfl (zeH w2 [sv n] 9 1 rfl rfl) (znh [n]) (by unfold maxLen;omega) (by omega) (by have:=HE2.out.size;simp;omega) ?_;intro v3 w3 ho3 hg3)
   have hX:Ext w2 (w2.alloc (.cells #[sv n] 9)):=Ext.alloc (Ext.refl _) _
   have hE3:Ext W0 w3:=Ext.grownOwn (Ext.trans HE2.out hX) (zag HO2.out hX) hg3
   have hI3:FIt w3 r W0.heap.size l L':=by
    obtain ⟨⟨es,cc,g1⟩,m,aa,ss',cc',g2⟩:=(HI2.out.ext hX).objs
    exact (HI2.out.ext hX).with_ (hg3.block _ (Array.getElem?_eq_some_iff.1 g1).1 (zf6 (zag HO2.out hX) g1 rfl)) (hg3.block _ (Array.getElem?_eq_some_iff.1 g2).1 (zf6 (zag HO2.out hX) g2 rfl)) (HM.out.ext (Ext.trans hEm hE3))
   obtain ⟨A3,c3,rfl,_,_⟩:=SlR.open_ (SlR.of_own ho3)
   have ho4:w3.ownsRow W0.heap.size 9 1 (.slice A3 (ss++[n]).length c3) (ss++[n]).length ((ss++[n]).map sv):=by
    rw[List.length_append,List.map_append]
    exact ho3
   exact ⟨⟨ss++[n],A3,c3,by rw[List.length_append];rfl,⟨hE3,⟨L',hI3,HP2.out⟩,ho4⟩⟩,by rw[hI3.left];exact HLN.out⟩
theorem zlu {α:Type} {sz:Nat} {E:World→(Nat→Option Value)→α→Prop} (hE:zdO sz E) {F:Fence} {nf:Nat} {ops:Array Oper} {rest:List Oper} {o:Oper} {a:Act} {w:World} {Q:Exit→Act→World→Prop} (hgd:o.guard=none) (s x:Operand) (T:TypeId)
  (ho:o.op=.call { callee:=.builtin .append,args:=#[s,x],argTypes:=#[T,T] }) (t:TypeId) (i0:TypeInfo) (z:Value) (bytes:Nat) (hT:Tryz.prog.underlying T=some (.slice t)) (hi:Tryz.prog.info? t=some i0) (hz0:i0.zero=some z) (hz1:i0.size=sz) (hz2:i0.bytes=bytes) (hzs:z.cells.size=sz) (hsz:0<sz) (hby:bytes≤1000)
  (base:Nat) (v:Value) (l:List α) (hs:a.eval s=v) (hown:OwnX sz E t w base v l) (vx:Value) (m:List α) (ys:List Value) (hx:a.eval x=vx) (hr:SlR w sz vx m.length ys) (hry:RowOf sz E w ys m) (hc0:0<m.length)
  (hay:∀ g,v.ownBlock=some g→∀ u∈ys,zbx g u) (hlen:l.length+m.length≤4000000) (hbase:base≤w.heap.size)
  (h:∀ A c w',OwnX sz E t w' base (.slice A (l.length+m.length) c) (l++m)→ze7 base w w'→w.grownBy w' v.ownBlock→wpListIn F nf Tryz.prog ops Q rest (a.put o.dst (.slice A (l.length+m.length) c)) w'):wpListIn F nf Tryz.prog ops Q (o::rest) a w:=by
 obtain ⟨xs,h1,h2,h3⟩:=hown
 have hbb:(l.length+m.length)*bytes≤140737488355328:=Nat.le_trans (Nat.mul_le_mul hlen hby) (by decide)
 obtain ⟨v',w',hrun,g1,g2⟩:=za4 (P:=Tryz.prog) w base T o.type t i0 _ sz bytes hT hi hz0 hz1 hz2 hzs hsz v l.length xs h1 vx m.length ys hr (hry.one hE) (by unfold maxLen;omega) hbb hbase
 have hblk:v'.ownBlock=v.ownBlock∨v'.ownBlock=some w.heap.size:=by
  obtain ⟨hl,A,c,rfl,_,_,hc⟩:=hr;obtain ⟨b,off,rfl,hcell⟩:=hc hc0
  have hadd:∀ j,(⟨b,off,none⟩:Addr).add j=⟨b,off+j,none⟩:=by intro j;unfold Addr.add;split <;> simp_all
  exact zdA (P:=Tryz.prog) w base T o.type t i0 _ sz bytes hT hi hz0 hz1 hz2 v l.length xs h1 ⟨b,off,none⟩ m.length c ys hl hc0 (fun j u hu=>by rw[hadd];exact hcell j u hu) (hry.one hE) (by unfold maxLen;omega) hbb hrun
 have hkeep:∀ {zs:List Value} {k:List α},RowOf sz E w zs k→(∀ g,v.ownBlock=some g→∀ u∈zs,zbx g u)→RowOf sz E w' zs k:=by
  intro zs k hzk haz
  cases hg:v.ownBlock with
  | none =>
   refine hzk.keep hE (hzk.fresh hE) fun p y hc _=>?_
   exact (World.cell?_of_block (g2.block _ (World.block_lt_of_cell? _ _ hc) (by rw[hg];simp))).trans hc
  | some g =>
   refine hzk.keep hE (haz g hg) fun p y hc hne=>?_
   exact (World.cell?_of_block (g2.block _ (World.block_lt_of_cell? _ _ hc) (by rw[hg];simpa using hne))).trans hc
 refine wpListIn_plain hgd fun K hK=>?_
 have hsem:o.semAt F.round a.eval=execOp a.eval o:=by
  cases hr:F.round with
  | none=>rw[Oper.semAt_none]
  | some l=>exact Oper.semAt_some l _ o (by rw[ho];intro c hc;cases hc)
 unfold Oper.wpIn
 refine ⟨?_,?_⟩
 ·intro f hf
  simp[Oper.about,ho,resolve,Target.leads,go_sem] at hf
 rw[hsem];unfold execOp;simp only[ho,resolve,invoke,builtin,Sem.run_bind,Sem.run_pure,Result.andThen_ok,List.map_toArray,List.map_cons,List.map_nil,hs,hx,hrun]
 refine hK _ _ ?_
 obtain ⟨A,c,rfl,_,_⟩:=SlR.open_ (SlR.of_own g1)
 refine h A c w' ⟨xs++ys,?_,(hkeep h2 h3).append (hkeep hry hay),fun g hg u hu=>?_⟩ (fun W0 hX hb=>Ext.grownOwn hX (zaj h1 hb) g2) g2
 ·rw[List.length_append]
  exact g1
 ·rcases hblk with hb | hb
  ·rw[hb] at hg
   rcases List.mem_append.1 hu with hu | hu
   ·exact h3 g hg u hu
   ·exact hay g hg u hu
  ·rw[hb] at hg
   cases hg
   rcases List.mem_append.1 hu with hu | hu
   ·exact h2.fresh hE u hu
   ·exact hry.fresh hE u hu
theorem zqz (r:Nat) (w:World):Calls Tryz.prog 116 #[.map (some r)] w fun e w'=>e=.returned (.func (.func 150) #[] #[.pointer (some ⟨w.heap.size,0,none⟩)])∧w.alloc (.cells #[.map (some r)] 160)=w':=by
 go_enter Tryz.func116,Tryz.ntmps116
 go_wp2
 go_ret
 exact ⟨rfl,rfl⟩
theorem zgS (n b:List UInt8):∀ l:List Fil,(zbw n b l).length≤l.length+1
 | []=>by simp[zbw]
 | p::l=>by
  have:=zgS n b l
  rw[zbw]
  split <;> simp <;> omega
theorem zll (n:List UInt8):∀ l:List Fil,(za8 n l).length≤l.length
 | []=>by simp[za8]
 | p::l=>by
  have:=zll n l
  rw[za8]
  split <;> simp <;> omega
theorem ztL (m:List Fil) (o:Oq):(zbn m o).length≤m.length+1:=by
 unfold zbn
 split
 ·exact zgS _ _ _
 ·split
  ·split
   ·omega
   ·exact zgS _ _ _
  ·split
   ·split
    ·omega
    ·rename_i b _
     have h1:=zgS o.t b (za8 o.n m);have h2:=zll o.n m;omega
   ·split
    ·have:=zll o.n m;omega
    ·omega
theorem zlH:∀ (q:List Oq) (m:List Fil),(q.foldl zbn m).length≤m.length+q.length
 | [],m=>by simp
 | o::q,m=>by
  have h1:=ztL m o;have h2:=zlH q (zbn m o);rw[List.foldl_cons,List.length_cons];omega
theorem zm7:∀ l:List Fil,(zcN l).length≤l.length
 | []=>by simp[zcN]
 | p::l=>by
  have h1:=zm7 l;have h2:=zgS p.1 p.2 (zcN l);rw[zcN,List.length_cons];omega
theorem zjY (fs:List Fil) (q:List Oq):(zbF fs q).length≤fs.length+q.length:=by
 have h1:=zlH q (zcN fs);have h2:=zm7 fs;unfold zbF;omega
theorem zeY {p:Fil}:∀ {l:List Fil},p∈l→p.2.length≤tot l
 | q::l,h=>by
  rw[zc1]
  rcases List.mem_cons.1 h with rfl | h
  ·omega
  ·have:=zeY h;omega
theorem OwnB.awayT {W:World} {base g:Nat} {u:Value} {b:List UInt8} (h:OwnB W base u b) {t:TypeId} {cs:Array Value} {fr:Nat×Nat} (hg:W.heap[g]?=some (.cells cs t fr)) (ht:t≠5):zbx g u:=by
 intro b' off n c _ hu he;subst hu;subst he
 rcases h.2 with ⟨hn,_⟩ | ⟨g',cap,cur,e,_,hh,_⟩
 ·cases hn
 ·cases e
  rw[hh] at hg
  cases hg
  exact ht rfl
theorem OwnX.moves {α:Type} {sz:Nat} {E:World→(Nat→Option Value)→α→Prop} (hE:zdO sz E) {t:TypeId} {A B:World} {base n:Nat} {v:Value} {l:List α} (h:OwnX sz E t A base v l) (hm:Moves (zab (fun _ _=>False) n) A B):OwnX sz E t B base v l:=by
 obtain ⟨xs,h1,h2,h3⟩:=h
 refine ⟨xs,hm.ownsRow h1 ?_,h2.keep hE (h2.fresh hE) fun p x hc _=>hm.cell hc fun o ho hcs=>?_,h3⟩
 ·intro k cur hk
  rintro (h | ⟨_,h⟩)
  ·exact h
  ·cases h
 ·rintro (h | ⟨_,h⟩)
  ·exact h
  ·rw[hcs] at h;cases h
theorem OwnX.putObj {α:Type} {sz:Nat} {E:World→(Nat→Option Value)→α→Prop} (hE:zdO sz E) {t:TypeId} {A:World} {base:Nat} {v:Value} {l:List α} (h:OwnX sz E t A base v l) {D:Nat} {o:Obj} (hK:A.heap[D]?=some o) (hc:o.isCells=false) (o':Obj):OwnX sz E t (A.putObj D o') base v l:=by
 obtain ⟨xs,h1,h2,h3⟩:=h
 refine ⟨xs,⟨h1.1,?_⟩,h2.keep hE (h2.fresh hE) fun p x hcc _=>zci hcc hK hc o',h3⟩
 rcases h1.2 with hn | ⟨g,cap,cur,rfl,hb,hgg,rest⟩
 ·exact .inl hn
 ·exact .inr ⟨g,cap,cur,rfl,hb,(World.putObj_heap_other (fun e=>by subst e;rw[hK] at hgg;cases hgg;cases hc)).trans hgg,rest⟩
theorem no1 {A:Option Addr} {n c:Nat}:∀ (k:Nat) (z:Int),(#[.slice A n c]:Array Value)[k]?≠some (.int .u8 z):=by
 intro k z h
 match k,h with
 | 0,h=>cases h
 | k+1,h=>simp at h
theorem zva (tmps:Array Value) (W:World) (b:Nat) (A:Option Addr) (n c:Nat) (h4:tmps.getD 2 undef=.pointer (some ⟨b,0,none⟩)) (hc:W.cell? ⟨b,0,none⟩=some (.slice A n c)):(results Tryz.f70 tmps).run Tryz.prog W=.ok (.slice A n c) W:=by
 have h4':tmps[2]?.getD undef=.pointer (some ⟨b,0,none⟩):=by simpa using h4
 simp[results,Tryz.results70,h4',hc,go_sem]
structure NwI (w:World) (base bo:Nat) (pre:List Fil) (X:World):Prop where
 bx:∃ v,Boxed X bo 22 v∧OwnF X base v pre
 e:Ext w X
attribute [local go_sem] Oper.semAt_some in
theorem zux (v:Value) (d:Dk) (w:World) (hD:DkV w v d) (hl1:d.fs.length≤1000000) (hl2:d.q.length≤1000000) (hb:tot d.fs+zaT d.q≤2000000) :
  Calls Tryz.prog 70 #[v] w fun e w'=>∃ A c,e=.returned (.slice A d.now.length c)∧OwnF w' w.heap.size (.slice A d.now.length c) d.now∧Ext w w':=by
 obtain ⟨vf,vq,rfl,hF,hQ⟩:=hD;obtain ⟨A,c,rfl,_,_⟩:=Fs.open_ hF;obtain ⟨B,e2,rfl,_,_⟩:=Qs.open_ hQ
 have hE0:Ext w ((w.alloc (.cells #[.slice A d.fs.length c,.slice B d.q.length e2,.int .i64 d.quota,.int .i64 d.fuse,.bool d.dead] 25)).alloc (.cells #[.slice none 0 0] 22)):=Ext.alloc (Ext.alloc (Ext.refl _) _) _
 have hb0:=(Blk.new w 25 #[.slice A d.fs.length c,.slice B d.q.length e2,.int .i64 d.quota,.int .i64 d.fuse,.bool d.dead]).alloc (.cells #[.slice none 0 0] 22);have hb1:=Blk.new (w.alloc (.cells #[.slice A d.fs.length c,.slice B d.q.length e2,.int .i64 d.quota,.int .i64 d.fuse,.bool d.dead] 25)) 22 #[.slice none 0 0];rw[World.size_alloc] at hb1
 have HC:=zhd (zjO _ d _ (show DkV _ _ d from ⟨_,_,rfl,hF.ext hE0,hQ.ext hE0⟩) (by omega) (by omega) (by omega))
 have HE0:=zhd hE0;have HB1:=zhd hb1;have htn:=zgd d.fs d.q;have hln:=zjY d.fs d.q
 have hnow:zbA (zbF d.fs d.q)=d.now:=znC d.fs d.q
 have HN:=zhd hnow
 have HT:=zhd (show tot (zbF d.fs d.q)≤2000000 by omega)
 have HL:=zhd (show (zbF d.fs d.q).length≤2000000 by omega)
 clear hF hQ hE0 htn hln hnow hb hb1;obtain ⟨g0,g1,g2,g3,g4⟩:=zac hb0;clear hb0
 generalize zbF d.fs d.q=M at *
 refine (callsIn_wd (ro:=none) (n:=9)).1 ?_
 refine callsIn_of_wp_marks Tryz.func70 rfl trivial ?_ rfl
 simp only[Tryz.ntmps70,List.size_toArray,List.length_cons,List.length_nil,Nat.reduceAdd,Nat.reduceSub,Array.replicate_succ,Array.replicate_zero,List.push_toArray,List.append_toArray,List.nil_append,List.cons_append]
 gi_wp2_with (first
  | (refine ⟨trivial,?_⟩;gi_at_call 115;refine (callsIn_wd.2 HC.out).mono ?_;rintro e w1 ⟨r,rfl,hm1,hr1,hE1⟩)
  | (refine ⟨trivial,?_⟩;gi_at_call 116;refine (callsIn_wd.2 (zqz r w1)).mono ?_;rintro e w2 ⟨rfl,hw2⟩))
 have hE12:Ext w1 w2:=by rw[←hw2];exact Ext.alloc (Ext.refl _) _
 have hbm:Boxed w2 w1.heap.size 160 (.map (some r)):=by rw[←hw2];exact Boxed.new w1 _ _
 clear hw2;have hm2:=hm1.ext hE12;have hE2:=Ext.trans HE0.out (Ext.trans hE1 hE12)
 have hbo:Blk w2 (w.heap.size+1) 22 #[.slice none 0 0]:=HB1.out.ext (Ext.trans hE1 hE12)
 have hlt1:w.heap.size+1<w1.heap.size:=by have:=hE1.size;simp only[World.size_alloc] at this;omega
 have hlt2:w1.heap.size<w2.heap.size:=hbm.lt
 have h0:NwI w w2.heap.size (w.heap.size+1) [] w2:=⟨⟨_,hbo,OwnX.nil _ _ _⟩,hE2⟩
 obtain ⟨i0,hi,hz0,hz1,hz2⟩:=info_parts zli
 have hbl:∀ p∈M,p.2.length≤2000000:=fun p hp=>Nat.le_trans (zeY hp) HT.out
 have HBL:=zhd hbl
 have hsl:(zbA M).length≤2000000:=by unfold zbA;rw[List.length_map,List.length_mergeSort,List.length_map];exact HL.out
 have HSL:=zhd hsl;clear hm1 hr1 hE1 hE12 hE2 g0 g1 g2 g3 g4 HC HB1 HE0 hbl hsl
 refine ziT (a:=⟨_,_⟩) rfl (enters_of Tryz.func150 (by kernel_rfl) rfl)
  (fun W1 hb hs=>zoO w2 W1 hb r w1.heap.size (w.heap.size+1) M hm2 hbm (by omega) hbo no1 HL.out HBL.out)
  (fun k o h=>h.elim) (fun k o h r e=>h.1 r e) (fun x av W h=>by obtain ⟨C,dd,rfl,_⟩:=h;rfl)
  (NwI w w2.heap.size (w.heap.size+1)) (fun _ _ _=>False) ?hI (fun _ _ _ _ h _=>h) h0
  (fun x a' W=>∃ nb C dd,a'=⟨#[.agg #[.slice A d.fs.length c,.slice B d.q.length e2,.int .i64 d.quota,.int .i64 d.fuse,.bool d.dead],.pointer (some ⟨w.heap.size,0,none⟩),.pointer (some ⟨w.heap.size+1,0,none⟩),.pointer (some ⟨nb,0,none⟩),.agg #[.slice A d.fs.length c,.slice B d.q.length e2,.int .i64 d.quota,.int .i64 d.fuse,.bool d.dead],.map (some r),.func (.func 150) #[] #[.pointer (some ⟨w1.heap.size,0,none⟩)],.agg #[sv x.1,.slice C x.2.length dd],undef,undef,undef,undef,undef],[]⟩∧Blk W nb 51 #[sv x.1,.slice C x.2.length dd]∧OwnB W 0 (.slice C x.2.length dd) x.2)
  ?hAx ?assign ?body ?done ?stop
 case hI =>
  rintro s X Y ⟨⟨u,hb,ho⟩,hE⟩ hm
  refine ⟨⟨u,hm.boxed hb ?_,OwnX.moves zbP ho hm⟩,hm.belowOf hE ?_ (Nat.le_refl _)⟩
  ·rintro (h | h)
   ·exact h
   ·cases h.2
  ·rintro k o hk (h | h)
   ·exact h
   ·have:=h.1;omega
 case hAx =>
  rintro x a' X Y ⟨nb,C,dd,rfl,hb,ho⟩ hm
  refine ⟨nb,C,dd,rfl,hm.same _ _ hb ?_,hm.ownsRow ho ?_⟩
  ·rintro (h | h)
   ·exact h
   ·cases h.2
  ·intro k cur _
   rintro (h | h)
   ·exact h
   ·cases h.2
 case assign =>
  rintro l' pre x post W av K' hx ⟨⟨u,hb,ho⟩,hE⟩ hsz ⟨C,dd,rfl,hbs⟩ hK
  simp only[sv] at *
  gi_wp2
  exact hK _ _ (Kept.refl.alloc _) ⟨⟨u,hb.alloc _,OwnX.ext zbP ho (Ext.alloc (Ext.refl _) _)⟩,Ext.alloc hE _⟩ ⟨_,C,dd,rfl,Blk.new _ _ _,zag hbs (Ext.alloc (Ext.refl _) _)⟩
 case body =>
  rintro l' pre ⟨n,b⟩ post a' W hx hl' hr ⟨⟨u,hb,ho⟩,hE⟩ hsz ⟨nb,C,dd,rfl,hx1,hbs⟩
  dsimp only at *
  obtain ⟨A1,c1,rfl⟩:=ho.open_;obtain ⟨y0,y1⟩:=zik hx1;have cb:=hb.cell;have fb:=hb.frozen
  have hpl:pre.length+1≤2000000:=by have h9:=congrArg List.length hx;rw[List.length_append,List.length_cons] at h9;have:=HSL.out;omega
  have hX:Ext W (W.alloc (.cells #[sv n,.slice C b.length dd] 51)):=Ext.alloc (Ext.refl _) _
  have haw:∀ g,(Value.slice A1 pre.length c1).ownBlock=some g→∀ y∈[sv n,.slice C b.length dd],zbx g y:=by
   intro g hg y hy;obtain ⟨_,cs,hcs⟩:=zcT ho hg;simp only[List.mem_cons,List.not_mem_nil,or_false] at hy
   rcases hy with rfl | rfl
   ·exact za2 _ n
   ·exact OwnB.awayT hbs hcs (by decide)
  have HAW:=zhd haw;have HO:=zhd ho;have HBX:=zhd hb;have HBS:=zhd hbs;have HE:=zhd hE;clear haw ho hb hbs hE
  simp only[sv] at *
  gi_wp2_with (gi_at_builtin;refine zlu zbP rfl (.tmp 8) (.tmp 10) 22 rfl 51 i0 _ 40 Tryz.underlying22 hi hz0 hz1 hz2 rfl (by decide) (by decide) w2.heap.size _ pre rfl (OwnX.ext zbP HO.out hX) _ [(n,b)] [.string ⟨n.toArray⟩,.slice C b.length dd] rfl (zeH W [.string ⟨n.toArray⟩,.slice C b.length dd] 51 2 rfl rfl) (zka (n:=n) (Bs.ext HBS.out.bs hX)) (by simp) HAW.out (by simp;omega) (Nat.le_trans hsz hX.size) ?_;intro A3 c3 W3 ho3 hG3 hg3;simp only[List.length_cons,List.length_nil,Nat.zero_add] at ho3 ⊢;have b3:=((HBX.out.alloc (.cells #[.string ⟨n.toArray⟩,.slice C b.length dd] 51)).kept hg3 (fun e=>by have:=(zcT HO.out e.symm).1;omega));have cb3:=b3.cell;have fb3:=b3.frozen)
  have ho4:=OwnF.setD (u:=.slice A3 (pre.length+1) c3) (j:=0) ho3 (by decide) b3 no1
  refine ⟨((Kept.refl.alloc _).grown hg3 (fun k o ek hk=>?_)).setCell (fun o hk _=>?_) _,⟨_,b3.set _,by simpa using ho4⟩,Below.setCell (hG3 w (Ext.trans HE.out hX) (by omega)) (Nat.le_succ _) _⟩
  ·obtain ⟨hge,cs,hcs⟩:=zcT HO.out ek
   rw[hk] at hcs
   cases hcs
   rintro (⟨_,⟨h1,_⟩ | ⟨_,h1⟩⟩ | ⟨_,h1⟩)
   ·omega
   ·exact absurd (Option.some.inj h1) (by decide)
   ·cases h1
  ·rintro (⟨_,⟨_,h1⟩ | ⟨h1,_⟩⟩ | ⟨h1,_⟩)
   ·exact h1 rfl
   ·dsimp only at h1;omega
   ·dsimp only at h1;omega
 case done =>
  rintro D W hD ⟨⟨u,hb,ho⟩,hE⟩ hK;obtain ⟨A1,c1,rfl⟩:=ho.open_;have hc:=hb.cell;have hf:=hb.frozen
  gi_wp2
  have hK2:=zaC hK rfl ⟨w.heap.size+1,0,none⟩ (.slice A1 (zbA M).length c1);have hcd:=zci (hb.set (.slice A1 (zbA M).length c1)).cell hK2 rfl (.deferred none);have ho2:=OwnF.setD (u:=.slice A1 (zbA M).length c1) (j:=0) ho (by decide) hb no1;have ho3:=(OwnX.putObj zbP ho2 hK2 rfl (.deferred none)).base (base':=w.heap.size) (by omega)
  refine zbg hK2 (.slice A1 (zbA M).length c1) (zva _ _ _ A1 _ c1 rfl hcd) ⟨A1,c1,by rw[←HN.out],by rw[←HN.out];exact ho3,?_⟩
  exact zar (Below.setCell hE (Nat.le_succ _) _) (by omega) _
 case stop =>
  rintro D cd pre W _ _ h _
  exact h.elim
structure Sz (n:Nat) (d:Dk):Prop where
 l:d.fs.length+d.q.length≤n
 t:tot d.fs+zaT d.q≤n
 f:d.fuse≤9223372036854775807
theorem zlL (d:Dk):d.may=0∨d.may=2∨d.may=40:=by
 unfold Dk.may
 split
 ·exact .inr (.inl rfl)
 ·split
  ·exact .inr (.inr rfl)
  ·exact .inl rfl
theorem zj0 {o:Oq}:∀ {l:List Oq},o∈l→o.b.length≤zaT l
 | q::l,h=>by
  rw[zb9]
  rcases List.mem_cons.1 h with rfl | h
  ·omega
  ·have:=zj0 h;omega
theorem zie (v:Value) (d:Dk) (n:Nat) (w:World) (hD:DkV w v d) (hn:n≤1000000) (hs:Sz n d) :
  Calls Tryz.prog 47 #[v] w fun e w'=>∃ u,e=.returned u∧zuo w' w.heap.size u d∧Ext w w':=by
 obtain ⟨h1,h2,_⟩:=hs
 exact zs2 v d w hD (by omega) (by omega) (fun f hf=>by have:=zeY hf;omega) (fun o ho=>by have:=zj0 ho;omega)
theorem zrZ (v:Value) (d:Dk) (n:Nat) (w:World) (hD:DkV w v d) (hn:n≤1000000) (hs:Sz n d) :
  Calls Tryz.prog 133 #[v] w fun e w'=>e=.returned (.int .i64 d.may)∧Ext w w':=by
 obtain ⟨h1,h2,_⟩:=hs
 exact zts v d w hD (by omega) (by omega) (by omega)
theorem zmB (v:Value) (d:Dk) (n:Nat) (w:World) (hD:DkV w v d) (hn:n≤1000000) (hs:Sz n d) :
  Calls Tryz.prog 70 #[v] w fun e w'=>∃ A c,e=.returned (.slice A d.now.length c)∧OwnF w' w.heap.size (.slice A d.now.length c) d.now∧Ext w w':=by
 obtain ⟨h1,h2,_⟩:=hs
 exact zux v d w hD (by omega) (by omega) (by omega)
theorem zeW (d:Dk):d.now.length≤d.fs.length+d.q.length:=by
 have h:=zjY d.fs d.q
 have e:d.now.length=(zbF d.fs d.q).length:=by
  rw[←show zbA (zbF d.fs d.q)=d.now from znC d.fs d.q]
  unfold zbA;rw[List.length_map,List.length_mergeSort,List.length_map]
 omega
theorem zk4 (d:Dk):tot d.now≤tot d.fs+zaT d.q:=by
 have h1:tot d.now=tot (zbF d.fs d.q):=zfY d.fs d.q
 have h2:=zgd d.fs d.q;omega
theorem Sz.burn {n:Nat} {d:Dk} (h:Sz n d):Sz n d.burn:=by
 obtain ⟨h1,h2,h3⟩:=h;unfold Dk.burn
 split
 ·exact ⟨h1,h2,by dsimp only;omega⟩
 ·exact ⟨h1,h2,h3⟩
theorem Sz.mono {n m:Nat} {d:Dk} (h:Sz n d) (hm:n≤m):Sz m d:=⟨Nat.le_trans h.l hm,Nat.le_trans h.t hm,h.f⟩
theorem Sz.sync {n:Nat} {d:Dk} (h:Sz n d):Sz n d.syncS.1:=by
 unfold Dk.syncS
 split
 ·exact h
 ·refine Sz.burn ⟨?_,?_,h.f⟩
  ·have:=zeW d;have:=h.l;simp only[List.length_nil];omega
  ·have:=zk4 d;have:=h.t;show tot d.now+0≤n;omega
theorem Sz.doS {n:Nat} {d:Dk} (h:Sz n d) (o:Oq):Sz (n+1+o.b.length) (d.doS o).1:=by
 have hm:=h.mono (m:=n+1+o.b.length) (by omega);unfold Dk.doS
 split
 ·exact hm
 ·split
  ·exact hm
  ·split
   ·exact hm
   ·split
    ·exact hm
    ·refine Sz.burn ⟨?_,?_,h.f⟩
     ·have:=h.l;show d.fs.length+(d.q++[o]).length≤_;simp;omega
     ·have:=h.t;show tot d.fs+zaT (d.q++[o])≤_;rw[zd6,zb9];show _+(zaT d.q+(o.b.length+0))≤_;omega
theorem zmN {W:World} {base b:Nat} {A B:Option Addr} {c e:Nat} {d:Dk} (hB:Blk W b 25 (zaE A d.fs.length c B d.q.length e d.quota d.fuse d.dead)) (hf:OwnF W base (.slice A d.fs.length c) d.fs) (hq:OwnQ W base (.slice B d.q.length e) d.q) :
  Blk (zgk W b d.fuse) b 25 (zaE A d.burn.fs.length c B d.burn.q.length e d.burn.quota d.burn.fuse d.burn.dead)∧OwnF (zgk W b d.fuse) base (.slice A d.burn.fs.length c) d.burn.fs∧OwnQ (zgk W b d.fuse) base (.slice B d.burn.q.length e) d.burn.q
   ∧ (∀ (b':Nat) (t:TypeId) (cs:Array Value),b'≠b→Blk W b' t cs→Blk (zgk W b d.fuse) b' t cs)∧(∀ w,Ext w W→w.heap.size≤b→Ext w (zgk W b d.fuse)):=by
 unfold zgk Dk.burn
 by_cases h:0<d.fuse
 ·rw[if_pos h,if_pos h]
  have b1:Blk _ b 25 (zaE A d.fs.length c B d.q.length e d.quota (d.fuse-1) d.dead):=hB.set 3 (.int .i64 (d.fuse-1))
  have b2:Blk _ b 25 (zaE A d.fs.length c B d.q.length e d.quota (d.fuse-1) (d.fuse-1==0)):=b1.set 4 (.bool (d.fuse-1==0))
  refine ⟨b2,OwnF.setD (OwnF.setD hf (by decide) hB zaG) (by decide) b1 zaG,OwnQ.setD (OwnQ.setD hq (by decide) hB zaG) (by decide) b1 zaG,fun b' t cs hne hb'=>?_,fun w hX hb'=>?_⟩
  ·exact (hb'.other hne 3 _).other hne 4 _
  ·exact Below.setCell (p:=⟨b,4,none⟩) (Below.setCell (p:=⟨b,3,none⟩) hX hb' _) hb' _
 ·rw[if_neg h,if_neg h]
  exact ⟨hB,hf,hq,fun _ _ _ _ h=>h,fun _ h _=>h⟩
theorem zke (tmps:Array Value) (W:World) (b:Nat) (cs:Array Value) (e:Value) (h4:tmps.getD 2 undef=.pointer (some ⟨b,0,none⟩)) (h3:tmps.getD 3 undef=e) (hb:Blk W b 25 cs) (hs:cs.size=5):(results Tryz.f93 tmps).run Tryz.prog W=.ok (.tuple #[.agg cs,e]) W:=by
 have h4':tmps[2]?.getD undef=.pointer (some ⟨b,0,none⟩):=by simpa using h4
 have h3':tmps[3]?.getD undef=e:=by simpa using h3
 have hl:=hb.load (P:=Tryz.prog) ziq rfl (by rw[hs];kernel_rfl)
 simp[results,Tryz.results93,h4',h3',asAddr,hl,Sem.run_bind,Sem.run_pure,Result.andThen_ok]
theorem zs7 (v:Value) (d:Dk) (n:Nat) (w:World) (hD:DkV w v d) (hn:n≤1000000) (hs:Sz n d) :
  Calls Tryz.prog 93 #[v] w fun e w'=>∃ u,e=.returned (.tuple #[u,.int .i64 d.syncS.2])∧zjG w' w.heap.size u d.syncS.1∧Ext w w':=by
 obtain ⟨vf,vq,rfl,hF,hQ⟩:=hD;obtain ⟨A,c,rfl,_,_⟩:=Fs.open_ hF;obtain ⟨B,e2,rfl,_,_⟩:=Qs.open_ hQ
 have HE0:=zhd (show Ext w ((w.alloc (.cells #[.slice A d.fs.length c,.slice B d.q.length e2,.int .i64 d.quota,.int .i64 d.fuse,.bool d.dead] 25)).alloc (.cells #[.slice none 0 0,.slice none 0 0,.int .i64 0,.int .i64 0,.bool false] 25)) from Ext.alloc (Ext.alloc (Ext.refl _) _) _)
 have H0:=zhd (show Blk ((w.alloc (.cells #[.slice A d.fs.length c,.slice B d.q.length e2,.int .i64 d.quota,.int .i64 d.fuse,.bool d.dead] 25)).alloc (.cells #[.slice none 0 0,.slice none 0 0,.int .i64 0,.int .i64 0,.bool false] 25)) w.heap.size 25 (zaE A d.fs.length c B d.q.length e2 d.quota d.fuse d.dead) from (Blk.new w _ _).alloc _)
 have h1:Blk ((w.alloc (.cells #[.slice A d.fs.length c,.slice B d.q.length e2,.int .i64 d.quota,.int .i64 d.fuse,.bool d.dead] 25)).alloc (.cells #[.slice none 0 0,.slice none 0 0,.int .i64 0,.int .i64 0,.bool false] 25)) (w.heap.size+1) 25 (zaE none 0 0 none 0 0 0 0 false):=by
  have:=Blk.new (w.alloc (.cells #[.slice A d.fs.length c,.slice B d.q.length e2,.int .i64 d.quota,.int .i64 d.fuse,.bool d.dead] 25)) 25 #[.slice none 0 0,.slice none 0 0,.int .i64 0,.int .i64 0,.bool false]
  rwa [World.size_alloc] at this
 have H1:=zhd h1
 have HC:=zhd (zie _ d n _ (show DkV _ _ d from ⟨_,_,rfl,hF.ext HE0.out,hQ.ext HE0.out⟩) hn hs)
 clear h1 hF hQ;obtain ⟨g0,g1,g2,g3,g4⟩:=zac H0.out;have HZ:=zhd hs;obtain ⟨S,hS⟩:∃ S,d.syncS=S:=⟨_,rfl⟩;rw[hS];have HS:=zhd hS;clear hs hS
 go_enter Tryz.func93,Tryz.ntmps93
 go_wp2_with fail
 refine HC.out.mono ?_
 rintro e w1 ⟨u,rfl,⟨A3,c3,B3,e3,rfl,of,oq⟩,hE1⟩;have hb1:=H0.out.ext hE1;have hb2:=H1.out.ext hE1;have HE1:=zhd (Ext.trans HE0.out hE1)
 have hof:OwnF w1 w.heap.size (.slice A3 d.fs.length c3) d.fs:=OwnX.base of.f HE0.out.size
 have hoq:OwnQ w1 w.heap.size (.slice B3 d.q.length e3) d.q:=OwnX.base oq HE0.out.size
 clear g0 g1 g2 g3 g4 HC H0 H1 HE0 of oq hE1
 have hb1':Blk (zeF w1 w.heap.size (.slice A3 d.fs.length c3) (.slice B3 d.q.length e3) (.int .i64 d.quota) (.int .i64 d.fuse) (.bool d.dead)) w.heap.size 25 (zaE A3 d.fs.length c3 B3 d.q.length e3 d.quota d.fuse d.dead):=zaS hb1 _ _ _ _ _
 have hne:w.heap.size+1≠w.heap.size:=by omega
 have hb2':Blk (zeF w1 w.heap.size (.slice A3 d.fs.length c3) (.slice B3 d.q.length e3) (.int .i64 d.quota) (.int .i64 d.fuse) (.bool d.dead)) (w.heap.size+1) 25 (zaE none 0 0 none 0 0 0 0 false):=((((hb2.other hne 0 _).other hne 1 _).other hne 2 _).other hne 3 _).other hne 4 _
 have hof':=OwnF.box1 (A':=A3) (n':=d.fs.length) (c':=c3) (B':=B3) (m':=d.q.length) (e':=e3) (q':=d.quota) (f':=d.fuse) (d':=d.dead) hof hb1;have hoq':=OwnQ.box1 (A':=A3) (n':=d.fs.length) (c':=c3) (B':=B3) (m':=d.q.length) (e':=e3) (q':=d.quota) (f':=d.fuse) (d':=d.dead) hoq hb1;have HX1:=zhd (zaL HE1.out (Nat.le_refl _) (.slice A3 d.fs.length c3) (.slice B3 d.q.length e3) (.int .i64 d.quota) (.int .i64 d.fuse) (.bool d.dead))
 have HC:=zhd (zrZ _ d n _ (show DkV _ _ d from ⟨_,_,rfl,hof'.fs,hoq'.qs⟩) hn HZ.out)
 have HB1:=zhd hb1';have HB2:=zhd hb2';have HOF:=zhd hof';have HOQ:=zhd hoq';clear hof hoq hof' hoq' hb2 hb2' HE1;obtain ⟨f0,f1,f2,f3,f4⟩:=zby hb1;obtain ⟨g0,g1,g2,g3,g4⟩:=zac hb1;clear hb1 hb1';go_wp2_with fail;clear f0 f1 f2 f3 f4 g0 g1 g2 g3 g4
 refine HC.out.mono ?_
 rintro e w2 ⟨rfl,hE2⟩;have hb1:=HB1.out.ext hE2;have hb2:=HB2.out.ext hE2
 have hof:OwnF w2 w.heap.size (.slice A3 d.fs.length c3) d.fs:=OwnX.ext zbP HOF.out hE2
 have hoq:OwnQ w2 w.heap.size (.slice B3 d.q.length e3) d.q:=OwnX.ext zcS HOQ.out hE2
 have HX2:=zhd (Ext.trans HX1.out hE2);clear HC HB1 HB2 HOF HOQ HX1 hE2
 have HC:=zhd (zmB _ d n _ (show DkV w2 (.agg #[.slice A3 d.fs.length c3,.slice B3 d.q.length e3,.int .i64 d.quota,.int .i64 d.fuse,.bool d.dead]) d from ⟨_,_,rfl,hof.fs,hoq.qs⟩) hn HZ.out)
 obtain ⟨g0,g1,g2,g3,g4⟩:=zac hb1
 rcases zlL d with hm | hm | hm
 ·have e1:S=({ d with fs:=d.now,q:=[] }.burn,0):=by rw[←HS.out];unfold Dk.syncS;rw[if_neg (by simp[hm])]
  subst e1;rw[hm];have HB1:=zhd hb1;have HB2:=zhd hb2;clear hof hoq hb1 hb2 HS;go_wp2_with fail;clear g0 g1 g2 g3 g4
  refine HC.out.mono ?_
  rintro e w3 ⟨A4,c4,rfl,ho4,hE3⟩;have hb1:=HB1.out.ext hE3;have hb2:=HB2.out.ext hE3
  have ho5:OwnF w3 w.heap.size (.slice A4 d.now.length c4) d.now:=OwnX.base ho4 HX2.out.size
  have HX3:=zhd (Ext.trans HX2.out hE3);clear HC HB1 HB2 HX2 hE3 ho4;have f0:=hb1.frozen 0
  have k0:Blk _ w.heap.size 25 (zaE A4 d.now.length c4 B3 d.q.length e3 d.quota d.fuse d.dead):=hb1.set 0 (.slice A4 d.now.length c4)
  have f1:=k0.frozen 1
  have k1:Blk _ w.heap.size 25 (zaE A4 d.now.length c4 none 0 0 d.quota d.fuse d.dead):=k0.set 1 (.slice none 0 0)
  have of1:=OwnF.setD (j:=1) (u:=.slice none 0 0) (OwnF.setD (j:=0) (u:=.slice A4 d.now.length c4) ho5 (by decide) hb1 zaG) (by decide) k0 zaG;have K1:=zhd k1;have OF1:=zhd of1
  have HB:=zhd (hb2.other (show w.heap.size+1≠w.heap.size by omega) 0 (.slice A4 d.now.length c4))
  have HB2:=zhd (HB.out.other (show w.heap.size+1≠w.heap.size by omega) 1 (.slice none 0 0))
  have HX4:=zhd (Below.setCell (p:=⟨w.heap.size,1,none⟩) (Below.setCell (p:=⟨w.heap.size,0,none⟩) HX3.out (Nat.le_refl _) (.slice A4 d.now.length c4)) (Nat.le_refl _) (.slice none 0 0));obtain ⟨g0,g1,_,_,_⟩:=zac hb1;clear hb1 hb2 ho5 k0 k1 of1 HB HX3;go_wp2_with fail;clear f0 f1 g0 g1
  refine (zmL w.heap.size _ _ d.quota d.fuse d.dead _ K1.out HZ.out.f).mono ?_
  rintro e w4 ⟨rfl,hw4⟩;obtain ⟨hb1,hof,hoq,hoth,hext⟩:=zmN (d:={ d with fs:=d.now,q:=[] }) K1.out OF1.out (OwnX.nil _ _ _);rw[hw4] at hb1 hof hoq hoth hext;have hb2:=hoth _ _ _ (by omega) HB2.out;have hE4:=hext _ HX4.out (Nat.le_refl _);obtain ⟨d5,hd5⟩:∃ x,({ d with fs:=d.now,q:=[] }:Dk).burn=x:=⟨_,rfl⟩;rw[hd5] at hb1 hof hoq;have H5:=zhd hd5;clear hd5;obtain ⟨g0,g1,g2,g3,g4⟩:=zac hb1;obtain ⟨f0,f1,f2,f3,f4⟩:=zby hb2;obtain ⟨d0,d1,d2,d3,d4⟩:=zac hb2;have Q1:=zhd hb2;have Q2:=zhd hof;have Q3:=zhd hoq;have Q4:=zhd hE4;clear hb1 hb2 hof hoq hoth hext hE4 K1 OF1 HB2 HX4 hw4;go_wp2_with fail
  refine bodyPost_ret (zke _ _ _ _ (.int .i64 0) rfl rfl (zaS Q1.out _ _ _ _ _) rfl) rfl ?_
  have hd5:=H5.out;subst hd5
  exact ⟨_,rfl,⟨_,_,_,_,rfl,OwnF.box1 Q2.out Q1.out,OwnQ.box1 Q3.out Q1.out⟩,zaL Q4.out (Nat.le_succ _) _ _ _ _ _⟩
 ·have e1:S=(d,2):=by rw[←HS.out];unfold Dk.syncS;rw[if_pos (by simp[hm]),hm]
  subst e1;rw[hm];clear HC HS;obtain ⟨f0,f1,f2,f3,f4⟩:=zby hb2;obtain ⟨d0,d1,d2,d3,d4⟩:=zac hb2;have Q1:=zhd hb2;have Q2:=zhd hof;have Q3:=zhd hoq;clear hb1 hb2 hof hoq;go_wp2_with fail
  refine bodyPost_ret (zke _ _ _ _ (.int .i64 2) rfl rfl (zaS Q1.out _ _ _ _ _) rfl) rfl ?_
  exact ⟨_,rfl,⟨_,_,_,_,rfl,OwnF.box1 Q2.out Q1.out,OwnQ.box1 Q3.out Q1.out⟩,zaL HX2.out (Nat.le_succ _) _ _ _ _ _⟩
 ·have e1:S=(d,40):=by rw[←HS.out];unfold Dk.syncS;rw[if_pos (by simp[hm]),hm]
  subst e1;rw[hm];clear HC HS;obtain ⟨f0,f1,f2,f3,f4⟩:=zby hb2;obtain ⟨d0,d1,d2,d3,d4⟩:=zac hb2;have Q1:=zhd hb2;have Q2:=zhd hof;have Q3:=zhd hoq;clear hb1 hb2 hof hoq;go_wp2_with fail
  refine bodyPost_ret (zke _ _ _ _ (.int .i64 40) rfl rfl (zaS Q1.out _ _ _ _ _) rfl) rfl ?_
  exact ⟨_,rfl,⟨_,_,_,_,rfl,OwnF.box1 Q2.out Q1.out,OwnQ.box1 Q3.out Q1.out⟩,zaL HX2.out (Nat.le_succ _) _ _ _ _ _⟩
end Go.Proofs.YtgonhdeochgkoaaGreatDoor
