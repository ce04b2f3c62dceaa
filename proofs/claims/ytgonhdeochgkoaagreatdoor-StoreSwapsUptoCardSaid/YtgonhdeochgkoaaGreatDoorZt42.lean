/- Merged: R5d Open13 -/
import Derived.Test.YtgonhdeochgkoaaGreatDoorZt40
import Derived.Test.YtgonhdeochgkoaaGreatDoorZt41
set_option linter.all false
set_option maxHeartbeats 8000000
set_option maxRecDepth 100000
namespace Go.Proofs.YtgonhdeochgkoaaGreatDoor
open Go.RowKit Go.Mv Go.Shelf
theorem zsr {fs:List Fil} {j:Nat} (h:j<fs.length) (ns:List (List UInt8)):zaH (fs.take (j+1)) ns=zaH (fs.take j) ns++(if fs[j].1∈ns then [] else [fs[j].1]):=by
 rw[List.take_succ_eq_append_getElem h];unfold zaH;rw[List.map_append,List.filter_append]
 congr 1
 by_cases h2:fs[j].1∈ns <;> simp[h2]
theorem zqc {ks:List (Int×Int×Int)} {k:Nat} (h:k<ks.length):zaf (ks.take (k+1))=zaf (ks.take k)++(zak ks[k].1 ks[k].2.1 ks[k].2.2).toList:=by
 rw[List.take_succ_eq_append_getElem h,zjo]
structure R5I (w:World) (l:List (List UInt8)) (v:Value) (W:World):Prop where
 sl:∃ A c,v=.slice A l.length c
 o:W.ownsRow w.heap.size 9 1 v l.length (l.map sv)
 e:Ext w W
theorem zdy (v:Value) (fs:List Fil) (vk:Value) (ks:List (Int×Int×Int)) (w:World) (hS:StW w) (hF:Fs w v fs) (hK:SlR w 3 vk ks.length (idCells ks)) (hl:fs.length≤1000000) (hl2:ks.length≤1000000) :
  Calls Tryz.prog 24 #[v,vk] w fun e w'=>(∃ A c,e=.returned (.slice A (zaH fs (zaf ks)).length c))∧Ext w w':=by
 obtain ⟨A,c,rfl,_,_⟩:=Fs.open_ hF;obtain ⟨B,e2,rfl,_,_⟩:=SlR.open_ hK;have HS:=zhd hS;have HF:=zhd hF;have HKK:=zhd hK;clear hF hK hS;obtain ⟨i0,hi,hz0,hz1,hz2⟩:=info_parts zjX
 go_enter Tryz.func24,Tryz.ntmps24
 go_wp2_with fail
 go_loopw [5,6] (fun o i wr=>∃ j:Nat,j≤fs.length∧i=.int .i64 j∧Hid (R5I w (zaH (fs.take j) (zaf ks)) o wr)) (fun _ i _=>fs.length-(intOf i).toNat)
 case atStart=>exact ⟨0,by omega,rfl,⟨⟨none,0,rfl⟩,⟨rfl,.inl ⟨rfl,rfl⟩⟩,Ext.refl _⟩⟩
 case round =>
  obtain ⟨j,hj,rfl,HI⟩:=hrel
  by_cases hlt:j<fs.length
  ·have hlz:(j:Int)<(fs.length:Int):=by omega
   obtain ⟨_,b,off,rfl,hc⟩:=HF.out.at_ (by omega);obtain ⟨hc0,_⟩:=hc j hlt;have hrt:=zsr hlt (zaf ks);obtain ⟨n,hn⟩:∃ n,fs[j].1=n:=⟨_,rfl⟩;rw[hn] at hc0 hrt;have HRT:=zhd hrt;have HC0:=zhd hc0;clear hc hrt hn hc0;go_wp2_with fail
   go_loopw [7,8] (fun kp i wr2=>∃ k:Nat,k≤ks.length∧i=.int .i64 k∧kp=.bool (decide (n∈zaf (ks.take k)))∧Hid (Ext wr wr2)) (fun _ i _=>ks.length-(intOf i).toNat)
   case atStart=>exact ⟨0,by omega,rfl,by simp[zaf],Ext.refl _⟩
   case round =>
    rename World=>wr2
    obtain ⟨k,hk,rfl,rfl,HE⟩:=hrel
    by_cases hlt2:k<ks.length
    ·have hlz2:(k:Int)<(ks.length:Int):=by omega
     have hE2:=Ext.trans HI.out.e HE.out;obtain ⟨_,b2,off2,rfl,hc⟩:=(SlR.ext HKK.out hE2).at_ (by omega);obtain ⟨x0,x1,x2⟩:=zhs ks hlt2;have c0:=hc _ _ x0;have c1:=hc _ _ x1;have c2:=hc _ _ x2;have hnt:=zqc hlt2;have hn0:=HC0.out
     have cn:wr2.cell? ⟨b,off+j*2,none⟩=some (sv n):=(hE2).cell hn0
     generalize ks[k]=x at *
     obtain ⟨xk,xs,xf⟩:=x
     dsimp only at *
     obtain ⟨nm,hnm⟩:∃ nm,zak xk xs xf=nm:=⟨_,rfl⟩;have HN:=zhd (zgE xk xs xf wr2 (HS.out.ext hE2));rw[hnm] at HN hnt;have HNT:=zhd hnt;clear hc x0 x1 x2 hnt hnm hn0 hE2;rw[←Nat.add_assoc] at c1 c2
     have call:∀ {K:Ending→World→Prop},(∀ w1,Ext wr2 w1→K (.returned (.tuple #[sv (nm.getD []),.int .i64 (if nm.isSome=true then 0 else 2)])) w1)→Calls Tryz.prog 38 #[.agg #[.int .u8 xk,.int .i64 xs,.int .i64 xf]] wr2 K:=fun h=>HN.out.mono (by rintro e w1 ⟨rfl,hE1⟩;exact h w1 hE1)
     have CALL:=zhd (fun (K:Ending→World→Prop) h=>@call K h)
     clear call HN
     by_cases hkp:n∈zaf (ks.take k)
     ·have hd:decide (n∈zaf (ks.take k))=true:=by simpa using hkp
      have hd2:decide (n∈zaf (ks.take (k+1)))=true:=by rw[HNT.out];simp[hkp]
      rw[hd];have HD2:=zhd hd2;clear hkp hd hd2 HNT;go_wp2_with fail
      refine CALL.out _ (fun w1 hE1=>?_)
      go_wp2_with fail
      go_roundw
      case rel=>exact ⟨k+1,by omega,by go_num,by rw[HD2.out],Ext.trans HE.out hE1⟩
      case measure=>simp[intOf];omega
     ·have hd:decide (n∈zaf (ks.take k))=false:=by simpa using hkp
      rw[hd]
      cases nm with
      | none =>
       have hd2:decide (n∈zaf (ks.take (k+1)))=false:=by rw[HNT.out];simp[hkp]
       have HD2:=zhd hd2;clear hkp hd hd2 HNT;simp only[Option.getD_none,Option.isSome_none,Bool.false_eq_true,if_false,sv] at CALL;go_wp2_with fail
       refine CALL.out _ (fun w1 hE1=>?_)
       go_wp2_with fail
       go_roundw
       case rel=>exact ⟨k+1,by omega,by go_num,by rw[HD2.out],Ext.trans HE.out hE1⟩
       case measure=>simp[intOf];omega
      | some nm =>
       simp only[Option.getD_some,Option.isSome_some,if_true] at CALL
       have hd2:decide (n∈zaf (ks.take (k+1)))=(nm==n):=by
        rw[HNT.out,Bool.eq_iff_iff]
        simp[hkp]
        exact eq_comm
       have HD2:=zhd hd2;clear hkp hd hd2 HNT;unfold sv at CALL cn;go_wp2_with fail
       refine CALL.out _ (fun w1 hE1=>?_)
       have cn1:=hE1.cell cn;clear cn c0 c1 c2;go_wp2_with fail
       go_roundw
       case rel=>exact ⟨k+1,by omega,by go_num,by rw[HD2.out],Ext.trans HE.out hE1⟩
       case measure=>simp[intOf];omega
    ·obtain rfl:k=ks.length:=by omega
     have hE2:=Ext.trans HI.out.e HE.out
     have cn:wr2.cell? ⟨b,off+j*2,none⟩=some (sv n):=hE2.cell HC0.out
     have ho2:=zag HI.out.o HE.out;obtain ⟨A1,c1,hv⟩:=HI.out.sl;rw[List.take_length]
     by_cases hkp:n∈zaf ks
     ·have hd:decide (n∈zaf ks)=true:=by simpa using hkp
      rw[hd];have hrt:=HRT.out;rw[if_pos hkp,List.append_nil] at hrt;have HRT2:=zhd hrt
      have HIN:=zhd (show R5I w (zaH (fs.take (j+1)) (zaf ks)) _ wr2 from by rw[hrt];exact ⟨HI.out.sl,ho2,hE2⟩)
      clear hkp hd hrt HRT ho2 hE2 cn;go_wp2_with fail
      go_roundw
      case rel=>exact ⟨j+1,by omega,by go_num,HIN⟩
      case measure=>simp[intOf];omega
     ·have hd:decide (n∈zaf ks)=false:=by simpa using hkp
      rw[hd];have hrt:=HRT.out;rw[if_neg hkp] at hrt
      have hlen:(zaH (fs.take j) (zaf ks)).length≤1000000:=by
       have h1:=zei (fs.take j) (zaf ks);rw[List.length_take] at h1;omega
      have HRT2:=zhd hrt;have HLEN:=zhd hlen;have HSZ:=zhd hE2.size;have HE2:=zhd hE2;rw[hv] at ho2
      generalize zaH (fs.take j) (zaf ks)=N at *
      subst hv;have HO:=zhd ho2
      have hX:Ext wr2 (wr2.alloc (.cells #[sv n] 9)):=Ext.alloc (Ext.refl _) _
      have HX:=zhd hX;have HSL:=zhd (zeH wr2 [sv n] 9 1 rfl rfl);clear hkp hd hrt HRT ho2 hE2 hlen hX HC0;unfold sv at cn HX HSL
      go_wp2_with (at_builtin;refine zbJ _ rfl (.tmp 47) (.tmp 53) 64 rfl w.heap.size 9 i0 _ 1 16 Tryz.underlying64 hi hz0 hz1 hz2 rfl (by decide) _ N.length (N.map sv) rfl (zag HO.out HX.out) _ 1 [sv n] rfl HSL.out (znh [n]) (by have:=HLEN.out;unfold maxLen;omega) (by have:=HLEN.out;omega) (Ext.trans HE2.out HX.out).size ?_;intro v3 W3 ho3 hg3)
      obtain ⟨A3,c3,rfl,_,_⟩:=SlR.open_ (SlR.of_own ho3)
      have hE3:Ext w W3:=Ext.grownOwn (Ext.trans HE2.out HX.out) (zaj (zag HO.out HX.out) (Nat.le_refl _)) hg3
      have HIN:=zhd (show R5I w (zaH (fs.take (j+1)) (zaf ks)) (.slice A3 (N.length+1) c3) W3 from by rw[HRT2.out];exact ⟨⟨A3,c3,by simp⟩,by rw[List.length_append,List.map_append];exact ho3,hE3⟩)
      clear ho3 hg3 hE3;go_wp2_with fail
      go_roundw
      case rel=>exact ⟨j+1,by omega,by go_num,HIN⟩
      case measure=>simp[intOf];omega
  ·obtain rfl:j=fs.length:=by omega
   have hI:=HI.out;rw[List.take_length] at hI;obtain ⟨A1,c1,hv⟩:=hI.sl;subst hv;have HE:=zhd hI.e;clear hI HI;go_wp2_with fail;go_ret
   exact ⟨⟨A1,c1,rfl⟩,HE.out⟩
open Go.ChangeShapes Go.WideShapes Go.ChangeAt Go.RowKit Go.Deep Go.Mv Go.WideElems
theorem zuI:Tryz.prog.cellsOf 86=4:=by kernel_rfl
theorem zuG:Tryz.prog.cellsOf 25=5:=by kernel_rfl
theorem zbC:Tryz.prog.cellsOf 3=1:=by kernel_rfl
theorem zjN:Tryz.prog.cellsOf 5=1:=by kernel_rfl
theorem zpM:Tryz.prog.cellsOf 4=1:=by kernel_rfl
theorem zuH:Tryz.prog.cellsOf 22=1:=by kernel_rfl
theorem zuJ:Tryz.prog.cellsOf 23=1:=by kernel_rfl
section
variable {H:Type} {enc:TypeId×Value→H} {W:World} {base:Nat} {v:Value} {d:DataW H} {p:List MemPlace}
theorem zeC {α:Type} [Inhabited α] {sz:Nat} {t e:TypeId} (ht:Tryz.prog.underlying t=some (.slice e)) (hc:Tryz.prog.cellsOf e=sz) (hs:0<sz) (E:World→(Nat→Option Value)→α→Prop) (f:α→Nat)
  (elt:∀ (n:Nat) (cs:List Value) (x:DataW H×List MemPlace),cs.length=sz→DataW.trod enc Tryz.prog W 0 (fun _=>true) true n e cs=some x→∃ a,E W (fun i=>if i<sz then cs[i]? else none) a∧f a≤Rows.uptoBulk x.1)
  {n:Nat} {c:Value} {x:DataW H×List MemPlace} (hf:DataW.trod enc Tryz.prog W 0 (fun _=>true) true n t [c]=some x) :
  ∃ (l:List α) (xs:List Value),SlR W sz c l.length xs∧RowOf sz E W xs l∧l.length≤Rows.uptoBulk x.1∧∀ a∈l,f a≤Rows.uptoBulk x.1:=by
 rcases open_slice ht hf with ⟨hcs,_⟩ | ⟨a,len',cap',m,n,D,Pl,hcs,hb,hl,hm,hmm,hx,hi⟩
 ·cases hcs;exact ⟨[],[],SlR.nil _ sz,RowOf.nil,Nat.zero_le _,fun a h=>by cases h⟩
 ·cases hcs
  have hmc:m=cap':=by simpa using hmm
  have each:∀ i,i<len'→∃ y:α×List Value,y.2.length=sz∧(∀ j,j<sz→W.cell? (a.add (i*sz+j))=y.2[j]?)∧E W (fun i=>if i<sz then y.2[i]? else none) y.1∧f y.1≤Rows.uptoBulk (D i):=by
   intro i hil;obtain ⟨cs,h1,h2⟩:=hi i (by omega);rw[hc] at h1;obtain ⟨_,hcl,hcell⟩:=World.cells?_some h1;obtain ⟨y,h3,h4⟩:=elt _ cs _ hcl h2
   refine ⟨(y,cs),hcl,fun j hj=>?_,h3,h4⟩
   have q0:=hcell j hj;rw[Go.Deep.add_add] at q0
   exact q0
  obtain ⟨G,hG⟩:=choose_lt (α:=α×List Value) (p:=fun i y=>y.2.length=sz∧(∀ j,j<sz→W.cell? (a.add (i*sz+j))=y.2[j]?)∧E W (fun i=>if i<sz then y.2[i]? else none) y.1∧f y.1≤Rows.uptoBulk (D i)) each
  have hd:x.1=.slice ((List.range len').map D) ((List.range (m-len')).map fun j=>D (len'+j)):=congrArg (·.1) hx
  have hbulk:Rows.uptoBulkAll ((List.range len').map D)≤Rows.uptoBulk x.1:=by rw[hd,zhc];omega
  have hget:∀ k i,k<len'→i<sz→((List.range (len'*sz)).map fun j=>((G (j / sz)).2[j % sz]?).getD (.bool false))[k*sz+i]?=(G k).2[i]?:=by
   intro k i hk hi'
   have h1:k*sz+i<len'*sz:=by
    have:(k+1)*sz≤len'*sz:=Nat.mul_le_mul_right _ hk
    rw[Nat.add_mul,Nat.one_mul] at this;omega
   have h2:(k*sz+i) / sz=k:=by rw[Nat.mul_comm,Nat.mul_add_div hs,Nat.div_eq_of_lt hi',Nat.add_zero]
   have h3:(k*sz+i) % sz=i:=by rw[Nat.mul_comm,Nat.mul_add_mod,Nat.mod_eq_of_lt hi']
   rw[List.getElem?_map,List.getElem?_range h1,Option.map_some,h2,h3,List.getElem?_eq_getElem (by rw[(hG k hk).1];exact hi')]
   rfl
  refine ⟨(List.range len').map fun i=>(G i).1,(List.range (len'*sz)).map fun j=>((G (j / sz)).2[j % sz]?).getD (.bool false),?_,⟨by simp,fun k hk=>?_⟩,?_,fun y hy=>?_⟩
  ·rw[List.length_map,List.length_range]
   refine zga (by simp) hl hm hs (fun j u hu=>?_)
   have hj:=(List.getElem?_eq_some_iff.1 hu).1;rw[List.length_map,List.length_range] at hj
   have hjd:j / sz<len':=Nat.div_lt_of_lt_mul (by rw[Nat.mul_comm];exact hj)
   have hjm:j % sz<sz:=Nat.mod_lt _ hs
   have h1:=(hG (j / sz) hjd).2.1 (j % sz) hjm;have h2:=hget (j / sz) (j % sz) hjd hjm
   rw[show j / sz*sz+j % sz=j from by rw[Nat.mul_comm];exact Nat.div_add_mod j sz] at h1 h2
   rw[h1,←h2,hu]
  ·rw[List.length_map,List.length_range] at hk
   have h1:=(hG k hk).2.2.1;simp only[List.getElem_map,List.getElem_range]
   have h2:(fun i=>if i<sz then ((List.range (len'*sz)).map fun j=>((G (j / sz)).2[j % sz]?).getD (.bool false))[k*sz+i]? else none)=fun i=>if i<sz then (G k).2[i]? else none:=by
    funext i
    by_cases hi':i<sz
    ·rw[if_pos hi',if_pos hi',hget k i hk hi']
    ·rw[if_neg hi',if_neg hi']
   rw[h2]
   exact h1
  ·rw[List.length_map,List.length_range]
   have:=zjM ((List.range len').map D)
   rw[List.length_map,List.length_range] at this;omega
  ·obtain ⟨i,hi',rfl⟩:=List.mem_map.1 hy
   rw[List.mem_range] at hi';have h3:=(hG i hi').2.2.2;have h4:=zdd (d:=D i) (l:=(List.range len').map D) (List.mem_map.2 ⟨i,List.mem_range.2 hi',rfl⟩);omega
theorem zuR (n:Nat) (cs:List Value) (x:DataW H×List MemPlace) (hl:cs.length=2) (hf:DataW.trod enc Tryz.prog W 0 (fun _=>true) true n 51 cs=some x):∃ a:Fil,zia W (fun i=>if i<2 then cs[i]? else none) a∧a.2.length≤Rows.uptoBulk x.1:=by
 match cs,hl with
 | [c0,c1],_ =>
  obtain ⟨xs,n',_,hxx,_,hxl,hg⟩:=DataW.trod_struct Tryz.underlying51 hf;have g0:=hg 0 _ rfl;have g1:=hg 1 _ rfl
  have hxl':xs.length=2:=hxl
  match xs,hxl' with
  | [x0,x1],_ =>
   obtain ⟨n0,e0,_,_⟩:=DataW.trod_string Tryz.underlying9 g0
   have k0:c0=.string n0:=by have h:List.take (Tryz.prog.cellsOf 9) [c0,c1]=[Value.string n0]:=e0;rw[zhg] at h;simpa using h
   have k1:DataW.trod enc Tryz.prog W 0 (fun _=>true) true n' 38 [c1]=some x1:=by have h:DataW.trod enc Tryz.prog W 0 (fun _=>true) true n' 38 (List.take (Tryz.prog.cellsOf 38) [c1])=some x1:=g1;rw[zle] at h;exact h
   subst k0;obtain ⟨bs,hbs,hbl⟩:=ze9 k1
   have hD:x.1=.agg [x0.1,x1.1]:=by have:=congrArg (·.1) hxx;simpa using this
   refine ⟨(n0.data.toList,bs),⟨by rw[←zkY];rfl,c1,rfl,hbs⟩,?_⟩
   rw[hD];simp only[Rows.uptoBulk,Rows.uptoBulkAll]
   show bs.length≤_
   omega
theorem zvV (n:Nat) (cs:List Value) (x:DataW H×List MemPlace) (hl:cs.length=4) (hf:DataW.trod enc Tryz.prog W 0 (fun _=>true) true n 86 cs=some x):∃ a:Oq,OqE W (fun i=>if i<4 then cs[i]? else none) a∧a.b.length≤Rows.uptoBulk x.1:=by
 match cs,hl with
 | [c0,c1,c2,c3],_ =>
  obtain ⟨xs,n',_,hxx,_,hxl,hg⟩:=DataW.trod_struct Tryz.underlying86 hf;have g0:=hg 0 _ rfl;have g1:=hg 1 _ rfl;have g2:=hg 2 _ rfl;have g3:=hg 3 _ rfl
  have hxl':xs.length=4:=hxl
  match xs,hxl' with
  | [x0,x1,x2,x3],_ =>
   obtain ⟨n0,e0,_,wf0⟩:=DataW.trod_int Tryz.underlying5 g0
   have k0:c0=.int .u8 n0:=by have h:List.take (Tryz.prog.cellsOf 5) [c0,c1,c2,c3]=[Value.int .u8 n0]:=e0;rw[zjN] at h;simpa using h
   obtain ⟨n1,e1,_,_⟩:=DataW.trod_string Tryz.underlying9 g1
   have k1:c1=.string n1:=by have h:List.take (Tryz.prog.cellsOf 9) [c1,c2,c3]=[Value.string n1]:=e1;rw[zhg] at h;simpa using h
   obtain ⟨n2,e2,_,_⟩:=DataW.trod_string Tryz.underlying9 g2
   have k2:c2=.string n2:=by have h:List.take (Tryz.prog.cellsOf 9) [c2,c3]=[Value.string n2]:=e2;rw[zhg] at h;simpa using h
   have k3:DataW.trod enc Tryz.prog W 0 (fun _=>true) true n' 38 [c3]=some x3:=by have h:DataW.trod enc Tryz.prog W 0 (fun _=>true) true n' 38 (List.take (Tryz.prog.cellsOf 38) [c3])=some x3:=g3;rw[zle] at h;exact h
   subst k0 k1 k2;obtain ⟨bs,hbs,hbl⟩:=ze9 k3
   have hD:x.1=.agg [x0.1,x1.1,x2.1,x3.1]:=by have:=congrArg (·.1) hxx;simpa using this
   refine ⟨⟨n0,n1.data.toList,n2.data.toList,bs⟩,⟨rfl,by rw[←zkY];rfl,by rw[←zkY];rfl,c3,rfl,hbs⟩,?_⟩
   rw[hD];simp only[Rows.uptoBulk,Rows.uptoBulkAll]
   show bs.length≤_
   omega
theorem zok {n:Nat} {c:Value} {x:DataW H×List MemPlace} (hf:DataW.trod enc Tryz.prog W 0 (fun _=>true) true n 22 [c]=some x):∃ fs,Fs W c fs∧fs.length≤Rows.uptoBulk x.1:=by
 obtain ⟨l,xs,h1,h2,h3,_⟩:=zeC Tryz.underlying22 zmO (by decide) zia (fun a=>a.2.length) zuR hf
 exact ⟨l,fs_row.2 ⟨xs,h1,h2⟩,h3⟩
theorem zoG {n:Nat} {c:Value} {x:DataW H×List MemPlace} (hf:DataW.trod enc Tryz.prog W 0 (fun _=>true) true n 23 [c]=some x):∃ q,Qs W c q∧q.length≤Rows.uptoBulk x.1:=by
 obtain ⟨l,xs,h1,h2,h3,_⟩:=zeC Tryz.underlying23 zuI (by decide) OqE (fun a=>a.b.length) zvV hf
 exact ⟨l,⟨xs,h1,h2⟩,h3⟩
theorem zkA (hv:Value.okWide Tryz.prog W .any base 25 v) (h:DataW.Trod enc Tryz.prog W 0 (fun _=>true) true 25 v d p):∃ D:Dk,DkV W v D∧D.fs.length≤Rows.uptoBulk d∧D.q.length≤Rows.uptoBulk d∧D.fuse≤9223372036854775807:=by
 obtain ⟨cs,rfl,hsz⟩:=okWide_struct Tryz.underlying25 hv;rw[zuG] at hsz;obtain ⟨l⟩:=cs;obtain ⟨fuel,hf⟩:=h
 match l,hsz with
 | [c0,c1,c2,c3,c4],_ =>
  obtain ⟨xs,n',_,hxx,_,hxl,hg⟩:=DataW.trod_struct Tryz.underlying25 hf;have g0:=hg 0 _ rfl;have g1:=hg 1 _ rfl;have g2:=hg 2 _ rfl;have g3:=hg 3 _ rfl;have g4:=hg 4 _ rfl
  have hxl':xs.length=5:=hxl
  match xs,hxl' with
  | [x0,x1,x2,x3,x4],_ =>
   have k0:DataW.trod enc Tryz.prog W 0 (fun _=>true) true n' 22 [c0]=some x0:=by have h:DataW.trod enc Tryz.prog W 0 (fun _=>true) true n' 22 (List.take (Tryz.prog.cellsOf 22) [c0,c1,c2,c3,c4])=some x0:=g0;rw[zuH] at h;exact h
   have k1:DataW.trod enc Tryz.prog W 0 (fun _=>true) true n' 23 [c1]=some x1:=by have h:DataW.trod enc Tryz.prog W 0 (fun _=>true) true n' 23 (List.take (Tryz.prog.cellsOf 23) [c1,c2,c3,c4])=some x1:=g1;rw[zuJ] at h;exact h
   obtain ⟨n2,e2,_,wf2⟩:=DataW.trod_int Tryz.underlying3 g2
   have k2:c2=.int .i64 n2:=by have h:List.take (Tryz.prog.cellsOf 3) [c2,c3,c4]=[Value.int .i64 n2]:=e2;rw[zbC] at h;simpa using h
   obtain ⟨n3,e3,_,wf3⟩:=DataW.trod_int Tryz.underlying3 g3
   have k3:c3=.int .i64 n3:=by have h:List.take (Tryz.prog.cellsOf 3) [c3,c4]=[Value.int .i64 n3]:=e3;rw[zbC] at h;simpa using h
   obtain ⟨n4,e4,_⟩:=DataW.trod_bool Tryz.underlying4 g4
   have k4:c4=.bool n4:=by have h:List.take (Tryz.prog.cellsOf 4) [c4]=[Value.bool n4]:=e4;rw[zpM] at h;simpa using h
   subst k2 k3 k4;obtain ⟨fs,h1,h2⟩:=zok k0;obtain ⟨q,h3,h4⟩:=zoG k1
   have hD:d=.agg [x0.1,x1.1,x2.1,x3.1,x4.1]:=by have:=congrArg (·.1) hxx;simpa using this
   refine ⟨⟨fs,q,n2,n3,n4⟩,⟨c0,c1,rfl,h1,h3⟩,?_,?_,?_⟩
   ·rw[hD];simp only[Rows.uptoBulk,Rows.uptoBulkAll];show fs.length≤_;omega
   ·rw[hD];simp only[Rows.uptoBulk,Rows.uptoBulkAll];show q.length≤_;omega
   ·have:-9223372036854775808≤n3∧n3≤9223372036854775807:=by simpa [Lit.wf,IntKind.min,IntKind.max,IntKind.signed,IntKind.bits] using wf3
    exact this.2
end
end Go.Proofs.YtgonhdeochgkoaaGreatDoor
