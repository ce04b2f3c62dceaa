/- Merged -/
import Derived.Test.YteggfecbjgbndaaGreatDoorZw41
import Derived.Test.YteggfecbjgbndaaGreatDoorZw47
import Derived.Lib.LaidTab
import Derived.LaidMore
import Derived.LaidSub
import Derived.Stop.Joined
import Derived.Deep.DeepHandedRow
set_option linter.all false
set_option maxHeartbeats 8000000
set_option maxRecDepth 100000
open Go.DataW renaming trod_int→P0,trod→P1,trod_struct→P2
open List renaming take→P3,range→P4,length_range→P5,getElem?_eq_none→P6,length_map→P7,getElem?_map→P8,ext_getElem?→P9,mem_range→Pa,mem_map→Pb
open Go.Value renaming int→Pc
open Nat renaming mul_comm→Pd,zero_le→Pe
namespace Go.Proofs.YteggfecbjgbndaaGreatDoor
open Go.ChangeShapes Go.WideShapes Go.ChangeAt Go.RowKit Go.Deep Go.Mv Go.WideElems
theorem zss {H:Type} (d:DataW H):1≤Rows.uptoBulk d:=by
 cases d with
 | lit l=>cases l <;> simp[Rows.uptoBulk]
 | _=>simp[Rows.uptoBulk]
theorem zqH {H:Type} {d:DataW H} {l:List (DataW H)} (h:d∈l):Rows.uptoBulk d≤Rows.uptoBulkAll l:=by
 induction l with
 | nil=>cases h
 | cons x r ih =>
  simp only[Rows.uptoBulkAll]
  rcases List.mem_cons.1 h with rfl | h
  ·omega
  ·have:=ih h;omega
theorem zsr {H:Type} (l:List (DataW H)):l.length≤Rows.uptoBulkAll l:=by
 induction l with
 | nil=>simp[Rows.uptoBulkAll]
 | cons x r ih=>have:=zss x;simp only[Rows.uptoBulkAll,xC];omega
theorem zo4 {H:Type} (l r:List (DataW H)):Rows.uptoBulk (.slice l r)=Rows.uptoBulkAll l+Rows.uptoBulkAll r+1:=by simp only[Rows.uptoBulk]
section
variable {H:Type} {enc:TypeId×Value→H} {W:World} {base:Nat} {v:Value} {d:DataW H} {p:List MemPlace}
end
open Go.ChangeShapes Go.WideShapes Go.ChangeAt Go.RowKit Go.Deep Go.Mv Go.WideElems
theorem zsw:Tryz.prog.cellsOf 36=4:=by kernel_rfl
theorem zsv:Tryz.prog.cellsOf 27=2:=by kernel_rfl
theorem zsu:Tryz.prog.cellsOf 30=6:=by kernel_rfl
theorem zcF:Tryz.prog.cellsOf 3=1:=by kernel_rfl
theorem zsx:Tryz.prog.cellsOf 28=1:=by kernel_rfl
section
variable {H:Type} {enc:TypeId×Value→H} {W:World} {base:Nat} {v:Value} {d:DataW H} {p:List MemPlace}
theorem zmJ {α:Type} [Inhabited α] {sz:Nat} {t e:TypeId} (ht:Tryz.prog.underlying t=some (.slice e)) (hc:Tryz.prog.cellsOf e=sz) (hs:0<sz) (E:World→(Nat→Option Value)→α→Prop) (f:α→Nat)
  (elt:∀ (n:Nat) (cs:List Value) (x:DataW H×List MemPlace),cs.length=sz→P1 enc Tryz.prog W 0 (fun _=>true) true n e cs=some x→∃ a,E W (fun i=>if i<sz then cs[i]? else none) a∧f a≤Rows.uptoBulk x.1)
  {n:Nat} {c:Value} {x:DataW H×List MemPlace} (hf:P1 enc Tryz.prog W 0 (fun _=>true) true n t [c]=some x) :
  ∃ (l:List α) (xs:List Value),SlR W sz c l.length xs∧RowOf sz E W xs l∧l.length≤Rows.uptoBulk x.1∧∀ a∈l,f a≤Rows.uptoBulk x.1:=by
 rcases open_slice ht hf with ⟨H2,_⟩ | ⟨a,len',cap',m,n,D,Pl,H2,hb,hl,hm,hmm,hx,hi⟩
 ·cases H2;exact ⟨[],[],SlR.nil _ sz,RowOf.nil,Pe _,fun a h=>by cases h⟩
 ·cases H2
  have Hq:m=cap':=by simpa using hmm
  have H7:∀ i,i<len'→∃ y:α×List Value,y.2.length=sz∧(∀ j,j<sz→W.cell? (a.add (i*sz+j))=y.2[j]?)∧E W (fun i=>if i<sz then y.2[i]? else none) y.1∧f y.1≤Rows.uptoBulk (D i):=by
   intro i Hp;obtain ⟨cs,h1,h2⟩:=hi i (by omega);rw[hc] at h1;obtain ⟨_,Hb,H4⟩:=World.cells?_some h1;obtain ⟨y,h3,h4⟩:=elt _ cs _ Hb h2
   refine ⟨(y,cs),Hb,fun j hj=>?_,h3,h4⟩
   have q0:=H4 j hj;rw[Go.Deep.add_add] at q0
   exact q0
  obtain ⟨G,hG⟩:=choose_lt (α:=α×List Value) (p:=fun i y=>y.2.length=sz∧(∀ j,j<sz→W.cell? (a.add (i*sz+j))=y.2[j]?)∧E W (fun i=>if i<sz then y.2[i]? else none) y.1∧f y.1≤Rows.uptoBulk (D i)) H7
  have hd:x.1=.slice ((P4 len').map D) ((P4 (m-len')).map fun j=>D (len'+j)):=congrArg (·.1) hx
  have Ha:Rows.uptoBulkAll ((P4 len').map D)≤Rows.uptoBulk x.1:=by rw[hd,zo4];omega
  have H5:∀ k i,k<len'→i<sz→((P4 (len'*sz)).map fun j=>((G (j / sz)).2[j % sz]?).getD (.bool false))[k*sz+i]?=(G k).2[i]?:=by
   intro k i hk H0
   have h1:k*sz+i<len'*sz:=by
    have:(k+1)*sz≤len'*sz:=Nat.mul_le_mul_right _ hk
    rw[Nat.add_mul,Nat.one_mul] at this;omega
   have h2:(k*sz+i) / sz=k:=by rw[Pd,Nat.mul_add_div hs,Nat.div_eq_of_lt H0,Nat.add_zero]
   have h3:(k*sz+i) % sz=i:=by rw[Pd,Nat.mul_add_mod,Nat.mod_eq_of_lt H0]
   rw[P8,List.getElem?_range h1,Option.map_some,h2,h3,List.getElem?_eq_getElem (by rw[(hG k hk).1];exact H0)]
   rfl
  refine ⟨(P4 len').map fun i=>(G i).1,(P4 (len'*sz)).map fun j=>((G (j / sz)).2[j % sz]?).getD (.bool false),?_,⟨by simp,fun k hk=>?_⟩,?_,fun y hy=>?_⟩
  ·rw[P7,P5]
   refine zmO (by simp) hl hm hs (fun j u hu=>?_)
   have hj:=(List.getElem?_eq_some_iff.1 hu).1;rw[P7,P5] at hj
   have Hc:j / sz<len':=Nat.div_lt_of_lt_mul (by rw[Pd];exact hj)
   have Hd:j % sz<sz:=Nat.mod_lt _ hs
   have h1:=(hG (j / sz) Hc).2.1 (j % sz) Hd;have h2:=H5 (j / sz) (j % sz) Hc Hd
   rw[show j / sz*sz+j % sz=j from by rw[Pd];exact Nat.div_add_mod j sz] at h1 h2
   rw[h1,←h2,hu]
  ·rw[P7,P5] at hk
   have h1:=(hG k hk).2.2.1;simp only[List.getElem_map,List.getElem_range]
   have h2:(fun i=>if i<sz then ((P4 (len'*sz)).map fun j=>((G (j / sz)).2[j % sz]?).getD (.bool false))[k*sz+i]? else none)=fun i=>if i<sz then (G k).2[i]? else none:=by
    funext i
    by_cases H0:i<sz
    ·rw[if_pos H0,if_pos H0,H5 k i hk H0]
    ·rw[if_neg H0,if_neg H0]
   rw[h2]
   exact h1
  ·rw[P7,P5]
   have:=zsr ((P4 len').map D)
   rw[P7,P5] at this;omega
  ·obtain ⟨i,H0,rfl⟩:=Pb.1 hy
   rw[Pa] at H0;have h3:=(hG i H0).2.2.2;have h4:=zqH (d:=D i) (l:=(P4 len').map D) (Pb.2 ⟨i,Pa.2 H0,rfl⟩);omega
def SgE (_:World) (c:Nat→Option Value) (x:Sg4):Prop:=c 0=some (.int .i64 x.seq)∧c 1=some (.int .i64 x.fmt)∧c 2=some (.int .i64 x.first)∧c 3=some (.int .i64 x.count)
instance:Inhabited Sg4:=⟨⟨0,0,0,0⟩⟩
instance:Inhabited Oq:=⟨⟨0,[],[],[]⟩⟩
theorem zuO (n:Nat) (cs:List Value) (x:DataW H×List MemPlace) (hl:cs.length=4) (hf:P1 enc Tryz.prog W 0 (fun _=>true) true n 36 cs=some x):∃ a:Sg4,SgE W (fun i=>if i<4 then cs[i]? else none) a∧0≤Rows.uptoBulk x.1:=by
 match cs,hl with
 | [c0,c1,c2,c3],_ =>
  obtain ⟨xs,n',_,H9,_,H3,hg⟩:=P2 Tryz.underlying36 hf;have g0:=hg 0 _ rfl;have g1:=hg 1 _ rfl;have g2:=hg 2 _ rfl;have g3:=hg 3 _ rfl
  have H1:xs.length=4:=H3
  match xs,H1 with
  | [x0,x1,x2,x3],_ =>
   obtain ⟨n0,e0,_,Hg⟩:=P0 Tryz.underlying3 g0
   have k0:c0=.int .i64 n0:=by have h:P3 (Tryz.prog.cellsOf 3) [c0,c1,c2,c3]=[Pc .i64 n0]:=e0;rw[zcF] at h;simpa using h
   obtain ⟨n1,e1,_,Hh⟩:=P0 Tryz.underlying3 g1
   have k1:c1=.int .i64 n1:=by have h:P3 (Tryz.prog.cellsOf 3) [c1,c2,c3]=[Pc .i64 n1]:=e1;rw[zcF] at h;simpa using h
   obtain ⟨n2,e2,_,Ho⟩:=P0 Tryz.underlying3 g2
   have k2:c2=.int .i64 n2:=by have h:P3 (Tryz.prog.cellsOf 3) [c2,c3]=[Pc .i64 n2]:=e2;rw[zcF] at h;simpa using h
   obtain ⟨n3,e3,_,Hs⟩:=P0 Tryz.underlying3 g3
   have k3:c3=.int .i64 n3:=by have h:P3 (Tryz.prog.cellsOf 3) [c3]=[Pc .i64 n3]:=e3;rw[zcF] at h;simpa using h
   subst k0 k1 k2 k3
   exact ⟨⟨n0,n1,n2,n3⟩,⟨rfl,rfl,rfl,rfl⟩,Pe _⟩
theorem zmN {n:Nat} {c:Value} {x:DataW H×List MemPlace} (hf:P1 enc Tryz.prog W 0 (fun _=>true) true n 28 [c]=some x):∃ l,Sgs W c l∧l.length≤Rows.uptoBulk x.1:=by
 obtain ⟨l,xs,h1,h2,h3,_⟩:=zmJ Tryz.underlying28 zsw (by decide) SgE (fun _=>0) zuO hf
 have he:xs=za1 l:=by
  have Hl:=ziT l
  refine P9 fun j=>?_
  by_cases hj:j<l.length*4
  ·have g:=zef l (j / 4) (by omega)
   obtain ⟨f0,f1,f2,f3⟩:=h2.2 (j / 4) (by omega)
   have f0:xs[j / 4*4+0]?=_:=f0
   have f1:xs[j / 4*4+1]?=_:=f1
   have f2:xs[j / 4*4+2]?=_:=f2
   have f3:xs[j / 4*4+3]?=_:=f3
   have hc:j=j / 4*4+0∨j=j / 4*4+1∨j=j / 4*4+2∨j=j / 4*4+3:=by omega
   rcases hc with h | h | h | h
   ·rw[h,f0];exact (g 0 (by decide)).symm
   ·rw[h,f1];exact (g 1 (by decide)).symm
   ·rw[h,f2];exact (g 2 (by decide)).symm
   ·rw[h,f3];exact (g 3 (by decide)).symm
  ·rw[P6 (by rw[h2.1];omega),P6 (by rw[Hl];omega)]
 refine ⟨l,?_,h3⟩
 unfold Sgs;rw[←he]
 exact h1
theorem zmH {n:Nat} {c0 c1:Value} {x:DataW H×List MemPlace} (hf:P1 enc Tryz.prog W 0 (fun _=>true) true n 27 [c0,c1]=some x):∃ s f:Int,c0=.int .i64 s∧c1=.int .i64 f:=by
 obtain ⟨xs,n',_,H9,_,H3,hg⟩:=P2 Tryz.underlying27 hf;have g0:=hg 0 _ rfl;have g1:=hg 1 _ rfl
 have H1:xs.length=2:=H3
 match xs,H1 with
 | [x0,x1],_ =>
  obtain ⟨n0,e0,_,Hg⟩:=P0 Tryz.underlying3 g0
  have k0:c0=.int .i64 n0:=by have h:P3 (Tryz.prog.cellsOf 3) [c0,c1]=[Pc .i64 n0]:=e0;rw[zcF] at h;simpa using h
  obtain ⟨n1,e1,_,Hh⟩:=P0 Tryz.underlying3 g1
  have k1:c1=.int .i64 n1:=by have h:P3 (Tryz.prog.cellsOf 3) [c1]=[Pc .i64 n1]:=e1;rw[zcF] at h;simpa using h
  exact ⟨n0,n1,k0,k1⟩
theorem znE (hv:Value.okWide Tryz.prog W .any base 30 v) (h:DataW.Trod enc Tryz.prog W 0 (fun _=>true) true 30 v d p):∃ (m:Mf) (u:Value),v=.agg #[.int .i64 m.next,.int .i64 m.term,.int .i64 m.vote,.int .i64 m.sq,.int .i64 m.sf,u]∧Sgs W u m.segs∧m.segs.length≤Rows.uptoBulk d:=by
 obtain ⟨cs,rfl,He⟩:=okWide_struct Tryz.underlying30 hv;rw[zsu] at He;obtain ⟨l⟩:=cs;obtain ⟨fuel,hf⟩:=h
 match l,He with
 | [c0,c1,c2,c3,c4,c5],_ =>
  obtain ⟨xs,n',_,H9,_,H3,hg⟩:=P2 Tryz.underlying30 hf;have g0:=hg 0 _ rfl;have g1:=hg 1 _ rfl;have g2:=hg 2 _ rfl;have g3:=hg 3 _ rfl;have g4:=hg 4 _ rfl
  have H1:xs.length=5:=H3
  match xs,H1 with
  | [x0,x1,x2,x3,x4],_ =>
   obtain ⟨n0,e0,_,Hg⟩:=P0 Tryz.underlying3 g0
   have k0:c0=.int .i64 n0:=by have h:P3 (Tryz.prog.cellsOf 3) [c0,c1,c2,c3,c4,c5]=[Pc .i64 n0]:=e0;rw[zcF] at h;simpa using h
   obtain ⟨n1,e1,_,Hh⟩:=P0 Tryz.underlying3 g1
   have k1:c1=.int .i64 n1:=by have h:P3 (Tryz.prog.cellsOf 3) [c1,c2,c3,c4,c5]=[Pc .i64 n1]:=e1;rw[zcF] at h;simpa using h
   obtain ⟨n2,e2,_,Ho⟩:=P0 Tryz.underlying3 g2
   have k2:c2=.int .i64 n2:=by have h:P3 (Tryz.prog.cellsOf 3) [c2,c3,c4,c5]=[Pc .i64 n2]:=e2;rw[zcF] at h;simpa using h
   have k3:P1 enc Tryz.prog W 0 (fun _=>true) true n' 27 [c3,c4]=some x3:=by have h:P1 enc Tryz.prog W 0 (fun _=>true) true n' 27 (P3 (Tryz.prog.cellsOf 27) [c3,c4,c5])=some x3:=g3;rw[zsv] at h;exact h
   have k4:P1 enc Tryz.prog W 0 (fun _=>true) true n' 28 [c5]=some x4:=by have h:P1 enc Tryz.prog W 0 (fun _=>true) true n' 28 (P3 (Tryz.prog.cellsOf 28) [c5])=some x4:=g4;rw[zsx] at h;exact h
   subst k0 k1 k2;obtain ⟨sq,sf,rfl,rfl⟩:=zmH k3;obtain ⟨sg,h1,h2⟩:=zmN k4
   have hD:d=.agg [x0.1,x1.1,x2.1,x3.1,x4.1]:=by have:=congrArg (·.1) H9;simpa using this
   refine ⟨⟨n0,n1,n2,sq,sf,sg⟩,c5,rfl,h1,?_⟩
   rw[hD];simp only[Rows.uptoBulk,Rows.uptoBulkAll];show sg.length≤_;omega
end
open Go.ChangeShapes Go.WideShapes Go.ChangeAt Go.RowKit Go.Deep Go.Mv Go.WideElems
theorem zkb {H:Type} {enc:TypeId×Value→H} {P:Program} {w:World} {base:Nat} {sp:Nat→Bool} {H8:Bool} {fuel:Nat} {t e:TypeId} {n:Nat} {cs:List Value} {zs:List Bool} {p:List MemPlace}
  (ht:P.underlying t=some (.array n e)) (he:P.underlying e=some .bool) (Hi:P.cellsOf e=1) (Hj:P.cellsOf t=n)
  (h:P1 enc P w base sp H8 fuel t cs=some (.agg (zs.map fun z=>.lit (.bool z)),p)):cs=zs.map fun z=>Value.bool z:=by
 cases fuel with
 | zero=>simp[P1] at h
 | succ fuel =>
  simp only[P1,ht,Hi,Hj,Nat.mul_one] at h
  split at h
  ·rename_i hl
   obtain ⟨xs,hm,hx⟩:=Option.map_eq_some_iff.1 h
   have Hf:xs.map (·.1)=zs.map fun z=>(DataW.lit (.bool z):DataW H):=by
    have:=congrArg Prod.fst hx
    simpa using this
   have H3:xs.length=n:=by simpa using Lib.mapM_length hm
   have Hr:zs.length=n:=by
    have:=congrArg List.length Hf
    simp at this
    omega
   apply P9
   intro i
   by_cases hi:i<n
   ·obtain ⟨b,hb,hf⟩:=Lib.mapM_at hm i i (by simp[hi])
    obtain ⟨z,hc,hd⟩:=DataW.trod_bool he hf
    have h1:cs[i]?=some (.bool z):=by
     have:=congrArg (·[0]?) hc
     simpa [List.getElem?_take,List.getElem?_drop] using this
    have h2:(xs.map (·.1))[i]?=some (DataW.lit (.bool z):DataW H):=by simp[hb,hd]
    rw[Hf] at h2;simp only[P8,Option.map_eq_some_iff,DataW.lit.injEq,Lit.bool.injEq] at h2;obtain ⟨z',Hn,rfl⟩:=h2
    simp[h1,Hn]
   ·rw[P6 (by omega),P6 (by simp;omega)]
  ·cases h
theorem ztw:Tryz.prog.globalNamed "moult/crc.rows"=some 1:=by kernel_rfl
theorem zu5:(Tryz.prog.globals[1]?).map (·.type)=some 314:=by kernel_rfl
theorem zvb:Tryz.prog.cellsOf 190=1:=by kernel_rfl
theorem zuT:Tryz.prog.cellsOf 314=16:=by kernel_rfl
theorem zvh:Tryz.prog.globalNamed "internal/strconv.uint64pow10"=some 2:=by kernel_rfl
theorem zvl:(Tryz.prog.globals[2]?).map (·.type)=some 330:=by kernel_rfl
theorem zvc:Tryz.prog.cellsOf 303=1:=by kernel_rfl
theorem zva:Tryz.prog.cellsOf 330=20:=by kernel_rfl
theorem gKn:Tryz.prog.globalNamed "moult/cut.known"=some 0:=by kernel_rfl
theorem tKn:(Tryz.prog.globals[0]?).map (·.type)=some 229:=by kernel_rfl
theorem cBl:Tryz.prog.cellsOf 4=1:=by kernel_rfl
theorem cKn:Tryz.prog.cellsOf 229=3:=by kernel_rfl
theorem zmR {W:World} (h:laidMetH Tryz.prog Rows.cutTrimsRow.laid W):StW W∧KnW W:=by
 rw[MakeChecks.laidMetH_plain _ _ _ (by kernel_rfl)] at h
 have h1:laidMet Tryz.prog [("moult/crc.rows",Lib.tabData .u32 (crcTab.map Int.ofNat))] W:=h.filter fun x=>x.1 == "moult/crc.rows"
 have h2:laidMet Tryz.prog [("internal/strconv.uint64pow10",Lib.tabData .u64 Lib.pow10Tab)] W:=h.filter fun x=>x.1 == "internal/strconv.uint64pow10"
 have h3:laidMet Tryz.prog [("moult/cut.known",.agg ([false,true,true].map fun z=>.lit (.bool z)))] W:=h.filter fun x=>x.1 == "moult/cut.known"
 have ht:Lib.TabIs Tryz.prog W "moult/crc.rows" .u32 (crcTab.map Int.ofNat):=Lib.tabIs_of_head (rest:=[]) ztw zu5 Tryz.underlying314 Tryz.underlying190 zvb zuT h1
 refine ⟨⟨?_,Lib.tabIs_of_head (rest:=[]) zvh zvl Tryz.underlying330 Tryz.underlying303 zvc zva h2⟩,?_⟩
 ·intro i hi
  have:=ht.cell ztw i (by simpa [crcTab] using hi)
  rw[this]
  congr 2
  show (crcTab.map Int.ofNat).getD i 0=((crcTab.getD i 0:Nat):Int)
  simp[List.getD_eq_getElem?_getD,P8]
  cases crcTab[i]? <;> simp
 ·obtain ⟨ps,⟨g',t',cs,fuel,p,q,Hk,Hm,H6,hd,_,_⟩,_⟩:=h3
  obtain rfl:=Option.some.inj (gKn.symm.trans Hk)
  obtain rfl:=Option.some.inj (tKn.symm.trans Hm)
  have H2:=zkb Tryz.underlying229 Tryz.underlying4 cBl cKn hd;obtain ⟨l⟩:=cs
  have H2:l=_:=H2
  subst H2
  exact ⟨World.var?_cell gKn H6 1,World.var?_cell gKn H6 2⟩
end Go.Proofs.YteggfecbjgbndaaGreatDoor
