/- Merged -/
import Derived.Test.YtgonhdeochgkoaaGreatDoorZx31
import Derived.Test.YtgonhdeochgkoaaGreatDoorZx43
import Derived.Lib.LaidTab
import Derived.LaidMore
import Derived.LaidSub
import Derived.Stop.Joined
import Derived.Deep.DeepHandedRow
set_option linter.all false
set_option maxHeartbeats 8000000
set_option maxRecDepth 100000
open Go.DataW renaming trod→P0,trod_int→P1,trod_struct→P2,trod_string→P3,Trod→P4
open List renaming take→P5,length_map→P6,range→P7,length_range→P8,getElem?_eq_getElem→P9,getElem?_map→Pa,getElem?_eq_some_iff→Pb,getElem?_eq_none→Pc,length_take→Pd,mem_range→Pe,mem_map→Pf
open Go.Value renaming int→Pg,string→Ph,okWide→Pi
open Nat renaming mul_comm→Pj,zero_le→Pk
open Go.IntKind renaming signed→Pm,bits→Pn,min→Po,max→Pp
namespace Go.Proofs.YtgonhdeochgkoaaGreatDoor
open Go.ChangeShapes Go.WideShapes Go.ChangeAt Go.RowKit Go.Deep Go.Mv Go.WideElems
theorem zsy {H:Type} (d:DataW H):1≤Rows.uptoBulk d:=by
 cases d with
 | lit l=>cases l <;> simp[Rows.uptoBulk]
 | _=>simp[Rows.uptoBulk]
theorem zhY {H:Type} {d:DataW H} {l:List (DataW H)} (h:d∈l):Rows.uptoBulk d≤Rows.uptoBulkAll l:=by
 induction l with
 | nil=>cases h
 | cons x r ih =>
  simp only[Rows.uptoBulkAll]
  rcases List.mem_cons.1 h with rfl | h
  ·omega
  ·have:=ih h;omega
theorem zmf {H:Type} (l:List (DataW H)):l.length≤Rows.uptoBulkAll l:=by
 induction l with
 | nil=>simp[Rows.uptoBulkAll]
 | cons x r ih=>have:=zsy x;simp only[Rows.uptoBulkAll,xC];omega
theorem zj3 {H:Type} (l r:List (DataW H)):Rows.uptoBulk (.slice l r)=Rows.uptoBulkAll l+Rows.uptoBulkAll r+1:=by simp only[Rows.uptoBulk]
theorem zsz:Tryz.prog.cellsOf 51=2:=by kernel_rfl
theorem zjt:Tryz.prog.cellsOf 9=1:=by kernel_rfl
theorem zox:Tryz.prog.cellsOf 38=1:=by kernel_rfl
section
variable {H:Type} {enc:TypeId×Value→H} {W:World} {base:Nat} {v:Value} {d:DataW H} {p:List MemPlace}
theorem ziX {n:Nat} {c:Value} {x:DataW H×List MemPlace} (hf:P0 enc Tryz.prog W 0 (fun _=>true) true n 38 [c]=some x):∃ bs,Bs W c bs∧bs.length≤Rows.uptoBulk x.1:=by
 rcases open_ints Tryz.underlying38 Tryz.underlying5 ztX hf with ⟨hcs,_⟩ | ⟨a,len',cap',zs,hcs,hb,hl,hm,hz,hx,H2,hw⟩
 ·cases hcs;exact ⟨[],SlR.nil _ 1,Pk _⟩
 ·cases hcs
  have Hm:zs.length=cap':=by simpa using hz
  refine ⟨(zs.take len').map (fun n=>UInt8.ofNat n.toNat),?_,?_⟩
  ·unfold Bs
   rw[P6,Pd,Nat.min_eq_left (by omega)]
   refine zio (by simp;omega) hl hm (by decide) (fun j u hu=>?_)
   have hj:=(Pb.1 hu).1;simp only[P6,Pd,Nat.lt_min] at hj;rw[H2 j (by omega),←hu];have Hj:=hw (zs[j]'(by omega)) (List.getElem_mem _)
   have hr:0≤zs[j]'(by omega)∧zs[j]'(by omega)≤255:=by simpa [Lit.wf,Po,Pp,Pm,Pn] using Hj
   have h1:zs.getD j 0=zs[j]'(by omega):=by simp[List.getD,P9 (show j<zs.length by omega)]
   rw[h1]
   have h2:((List.map (fun n:Int=>UInt8.ofNat n.toNat) (zs.take len')).map bv)[j]?=some (bv (UInt8.ofNat (zs[j]'(by omega)).toNat)):=by
    simp[Pa,List.getElem?_take,hj.1,P9 (show j<zs.length by omega)]
   rw[h2]
   simp[bv]
   omega
  ·rw[hx,zj3,P6]
   have:=zmf (H:=H) (lits .u8 (zs.take len'))
   have e:(lits (H:=H) .u8 (zs.take len')).length=(zs.take len').length:=by simp[lits]
   omega
theorem znb {s:ByteArray}:Ph s=sv s.data.toList:=by
 unfold sv
 simp
end
open Go.ChangeShapes Go.WideShapes Go.ChangeAt Go.RowKit Go.Deep Go.Mv Go.WideElems
theorem ztE:Tryz.prog.globalNamed "moult/crc.rows"=some 1:=by kernel_rfl
theorem zvi:(Tryz.prog.globals[1]?).map (·.type)=some 267:=by kernel_rfl
theorem zvl:Tryz.prog.cellsOf 142=1:=by kernel_rfl
theorem zvd:Tryz.prog.cellsOf 267=16:=by kernel_rfl
theorem zvq:Tryz.prog.globalNamed "internal/strconv.uint64pow10"=some 0:=by kernel_rfl
theorem zvt:(Tryz.prog.globals[0]?).map (·.type)=some 264:=by kernel_rfl
theorem zvm:Tryz.prog.cellsOf 234=1:=by kernel_rfl
theorem zvk:Tryz.prog.cellsOf 264=20:=by kernel_rfl
theorem zom {W:World} (h:laidMetH Tryz.prog Rows.storeReadsUptoRow.laid W):StW W:=by
 rw[MakeChecks.laidMetH_plain _ _ _ (by kernel_rfl)] at h
 have h1:laidMet Tryz.prog [("moult/crc.rows",Lib.tabData .u32 (crcTab.map Int.ofNat))] W:=h.filter fun x=>x.1 == "moult/crc.rows"
 have h2:laidMet Tryz.prog [("internal/strconv.uint64pow10",Lib.tabData .u64 Lib.pow10Tab)] W:=h.filter fun x=>x.1 == "internal/strconv.uint64pow10"
 have ht:Lib.TabIs Tryz.prog W "moult/crc.rows" .u32 (crcTab.map Int.ofNat):=Lib.tabIs_of_head (rest:=[]) ztE zvi Tryz.underlying267 Tryz.underlying142 zvl zvd h1
 refine ⟨?_,Lib.tabIs_of_head (rest:=[]) zvq zvt Tryz.underlying264 Tryz.underlying234 zvm zvk h2⟩
 intro i hi
 have:=ht.cell ztE i (by simpa [crcTab] using hi)
 rw[this]
 congr 2
 show (crcTab.map Int.ofNat).getD i 0=((crcTab.getD i 0:Nat):Int)
 simp[List.getD_eq_getElem?_getD,Pa]
 cases crcTab[i]? <;> simp
theorem ztV:Tryz.prog.cellsOf 86=4:=by kernel_rfl
theorem ztT:Tryz.prog.cellsOf 25=5:=by kernel_rfl
theorem zsC:Tryz.prog.cellsOf 74=4:=by kernel_rfl
theorem zsB:Tryz.prog.cellsOf 27=2:=by kernel_rfl
theorem zsA:Tryz.prog.cellsOf 30=6:=by kernel_rfl
theorem zch:Tryz.prog.cellsOf 3=1:=by kernel_rfl
theorem zsE:Tryz.prog.cellsOf 5=1:=by kernel_rfl
theorem zpd:Tryz.prog.cellsOf 4=1:=by kernel_rfl
theorem ztU:Tryz.prog.cellsOf 22=1:=by kernel_rfl
theorem ztW:Tryz.prog.cellsOf 23=1:=by kernel_rfl
theorem zsD:Tryz.prog.cellsOf 28=1:=by kernel_rfl
section
variable {H:Type} {enc:TypeId×Value→H} {W:World} {base:Nat} {v:Value} {d:DataW H} {p:List MemPlace}
theorem zfT {α:Type} [Inhabited α] {sz:Nat} {t e:TypeId} (ht:Tryz.prog.underlying t=some (.slice e)) (hc:Tryz.prog.cellsOf e=sz) (hs:0<sz) (E:World→(Nat→Option Value)→α→Prop) (f:α→Nat)
  (elt:∀ (n:Nat) (cs:List Value) (x:DataW H×List MemPlace),cs.length=sz→P0 enc Tryz.prog W 0 (fun _=>true) true n e cs=some x→∃ a,E W (fun i=>if i<sz then cs[i]? else none) a∧f a≤Rows.uptoBulk x.1)
  {n:Nat} {c:Value} {x:DataW H×List MemPlace} (hf:P0 enc Tryz.prog W 0 (fun _=>true) true n t [c]=some x) :
  ∃ (l:List α) (xs:List Value),SlR W sz c l.length xs∧RowOf sz E W xs l∧l.length≤Rows.uptoBulk x.1∧∀ a∈l,f a≤Rows.uptoBulk x.1:=by
 rcases open_slice ht hf with ⟨hcs,_⟩ | ⟨a,len',cap',m,n,D,Pl,hcs,hb,hl,hm,hmm,hx,hi⟩
 ·cases hcs;exact ⟨[],[],SlR.nil _ sz,RowOf.nil,Pk _,fun a h=>by cases h⟩
 ·cases hcs
  have Hl:m=cap':=by simpa using hmm
  have H7:∀ i,i<len'→∃ y:α×List Value,y.2.length=sz∧(∀ j,j<sz→W.cell? (a.add (i*sz+j))=y.2[j]?)∧E W (fun i=>if i<sz then y.2[i]? else none) y.1∧f y.1≤Rows.uptoBulk (D i):=by
   intro i Hk;obtain ⟨cs,h1,h2⟩:=hi i (by omega);rw[hc] at h1;obtain ⟨_,Hb,H2⟩:=World.cells?_some h1;obtain ⟨y,h3,h4⟩:=elt _ cs _ Hb h2
   refine ⟨(y,cs),Hb,fun j hj=>?_,h3,h4⟩
   have q0:=H2 j hj;rw[Go.Deep.add_add] at q0
   exact q0
  obtain ⟨G,hG⟩:=choose_lt (α:=α×List Value) (p:=fun i y=>y.2.length=sz∧(∀ j,j<sz→W.cell? (a.add (i*sz+j))=y.2[j]?)∧E W (fun i=>if i<sz then y.2[i]? else none) y.1∧f y.1≤Rows.uptoBulk (D i)) H7
  have hd:x.1=.slice ((P7 len').map D) ((P7 (m-len')).map fun j=>D (len'+j)):=congrArg (·.1) hx
  have Ha:Rows.uptoBulkAll ((P7 len').map D)≤Rows.uptoBulk x.1:=by rw[hd,zj3];omega
  have H5:∀ k i,k<len'→i<sz→((P7 (len'*sz)).map fun j=>((G (j / sz)).2[j % sz]?).getD (.bool false))[k*sz+i]?=(G k).2[i]?:=by
   intro k i hk H1
   have h1:k*sz+i<len'*sz:=by
    have:(k+1)*sz≤len'*sz:=Nat.mul_le_mul_right _ hk
    rw[Nat.add_mul,Nat.one_mul] at this;omega
   have h2:(k*sz+i) / sz=k:=by rw[Pj,Nat.mul_add_div hs,Nat.div_eq_of_lt H1,Nat.add_zero]
   have h3:(k*sz+i) % sz=i:=by rw[Pj,Nat.mul_add_mod,Nat.mod_eq_of_lt H1]
   rw[Pa,List.getElem?_range h1,Option.map_some,h2,h3,P9 (by rw[(hG k hk).1];exact H1)]
   rfl
  refine ⟨(P7 len').map fun i=>(G i).1,(P7 (len'*sz)).map fun j=>((G (j / sz)).2[j % sz]?).getD (.bool false),?_,⟨by simp,fun k hk=>?_⟩,?_,fun y hy=>?_⟩
  ·rw[P6,P8]
   refine zio (by simp) hl hm hs (fun j u hu=>?_)
   have hj:=(Pb.1 hu).1;rw[P6,P8] at hj
   have Hc:j / sz<len':=Nat.div_lt_of_lt_mul (by rw[Pj];exact hj)
   have Hd:j % sz<sz:=Nat.mod_lt _ hs
   have h1:=(hG (j / sz) Hc).2.1 (j % sz) Hd;have h2:=H5 (j / sz) (j % sz) Hc Hd
   rw[show j / sz*sz+j % sz=j from by rw[Pj];exact Nat.div_add_mod j sz] at h1 h2
   rw[h1,←h2,hu]
  ·rw[P6,P8] at hk
   have h1:=(hG k hk).2.2.1;simp only[List.getElem_map,List.getElem_range]
   have h2:(fun i=>if i<sz then ((P7 (len'*sz)).map fun j=>((G (j / sz)).2[j % sz]?).getD (.bool false))[k*sz+i]? else none)=fun i=>if i<sz then (G k).2[i]? else none:=by
    funext i
    by_cases H1:i<sz
    ·rw[if_pos H1,if_pos H1,H5 k i hk H1]
    ·rw[if_neg H1,if_neg H1]
   rw[h2]
   exact h1
  ·rw[P6,P8]
   have:=zmf ((P7 len').map D)
   rw[P6,P8] at this;omega
  ·obtain ⟨i,H1,rfl⟩:=Pf.1 hy
   rw[Pe] at H1;have h3:=(hG i H1).2.2.2;have h4:=zhY (d:=D i) (l:=(P7 len').map D) (Pf.2 ⟨i,Pe.2 H1,rfl⟩);omega
theorem zt5 (n:Nat) (cs:List Value) (x:DataW H×List MemPlace) (hl:cs.length=2) (hf:P0 enc Tryz.prog W 0 (fun _=>true) true n 51 cs=some x):∃ a:Fil,zhM W (fun i=>if i<2 then cs[i]? else none) a∧a.2.length≤Rows.uptoBulk x.1:=by
 match cs,hl with
 | [c0,c1],_ =>
  obtain ⟨xs,n',_,H4,_,H3,hg⟩:=P2 Tryz.underlying51 hf;have g0:=hg 0 _ rfl;have g1:=hg 1 _ rfl
  have H0:xs.length=2:=H3
  match xs,H0 with
  | [x0,x1],_ =>
   obtain ⟨n0,e0,_,_⟩:=P3 Tryz.underlying9 g0
   have k0:c0=.string n0:=by have h:P5 (Tryz.prog.cellsOf 9) [c0,c1]=[Ph n0]:=e0;rw[zjt] at h;simpa using h
   have k1:P0 enc Tryz.prog W 0 (fun _=>true) true n' 38 [c1]=some x1:=by have h:P0 enc Tryz.prog W 0 (fun _=>true) true n' 38 (P5 (Tryz.prog.cellsOf 38) [c1])=some x1:=g1;rw[zox] at h;exact h
   subst k0;obtain ⟨bs,H8,Hh⟩:=ziX k1
   have hD:x.1=.agg [x0.1,x1.1]:=by have:=congrArg (·.1) H4;simpa using this
   refine ⟨(n0.data.toList,bs),⟨by rw[←znb];rfl,c1,rfl,H8⟩,?_⟩
   rw[hD];simp only[Rows.uptoBulk,Rows.uptoBulkAll]
   show bs.length≤_
   omega
theorem zu0 (n:Nat) (cs:List Value) (x:DataW H×List MemPlace) (hl:cs.length=4) (hf:P0 enc Tryz.prog W 0 (fun _=>true) true n 86 cs=some x):∃ a:Oq,OqE W (fun i=>if i<4 then cs[i]? else none) a∧a.b.length≤Rows.uptoBulk x.1:=by
 match cs,hl with
 | [c0,c1,c2,c3],_ =>
  obtain ⟨xs,n',_,H4,_,H3,hg⟩:=P2 Tryz.underlying86 hf;have g0:=hg 0 _ rfl;have g1:=hg 1 _ rfl;have g2:=hg 2 _ rfl;have g3:=hg 3 _ rfl
  have H0:xs.length=4:=H3
  match xs,H0 with
  | [x0,x1,x2,x3],_ =>
   obtain ⟨n0,e0,_,H9⟩:=P1 Tryz.underlying5 g0
   have k0:c0=.int .u8 n0:=by have h:P5 (Tryz.prog.cellsOf 5) [c0,c1,c2,c3]=[Pg .u8 n0]:=e0;rw[zsE] at h;simpa using h
   obtain ⟨n1,e1,_,_⟩:=P3 Tryz.underlying9 g1
   have k1:c1=.string n1:=by have h:P5 (Tryz.prog.cellsOf 9) [c1,c2,c3]=[Ph n1]:=e1;rw[zjt] at h;simpa using h
   obtain ⟨n2,e2,_,_⟩:=P3 Tryz.underlying9 g2
   have k2:c2=.string n2:=by have h:P5 (Tryz.prog.cellsOf 9) [c2,c3]=[Ph n2]:=e2;rw[zjt] at h;simpa using h
   have k3:P0 enc Tryz.prog W 0 (fun _=>true) true n' 38 [c3]=some x3:=by have h:P0 enc Tryz.prog W 0 (fun _=>true) true n' 38 (P5 (Tryz.prog.cellsOf 38) [c3])=some x3:=g3;rw[zox] at h;exact h
   subst k0 k1 k2;obtain ⟨bs,H8,Hh⟩:=ziX k3
   have hD:x.1=.agg [x0.1,x1.1,x2.1,x3.1]:=by have:=congrArg (·.1) H4;simpa using this
   refine ⟨⟨n0,n1.data.toList,n2.data.toList,bs⟩,⟨rfl,by rw[←znb];rfl,by rw[←znb];rfl,c3,rfl,H8⟩,?_⟩
   rw[hD];simp only[Rows.uptoBulk,Rows.uptoBulkAll]
   show bs.length≤_
   omega
def SgE (_:World) (c:Nat→Option Value) (x:Sg4):Prop:=c 0=some (.int .i64 x.seq)∧c 1=some (.int .i64 x.fmt)∧c 2=some (.int .i64 x.first)∧c 3=some (.int .i64 x.count)
instance:Inhabited Sg4:=⟨⟨0,0,0,0⟩⟩
instance:Inhabited Oq:=⟨⟨0,[],[],[]⟩⟩
theorem zu6 (n:Nat) (cs:List Value) (x:DataW H×List MemPlace) (hl:cs.length=4) (hf:P0 enc Tryz.prog W 0 (fun _=>true) true n 74 cs=some x):∃ a:Sg4,SgE W (fun i=>if i<4 then cs[i]? else none) a∧0≤Rows.uptoBulk x.1:=by
 match cs,hl with
 | [c0,c1,c2,c3],_ =>
  obtain ⟨xs,n',_,H4,_,H3,hg⟩:=P2 Tryz.underlying74 hf;have g0:=hg 0 _ rfl;have g1:=hg 1 _ rfl;have g2:=hg 2 _ rfl;have g3:=hg 3 _ rfl
  have H0:xs.length=4:=H3
  match xs,H0 with
  | [x0,x1,x2,x3],_ =>
   obtain ⟨n0,e0,_,H9⟩:=P1 Tryz.underlying3 g0
   have k0:c0=.int .i64 n0:=by have h:P5 (Tryz.prog.cellsOf 3) [c0,c1,c2,c3]=[Pg .i64 n0]:=e0;rw[zch] at h;simpa using h
   obtain ⟨n1,e1,_,He⟩:=P1 Tryz.underlying3 g1
   have k1:c1=.int .i64 n1:=by have h:P5 (Tryz.prog.cellsOf 3) [c1,c2,c3]=[Pg .i64 n1]:=e1;rw[zch] at h;simpa using h
   obtain ⟨n2,e2,_,Hf⟩:=P1 Tryz.underlying3 g2
   have k2:c2=.int .i64 n2:=by have h:P5 (Tryz.prog.cellsOf 3) [c2,c3]=[Pg .i64 n2]:=e2;rw[zch] at h;simpa using h
   obtain ⟨n3,e3,_,Hg⟩:=P1 Tryz.underlying3 g3
   have k3:c3=.int .i64 n3:=by have h:P5 (Tryz.prog.cellsOf 3) [c3]=[Pg .i64 n3]:=e3;rw[zch] at h;simpa using h
   subst k0 k1 k2 k3
   exact ⟨⟨n0,n1,n2,n3⟩,⟨rfl,rfl,rfl,rfl⟩,Pk _⟩
theorem znP {n:Nat} {c:Value} {x:DataW H×List MemPlace} (hf:P0 enc Tryz.prog W 0 (fun _=>true) true n 22 [c]=some x):∃ fs,Fs W c fs∧fs.length≤Rows.uptoBulk x.1:=by
 obtain ⟨l,xs,h1,h2,h3,_⟩:=zfT Tryz.underlying22 zsz (by decide) zhM (fun a=>a.2.length) zt5 hf
 exact ⟨l,fs_row.2 ⟨xs,h1,h2⟩,h3⟩
theorem zob {n:Nat} {c:Value} {x:DataW H×List MemPlace} (hf:P0 enc Tryz.prog W 0 (fun _=>true) true n 23 [c]=some x):∃ q,Qs W c q∧q.length≤Rows.uptoBulk x.1:=by
 obtain ⟨l,xs,h1,h2,h3,_⟩:=zfT Tryz.underlying23 ztV (by decide) OqE (fun a=>a.b.length) zu0 hf
 exact ⟨l,⟨xs,h1,h2⟩,h3⟩
theorem zm8 {n:Nat} {c:Value} {x:DataW H×List MemPlace} (hf:P0 enc Tryz.prog W 0 (fun _=>true) true n 28 [c]=some x):∃ l,Sgs W c l∧l.length≤Rows.uptoBulk x.1:=by
 obtain ⟨l,xs,h1,h2,h3,_⟩:=zfT Tryz.underlying28 zsC (by decide) SgE (fun _=>0) zu6 hf
 have he:xs=zaF l:=by
  have Hi:=zje l
  refine List.ext_getElem? fun j=>?_
  by_cases hj:j<l.length*4
  ·have g:=zev l (j / 4) (by omega)
   obtain ⟨f0,f1,f2,f3⟩:=h2.2 (j / 4) (by omega)
   have f0:xs[j / 4*4+0]?=_:=f0
   have f1:xs[j / 4*4+1]?=_:=f1
   have f2:xs[j / 4*4+2]?=_:=f2
   have f3:xs[j / 4*4+3]?=_:=f3
   have hc:j=j / 4*4+0∨j=j / 4*4+1∨j=j / 4*4+2∨j=j / 4*4+3:=by omega
   rcases hc with h | h | h | h
   ·rw[h,f0];exact (g 0 (by decide)).symm
   ·rw[h,f1];exact (g 1 (by decide)).symm
   ·rw[h,f2];exact (g 2 (by decide)).symm
   ·rw[h,f3];exact (g 3 (by decide)).symm
  ·rw[Pc (by rw[h2.1];omega),Pc (by rw[Hi];omega)]
 refine ⟨l,?_,h3⟩
 unfold Sgs;rw[←he]
 exact h1
theorem zph (hv:Pi Tryz.prog W .any base 25 v) (h:P4 enc Tryz.prog W 0 (fun _=>true) true 25 v d p):∃ D:Dk,DkV W v D∧D.fs.length≤Rows.uptoBulk d∧D.q.length≤Rows.uptoBulk d∧D.fuse≤9223372036854775807:=by
 obtain ⟨cs,rfl,H6⟩:=okWide_struct Tryz.underlying25 hv;rw[ztT] at H6;obtain ⟨l⟩:=cs;obtain ⟨fuel,hf⟩:=h
 match l,H6 with
 | [c0,c1,c2,c3,c4],_ =>
  obtain ⟨xs,n',_,H4,_,H3,hg⟩:=P2 Tryz.underlying25 hf;have g0:=hg 0 _ rfl;have g1:=hg 1 _ rfl;have g2:=hg 2 _ rfl;have g3:=hg 3 _ rfl;have g4:=hg 4 _ rfl
  have H0:xs.length=5:=H3
  match xs,H0 with
  | [x0,x1,x2,x3,x4],_ =>
   have k0:P0 enc Tryz.prog W 0 (fun _=>true) true n' 22 [c0]=some x0:=by have h:P0 enc Tryz.prog W 0 (fun _=>true) true n' 22 (P5 (Tryz.prog.cellsOf 22) [c0,c1,c2,c3,c4])=some x0:=g0;rw[ztU] at h;exact h
   have k1:P0 enc Tryz.prog W 0 (fun _=>true) true n' 23 [c1]=some x1:=by have h:P0 enc Tryz.prog W 0 (fun _=>true) true n' 23 (P5 (Tryz.prog.cellsOf 23) [c1,c2,c3,c4])=some x1:=g1;rw[ztW] at h;exact h
   obtain ⟨n2,e2,_,Hf⟩:=P1 Tryz.underlying3 g2
   have k2:c2=.int .i64 n2:=by have h:P5 (Tryz.prog.cellsOf 3) [c2,c3,c4]=[Pg .i64 n2]:=e2;rw[zch] at h;simpa using h
   obtain ⟨n3,e3,_,Hg⟩:=P1 Tryz.underlying3 g3
   have k3:c3=.int .i64 n3:=by have h:P5 (Tryz.prog.cellsOf 3) [c3,c4]=[Pg .i64 n3]:=e3;rw[zch] at h;simpa using h
   obtain ⟨n4,e4,_⟩:=DataW.trod_bool Tryz.underlying4 g4
   have k4:c4=.bool n4:=by have h:P5 (Tryz.prog.cellsOf 4) [c4]=[Value.bool n4]:=e4;rw[zpd] at h;simpa using h
   subst k2 k3 k4;obtain ⟨fs,h1,h2⟩:=znP k0;obtain ⟨q,h3,h4⟩:=zob k1
   have hD:d=.agg [x0.1,x1.1,x2.1,x3.1,x4.1]:=by have:=congrArg (·.1) H4;simpa using this
   refine ⟨⟨fs,q,n2,n3,n4⟩,⟨c0,c1,rfl,h1,h3⟩,?_,?_,?_⟩
   ·rw[hD];simp only[Rows.uptoBulk,Rows.uptoBulkAll];show fs.length≤_;omega
   ·rw[hD];simp only[Rows.uptoBulk,Rows.uptoBulkAll];show q.length≤_;omega
   ·have:-9223372036854775808≤n3∧n3≤9223372036854775807:=by simpa [Lit.wf,Po,Pp,Pm,Pn] using Hg
    exact this.2
theorem zm2 {n:Nat} {c0 c1:Value} {x:DataW H×List MemPlace} (hf:P0 enc Tryz.prog W 0 (fun _=>true) true n 27 [c0,c1]=some x):∃ s f:Int,c0=.int .i64 s∧c1=.int .i64 f:=by
 obtain ⟨xs,n',_,H4,_,H3,hg⟩:=P2 Tryz.underlying27 hf;have g0:=hg 0 _ rfl;have g1:=hg 1 _ rfl
 have H0:xs.length=2:=H3
 match xs,H0 with
 | [x0,x1],_ =>
  obtain ⟨n0,e0,_,H9⟩:=P1 Tryz.underlying3 g0
  have k0:c0=.int .i64 n0:=by have h:P5 (Tryz.prog.cellsOf 3) [c0,c1]=[Pg .i64 n0]:=e0;rw[zch] at h;simpa using h
  obtain ⟨n1,e1,_,He⟩:=P1 Tryz.underlying3 g1
  have k1:c1=.int .i64 n1:=by have h:P5 (Tryz.prog.cellsOf 3) [c1]=[Pg .i64 n1]:=e1;rw[zch] at h;simpa using h
  exact ⟨n0,n1,k0,k1⟩
theorem znW (hv:Pi Tryz.prog W .any base 30 v) (h:P4 enc Tryz.prog W 0 (fun _=>true) true 30 v d p):∃ (m:Mf) (u:Value),v=.agg #[.int .i64 m.next,.int .i64 m.term,.int .i64 m.vote,.int .i64 m.sq,.int .i64 m.sf,u]∧Sgs W u m.segs∧m.segs.length≤Rows.uptoBulk d:=by
 obtain ⟨cs,rfl,H6⟩:=okWide_struct Tryz.underlying30 hv;rw[zsA] at H6;obtain ⟨l⟩:=cs;obtain ⟨fuel,hf⟩:=h
 match l,H6 with
 | [c0,c1,c2,c3,c4,c5],_ =>
  obtain ⟨xs,n',_,H4,_,H3,hg⟩:=P2 Tryz.underlying30 hf;have g0:=hg 0 _ rfl;have g1:=hg 1 _ rfl;have g2:=hg 2 _ rfl;have g3:=hg 3 _ rfl;have g4:=hg 4 _ rfl
  have H0:xs.length=5:=H3
  match xs,H0 with
  | [x0,x1,x2,x3,x4],_ =>
   obtain ⟨n0,e0,_,H9⟩:=P1 Tryz.underlying3 g0
   have k0:c0=.int .i64 n0:=by have h:P5 (Tryz.prog.cellsOf 3) [c0,c1,c2,c3,c4,c5]=[Pg .i64 n0]:=e0;rw[zch] at h;simpa using h
   obtain ⟨n1,e1,_,He⟩:=P1 Tryz.underlying3 g1
   have k1:c1=.int .i64 n1:=by have h:P5 (Tryz.prog.cellsOf 3) [c1,c2,c3,c4,c5]=[Pg .i64 n1]:=e1;rw[zch] at h;simpa using h
   obtain ⟨n2,e2,_,Hf⟩:=P1 Tryz.underlying3 g2
   have k2:c2=.int .i64 n2:=by have h:P5 (Tryz.prog.cellsOf 3) [c2,c3,c4,c5]=[Pg .i64 n2]:=e2;rw[zch] at h;simpa using h
   have k3:P0 enc Tryz.prog W 0 (fun _=>true) true n' 27 [c3,c4]=some x3:=by have h:P0 enc Tryz.prog W 0 (fun _=>true) true n' 27 (P5 (Tryz.prog.cellsOf 27) [c3,c4,c5])=some x3:=g3;rw[zsB] at h;exact h
   have k4:P0 enc Tryz.prog W 0 (fun _=>true) true n' 28 [c5]=some x4:=by have h:P0 enc Tryz.prog W 0 (fun _=>true) true n' 28 (P5 (Tryz.prog.cellsOf 28) [c5])=some x4:=g4;rw[zsD] at h;exact h
   subst k0 k1 k2;obtain ⟨sq,sf,rfl,rfl⟩:=zm2 k3;obtain ⟨sg,h1,h2⟩:=zm8 k4
   have hD:d=.agg [x0.1,x1.1,x2.1,x3.1,x4.1]:=by have:=congrArg (·.1) H4;simpa using this
   refine ⟨⟨n0,n1,n2,sq,sf,sg⟩,c5,rfl,h1,?_⟩
   rw[hD];simp only[Rows.uptoBulk,Rows.uptoBulkAll];show sg.length≤_;omega
end
end Go.Proofs.YtgonhdeochgkoaaGreatDoor
