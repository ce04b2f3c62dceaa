/- Merged -/
import Derived.Test.YteggfecbjgbndaaGreatDoorZy32
import Derived.Test.YteggfecbjgbndaaGreatDoorZy47
import Derived.Lib.LaidTab
import Derived.LaidMore
import Derived.LaidSub
import Derived.Stop.Joined
import Derived.Deep.DeepHandedRow
set_option linter.all false
set_option maxHeartbeats 8000000
set_option maxRecDepth 100000
open Go.Proofs.Tryz
open List renaming length->A
open Go.DataW renaming trod_int->P0,trod->P1,trod_struct->P2,Trod->P3,trod_string->P4
open List renaming take->P5,length_map->P6,length_range->P7,range->P8,getElem?_map->P9,getElem?_eq_none->Pa,getElem?_range->Pb,getElem?_eq_some_iff->Pc,getElem?_eq_getElem->Pd,mem_range->Pe,mem_map->Pf,getElem_range->Pg,ext_getElem?->Ph,length_take->Pi,getElem_map->Pj
open Go.Value renaming int->Pk,okWide->Pm,string->Pn
open Nat renaming zero_le->Po,mul_comm->Pp
open Go.IntKind renaming signed->Pq,bits->Pr,min->Ps,max->Pu
namespace Go.Proofs.YteggfecbjgbndaaGreatDoor
open Go.ChangeShapes Go.WideShapes Go.ChangeAt Go.RowKit Go.Deep Go.Mv Go.WideElems
variable {n:Nat} {c:Value}
theorem MB{H:Type}(d:DataW H):1<=Rows.uptoBulk d:=by
 cases d with
 |lit l=>cases l<;>simp[Rows.uptoBulk]
 |_=>simp[Rows.uptoBulk]
theorem iL{H:Type}{d:DataW H}{l:List (DataW H)}(h:d∈l):Rows.uptoBulk d<=Rows.uptoBulkAll l:=by
 induction l with
 |nil=>cases h
 |cons x r ih=>
  simp only[Rows.uptoBulkAll];rcases List.mem_cons.1 h with rfl | h
  ·omega
  ·have:=ih h;omega
theorem rK{H:Type}(l:List (DataW H)):A l<=Rows.uptoBulkAll l:=by
 induction l with
 |nil=>simp[Rows.uptoBulkAll]
 |cons x r ih=>have:=MB x;simp only[Rows.uptoBulkAll,xC];omega
theorem qi{H:Type}(l r:List (DataW H)):Rows.uptoBulk (.slice l r)=Rows.uptoBulkAll l+Rows.uptoBulkAll r+1:=by simp only[Rows.uptoBulk]
theorem Ap:Tryz.prog.cellsOf 68=2:=by kernel_rfl
theorem oC:Tryz.prog.cellsOf 9=1:=by kernel_rfl
theorem rY:Tryz.prog.cellsOf 33=1:=by kernel_rfl
section
variable {H:Type} {enc:TypeId×Value->H} {W:World} {base:Nat} {v:Value} {d:DataW H} {p:List MemPlace}
theorem oa{x:DataW H×List MemPlace}(hf:P1 enc Tryz.prog W 0 (λ_=>true) true n 33 [c]=some x):∃bs,Bs W c bs/\A bs<=Rows.uptoBulk x.1:=by
 rcases open_ints underlying33 underlying5 OD hf with⟨g,_⟩|⟨a,b,h,f,g,hb,hl,hm,k,hx,H1,i⟩
 ·cases g;exact⟨[],SlR.nil _ 1,Po _⟩
 ·cases g;have g:A f=h:=by simpa using k
  refine⟨(f.take b).map (λn=>UInt8.ofNat n.toNat),?_,?_⟩
  ·unfold Bs;rw[P6,Pi,Nat.min_eq_left (by omega)];refine pU (by simp;omega) hl hm (by decide) (λj u h=>?_);have g:=(Pc.1 h).1;simp only[P6,Pi,Nat.lt_min]at g;rw[H1 j (by omega),<-h];have h:=i (f[j]'(by omega)) (List.getElem_mem _);have i:0<=f[j]'(by omega)/\f[j]'(by omega)<=255:=by simpa[Lit.wf,Ps,Pu,Pq,Pr]using h
   have h1:f.getD j 0=f[j]'(by omega):=by simp[List.getD,Pd (show j<A f by omega)]
   rw[h1];have h2:((List.map (λn:Int=>UInt8.ofNat n.toNat) (f.take b)).map bv)[j]?=some (bv (UInt8.ofNat (f[j]'(by omega)).toNat)):=by
    simp[P9,List.getElem?_take,g.1,Pd (show j<A f by omega)]
   rw[h2];simp[bv];omega
  ·rw[hx,qi,P6];have:=rK (H:=H) (lits .u8 (f.take b));have e:A (lits (H:=H) .u8 (f.take b))=A (f.take b):=by simp[lits]
   omega
theorem pg{s:ByteArray}:Pn s=sv s.data.toList:=by
 unfold sv;simp
theorem FU(r:Pm Tryz.prog W .any base 22 v)(h:P3 enc Tryz.prog W 0 (λ_=>true) true 22 v d p):∃fs,Fs W v fs/\A fs<=Rows.uptoBulk d/\∀f∈fs,A f.2<=Rows.uptoBulk d:=by
 obtain⟨w,b,H8,rfl⟩:=okWide_slice underlying22 r;obtain⟨fuel,hf⟩:=h;have r:P1 enc Tryz.prog W 0 (λ_=>true) true fuel 22 [.slice w b H8]=some (d,p):=by simpa[Value.cells]using hf
 rcases open_slice underlying22 r with⟨k,_⟩|⟨a,r,r,m,n,D,r,k,hb,hl,hm,o,hx,g⟩
 ·cases k;exact⟨[],⟨[],SlR.nil _ 2,λi g=>absurd g (by simp)⟩,Po _,λf hf=>by cases hf⟩
 ·cases k;have k:m=H8:=by simpa using o
  have t:∀i,i<b->∃e:Fil×Value,W.cell? (a.add (i*2))=some (sv e.1.1)/\W.cell? (a.add (i*2+1))=some e.2/\Bs W e.2 e.1.2/\A e.1.2<=Rows.uptoBulk (D i):=by
   intro i k;obtain⟨cs,h1,h2⟩:=g i (by omega);rw[Ap]at h1;obtain⟨_,k,H1⟩:=World.cells?_some h1;obtain⟨xs,n',_,H3,_,o,hf⟩:=P2 underlying68 h2;match cs,k with
   |[c0,c1],_=>
    have r:=hf 0 _ rfl;have w:=hf 1 _ rfl;have k:A xs=2:=o;match xs,k with
    |[x0,x1],_=>
     obtain⟨s,k,_,_⟩:=P4 underlying9 r;have x:c0=.string s:=by have h:P5 (Tryz.prog.cellsOf 9) [c0,c1]=[Pn s]:=k;rw[oC]at h;simpa using h
     have y:P1 enc Tryz.prog W 0 (λ_=>true) true n' 33 [c1]=some x1:=by
      have h:P1 enc Tryz.prog W 0 (λ_=>true) true n' 33 (P5 (Tryz.prog.cellsOf 33) [c1])=some x1:=w;rw[rY]at h;exact h
     subst x;obtain⟨bs,r,k⟩:=oa y;have k:=H1 0 (by omega);have o:=H1 1 (by omega);rw[Go.Deep.add_add]at k o;refine⟨((s.data.toList,bs),c1),by rw[<-pg];simpa using k,by simpa using o,r,?_⟩;have hD:D i=.agg [x0.1,x1.1]:=by
      have:=congrArg (·.1) H3;simpa using this
     rw[hD];simp only[Rows.uptoBulk,Rows.uptoBulkAll];show A bs<=_;omega
  obtain⟨E,q⟩:=choose_lt (α:=Fil×Value) (p:=λi e=>W.cell? (a.add (i*2))=some (sv e.1.1)/\W.cell? (a.add (i*2+1))=some e.2/\Bs W e.2 e.1.2/\A e.1.2<=Rows.uptoBulk (D i)) t;have hd:d=.slice ((P8 b).map D) ((P8 (m-b)).map λj=>D (b+j)):=congrArg (·.1) hx;have k:Rows.uptoBulkAll ((P8 b).map D)<=Rows.uptoBulk d:=by rw[hd,qi];omega
  refine⟨(P8 b).map λi=>(E i).1,⟨(P8 (b*2)).map λj=>if j % 2=0 then sv (E (j / 2)).1.1 else(E (j / 2)).2,?_,λi g=>?_⟩,?_,λf hf=>?_⟩
  ·rw[P6,P7];refine pU (by simp) hl hm (by decide) (λj u k=>?_);have o:=(Pc.1 k).1;rw[P6,P7]at o;rw[P9,Pb o]at k;obtain⟨o,h1,_,_⟩:=q (j / 2) (by omega);rcases Nat.mod_two_eq_zero_or_one j with r | r
   ·rw[show j / 2*2=j from by omega]at o;rw[o,<-k];simp[r]
   rw[show j / 2*2+1=j from by omega]at h1;rw[h1,<-k];simp[r]
  ·rw[P6,P7]at g;obtain⟨o,h1,h2,_⟩:=q i g;rw[P9,Pb (by omega),P9,Pb (by omega)];simp only[Pj,Pg,Option.map_some];refine⟨?_,(E i).2,?_,h2⟩
   ·rw[if_pos (by omega),show i*2 / 2=i from by omega]
   rw[if_neg (by omega),show(i*2+1) / 2=i from by omega]
  ·rw[P6,P7];have:=rK ((P8 b).map D);rw[P6,P7]at this;omega
  ·obtain⟨i,g,rfl⟩:=Pf.1 hf;rw[Pe]at g;have h3:=(q i g).2.2.2;have h4:=iL (d:=D i) (l:=(P8 b).map D) (Pf.2 ⟨i,Pe.2 g,rfl⟩);omega
end
open Go.ChangeShapes Go.WideShapes Go.ChangeAt Go.RowKit Go.Deep Go.Mv Go.WideElems
theorem Cj:Tryz.prog.globalNamed "moult/crc.rows"=some 1:=by kernel_rfl
theorem O4:(Tryz.prog.globals[1]?).map (·.type)=some 314:=by kernel_rfl
theorem O6:Tryz.prog.cellsOf 190=1:=by kernel_rfl
theorem PX:Tryz.prog.cellsOf 314=16:=by kernel_rfl
theorem O9:Tryz.prog.globalNamed "internal/strconv.uint64pow10"=some 2:=by kernel_rfl
theorem PB:(Tryz.prog.globals[2]?).map (·.type)=some 330:=by kernel_rfl
theorem O7:Tryz.prog.cellsOf 303=1:=by kernel_rfl
theorem O5:Tryz.prog.cellsOf 330=20:=by kernel_rfl
theorem EJ {W:World} (h:laidMetH Tryz.prog Rows.storeTellsUptoRow.laid W):StW W:=by
 rw[MakeChecks.laidMetH_plain _ _ _ (by kernel_rfl)] at h;have h1:laidMet Tryz.prog [("moult/crc.rows",Lib.tabData .u32 (crcTab.map Int.ofNat))] W:=h.filter fun x=>x.1 == "moult/crc.rows";have h2:laidMet Tryz.prog [("internal/strconv.uint64pow10",Lib.tabData .u64 Lib.pow10Tab)] W:=h.filter fun x=>x.1 == "internal/strconv.uint64pow10";have ht:Lib.TabIs Tryz.prog W "moult/crc.rows" .u32 (crcTab.map Int.ofNat):=Lib.tabIs_of_head (rest:=[]) Cj O4 underlying314 underlying190 O6 PX h1;refine ⟨?_,Lib.tabIs_of_head (rest:=[]) O9 PB underlying330 underlying303 O7 O5 h2⟩;intro i hi;have:=ht.cell Cj i (by simpa [crcTab] using hi);rw[this];congr 2
 show (crcTab.map Int.ofNat).getD i 0=((crcTab.getD i 0:Nat):Int);simp[List.getD_eq_getElem?_getD,P9];cases crcTab[i]? <;> simp
theorem OB:Tryz.prog.cellsOf 98=4:=by kernel_rfl
theorem Bt:Tryz.prog.cellsOf 32=3:=by kernel_rfl
theorem Oz:Tryz.prog.cellsOf 25=5:=by kernel_rfl
theorem Aw:Tryz.prog.cellsOf 36=4:=by kernel_rfl
theorem L4:Tryz.prog.cellsOf 27=2:=by kernel_rfl
theorem MC:Tryz.prog.cellsOf 30=6:=by kernel_rfl
theorem dg:Tryz.prog.cellsOf 3=1:=by kernel_rfl
theorem rL:Tryz.prog.cellsOf 5=1:=by kernel_rfl
theorem FJ:Tryz.prog.cellsOf 4=1:=by kernel_rfl
theorem OA:Tryz.prog.cellsOf 22=1:=by kernel_rfl
theorem OC:Tryz.prog.cellsOf 23=1:=by kernel_rfl
theorem L5:Tryz.prog.cellsOf 28=1:=by kernel_rfl
section
variable {H:Type} {enc:TypeId×Value->H} {W:World} {base:Nat} {v:Value} {d:DataW H} {p:List MemPlace}
theorem nM{α:Type}[Inhabited α]{sz:Nat}{t e:TypeId}(ht:Tryz.prog.underlying t=some (.slice e))(hc:Tryz.prog.cellsOf e=sz)(E:World->(Nat->Option Value)->α->Prop)(f:α->Nat)(elt:∀(n:Nat) (cs:List Value) (x:DataW H×List MemPlace),cs.length=sz->P1 enc Tryz.prog W 0 (λ_=>true) true n e cs=some x->∃a,E W (λi=>if i<sz then cs[i]? else none) a/\f a<=Rows.uptoBulk x.1){n:Nat}{c:Value}{x:DataW H×List MemPlace}(hf:P1 enc Tryz.prog W 0 (λ_=>true) true n t [c]=some x)(hs:0<sz:=by decide):
  ∃(l:List α) (xs:List Value),SlR W sz c l.length xs/\RowOf sz E W xs l/\l.length<=Rows.uptoBulk x.1/\∀a∈l,f a<=Rows.uptoBulk x.1:=by
 rcases open_slice ht hf with⟨hcs,_⟩|⟨a,len',cap',m,n,D,Pl,hcs,hb,hl,hm,hmm,hx,hi⟩
 ·cases hcs;exact⟨[],[],SlR.nil _ sz,RowOf.nil,Po _,λa h=>by cases h⟩
 ·cases hcs;have Hn:m=cap':=by simpa using hmm
  have H7:∀i,i<len'->∃y:α×List Value,y.2.length=sz/\(∀j,j<sz->W.cell? (a.add (i*sz+j))=y.2[j]?)/\E W (λi=>if i<sz then y.2[i]? else none) y.1/\f y.1<=Rows.uptoBulk (D i):=by
   intro i Hm;obtain⟨cs,h1,h2⟩:=hi i (by omega);rw[hc]at h1;obtain⟨_,Hg,H1⟩:=World.cells?_some h1;obtain⟨y,h3,h4⟩:=elt _ cs _ Hg h2;refine⟨(y,cs),Hg,λj hj=>?_,h3,h4⟩;have q0:=H1 j hj;rw[Go.Deep.add_add]at q0;exact q0
  obtain⟨G,hG⟩:=choose_lt (α:=α×List Value) (p:=λi y=>y.2.length=sz/\(∀j,j<sz->W.cell? (a.add (i*sz+j))=y.2[j]?)/\E W (λi=>if i<sz then y.2[i]? else none) y.1/\f y.1<=Rows.uptoBulk (D i)) H7;have hd:x.1=.slice ((P8 len').map D) ((P8 (m-len')).map λj=>D (len'+j)):=congrArg (·.1) hx;have Hb:Rows.uptoBulkAll ((P8 len').map D)<=Rows.uptoBulk x.1:=by rw[hd,qi];omega
  have Hd:∀k i,k<len'->i<sz->((P8 (len'*sz)).map λj=>((G (j / sz)).2[j % sz]?).getD (.bool false))[k*sz+i]?=(G k).2[i]?:=by
   intro k i hk H5;have h1:k*sz+i<len'*sz:=by
    have:(k+1)*sz<=len'*sz:=Nat.mul_le_mul_right _ hk;rw[Nat.add_mul,Nat.one_mul]at this;omega
   have h2:(k*sz+i) / sz=k:=by rw[Pp,Nat.mul_add_div hs,Nat.div_eq_of_lt H5,Nat.add_zero]
   have h3:(k*sz+i) % sz=i:=by rw[Pp,Nat.mul_add_mod,Nat.mod_eq_of_lt H5]
   rw[P9,Pb h1,Option.map_some,h2,h3,Pd (by rw[(hG k hk).1];exact H5)];rfl
  refine⟨(P8 len').map λi=>(G i).1,(P8 (len'*sz)).map λj=>((G (j / sz)).2[j % sz]?).getD (.bool false),?_,⟨by simp,λk hk=>?_⟩,?_,λy hy=>?_⟩
  ·rw[P6,P7];refine pU (by simp) hl hm hs (λj u hu=>?_);have hj:=(Pc.1 hu).1;rw[P6,P7]at hj;have Hk:j / sz<len':=Nat.div_lt_of_lt_mul (by rw[Pp];exact hj);have Hl:j % sz<sz:=Nat.mod_lt _ hs;have h1:=(hG (j / sz) Hk).2.1 (j % sz) Hl;have h2:=Hd (j / sz) (j % sz) Hk Hl;rw[show j / sz*sz+j % sz=j from by rw[Pp];exact Nat.div_add_mod j sz]at h1 h2;rw[h1,<-h2,hu]
  ·rw[P6,P7]at hk;have h1:=(hG k hk).2.2.1;simp only[Pj,Pg];have h2:(λi=>if i<sz then((P8 (len'*sz)).map λj=>((G (j / sz)).2[j % sz]?).getD (.bool false))[k*sz+i]? else none)=λi=>if i<sz then(G k).2[i]? else none:=by
    funext i
    by_cases H5:i<sz
    ·rw[if_pos H5,if_pos H5,Hd k i hk H5]
    rw[if_neg H5,if_neg H5]
   rw[h2];exact h1
  ·rw[P6,P7];have:=rK ((P8 len').map D);rw[P6,P7]at this;omega
  ·obtain⟨i,H5,rfl⟩:=Pf.1 hy;rw[Pe]at H5;have h3:=(hG i H5).2.2.2;have h4:=iL (d:=D i) (l:=(P8 len').map D) (Pf.2 ⟨i,Pe.2 H5,rfl⟩);omega
theorem ON(n:Nat)(cs:List Value)(x:DataW H×List MemPlace)(hl:A cs=2)(hf:P1 enc Tryz.prog W 0 (λ_=>true) true n 68 cs=some x):∃a:Fil,iE W (λi=>if i<2 then cs[i]? else none) a/\A a.2<=Rows.uptoBulk x.1:=by
 match cs,hl with
 |[c0,c1],_=>
  obtain⟨xs,n',_,H3,_,f,hg⟩:=P2 underlying68 hf;have g:=hg 0 _ rfl;have j:=hg 1 _ rfl;have e:A xs=2:=f;match xs,e with
  |[x0,x1],_=>
   obtain⟨b,e,_,_⟩:=P4 underlying9 g;have k:c0=.string b:=by have h:P5 (Tryz.prog.cellsOf 9) [c0,c1]=[Pn b]:=e;rw[oC]at h;simpa using h
   have l:P1 enc Tryz.prog W 0 (λ_=>true) true n' 33 [c1]=some x1:=by have h:P1 enc Tryz.prog W 0 (λ_=>true) true n' 33 (P5 (Tryz.prog.cellsOf 33) [c1])=some x1:=j;rw[rY]at h;exact h
   subst k;obtain⟨bs,e,f⟩:=oa l;have hD:x.1=.agg [x0.1,x1.1]:=by have:=congrArg (·.1) H3;simpa using this
   refine⟨(b.data.toList,bs),⟨by rw[<-pg];rfl,c1,rfl,e⟩,?_⟩;rw[hD];simp only[Rows.uptoBulk,Rows.uptoBulkAll];show A bs<=_;omega
theorem PL(n:Nat)(cs:List Value)(x:DataW H×List MemPlace)(hl:A cs=4)(hf:P1 enc Tryz.prog W 0 (λ_=>true) true n 98 cs=some x):∃a:Oq,OqE W (λi=>if i<4 then cs[i]? else none) a/\A a.b<=Rows.uptoBulk x.1:=by
 match cs,hl with
 |[c0,c1,c2,c3],_=>
  obtain⟨xs,n',_,H3,_,j,hg⟩:=P2 underlying98 hf;have k:=hg 0 _ rfl;have l:=hg 1 _ rfl;have m:=hg 2 _ rfl;have o:=hg 3 _ rfl;have g:A xs=4:=j;match xs,g with
  |[x0,x1,x2,x3],_=>
   obtain⟨e,g,_,j⟩:=P0 underlying5 k;have q:c0=.int .u8 e:=by have h:P5 (Tryz.prog.cellsOf 5) [c0,c1,c2,c3]=[Pk .u8 e]:=g;rw[rL]at h;simpa using h
   obtain⟨n1,e1,_,_⟩:=P4 underlying9 l;have r:c1=.string n1:=by have h:P5 (Tryz.prog.cellsOf 9) [c1,c2,c3]=[Pn n1]:=e1;rw[oC]at h;simpa using h
   obtain⟨f,e2,_,_⟩:=P4 underlying9 m;have s:c2=.string f:=by have h:P5 (Tryz.prog.cellsOf 9) [c2,c3]=[Pn f]:=e2;rw[oC]at h;simpa using h
   have t:P1 enc Tryz.prog W 0 (λ_=>true) true n' 33 [c3]=some x3:=by have h:P1 enc Tryz.prog W 0 (λ_=>true) true n' 33 (P5 (Tryz.prog.cellsOf 33) [c3])=some x3:=o;rw[rY]at h;exact h
   subst q r s;obtain⟨bs,g,j⟩:=oa t;have hD:x.1=.agg [x0.1,x1.1,x2.1,x3.1]:=by have:=congrArg (·.1) H3;simpa using this
   refine⟨⟨e,n1.data.toList,f.data.toList,bs⟩,⟨rfl,by rw[<-pg];rfl,by rw[<-pg];rfl,c3,rfl,g⟩,?_⟩;rw[hD];simp only[Rows.uptoBulk,Rows.uptoBulkAll];show A bs<=_;omega
def IdE(_:World)(c:Nat->Option Value)(x:Int×Int×Int):Prop:=c 0=some (.int .u8 x.1)/\c 1=some (.int .i64 x.2.1)/\c 2=some (.int .i64 x.2.2)
theorem PE(n:Nat)(cs:List Value)(x:DataW H×List MemPlace)(hl:A cs=3)(hf:P1 enc Tryz.prog W 0 (λ_=>true) true n 32 cs=some x):∃a:Int×Int×Int,IdE W (λi=>if i<3 then cs[i]? else none) a/\0<=Rows.uptoBulk x.1:=by
 match cs,hl with
 |[c0,c1,c2],_=>
  obtain⟨xs,n',_,H3,_,g,hg⟩:=P2 underlying32 hf;have j:=hg 0 _ rfl;have k:=hg 1 _ rfl;have l:=hg 2 _ rfl;have f:A xs=3:=g;match xs,f with
  |[x0,x1,x2],_=>
   obtain⟨b,f,_,g⟩:=P0 underlying5 j;have m:c0=.int .u8 b:=by have h:P5 (Tryz.prog.cellsOf 5) [c0,c1,c2]=[Pk .u8 b]:=f;rw[rL]at h;simpa using h
   obtain⟨n1,e1,_,f⟩:=P0 underlying3 k;have o:c1=.int .i64 n1:=by have h:P5 (Tryz.prog.cellsOf 3) [c1,c2]=[Pk .i64 n1]:=e1;rw[dg]at h;simpa using h
   obtain⟨e,e2,_,f⟩:=P0 underlying3 l;have q:c2=.int .i64 e:=by have h:P5 (Tryz.prog.cellsOf 3) [c2]=[Pk .i64 e]:=e2;rw[dg]at h;simpa using h
   subst m o q;exact⟨(b,n1,e),⟨rfl,rfl,rfl⟩,Po _⟩
def SgE(_:World)(c:Nat->Option Value)(x:Sg4):Prop:=c 0=some (.int .i64 x.seq)/\c 1=some (.int .i64 x.fmt)/\c 2=some (.int .i64 x.first)/\c 3=some (.int .i64 x.count)
instance:Inhabited Sg4:=⟨⟨0,0,0,0⟩⟩
instance:Inhabited Oq:=⟨⟨0,[],[],[]⟩⟩
theorem PS(n:Nat)(cs:List Value)(x:DataW H×List MemPlace)(hl:A cs=4)(hf:P1 enc Tryz.prog W 0 (λ_=>true) true n 36 cs=some x):∃a:Sg4,SgE W (λi=>if i<4 then cs[i]? else none) a/\0<=Rows.uptoBulk x.1:=by
 match cs,hl with
 |[c0,c1,c2,c3],_=>
  obtain⟨xs,n',_,H3,_,j,hg⟩:=P2 underlying36 hf;have k:=hg 0 _ rfl;have l:=hg 1 _ rfl;have m:=hg 2 _ rfl;have o:=hg 3 _ rfl;have g:A xs=4:=j;match xs,g with
  |[x0,x1,x2,x3],_=>
   obtain⟨b,g,_,j⟩:=P0 underlying3 k;have q:c0=.int .i64 b:=by have h:P5 (Tryz.prog.cellsOf 3) [c0,c1,c2,c3]=[Pk .i64 b]:=g;rw[dg]at h;simpa using h
   obtain⟨n1,e1,_,g⟩:=P0 underlying3 l;have r:c1=.int .i64 n1:=by have h:P5 (Tryz.prog.cellsOf 3) [c1,c2,c3]=[Pk .i64 n1]:=e1;rw[dg]at h;simpa using h
   obtain⟨e,e2,_,g⟩:=P0 underlying3 m;have s:c2=.int .i64 e:=by have h:P5 (Tryz.prog.cellsOf 3) [c2,c3]=[Pk .i64 e]:=e2;rw[dg]at h;simpa using h
   obtain⟨f,e3,_,g⟩:=P0 underlying3 o;have t:c3=.int .i64 f:=by have h:P5 (Tryz.prog.cellsOf 3) [c3]=[Pk .i64 f]:=e3;rw[dg]at h;simpa using h
   subst q r s t;exact⟨⟨b,n1,e,f⟩,⟨rfl,rfl,rfl,rfl⟩,Po _⟩
theorem ET{x:DataW H×List MemPlace}(hf:P1 enc Tryz.prog W 0 (λ_=>true) true n 22 [c]=some x):∃fs,Fs W c fs/\A fs<=Rows.uptoBulk x.1:=by
 obtain⟨l,xs,h1,h2,h3,_⟩:=nM underlying22 Ap iE (λa=>A a.2) ON hf;exact⟨l,fs_row.2 ⟨xs,h1,h2⟩,h3⟩
theorem Fq{x:DataW H×List MemPlace}(hf:P1 enc Tryz.prog W 0 (λ_=>true) true n 23 [c]=some x):∃q,Qs W c q/\A q<=Rows.uptoBulk x.1:=by
 obtain⟨l,xs,h1,h2,h3,_⟩:=nM underlying23 OB OqE (λa=>A a.b) PL hf;exact⟨l,⟨xs,h1,h2⟩,h3⟩
theorem DA{x:DataW H×List MemPlace}(hf:P1 enc Tryz.prog W 0 (λ_=>true) true n 34 [c]=some x):∃a,SlR W 3 c a.length (bH a)/\A a<=Rows.uptoBulk x.1:=by
 obtain⟨l,xs,h1,h2,h3,_⟩:=nM underlying34 Bt IdE (λ_=>0) PE hf;have he:xs=bH l:=by
  have f:=EY l;refine Ph λj=>?_;by_cases a:j<A l*3
  ·obtain⟨g,i,m⟩:=qf l (k:=j / 3) (by omega);obtain⟨a,b,e⟩:=h2.2 (j / 3) (by omega);have a:xs[j / 3*3+0]?=_:=a;have b:xs[j / 3*3+1]?=_:=b;have e:xs[j / 3*3+2]?=_:=e;have hc:j=j / 3*3+0\/j=j / 3*3+1\/j=j / 3*3+2:=by omega
   rcases hc with h | h | h
   ·rw[h,a];exact g.symm
   ·rw[h,b];exact i.symm
   rw[h,e];exact m.symm
  rw[Pa (by rw[h2.1];omega),Pa (by rw[f];omega)]
 exact⟨l,he▸h1,h3⟩
theorem Ep{x:DataW H×List MemPlace}(hf:P1 enc Tryz.prog W 0 (λ_=>true) true n 28 [c]=some x):∃l,Sgs W c l/\A l<=Rows.uptoBulk x.1:=by
 obtain⟨l,xs,h1,h2,h3,_⟩:=nM underlying28 Aw SgE (λ_=>0) PS hf;have he:xs=bM l:=by
  have i:=tR l;refine Ph λj=>?_;by_cases a:j<A l*4
  ·have g:=mu l (j / 4) (by omega);obtain⟨a,b,e,f⟩:=h2.2 (j / 4) (by omega);have a:xs[j / 4*4+0]?=_:=a;have b:xs[j / 4*4+1]?=_:=b;have e:xs[j / 4*4+2]?=_:=e;have f:xs[j / 4*4+3]?=_:=f;have hc:j=j / 4*4+0\/j=j / 4*4+1\/j=j / 4*4+2\/j=j / 4*4+3:=by omega
   rcases hc with h | h | h | h
   ·rw[h,a];exact(g 0 (by decide)).symm
   ·rw[h,b];exact(g 1 (by decide)).symm
   ·rw[h,e];exact(g 2 (by decide)).symm
   rw[h,f];exact(g 3 (by decide)).symm
  rw[Pa (by rw[h2.1];omega),Pa (by rw[i];omega)]
 refine⟨l,?_,h3⟩;unfold Sgs;rw[<-he];exact h1
theorem DG(e:Pm Tryz.prog W .any base 33 v)(h:P3 enc Tryz.prog W 0 (λ_=>true) true 33 v d p):∃b,Bs W v b/\A b<=Rows.uptoBulk d:=by
 obtain⟨f,a,H8,rfl⟩:=okWide_slice underlying33 e;obtain⟨fuel,hf⟩:=h;have e:P1 enc Tryz.prog W 0 (λ_=>true) true fuel 33 [.slice f a H8]=some (d,p):=by simpa[Value.cells]using hf
 exact oa e
theorem EZ(f:Pm Tryz.prog W .any base 34 v)(h:P3 enc Tryz.prog W 0 (λ_=>true) true 34 v d p):∃a,SlR W 3 v a.length (bH a)/\A a<=Rows.uptoBulk d:=by
 obtain⟨e,b,H8,rfl⟩:=okWide_slice underlying34 f;obtain⟨fuel,hf⟩:=h;have a:P1 enc Tryz.prog W 0 (λ_=>true) true fuel 34 [.slice e b H8]=some (d,p):=by simpa[Value.cells]using hf
 exact DA a
theorem Fz(g:Pm Tryz.prog W .any base 32 v)(h:P3 enc Tryz.prog W 0 (λ_=>true) true 32 v d p):∃k s f:Int,v=.agg #[.int .u8 k,.int .i64 s,.int .i64 f]:=by
 obtain⟨cs,rfl,e⟩:=okWide_struct underlying32 g;rw[Bt]at e;obtain⟨l⟩:=cs;obtain⟨fuel,hf⟩:=h;match l,e with
 |[c0,c1,c2],_=>
  obtain⟨xs,n',_,H3,_,g,hg⟩:=P2 underlying32 hf;have i:=hg 0 _ rfl;have j:=hg 1 _ rfl;have m:=hg 2 _ rfl;have e:A xs=3:=g;match xs,e with
  |[x0,x1,x2],_=>
   obtain⟨a,e,_,g⟩:=P0 underlying5 i;have o:c0=.int .u8 a:=by have h:P5 (Tryz.prog.cellsOf 5) [c0,c1,c2]=[Pk .u8 a]:=e;rw[rL]at h;simpa using h
   obtain⟨n1,e1,_,e⟩:=P0 underlying3 j;have q:c1=.int .i64 n1:=by have h:P5 (Tryz.prog.cellsOf 3) [c1,c2]=[Pk .i64 n1]:=e1;rw[dg]at h;simpa using h
   obtain⟨b,e2,_,e⟩:=P0 underlying3 m;have r:c2=.int .i64 b:=by have h:P5 (Tryz.prog.cellsOf 3) [c2]=[Pk .i64 b]:=e2;rw[dg]at h;simpa using h
   subst o q r;exact⟨a,n1,b,rfl⟩
theorem EF(g:Pm Tryz.prog W .any base 36 v)(h:P3 enc Tryz.prog W 0 (λ_=>true) true 36 v d p):∃s:Sg4,v=.agg #[.int .i64 s.seq,.int .i64 s.fmt,.int .i64 s.first,.int .i64 s.count]:=by
 obtain⟨cs,rfl,f⟩:=okWide_struct underlying36 g;rw[Aw]at f;obtain⟨l⟩:=cs;obtain⟨fuel,hf⟩:=h;match l,f with
 |[c0,c1,c2,c3],_=>
  obtain⟨xs,n',_,H3,_,g,hg⟩:=P2 underlying36 hf;have i:=hg 0 _ rfl;have j:=hg 1 _ rfl;have k:=hg 2 _ rfl;have m:=hg 3 _ rfl;have f:A xs=4:=g;match xs,f with
  |[x0,x1,x2,x3],_=>
   obtain⟨a,f,_,g⟩:=P0 underlying3 i;have o:c0=.int .i64 a:=by have h:P5 (Tryz.prog.cellsOf 3) [c0,c1,c2,c3]=[Pk .i64 a]:=f;rw[dg]at h;simpa using h
   obtain⟨n1,e1,_,f⟩:=P0 underlying3 j;have q:c1=.int .i64 n1:=by have h:P5 (Tryz.prog.cellsOf 3) [c1,c2,c3]=[Pk .i64 n1]:=e1;rw[dg]at h;simpa using h
   obtain⟨b,e2,_,f⟩:=P0 underlying3 k;have r:c2=.int .i64 b:=by have h:P5 (Tryz.prog.cellsOf 3) [c2,c3]=[Pk .i64 b]:=e2;rw[dg]at h;simpa using h
   obtain⟨e,e3,_,f⟩:=P0 underlying3 m;have t:c3=.int .i64 e:=by have h:P5 (Tryz.prog.cellsOf 3) [c3]=[Pk .i64 e]:=e3;rw[dg]at h;simpa using h
   subst o q r t;exact⟨⟨a,n1,b,e⟩,rfl⟩
theorem FP(g:Pm Tryz.prog W .any base 25 v)(h:P3 enc Tryz.prog W 0 (λ_=>true) true 25 v d p):∃D:Dk,DkV W v D/\A D.fs<=Rows.uptoBulk d/\A D.q<=Rows.uptoBulk d/\D.fuse<=9223372036854775807:=by
 obtain⟨cs,rfl,f⟩:=okWide_struct underlying25 g;rw[Oz]at f;obtain⟨l⟩:=cs;obtain⟨fuel,hf⟩:=h;match l,f with
 |[c0,c1,c2,c3,c4],_=>
  obtain⟨xs,n',_,H3,_,g,hg⟩:=P2 underlying25 hf;have j:=hg 0 _ rfl;have k:=hg 1 _ rfl;have m:=hg 2 _ rfl;have o:=hg 3 _ rfl;have r:=hg 4 _ rfl;have f:A xs=5:=g;match xs,f with
  |[x0,x1,x2,x3,x4],_=>
   have s:P1 enc Tryz.prog W 0 (λ_=>true) true n' 22 [c0]=some x0:=by have h:P1 enc Tryz.prog W 0 (λ_=>true) true n' 22 (P5 (Tryz.prog.cellsOf 22) [c0,c1,c2,c3,c4])=some x0:=j;rw[OA]at h;exact h
   have t:P1 enc Tryz.prog W 0 (λ_=>true) true n' 23 [c1]=some x1:=by have h:P1 enc Tryz.prog W 0 (λ_=>true) true n' 23 (P5 (Tryz.prog.cellsOf 23) [c1,c2,c3,c4])=some x1:=k;rw[OC]at h;exact h
   obtain⟨b,e2,_,f⟩:=P0 underlying3 m;have w:c2=.int .i64 b:=by have h:P5 (Tryz.prog.cellsOf 3) [c2,c3,c4]=[Pk .i64 b]:=e2;rw[dg]at h;simpa using h
   obtain⟨a,e3,_,i⟩:=P0 underlying3 o;have x:c3=.int .i64 a:=by have h:P5 (Tryz.prog.cellsOf 3) [c3,c4]=[Pk .i64 a]:=e3;rw[dg]at h;simpa using h
   obtain⟨e,f,_⟩:=DataW.trod_bool underlying4 r;have y:c4=.bool e:=by have h:P5 (Tryz.prog.cellsOf 4) [c4]=[Value.bool e]:=f;rw[FJ]at h;simpa using h
   subst w x y;obtain⟨fs,h1,h2⟩:=ET s;obtain⟨q,h3,h4⟩:=Fq t;have hD:d=.agg [x0.1,x1.1,x2.1,x3.1,x4.1]:=by have:=congrArg (·.1) H3;simpa using this
   refine⟨⟨fs,q,b,a,e⟩,⟨c0,c1,rfl,h1,h3⟩,?_,?_,?_⟩
   ·rw[hD];simp only[Rows.uptoBulk,Rows.uptoBulkAll];show A fs<=_;omega
   ·rw[hD];simp only[Rows.uptoBulk,Rows.uptoBulkAll];show A q<=_;omega
   ·have:-9223372036854775808<=a/\a<=9223372036854775807:=by simpa[Lit.wf,Ps,Pu,Pq,Pr]using i
    exact this.2
theorem En{b a:Value}{x:DataW H×List MemPlace}(hf:P1 enc Tryz.prog W 0 (λ_=>true) true n 27 [b,a]=some x):∃s f:Int,b=.int .i64 s/\a=.int .i64 f:=by
 obtain⟨xs,n',_,H3,_,g,hg⟩:=P2 underlying27 hf;have i:=hg 0 _ rfl;have j:=hg 1 _ rfl;have e:A xs=2:=g;match xs,e with
 |[x0,x1],_=>
  obtain⟨e,g,_,k⟩:=P0 underlying3 i;have i:b=.int .i64 e:=by have h:P5 (Tryz.prog.cellsOf 3) [b,a]=[Pk .i64 e]:=g;rw[dg]at h;simpa using h
  obtain⟨n1,e1,_,b⟩:=P0 underlying3 j;have b:a=.int .i64 n1:=by have h:P5 (Tryz.prog.cellsOf 3) [a]=[Pk .i64 n1]:=e1;rw[dg]at h;simpa using h
  exact⟨e,n1,i,b⟩
theorem Fa(t:Pm Tryz.prog W .any base 30 v)(h:P3 enc Tryz.prog W 0 (λ_=>true) true 30 v d p):∃(m:Mf) (u:Value),v=.agg #[.int .i64 m.next,.int .i64 m.term,.int .i64 m.vote,.int .i64 m.sq,.int .i64 m.sf,u]/\Sgs W u m.segs/\A m.segs<=Rows.uptoBulk d:=by
 obtain⟨cs,rfl,e⟩:=okWide_struct underlying30 t;rw[MC]at e;obtain⟨l⟩:=cs;obtain⟨fuel,hf⟩:=h;match l,e with
 |[c0,c1,c2,c3,c4,c5],_=>
  obtain⟨xs,n',_,H3,_,i,hg⟩:=P2 underlying30 hf;have k:=hg 0 _ rfl;have o:=hg 1 _ rfl;have q:=hg 2 _ rfl;have r:=hg 3 _ rfl;have s:=hg 4 _ rfl;have g:A xs=5:=i;match xs,g with
  |[x0,x1,x2,x3,x4],_=>
   obtain⟨a,j,_,E⟩:=P0 underlying3 k;have w:c0=.int .i64 a:=by have h:P5 (Tryz.prog.cellsOf 3) [c0,c1,c2,c3,c4,c5]=[Pk .i64 a]:=j;rw[dg]at h;simpa using h
   obtain⟨n1,e1,_,F⟩:=P0 underlying3 o;have x:c1=.int .i64 n1:=by have h:P5 (Tryz.prog.cellsOf 3) [c1,c2,c3,c4,c5]=[Pk .i64 n1]:=e1;rw[dg]at h;simpa using h
   obtain⟨b,e2,_,G⟩:=P0 underlying3 q;have y:c2=.int .i64 b:=by have h:P5 (Tryz.prog.cellsOf 3) [c2,c3,c4,c5]=[Pk .i64 b]:=e2;rw[dg]at h;simpa using h
   have z:P1 enc Tryz.prog W 0 (λ_=>true) true n' 27 [c3,c4]=some x3:=by have h:P1 enc Tryz.prog W 0 (λ_=>true) true n' 27 (P5 (Tryz.prog.cellsOf 27) [c3,c4,c5])=some x3:=r;rw[L4]at h;exact h
   have B:P1 enc Tryz.prog W 0 (λ_=>true) true n' 28 [c5]=some x4:=by have h:P1 enc Tryz.prog W 0 (λ_=>true) true n' 28 (P5 (Tryz.prog.cellsOf 28) [c5])=some x4:=s;rw[L5]at h;exact h
   subst w x y;obtain⟨D,C,rfl,rfl⟩:=En z;obtain⟨f,h1,h2⟩:=Ep B;have hD:d=.agg [x0.1,x1.1,x2.1,x3.1,x4.1]:=by have:=congrArg (·.1) H3;simpa using this
   refine⟨⟨a,n1,b,D,C,f⟩,c5,rfl,h1,?_⟩;rw[hD];simp only[Rows.uptoBulk,Rows.uptoBulkAll];show A f<=_;omega
end
