/- Merged -/
import Derived.Test.YteggfecbjgbndaaGreatDoorZy27
import Derived.Shelf.Sort.Plain
import Derived.Shelf.Slices.In.SortNone
import Derived.Sort.OwnSorted
set_option linter.all false
set_option maxHeartbeats 8000000
set_option maxRecDepth 100000
open Go.Proofs.Tryz
open Go.Value renaming slice->G,int->H
open Go.Mv renaming aN->I
open Go.Proofs.Tryz renaming prog->O
open Go.IntKind renaming i64->R
open Option renaming some->U
open Go.Obj renaming cells->V
open Array renaming getElem?_eq_some_iff->P0,replicate_zero->P1,replicate_succ->P2
open Nat renaming le_trans->P3,le_succ->P4,reduceSub->P5,reduceAdd->P6,zero_le->P7
open List renaming getElem?_eq_getElem->P8,length_map->P9,length_mergeSort->Pa,length_nil->Pb,mem_cons->Pc,append_toArray->Pd,size_toArray->Pe,push_toArray->Pf,getElem?_map->Pg,append_assoc->Ph,cons_append->Pi,mem_append->Pj
open Go.RowKit.Below renaming setCell->Pk
open Go.World renaming cell?_of_block->Pl,block_lt_of_cell?->Pm
open Option.some renaming inj->Pn
open Go.Oper renaming semAt_some->Po
namespace Go.Proofs
open Go.Shelf
def Tryz.lays190_ren:Go.Shelf.Ren:=⟨fun | 190=>165 | 125=>217 | 258=>216 | 128=>264 | 129=>265 | 302=>255 | 303=>256 | 304=>257 | 305=>258 | 306=>259 | 307=>260 | 308=>261 | 309=>262 | 310=>263 | 333=>284 | 329=>285 | 330=>286 | 334=>287 | 335=>288 | 336=>289 | 344=>299 | n=>n,fun | 31=>102 | 9=>9 | 3=>3 | 46=>245 | 0=>0 | 51=>190 | 53=>303 | 4=>4 | 183=>295 | 182=>294 | 131=>275 | 5=>5 | 218=>321 | 222=>325 | 228=>334 | 229=>335 | n=>n,fun | n=>n⟩
theorem Tryz.lays190:Go.Proofs.Lays.n190 O Tryz.lays190_ren:={
 mixed:=by kernel_rfl
 f125:=func217.trans (congrArg some (by kernel_rfl))
 f128:=func264.trans (congrArg some (by kernel_rfl))
 f129:=func265.trans (congrArg some (by kernel_rfl))
 f190:=func165.trans (congrArg some (by kernel_rfl))
 f258:=func216.trans (congrArg some (by kernel_rfl))
 f302:=func255.trans (congrArg some (by kernel_rfl))
 f303:=func256.trans (congrArg some (by kernel_rfl))
 f304:=func257.trans (congrArg some (by kernel_rfl))
 f305:=func258.trans (congrArg some (by kernel_rfl))
 f306:=func259.trans (congrArg some (by kernel_rfl))
 f307:=func260.trans (congrArg some (by kernel_rfl))
 f308:=func261.trans (congrArg some (by kernel_rfl))
 f309:=func262.trans (congrArg some (by kernel_rfl))
 f310:=func263.trans (congrArg some (by kernel_rfl))
 f329:=func285.trans (congrArg some (by kernel_rfl))
 f330:=func286.trans (congrArg some (by kernel_rfl))
 f333:=func284.trans (congrArg some (by kernel_rfl))
 f334:=func287.trans (congrArg some (by kernel_rfl))
 f335:=func288.trans (congrArg some (by kernel_rfl))
 f336:=func289.trans (congrArg some (by kernel_rfl))
 f344:=func299.trans (congrArg some (by kernel_rfl))
 t0:=underlying0
 a0:=Tryz.isAgg0
 z0:=Tryz.sizeOf0
 v0:=Tryz.zeroValue0
 t3:=underlying3
 a3:=Tryz.isAgg3
 z3:=Tryz.sizeOf3
 v3:=Tryz.zeroValue3
 t4:=underlying4
 a4:=Tryz.isAgg4
 z4:=Tryz.sizeOf4
 v4:=Tryz.zeroValue4
 t5:=underlying5
 a5:=Tryz.isAgg5
 z5:=Tryz.sizeOf5
 v5:=Tryz.zeroValue5
 t9:=underlying9
 a9:=Tryz.isAgg9
 z9:=Tryz.sizeOf9
 v9:=Tryz.zeroValue9
 t31:=underlying102
 a31:=Tryz.isAgg102
 z31:=Tryz.sizeOf102
 v31:=Tryz.zeroValue102
 t46:=underlying245
 a46:=Tryz.isAgg245
 z46:=Tryz.sizeOf245
 v46:=Tryz.zeroValue245
 t51:=underlying190
 a51:=Tryz.isAgg190
 z51:=Tryz.sizeOf190
 v51:=Tryz.zeroValue190
 t53:=underlying303
 a53:=Tryz.isAgg303
 z53:=Tryz.sizeOf303
 v53:=Tryz.zeroValue303
 t131:=underlying275
 a131:=Tryz.isAgg275
 z131:=Tryz.sizeOf275
 v131:=Tryz.zeroValue275
 t182:=underlying294
 a182:=Tryz.isAgg294
 z182:=Tryz.sizeOf294
 v182:=Tryz.zeroValue294
 t183:=underlying295
 a183:=Tryz.isAgg295
 z183:=Tryz.sizeOf295
 v183:=Tryz.zeroValue295
 t218:=underlying321
 a218:=Tryz.isAgg321
 z218:=Tryz.sizeOf321
 v218:=Tryz.zeroValue321
 t222:=underlying325
 a222:=Tryz.isAgg325
 z222:=Tryz.sizeOf325
 v222:=Tryz.zeroValue325
 t228:=underlying334
 a228:=Tryz.isAgg334
 z228:=Tryz.sizeOf334
 v228:=Tryz.zeroValue334
 t229:=underlying335
 a229:=Tryz.isAgg335
 z229:=Tryz.sizeOf335
 v229:=Tryz.zeroValue335 }
open Go.Sort Go.RowKit in
theorem Tryz.slices_Sort_string(blk c a:Nat)(b:List (List UInt8))(w:World)(h:Holds encStr w blk c b.toArray)(g:blk<w.heap.size)(f:b.length<4611686018427387904):
  Calls O 165 #[G (U ⟨blk,c,none⟩) b.length a] w λe w'=>
   e=.returned (.tuple #[])/\∃n i,w'=grow (putRow encStr (Sort.ahead w n) blk c (b.mergeSort λx y=>decide (x<=y)).toArray) i:=Any.slices_Sort_string Tryz.lays190 blk c a b w h g f
open Go.RowKit Go.Sort in
theorem Tryz.slices_Sort_string_none(p:Option Addr)(a:Nat)(w:World):
  Calls O 165 #[G p 0 a] w λe w'=>e=.returned (.tuple #[])/\w'=w:=Any.slices_Sort_string_none Tryz.lays190 p a w
end Go.Proofs

namespace Go.Proofs.YteggfecbjgbndaaGreatDoor
open Go.RowKit Go.Mv Go.Shelf
variable {cs:Array Value} {d:Dk} {l:List Fil} {base bo n r sz:Nat} {t:TypeId} {v:Value} {W W' W0 w:World}
theorem MF(base:Nat)(v:Value)(a:List (List UInt8))(w:World)(j:w.ownsRow base 9 1 v a.length (a.map sv))(hl:a.length<=2000000):
  Calls O 165 #[v] w λe w'=>e=.returned (.tuple #[])/\w'.ownsRow base 9 1 v a.length ((a.mergeSort leB).map sv)/\w.grownBy w' v.ownBlock:=by
 rcases j.2 with⟨rfl,hx⟩|⟨g,c,o,rfl,f,hg,i,h,k,b⟩
 ·have m:a=[]:=List.eq_nil_of_length_eq_zero hx;subst m;refine(Tryz.slices_Sort_string_none none 0 w).mono ?_;rintro e w' ⟨rfl,rfl⟩;exact⟨rfl,by simpa using j,⟨rfl,rfl,rfl,xN _,λ_ _ _=>rfl⟩⟩
 ·have j:Go.Sort.Holds encStr w g 0 a.toArray:=holds_of_block hg (by have:=b;rw[Nat.mul_one]at this;exact this);refine(Tryz.slices_Sort_string g 0 c a w j (P0.1 hg).1 (by omega)).mono ?_;rintro e w' ⟨rfl,n,b,rfl⟩;refine⟨rfl,?_,grownBy_sorted _⟩;exact ownsRow_sorted (ts:=a.mergeSort leB) (Pa a) f hg i h k
theorem rS:(Tryz.prog.info? 9).map (λi=>(i.zero,i.size,i.bytes))=U (some (.string ⟨#[]⟩),1,16):=by kernel_rfl
theorem sr(l:List (List UInt8)):∀u∈l.map sv,u.oneCell'=true:=by
 intro u a;obtain⟨n,_,rfl⟩:=List.mem_map.1 a;rfl
def SoK(a bo:Nat)(k:Nat)(o:Obj):Prop:=(∀r,o≠.loop r)/\((k<a/\k≠bo)\/(a<=k/\o.ty=U 9))
theorem Bu{w':World}(b:Blk w bo t cs)(a:∀(k:Nat) (n:Int),cs[k]?≠some (H .u8 n))(c:∀p x,w.cell? p=U x->p.block≠bo->w'.cell? p=U x):∀ {es:List MapEntry} {l:List Fil},E2 w es l->E2 w' es l
 |[],[],_=>trivial
 |_::_,_::_,h=>⟨h.1,Bs.away h.2.1 (Bs.awayBlk h.2.1 b a) c,Bu b a c h.2.2⟩
 |[],_::_,h=>h.elim
 |_::_,[],h=>h.elim
structure SoO (W0:World) (bo:Nat) (W:World):Prop where
 old:∀ k o,W0.heap[k]?=U o->(∀ r,o≠.loop r)->k≠bo->W.heap[k]?=U o
 sz:W0.heap.size<=W.heap.size
theorem SoO.cell(h:SoO W0 bo W){p:Addr}{x:Value}(hc:W0.cell? p=U x)(c:p.block≠bo):W.cell? p=U x:=by
 obtain⟨o,b,a⟩:=cells_of_cell hc;exact(Pl ((h.old _ o b (λr e=>by rw[e]at a;cases a) c).trans b.symm)).trans hc
theorem SoO.fmap(h:SoO W0 bo W)(g:FMap W0 r l)(a:Blk W0 bo t cs)(f:∀(k:Nat) (n:Int),cs[k]?≠some (H .u8 n)):FMap W r l:=by
 obtain⟨es,c,hb,hs,he⟩:=g;have b:r≠bo:=by
  rintro rfl;rw[show W0.heap[r]?=_ from a]at hb;cases hb
 exact⟨es,c,h.old r _ hb (λr e=>(by cases e)) b,hs,Bu a f (λp x hc a=>h.cell hc a) he⟩
theorem SoO.boxed{b:Nat}(h:SoO W0 bo W)(c:Boxed W0 b t v)(a:b≠bo):Boxed W b t v:=h.old b _ c (λr e=>by cases e) a
theorem SoO.kept(h:SoO W0 bo W)(b:Kept (am (SoK W0.heap.size bo) n) W W'):SoO W0 bo W':=by
 refine⟨λk o c hl a=>?_,P3 h.sz b.size⟩;exact b.same k _ (h.old k o c hl a) (.inl ⟨hl,.inl ⟨(P0.1 c).1,a⟩⟩)
theorem SoO.ext(h:SoO W0 bo W)(a:Ext W W'):SoO W0 bo W':=
 ⟨λk o c hl b=>by
   have h1:=h.old k o c hl b;exact(a.block k (P0.1 h1).1).trans h1,P3 h.sz a.size⟩
theorem SoO.of_ext(bo:Nat)(a:Ext W0 W):SoO W0 bo W:=⟨λk o b _ _=>(a.block k (P0.1 b).1).trans b,a.size⟩
theorem IQ{b n1:Nat}(hn:b<=n1){xs:List Value}(h:W.ownsRow n1 9 1 v n xs)(f:Kept (am (SoK b bo) n1) W W'):W'.ownsRow n1 9 1 v n xs:=by
 refine⟨h.1,?_⟩;rcases h.2 with hn | ⟨g,a,c,rfl,hb,b,rest⟩
 ·exact .inl hn
 ·exact .inr ⟨g,a,c,rfl,hb,f.same _ _ b (.inl ⟨λr e=>(by cases e),.inr ⟨P3 hn hb,rfl⟩⟩),rest⟩
def SoR(x:Fil)(a:Array Value)(W:World):Prop:=∃C d,a = #[.agg #[sv x.1,G C x.2.length d]]/\OwnB W 0 (G C x.2.length d) x.2
theorem Ch:∀ {Z:List Ze},E2 w (Z.map (·.1)) (Z.map (·.2))->∀z∈Z,Bs w z.1.val z.2.2
 | z::Z,h,y,a=>by
  rcases Pc.1 a with rfl | a
  ·exact h.2.1
  ·exact Ch h.2.2 y a
theorem FIt.with_{i:Nat}{L:List Fil}(h:FIt W r i l L)(f:W'.heap[r]?=W.heap[r]?)(q:W'.heap[i]?=W.heap[i]?)(p:FMap W' r l):FIt W' r i l L:=by
 obtain⟨es,g,j,seen,m,Z,h1,h2,h3,h4,h5,k,c,e,h8,o⟩:=h;obtain⟨s,c',a,_,b⟩:=p;rw[f,h1]at a;cases a;rw[c,e]at b;exact⟨es,g,j,seen,m,Z,f.trans h1,q.trans h2,h3,h4,h5,k,c,e,λz a=>⟨(h8 z a).1,Ch b z a⟩,o⟩
structure SoC (r i:Nat) (l:List Fil) (W0:World) (v:Value) (ss:List (List UInt8)) (W:World):Prop where
 e:Ext W0 W
 ex:∃ L,FIt W r i l L/\(ss++L.map (·.1)).Perm (l.map (·.1))
 ow:W.ownsRow W0.heap.size 9 1 v ss.length (ss.map sv)
theorem pR{e:TypeId}{a:Nat}{xs:List Value}(h:W.ownsRow base e a v n xs){k:Nat}{o:Obj}(b:W.heap[k]?=U o)(hc:o.isCells=false):some k≠v.ownBlock:=by
 intro he;rcases h.2 with⟨rfl,_⟩|⟨g,a,a,rfl,_,hg,_⟩
 ·cases he
 ·cases he;rw[b]at hg;cases hg;cases hc
theorem FIt.objs{i:Nat}{L:List Fil}(h:FIt W r i l L):(∃es c,W.heap[r]?=U (.map es c))/\∃m a s c,W.heap[i]?=U (.mapIter m a s c):=by
 obtain⟨es,b,b,seen,b,Z,h1,h2,_⟩:=h;exact⟨⟨_,_,h1⟩,⟨_,_,_,_,h2⟩⟩
attribute [local go_sem] Po in
theorem EH(z W0:World)(K:Ext z W0)(r B bo:Nat)(l:List Fil)(hM:FMap z r l)(j:Boxed z B 142 (.map (some r)))(Jn:B≠bo){tb:TypeId}{cb:Array Value}(K2:Blk z bo tb cb)(HK:∀(k:Nat) (n:Int),cb[k]?≠some (H .u8 n))(hl:l.length<=2000000)(Ke:∀p∈l,p.2.length<=2000000):
  Seq O 164 #[.pointer (U ⟨B,0,none⟩)] SoR (SoK z.heap.size bo) (λ_ _=>False) (bP l) W0:=by
 intro B J B hJ B B h0;refine(callsIn_wd (ro:=none) (n:=9)).1 ?_;refine callsIn_of_wp func164 rfl trivial ?_ rfl;simp only[ntmps164,Pe,xC,Pb,P6,P5,P2,P1,Pf,Pd,xI,Pi];have Z:=(j.kept (row:=none) (Ext.grown K none) (by simp)).cell;have HM:=I hM;have HY:=I B;have Kh:=I j;have Jd:=I K2;clear hM B j K2;gi_wp2_with (gi_at_range;refine CJ rfl (.tmp 7) rfl underlying142 r l rfl (HM.ext K) ?_;intro w1 B j)
 have HC:=I (show SoC r W0.heap.size l W0 (G none 0 0) [] w1 from⟨j,⟨l,B,by simp⟩,⟨by simp,.inl ⟨rfl,rfl⟩⟩⟩);clear B j Z;obtain⟨i0,hi,Hz,HA,HD⟩:=info_parts rS;go_frame
 gi_loopw [3,4] (λj _ W=>∃(f:List (List UInt8)) (A:Option Addr) (c:Nat),j=G A f.length c/\Hid (SoC r W0.heap.size l W0 (G A f.length c) f W)) (λ_ _ W=>ld W r W0.heap.size)
 case atStart=>exact⟨[],none,0,rfl,HC⟩
 case round=>
  clear HC;obtain⟨f,A,c,rfl,HC⟩:=hrel;obtain⟨L,hI,j⟩:=HC.ex;have E:=I hI;have F:=I j;have HE:=I HC.e;have h:=I HC.ow;clear hI j HC;gi_wp2_with (gi_at_next;refine CP rfl (.tmp 8) rfl r W0.heap.size l L rfl E.out ?_ ?_)
  ·intro hL;subst hL;have j:f.Perm (l.map (·.1)):=by simpa using F.out
   have B:bP l=(f.mergeSort leB).map λn=>(n,(ak n l).getD []):=by unfold bP;rw[mergeSort_of_perm j]
   have Ku:(f.mergeSort leB).length=f.length:=Pa f;have Ka:f.length<=2000000:=by have:=j.length_eq;rw[P9]at this;omega
   have KJ:=I B;have Jf:=I Ku;clear j B Ku F E;gi_wp2_with (refine⟨trivial,?_⟩;gi_at_call 165;refine(callsIn_wd.2 (MF W0.heap.size _ f wr h Ka)).mono ?_;rintro e C⟨rfl,P,B⟩)
   have j:Ext W0 C:=Ext.grownOwn HE h B;have J2:=hJ [] W0 C h0 ⟨j.os,j.tape,j.output,j.size,λk o x _=>(j.block k (P0.1 x).1).trans x⟩;have KE:=I J2;have q:=I P;have y:=I (SoO.of_ext bo (xT K j));have Ky:=j.size;clear j J2 P B h HE h0 hi Hz HA HD;generalize f.mergeSort leB=N at *;gi_loopw [6,21] (λ_ i W=>∃k:Nat,k<=N.length/\i=H R k/\Hid (J ((bP l).take k) W)/\Hid (SoO z bo W)/\Hid (W.ownsRow W0.heap.size 9 1 (G A f.length c) f.length (N.map sv))/\W0.heap.size<=W.heap.size) (λ_ i _=>N.length-(intOf i).toNat)
   case atStart=>exact⟨0,P7 _,rfl,KE,y,q,Ky⟩
   case round=>
    clear KE y q;obtain⟨k,x,rfl,HJ,y,h,KT⟩:=hrel;have Ku:=Jf.out;by_cases X:k<N.length
    ·have Kb:SlR wr 1 (G A f.length c) f.length (N.map sv):=xW h.out;obtain⟨_,b,j,rfl,KZ⟩:=Kb.at_ (by omega);have HG:=KZ k (sv N[k]) (by rw[Pg,P8 X];rfl);obtain⟨bs,Y⟩:∃bs,(ak N[k] l).getD []=bs:=⟨_,rfl⟩;have Kr:bs.length<=2000000:=by
      rw[<-Y];cases hg:ak N[k] l with
      |none=>simp
      |some b0=>exact Ke _ (ib hg)
     have hx:(bP l)[k]?=U (N[k],bs):=by rw[KJ.out,Pg,P8 X,Option.map_some,Y]
     have j:k<(bP l).length:=(List.getElem?_eq_some_iff.1 hx).1;have z:bP l=(bP l).take k++(N[k],bs)::(bP l).drop (k+1):=by
      have B:(bP l)[k]=(N[k],bs):=by rw[P8 j]at hx;exact Pn hx
      rw[<-B];rw[<-List.drop_eq_getElem_cons j,List.take_append_drop]
     have B:(bP l).take (k+1)=(bP l).take k++[(N[k],bs)]:=by
      rw[List.take_succ_eq_append_getElem j];congr 2
      rw[P8 j]at hx;exact Pn hx
     have KK:=I z;have Jk:=I B;have X:=I Y;have KF:=I (y.fmap HM Jd HK);have Z:=(y.boxed Kh Jn).cell;clear KZ Kb Y hx z B j;generalize N[k]=n at *;simp only[sv]at HG;gi_wp2_with (first
      |(gi_at_lookup;refine CC rfl (.tmp 27) (.tmp 28) false rfl underlying142 underlying9 (nq _) r l rfl KF n rfl ?_;rw[X.out];intro A1 j j;have Hb:=I j;clear j)
      |(refine⟨trivial,?_⟩;gi_at_call 146;refine(callsIn_wd.2 (oY _ bs wr Hb Kr)).mono ?_;rintro e D⟨A2,c2,rfl,M,g⟩))
     have j:Moves (am (λ_ _=>False) W0.heap.size) wr D:=⟨g.os,g.tape,g.output,g.size,λk o x _=>(g.block k (P0.1 x).1).trans x⟩;have z:=HY ((bP l).take k) (n,bs) _ KK D #[.agg #[sv n,G A2 bs.length c2]] (hJ _ _ _ HJ j) (P3 KT g.size) ⟨A2,c2,rfl,ay M (P7 _)⟩;have Hy:=I z;have Kk:=I (y.ext g);have Jg:=I (ai h g);have Ko:=P3 KT g.size;clear z j M g Z Hb KF;refine ew Hy.out ?_;rintro e W' ⟨Q,⟨rfl,T⟩|⟨rfl,T⟩⟩
     ·refine⟨true,rfl,?_⟩;have j:=I T;have z:=I (Kk.kept Q);have y:=I (IQ K.size Jg Q);have Kp:=P3 Ko Q.size;clear T Q Hy HG;gi_wp2;exact⟨⟨k+1,by omega,by go_num,by rw[Jk.out];exact j.out,z,y,Kp⟩,by simp[intOf];omega⟩
     refine⟨false,rfl,?_⟩;have j:=I T;clear T Q Hy HG;gi_wp2;refine bodyPost_ret (results_none rfl _ _ _) rfl ?_;refine⟨⟨_,rfl⟩,.inr ⟨(bP l).take k++[(n,bs)],⟨(bP l).drop (k+1),?_⟩,j.out⟩⟩;rw[Ph];exact KK.symm
    have y:k=N.length:=by omega
    have j:J (bP l) wr:=by
     have:=HJ.out;rwa[List.take_of_length_le (by rw[KJ.out,P9];omega)]at this
    have z:=I j;have B:f.length<=k:=by omega
    clear j y;gi_wp2;refine bodyPost_end (results_none rfl _ _ _) rfl ?_;exact⟨⟨_,rfl⟩,.inl z.out⟩
  ·intro n b A1 Z S C y B H3 j J Q;have Ka:f.length+L.length=l.length:=by have:=F.length_eq;simpa using this
   have z:L.length=S.length+1:=by have:=y.length_eq;simpa using this
   have z:=I (j.ext HE (xN _));have P:=h.kept (row:=U W0.heap.size) ⟨j.os,j.tape,j.output,Nat.le_of_eq j.size.symm,λk x x=>j.block k (λe=>x (by rw[e]))⟩ (.inr (by obtain⟨m,a,s,c',x⟩:=E.objs.2;exact(pR h x rfl).symm));have q:=I P;have KD:=I B;have Ji:=I (show(f++[n]++S.map (·.1)).Perm (l.map (·.1))from by
    refine List.Perm.trans ?_ F.out;rw[Ph];refine List.Perm.append_left f ?_;exact(y.map (·.1)).symm)
   have Je:=I (show S.length<ld wr r W0.heap.size by rw[E.out.left];omega);clear y B H3 j J P E F h;simp only[sv]at Q⊢;gi_wp2_with (gi_at_builtin;refine lk _ rfl (.tmp 13) (.tmp 15) 102 rfl W0.heap.size 9 i0 _ 1 16 underlying102 hi Hz HA HD rfl (by decide) _ f.length (f.map sv) rfl (ai q (xA (xR _) _)) _ 1 [sv n] rfl (fu C [sv n] 9 1 rfl) (sr [n]) (by unfold maxLen;omega) (by omega) (by have:=z.size;simp;omega) ?_;intro h D M j)
   have h:Ext C (C.alloc (V #[sv n] 9)):=xA (xR _) _;have g:Ext W0 D:=Ext.grownOwn (xT z h) (ai q h) j;have KR:FIt D r W0.heap.size l S:=by
    obtain⟨⟨es,x,x⟩,m,y,y,y,y⟩:=(KD.ext h).objs;exact(KD.ext h).with_ (j.block _ (P0.1 x).1 (pR (ai q h) x rfl)) (j.block _ (P0.1 y).1 (pR (ai q h) y rfl)) (HM.ext (xT K g))
   obtain⟨A3,c3,rfl,_,_⟩:=xO (xW M);have h:D.ownsRow W0.heap.size 9 1 (G A3 (f++[n]).length c3) (f++[n]).length ((f++[n]).map sv):=by
    rw[xL,List.map_append];exact M
   exact⟨⟨f++[n],A3,c3,by rw[xL];rfl,⟨g,⟨S,KR,Ji.out⟩,h⟩⟩,by rw[KR.left];exact Je.out⟩
theorem CX{α:Type}{E:World->(Nat->Option Value)->α->Prop}(i:zec sz E){F:Fence}{nf:Nat}{y:Array Oper}{rest:List Oper}{o:Oper}{a:Act}{Q:Exit->Act->World->Prop}(Jt:o.guard=none)(s x:Operand)(T:TypeId)(J:o.op=.call { callee:=.builtin .append,args:=#[s,x],argTypes:=#[T,T] })(t:TypeId)(q:TypeInfo)(z:Value)(bytes:Nat)(hT:Tryz.prog.underlying T=U (.slice t))(hi:Tryz.prog.info? t=U q)(V:q.zero=U z)(M:q.size=sz)(N:q.bytes=bytes)(JE:z.cells.size=sz)(z:0<sz)(Jq:bytes<=1000)(base:Nat)(v:Value)(l:List α)(hs:a.eval s=v)(Hk:OwnX sz E t w base v l)(vx:Value)(m:List α)(B:List Value)(hx:a.eval x=vx)(L:SlR w sz vx m.length B)(C:RowOf sz E w B m)(R:0<m.length)(Y:∀g,v.ownBlock=U g->∀u∈B,bF g u)(Kt:l.length+m.length<=4000000)(K0:base<=w.heap.size)(h:∀A c w',OwnX sz E t w' base (G A (l.length+m.length) c) (l++m)->eP base w w'->w.grownBy w' v.ownBlock->wpListIn F nf O y Q rest (a.put o.dst (G A (l.length+m.length) c)) w'):wpListIn F nf O y Q (o::rest) a w:=by
 obtain⟨xs,h1,h2,h3⟩:=Hk;have Z:(l.length+m.length)*bytes<=140737488355328:=P3 (Nat.mul_le_mul Kt Jq) (by decide);obtain⟨y,w',X,g1,D⟩:=ep (P:=O) w base T o.type t q _ sz bytes hT hi V M N JE z v l.length xs h1 vx m.length B L (C.one i) (by unfold maxLen;omega) Z K0;have Hs:y.ownBlock=v.ownBlock\/y.ownBlock=U w.heap.size:=by
  obtain⟨hl,A,c,rfl,_,_,hc⟩:=L;obtain⟨b,H,rfl,K3⟩:=hc R;have y:∀j,(⟨b,H,none⟩:Addr).add j=⟨b,H+j,none⟩:=by intro j;unfold Addr.add;split<;>simp_all
  exact mn (P:=O) w base T o.type t q _ sz bytes hT hi V M N v l.length xs h1 ⟨b,H,none⟩ m.length c B hl R (λj u e=>by rw[y];exact K3 j u e) (C.one i) (by unfold maxLen;omega) Z X
 have S:∀ {q:List Value} {k:List α},RowOf sz E w q k->(∀g,v.ownBlock=U g->∀u∈q,bF g u)->RowOf sz E w' q k:=by
  intro q k I Jp;cases hg:v.ownBlock with
  |none=>
   refine I.keep i (I.fresh i) λp y hc _=>?_;exact(Pl (D.block _ (Pm _ _ hc) (by rw[hg];simp))).trans hc
  |some g=>
   refine I.keep i (Jp g hg) λp y hc q=>?_;exact(Pl (D.block _ (Pm _ _ hc) (by rw[hg];simpa using q))).trans hc
 refine wpListIn_plain Jt λK hK=>?_;have Kw:o.semAt F.round a.eval=execOp a.eval o:=by
  cases L:F.round with
  |none=>rw[Oper.semAt_none]
  |some l=>exact Po l _ o (by rw[J];intro c hc;cases hc)
 unfold Oper.wpIn;refine⟨?_,?_⟩
 ·intro f hf;simp[Oper.about,J,resolve,Target.leads,go_sem]at hf
 rw[Kw];unfold execOp;simp only[J,resolve,invoke,builtin,Sem.run_bind,Sem.run_pure,Result.andThen_ok,List.map_toArray,List.map_cons,List.map_nil,hs,hx,X];refine hK _ _ ?_;obtain⟨A,c,rfl,_,_⟩:=xO (xW g1);refine h A c w' ⟨xs++B,?_,(S h2 h3).append (S C Y),λg hg u e=>?_⟩ (λW0 q hb=>Ext.grownOwn q (ay h1 hb) D) D
 ·rw[xL];exact g1
 ·rcases Hs with hb | hb
  ·rw[hb]at hg;rcases Pj.1 e with e | e
   ·exact h3 g hg u e
   exact Y g hg u e
  ·rw[hb]at hg;cases hg;rcases Pj.1 e with e | e
   ·exact h2.fresh i u e
   ·exact C.fresh i u e
theorem Lb(r:Nat)(w:World):Calls O 97 #[.map (some r)] w λe w'=>e=.returned (.func (.func 164) #[] #[.pointer (U ⟨w.heap.size,0,none⟩)])/\w.alloc (V #[.map (some r)] 142)=w':=by
 go_enter func97,ntmps97
 go_wp2;go_ret;exact⟨rfl,rfl⟩
theorem nh(n b:List UInt8):∀l:List Fil,(aX n b l).length<=l.length+1
 |[]=>by simp[aX]
 | p::l=>by
  have:=nh n b l;rw[aX];split<;>simp<;>omega
theorem sh(n:List UInt8):∀l:List Fil,(aV n l).length<=l.length
 |[]=>by simp[aV]
 | p::l=>by
  have:=sh n l;rw[aV];split<;>simp<;>omega
theorem NM(m:List Fil)(o:Oq):(bW m o).length<=m.length+1:=by
 unfold bW;split
 ·exact nh _ _ _
 ·split
  ·split
   ·omega
   exact nh _ _ _
  ·split
   ·split
    ·omega
    rename_i b _;have h1:=nh o.t b (aV o.n m);have h2:=sh o.n m;omega
   ·split
    ·have:=sh o.n m;omega
    ·omega
theorem zO:∀(q:List Oq) (m:List Fil),(q.foldl bW m).length<=m.length+q.length
 |[],m=>by simp
 | o::q,m=>by
  have h1:=NM m o;have h2:=zO q (bW m o);rw[List.foldl_cons,xC];omega
theorem AI:∀l:List Fil,(dq l).length<=l.length
 |[]=>by simp[dq]
 | p::l=>by
  have h1:=AI l;have h2:=nh p.1 p.2 (dq l);rw[dq,xC];omega
theorem AH(fs:List Fil)(q:List Oq):(bD fs q).length<=fs.length+q.length:=by
 have h1:=zO q (dq fs);have h2:=AI fs;unfold bD;omega
theorem iW{p:Fil}:∀ {l:List Fil},p∈l->p.2.length<=tot l
 | q::l,h=>by
  rw[fy];rcases Pc.1 h with rfl | h
  ·omega
  ·have:=iW h;omega
theorem OwnB.awayT{g:Nat}{u:Value}{b:List UInt8}(h:OwnB W base u b){fr:Nat×Nat}(hg:W.heap[g]?=U (V cs t fr))(i:t≠5):bF g u:=by
 intro j j n c _ a he;subst a;subst he;rcases h.2 with⟨hn,_⟩|⟨a,a,a,e,_,f,_⟩
 ·cases hn
 ·cases e;rw[f]at hg;cases hg;exact i rfl
theorem OwnX.moves{α:Type}{E:World->(Nat->Option Value)->α->Prop}(a:zec sz E){A B:World}{l:List α}(h:OwnX sz E t A base v l)(hm:Moves (am (λ_ _=>False) n) A B):OwnX sz E t B base v l:=by
 obtain⟨xs,h1,h2,h3⟩:=h;refine⟨xs,hm.ownsRow h1 ?_,h2.keep a (h2.fresh a) λp x hc _=>hm.cell hc λo a b=>?_,h3⟩
 ·intro k a a;rintro(h | ⟨_,h⟩)
  ·exact h
  cases h
 ·rintro(h | ⟨_,h⟩)
  ·exact h
  ·rw[b]at h;cases h
theorem OwnX.putObj{α:Type}{E:World->(Nat->Option Value)->α->Prop}(c:zec sz E){A:World}{l:List α}(h:OwnX sz E t A base v l){D:Nat}{o:Obj}(f:A.heap[D]?=U o)(hc:o.isCells=false)(i:Obj):OwnX sz E t (A.putObj D i) base v l:=by
 obtain⟨xs,h1,h2,h3⟩:=h;refine⟨xs,⟨h1.1,?_⟩,h2.keep c (h2.fresh c) λp x c _=>fL c f hc i,h3⟩;rcases h1.2 with hn | ⟨g,b,j,rfl,hb,a,rest⟩
 ·exact .inl hn
 ·exact .inr ⟨g,b,j,rfl,hb,(World.putObj_heap_other (λe=>by subst e;rw[f]at a;cases a;cases hc)).trans a,rest⟩
theorem no1{A:Option Addr}{c:Nat}:∀(k:Nat) (z:Int),(#[G A n c]:Array Value)[k]?≠some (H .u8 z):=by
 intro k z h;match k,h with
 |0,h=>cases h
 |k+1,h=>simp at h
theorem Oa(tmps:Array Value)(W:World)(b:Nat)(A:Option Addr)(n c:Nat)(h4:tmps.getD 2 undef=.pointer (U ⟨b,0,none⟩))(hc:W.cell? ⟨b,0,none⟩=U (G A n c)):(results Tryz.f46 tmps).run O W=.ok (G A n c) W:=by
 have a:tmps[2]?.getD undef=.pointer (U ⟨b,0,none⟩):=by simpa using h4
 simp[results,results46,a,hc,go_sem]
structure NwI (w:World) (base bo:Nat) (Hp:List Fil) (X:World):Prop where
 bx:∃ v,Boxed X bo 22 v/\OwnF X base v Hp
 e:Ext w X
attribute [local go_sem] Po in
theorem M9(v:Value)(d:Dk)(w:World)(hD:DkV w v d)(S:d.fs.length<=1000000)(S:d.q.length<=1000000)(hb:tot d.fs+aL d.q<=2000000):
  Calls O 46 #[v] w λe w'=>∃A c,e=.returned (G A d.now.length c)/\OwnF w' w.heap.size (G A d.now.length c) d.now/\Ext w w':=by
 obtain⟨S,S,rfl,hF,hQ⟩:=hD;obtain⟨A,c,rfl,_,_⟩:=Fs.open_ hF;obtain⟨B,e2,rfl,_,_⟩:=Qs.open_ hQ;have S:Ext w ((w.alloc (V #[G A d.fs.length c,G B d.q.length e2,H R d.quota,H R d.fuse,.bool d.dead] 25)).alloc (V #[G none 0 0] 22)):=xA (xA (xR _) _) _;have KW:=(Blk.new w 25 #[G A d.fs.length c,G B d.q.length e2,H R d.quota,H R d.fuse,.bool d.dead]).alloc (V #[G none 0 0] 22);have Z:=Blk.new (w.alloc (V #[G A d.fs.length c,G B d.q.length e2,H R d.quota,H R d.fuse,.bool d.dead] 25)) 22 #[G none 0 0];rw[xS]at Z;have HC:=I (rM _ d _ (show DkV _ _ d from⟨_,_,rfl,hF.ext S,hQ.ext S⟩) (by omega) (by omega) (by omega));have Hh:=I S;have Hb:=I Z;have JC:=mT d.fs d.q;have Jw:=AH d.fs d.q;have K8:bP (bD d.fs d.q)=d.now:=Bq d.fs d.q;have HN:=I K8;have HT:=I (show tot (bD d.fs d.q)<=2000000 by omega);have HL:=I (show(bD d.fs d.q).length<=2000000 by omega);clear hF hQ S JC Jw K8 hb Z;obtain⟨g0,g1,g2,g3,g4⟩:=ae KW;clear KW;generalize bD d.fs d.q=M at *;refine(callsIn_wd (ro:=none) (n:=9)).1 ?_;refine callsIn_of_wp_marks func46 rfl trivial ?_ rfl;simp only[ntmps46,Pe,xC,Pb,P6,P5,P2,P1,Pf,Pd,xI,Pi];gi_wp2_with (first
  |(refine⟨trivial,?_⟩;gi_at_call 96;refine(callsIn_wd.2 HC.out).mono ?_;rintro e y⟨r,rfl,J3,JA,N⟩)
  |(refine⟨trivial,?_⟩;gi_at_call 97;refine(callsIn_wd.2 (Lb r y)).mono ?_;rintro e m⟨rfl,Z⟩))
 have S:Ext y m:=by rw[<-Z];exact xA (xR _) _
 have KY:Boxed m y.heap.size 142 (.map (some r)):=by rw[<-Z];exact Boxed.new y _ _
 clear Z;have Hj:=J3.ext S;have Z:=xT Hh (xT N S);have K2:Blk m (w.heap.size+1) 22 #[G none 0 0]:=Hb.ext (xT N S);have Jy:w.heap.size+1<y.heap.size:=by have:=N.size;simp only[xS]at this;omega
 have Jz:y.heap.size<m.heap.size:=KY.lt;have h0:NwI w m.heap.size (w.heap.size+1) [] m:=⟨⟨_,K2,OwnX.nil _ _ _⟩,Z⟩;obtain⟨i0,hi,Hz,HA,HD⟩:=info_parts sc;have Ke:∀p∈M,p.2.length<=2000000:=λp hp=>P3 (iW hp) HT.out;have Jc:=I Ke;have Ka:(bP M).length<=2000000:=by unfold bP;rw[P9,Pa,P9];exact HL.out
 have Jj:=I Ka;clear J3 JA N S Z g0 g1 g2 g3 g4 HC Hb Hh Ke Ka;refine ru (a:=⟨_,_⟩) rfl (enters_of func164 (by kernel_rfl) rfl)
  (λW1 hb hs=>EH m W1 hb r y.heap.size (w.heap.size+1) M Hj KY (by omega) K2 no1 HL Jc.out)
  (λk o h=>h.elim) (λk o h r e=>h.1 r e) (λx av W h=>by obtain⟨C,f,rfl,_⟩:=h;rfl)
  (NwI w m.heap.size (w.heap.size+1)) (λ_ _ _=>False) ?hI (λ_ _ _ _ h _=>h) h0
  (λx a' W=>∃L C f,a'=⟨#[.agg #[G A d.fs.length c,G B d.q.length e2,H R d.quota,H R d.fuse,.bool d.dead],.pointer (U ⟨w.heap.size,0,none⟩),.pointer (U ⟨w.heap.size+1,0,none⟩),.pointer (U ⟨L,0,none⟩),.agg #[G A d.fs.length c,G B d.q.length e2,H R d.quota,H R d.fuse,.bool d.dead],.map (some r),.func (.func 164) #[] #[.pointer (U ⟨y.heap.size,0,none⟩)],.agg #[sv x.1,G C x.2.length f],undef,undef,undef,undef,undef],[]⟩/\Blk W L 68 #[sv x.1,G C x.2.length f]/\OwnB W 0 (G C x.2.length f) x.2)
  ?hAx ?assign ?body ?done ?stop
 case hI=>
  rintro s X Y⟨⟨u,hb,i⟩,F⟩hm;refine⟨⟨u,hm.boxed hb ?_,OwnX.moves dz i hm⟩,hm.belowOf F ?_ (xN _)⟩
  ·rintro(h | h)
   ·exact h
   cases h.2
  rintro k o hk(h | h)
  ·exact h
  have:=h.1;omega
 case hAx=>
  rintro x a' X Y⟨L,C,f,rfl,hb,i⟩hm;refine⟨L,C,f,rfl,hm.same _ _ hb ?_,hm.ownsRow i ?_⟩
  ·rintro(h | h)
   ·exact h
   cases h.2
  intro k y _;rintro(h | h)
  ·exact h
  cases h.2
 case assign=>
  rintro l' J x KA W av y hx⟨⟨u,hb,i⟩,F⟩HR⟨C,f,rfl,K⟩hK;simp only[sv]at *;gi_wp2;exact hK _ _ (Kept.refl.alloc _) ⟨⟨u,hb.alloc _,OwnX.ext dz i (xA (xR _) _)⟩,xA F _⟩ ⟨_,C,f,rfl,Blk.new _ _ _,ai K (xA (xR _) _)⟩
 case body=>
  rintro l' J⟨n,b⟩KA a' W hx y y⟨⟨u,hb,i⟩,F⟩HR⟨L,C,f,rfl,JD,K⟩;dsimp only at *;obtain⟨z,E,rfl⟩:=i.open_;obtain⟨y,y⟩:=iF JD;have y:=hb.cell;have fb:=hb.frozen;have y:J.length+1<=2000000:=by have y:=congrArg List.length hx;rw[xL,xC]at y;have:=Jj.out;omega
  have T:Ext W (W.alloc (V #[sv n,G C b.length f] 68)):=xA (xR _) _;have KU:∀g,(Value.slice z J.length E).ownBlock=U g->∀y∈[sv n,G C b.length f],bF g y:=by
   intro g hg y y;obtain⟨_,cs,P⟩:=ee i hg;simp only[Pc,List.not_mem_nil,or_false]at y;rcases y with rfl | rfl
   ·exact da _ n
   exact OwnB.awayT K P (by decide)
  have B:=I KU;have y:=I i;have S:=I hb;have N:=I K;have L:=I F;clear KU i hb K F;simp only[sv]at *;gi_wp2_with (gi_at_builtin;refine CX dz rfl (.tmp 8) (.tmp 10) 22 rfl 68 i0 _ 40 underlying22 hi Hz HA HD rfl (by decide) (by decide) m.heap.size _ J rfl (OwnX.ext dz y T) _ [(n,b)] [.string ⟨n.toArray⟩,G C b.length f] rfl (fu W [.string ⟨n.toArray⟩,G C b.length f] 68 2 rfl) (rz (n:=n) (Bs.ext N.bs T)) (by simp) B (by simp;omega) (P3 HR T.size) ?_;intro B N m Q K m;simp only[xC,Pb,Nat.zero_add]at Q⊢;have b3:=((S.alloc (V #[.string ⟨n.toArray⟩,G C b.length f] 68)).kept m (λe=>by have:=(ee y e.symm).1;omega));have f:=b3.cell;have f:=b3.frozen)
  have f:=OwnF.setD (u:=G B (J.length+1) N) (j:=0) Q (by decide) b3 no1;refine⟨((Kept.refl.alloc _).grown m (λk o m hk=>?_)).setCell (λo hk _=>?_) _,⟨_,b3.set _,by simpa using f⟩,Pk (K w (xT L T) (by omega)) (P4 _) _⟩
  ·obtain⟨f,cs,P⟩:=ee y m;rw[hk]at P;cases P;rintro(⟨_,⟨h1,_⟩|⟨_,h1⟩⟩|⟨_,h1⟩)
   ·omega
   ·exact absurd (Pn h1) (by decide)
   cases h1
  rintro(⟨_,⟨_,h1⟩|⟨h1,_⟩⟩|⟨h1,_⟩)
  ·exact h1 rfl
  ·dsimp only at h1;omega
  dsimp only at h1;omega
 case done=>
  rintro D W hD⟨⟨u,hb,i⟩,F⟩hK;obtain⟨z,E,rfl⟩:=i.open_;have hc:=hb.cell;have hf:=hb.frozen;gi_wp2;have f:=dK hK rfl ⟨w.heap.size+1,0,none⟩ (G z (bP M).length E);have y:=fL (hb.set (G z (bP M).length E)).cell f rfl (.deferred none);have m:=OwnF.setD (u:=G z (bP M).length E) (j:=0) i (by decide) hb no1;have Q:=(OwnX.putObj dz m f rfl (.deferred none)).base (base':=w.heap.size) (by omega);refine dh f (G z (bP M).length E) (Oa _ _ _ z _ E rfl y) ⟨z,E,by rw[<-HN.out],by rw[<-HN.out];exact Q,?_⟩;exact cp (Pk F (P4 _) _) _
 case stop=>
  rintro D f J W _ _ h _;exact h.elim
structure Sz (n:Nat) (d:Dk):Prop where
 l:d.fs.length+d.q.length<=n
 t:tot d.fs+aL d.q<=n
 f:d.fuse<=9223372036854775807
theorem zQ(d:Dk):d.may=0\/d.may=2\/d.may=40:=by
 unfold Dk.may;split
 ·exact .inr (.inl rfl)
 ·split
  ·exact .inr (.inr rfl)
  ·exact .inl rfl
theorem rU{o:Oq}:∀ {l:List Oq},o∈l->o.b.length<=aL l
 | q::l,h=>by
  rw[eH];rcases Pc.1 h with rfl | h
  ·omega
  ·have:=rU h;omega
theorem nz(v:Value)(d:Dk)(n:Nat)(w:World)(hD:DkV w v d)(hn:n<=1000000)(hs:Sz n d):
  Calls O 51 #[v] w λe w'=>∃u,e=.returned u/\OwnDs w' w.heap.size u d/\Ext w w':=by
 obtain⟨h1,h2,_⟩:=hs;exact Me v d w hD (by omega) (by omega) (λf hf=>by have:=iW hf;omega) (λo a=>by have:=rU a;omega)
theorem BS(v:Value)(d:Dk)(n:Nat)(w:World)(hD:DkV w v d)(hn:n<=1000000)(hs:Sz n d):
  Calls O 171 #[v] w λe w'=>e=.returned (H R d.may)/\Ext w w':=by
 obtain⟨h1,h2,_⟩:=hs;exact L9 v d w hD (by omega) (by omega) (by omega)
theorem sD(v:Value)(d:Dk)(n:Nat)(w:World)(hD:DkV w v d)(hn:n<=1000000)(hs:Sz n d):
  Calls O 46 #[v] w λe w'=>∃A c,e=.returned (G A d.now.length c)/\OwnF w' w.heap.size (G A d.now.length c) d.now/\Ext w w':=by
 obtain⟨h1,h2,_⟩:=hs;exact M9 v d w hD (by omega) (by omega) (by omega)
theorem fR(d:Dk):d.now.length<=d.fs.length+d.q.length:=by
 have h:=AH d.fs d.q;have e:d.now.length=(bD d.fs d.q).length:=by
  rw[<-show bP (bD d.fs d.q)=d.now from Bq d.fs d.q];unfold bP;rw[P9,Pa,P9]
 omega
theorem lY(d:Dk):tot d.now<=tot d.fs+aL d.q:=by
 have h1:tot d.now=tot (bD d.fs d.q):=oW d.fs d.q;have h2:=mT d.fs d.q;omega
theorem Sz.burn(h:Sz n d):Sz n d.burn:=by
 obtain⟨h1,h2,h3⟩:=h;unfold Dk.burn;split
 ·exact⟨h1,h2,by dsimp only;omega⟩
 ·exact⟨h1,h2,h3⟩
theorem Sz.mono{m:Nat}(h:Sz n d)(hm:n<=m):Sz m d:=⟨P3 h.l hm,P3 h.t hm,h.f⟩
theorem Sz.sync(h:Sz n d):Sz n d.syncS.1:=by
 unfold Dk.syncS;split
 ·exact h
 ·refine Sz.burn ⟨?_,?_,h.f⟩
  ·have:=fR d;have:=h.l;simp only[Pb];omega
  ·have:=lY d;have:=h.t;show tot d.now+0<=n;omega
theorem Sz.doS(h:Sz n d)(o:Oq):Sz (n+1+o.b.length) (d.doS o).1:=by
 have hm:=h.mono (m:=n+1+o.b.length) (by omega);unfold Dk.doS;split
 ·exact hm
 ·split
  ·exact hm
  ·split
   ·exact hm
   ·split
    ·exact hm
    ·refine Sz.burn ⟨?_,?_,h.f⟩
     ·have:=h.l;show d.fs.length+(d.q++[o]).length<=_;simp;omega
     ·have:=h.t;show tot d.fs+aL (d.q++[o])<=_;rw[mG,eH];show _+(aL d.q+(o.b.length+0))<=_;omega
theorem Am{b:Nat}{A B:Option Addr}{c e:Nat}(f:Blk W b 25 (ap A d.fs.length c B d.q.length e d.quota d.fuse d.dead))(hf:OwnF W base (G A d.fs.length c) d.fs)(i:OwnQ W base (G B d.q.length e) d.q):
  Blk (iC W b d.fuse) b 25 (ap A d.burn.fs.length c B d.burn.q.length e d.burn.quota d.burn.fuse d.burn.dead)/\OwnF (iC W b d.fuse) base (G A d.burn.fs.length c) d.burn.fs/\OwnQ (iC W b d.fuse) base (G B d.burn.q.length e) d.burn.q
   /\ (∀(a:Nat) (t:TypeId) (cs:Array Value),a≠b->Blk W a t cs->Blk (iC W b d.fuse) a t cs)/\(∀w,Ext w W->w.heap.size<=b->Ext w (iC W b d.fuse)):=by
 unfold iC Dk.burn;by_cases h:0<d.fuse
 ·rw[if_pos h,if_pos h];have b1:Blk _ b 25 (ap A d.fs.length c B d.q.length e d.quota (d.fuse-1) d.dead):=f.set 3 (H R (d.fuse-1));have b2:Blk _ b 25 (ap A d.fs.length c B d.q.length e d.quota (d.fuse-1) (d.fuse-1==0)):=b1.set 4 (.bool (d.fuse-1==0));refine⟨b2,OwnF.setD (OwnF.setD hf (by decide) f aQ) (by decide) b1 aQ,OwnQ.setD (OwnQ.setD i (by decide) f aQ) (by decide) b1 aQ,λa t cs g a=>?_,λw j a=>?_⟩
  ·exact(a.other g 3 _).other g 4 _
  exact Pk (p:=⟨b,4,none⟩) (Pk (p:=⟨b,3,none⟩) j a _) a _
 ·rw[if_neg h,if_neg h];exact⟨f,hf,i,λ_ _ _ _ h=>h,λ_ h _=>h⟩
theorem rD(tmps:Array Value)(W:World)(b:Nat)(cs:Array Value)(e:Value)(h4:tmps.getD 2 undef=.pointer (U ⟨b,0,none⟩))(h3:tmps.getD 3 undef=e)(hb:Blk W b 25 cs)(hs:cs.size=5):(results Tryz.f109 tmps).run O W=.ok (.tuple #[.agg cs,e]) W:=by
 have c:tmps[2]?.getD undef=.pointer (U ⟨b,0,none⟩):=by simpa using h4
 have a:tmps[3]?.getD undef=e:=by simpa using h3
 have hl:=hb.load (P:=O) em rfl (by rw[hs];kernel_rfl);simp[results,results109,c,a,asAddr,hl,Sem.run_bind,Sem.run_pure,Result.andThen_ok]
theorem Mn(v:Value)(d:Dk)(n:Nat)(w:World)(hD:DkV w v d)(hn:n<=1000000)(hs:Sz n d):
  Calls O 109 #[v] w λe w'=>∃u,e=.returned (.tuple #[u,H R d.syncS.2])/\OwnD w' w.heap.size u d.syncS.1/\Ext w w':=by
 obtain⟨vf,vq,rfl,hF,hQ⟩:=hD;obtain⟨A,c,rfl,_,_⟩:=Fs.open_ hF;obtain⟨B,e2,rfl,_,_⟩:=Qs.open_ hQ;have s:=I (show Ext w ((w.alloc (V #[G A d.fs.length c,G B d.q.length e2,H R d.quota,H R d.fuse,.bool d.dead] 25)).alloc (V #[G none 0 0,G none 0 0,H R 0,H R 0,.bool false] 25))from xA (xA (xR _) _) _);have H0:=I (show Blk ((w.alloc (V #[G A d.fs.length c,G B d.q.length e2,H R d.quota,H R d.fuse,.bool d.dead] 25)).alloc (V #[G none 0 0,G none 0 0,H R 0,H R 0,.bool false] 25)) w.heap.size 25 (ap A d.fs.length c B d.q.length e2 d.quota d.fuse d.dead)from(Blk.new w _ _).alloc _);have h1:Blk ((w.alloc (V #[G A d.fs.length c,G B d.q.length e2,H R d.quota,H R d.fuse,.bool d.dead] 25)).alloc (V #[G none 0 0,G none 0 0,H R 0,H R 0,.bool false] 25)) (w.heap.size+1) 25 (ap none 0 0 none 0 0 0 0 false):=by
  have:=Blk.new (w.alloc (V #[G A d.fs.length c,G B d.q.length e2,H R d.quota,H R d.fuse,.bool d.dead] 25)) 25 #[G none 0 0,G none 0 0,H R 0,H R 0,.bool false];rwa[xS]at this
 have H1:=I h1;have HC:=I (nz _ d n _ (show DkV _ _ d from⟨_,_,rfl,hF.ext s.out,hQ.ext s.out⟩) hn hs);obtain⟨J,K,X,Y,Z⟩:=ae H0.out;have N:=I hs;obtain⟨S,B⟩:∃S,d.syncS=S:=⟨_,rfl⟩;rw[B];have M:=I B;go_enter func109,ntmps109
 go_wp2_with fail
 refine HC.mono ?_;rintro e L⟨u,rfl,⟨h,k,g,e3,rfl,of,oq⟩,B⟩;have a:=H0.ext B;have H3:=H1.ext B;have KB:=I (xT s B);have H8:OwnF L w.heap.size (G h d.fs.length k) d.fs:=OwnX.base of.f s.size;have i:OwnQ L w.heap.size (G g d.q.length e3) d.q:=OwnX.base oq s.size;have HW:Blk (aK L w.heap.size (G h d.fs.length k) (G g d.q.length e3) (H R d.quota) (H R d.fuse) (.bool d.dead)) w.heap.size 25 (ap h d.fs.length k g d.q.length e3 d.quota d.fuse d.dead):=aT a _ _ _ _ _;have s:w.heap.size+1≠w.heap.size:=by omega
 have HX:Blk (aK L w.heap.size (G h d.fs.length k) (G g d.q.length e3) (H R d.quota) (H R d.fuse) (.bool d.dead)) (w.heap.size+1) 25 (ap none 0 0 none 0 0 0 0 false):=((((H3.other s 0 _).other s 1 _).other s 2 _).other s 3 _).other s 4 _;have s:=OwnF.box1 (A':=h) (n':=d.fs.length) (c':=k) (B':=g) (m':=d.q.length) (e':=e3) (q':=d.quota) (f':=d.fuse) (d':=d.dead) H8 a;have B:=OwnQ.box1 (A':=h) (n':=d.fs.length) (c':=k) (B':=g) (m':=d.q.length) (e':=e3) (q':=d.quota) (f':=d.fuse) (d':=d.dead) i a;have KL:=I (aS KB (xN _) (G h d.fs.length k) (G g d.q.length e3) (H R d.quota) (H R d.fuse) (.bool d.dead));have HC:=I (BS _ d n _ (show DkV _ _ d from⟨_,_,rfl,s.fs,B.qs⟩) hn N.out);have P:=I HW;have Hl:=I HX;have KH:=I s;have KI:=I B;obtain⟨E,F,Q,T,U⟩:=aH a;obtain⟨J,K,X,Y,Z⟩:=ae a;go_wp2_with fail
 refine HC.mono ?_;rintro e w2⟨rfl,s⟩;have a:=P.ext s;have H3:=Hl.ext s;have H8:OwnF w2 w.heap.size (G h d.fs.length k) d.fs:=OwnX.ext dz KH s;have i:OwnQ w2 w.heap.size (G g d.q.length e3) d.q:=OwnX.ext dy KI s;have C:=I (xT KL s);have HC:=I (sD _ d n _ (show DkV w2 (.agg #[G h d.fs.length k,G g d.q.length e3,H R d.quota,H R d.fuse,.bool d.dead]) d from⟨_,_,rfl,H8.fs,i.qs⟩) hn N.out);obtain⟨J,K,X,Y,Z⟩:=ae a;rcases zQ d with hm | hm | hm
 ·have e1:S=({ d with fs:=d.now,q:=[] }.burn,0):=by rw[<-M.out];unfold Dk.syncS;rw[if_neg (by simp[hm])]
  subst e1;rw[hm];have P:=I a;have Hl:=I H3;go_wp2_with fail
  refine HC.mono ?_;rintro e w3⟨m,o,rfl,k,h⟩;have a:=P.ext h;have H3:=Hl.ext h;have s:OwnF w3 w.heap.size (G m d.now.length o) d.now:=OwnX.base k C.size;have k:=I (xT C h);have E:=a.frozen 0;have h:Blk _ w.heap.size 25 (ap m d.now.length o g d.q.length e3 d.quota d.fuse d.dead):=a.set 0 (G m d.now.length o);have F:=h.frozen 1;have B:Blk _ w.heap.size 25 (ap m d.now.length o none 0 0 d.quota d.fuse d.dead):=h.set 1 (G none 0 0);have g:=OwnF.setD (j:=1) (u:=G none 0 0) (OwnF.setD (j:=0) (u:=G m d.now.length o) s (by decide) a aQ) (by decide) h aQ;have K1:=I B;have KO:=I g;have g:=I (H3.other (show w.heap.size+1≠w.heap.size by omega) 0 (G m d.now.length o));have Hl:=I (g.other (show w.heap.size+1≠w.heap.size by omega) 1 (G none 0 0));have KN:=I (Pk (p:=⟨w.heap.size,1,none⟩) (Pk (p:=⟨w.heap.size,0,none⟩) k (xN _) (G m d.now.length o)) (xN _) (G none 0 0));obtain⟨J,K,_,_,_⟩:=ae a;go_wp2_with fail
  refine(AV w.heap.size _ _ d.quota d.fuse d.dead _ K1 N.f).mono ?_;rintro e g⟨rfl,k⟩;obtain⟨a,H8,i,h,g⟩:=Am (d:={ d with fs:=d.now,q:=[] }) K1 KO (OwnX.nil _ _ _);rw[k]at a H8 i h g;have H3:=h _ _ _ (by omega) Hl.out;have h:=g _ KN (xN _);obtain⟨g,D⟩:∃x,({ d with fs:=d.now,q:=[] }:Dk).burn=x:=⟨_,rfl⟩;rw[D]at a H8 i;have g:=I D;obtain⟨J,K,X,Y,Z⟩:=ae a;obtain⟨E,F,Q,T,U⟩:=aH H3;obtain⟨d0,d1,d2,d3,d4⟩:=ae H3;have b:=I H3;have y:=I H8;have z:=I i;have Q4:=I h;go_wp2_with fail
  refine bodyPost_ret (rD _ _ _ _ (H R 0) rfl rfl (aT b _ _ _ _ _) rfl) rfl ?_;have D:=g.out;subst D;exact⟨_,rfl,⟨_,_,_,_,rfl,OwnF.box1 y b.out,OwnQ.box1 z b.out⟩,aS Q4 (P4 _) _ _ _ _ _⟩
 ·have e1:S=(d,2):=by rw[<-M.out];unfold Dk.syncS;rw[if_pos (by simp[hm]),hm]
  subst e1;rw[hm];obtain⟨E,F,Q,T,U⟩:=aH H3;obtain⟨d0,d1,d2,d3,d4⟩:=ae H3;have b:=I H3;have y:=I H8;have z:=I i;go_wp2_with fail
  refine bodyPost_ret (rD _ _ _ _ (H R 2) rfl rfl (aT b _ _ _ _ _) rfl) rfl ?_;exact⟨_,rfl,⟨_,_,_,_,rfl,OwnF.box1 y b.out,OwnQ.box1 z b.out⟩,aS C (P4 _) _ _ _ _ _⟩
 ·have e1:S=(d,40):=by rw[<-M.out];unfold Dk.syncS;rw[if_pos (by simp[hm]),hm]
  subst e1;rw[hm];obtain⟨E,F,Q,T,U⟩:=aH H3;obtain⟨d0,d1,d2,d3,d4⟩:=ae H3;have b:=I H3;have y:=I H8;have z:=I i;go_wp2_with fail
  refine bodyPost_ret (rD _ _ _ _ (H R 40) rfl rfl (aT b _ _ _ _ _) rfl) rfl ?_;exact⟨_,rfl,⟨_,_,_,_,rfl,OwnF.box1 y b.out,OwnQ.box1 z b.out⟩,aS C (P4 _) _ _ _ _ _⟩
