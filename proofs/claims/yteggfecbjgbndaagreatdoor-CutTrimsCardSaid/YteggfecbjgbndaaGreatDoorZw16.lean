/- Merged -/
import Derived.Test.YteggfecbjgbndaaGreatDoorZw11
import Derived.Test.YteggfecbjgbndaaGreatDoorZw13
import Derived.Test.YteggfecbjgbndaaGreatDoorZw15
import Derived.Defers
import Derived.Recover
set_option linter.all false
set_option maxHeartbeats 8000000
set_option maxRecDepth 100000
open Go.Value renaming int→C,slice→J,bool→K,pointer→L,agg→M
open Go.IntKind renaming i64→D
open Go.Proofs.Tryz renaming prog→E
open Go.Mv renaming zhd→F
open Option renaming some→G,none→H
open Go.Obj renaming cells→I
open List renaming getElem?_eq_getElem→P0,mem_take_iff_getElem→P1,getElem?_eq_some_iff→P2,drop_of_length_le→P3,length_take→P4,getElem_mem→P5,all_eq_true→P6
open Go.World renaming ownsRow_nil→P7
open Array renaming replicate→P8
open Go.Mv.Blk renaming new→P9
open Option renaming isSome→Pa,getD→Pb
open Bool renaming and_eq_true→Pc,eq_iff_iff→Pd,or_eq_true→Pe
namespace Go.Proofs.YteggfecbjgbndaaGreatDoor
open Go.RowKit Go.Mv
theorem mcMan1a0 {P:Prop} (h:P:=by
 go_wp2_with (go_at_call 64;refine (zaV _ _ _ _).mono ?_;rintro e w2 ⟨rfl,rfl⟩;first | rw[hcn] | rw[show inB (-1) 1 4=false from rfl])
 all_goals go_ret
 all_goals exact ⟨by first | rfl | (exact ret_bool (by simp;omega)),zcg Hg.out _⟩):P:=h
theorem mcMan1a1 {P:Prop} (h:P:=by
 subst hR
 go_wp2_with (go_at_call 64;refine (zaV _ _ _ _).mono ?_;rintro e w2 ⟨rfl,rfl⟩;first | rw[hcn] | rw[show inB (-1) 1 4=false from rfl])
 go_ret
 exact ⟨rfl,zcg Hg.out _⟩):P:=h
structure Sg4 where
 seq:Int
 fmt:Int
 first:Int
 count:Int
deriving DecidableEq
def Sg4.cells (s:Sg4):List Value:=[C D s.seq,C D s.fmt,C D s.first,C D s.count]
def za1 (l:List Sg4):List Value:=l.flatMap Sg4.cells
theorem ziT (l:List Sg4):(za1 l).length=l.length*4:=by
 induction l with
 | nil=>rfl
 | cons e l ih=>simp[za1,Sg4.cells] at ih ⊢;omega
def Sgs (w:World) (v:Value) (l:List Sg4):Prop:=SlR w 4 v l.length (za1 l)
theorem Sgs.ext {w w':World} {v:Value} {l:List Sg4} (h:Sgs w v l) (he:Ext w w'):Sgs w' v l:=SlR.ext h he
theorem Sgs.keep {w w':World} {v:Value} {l:List Sg4} (h:Sgs w v l) (hk:∀ p u,w.cell? p=G u→w'.cell? p=G u):Sgs w' v l:=SlR.keep h hk
theorem Sgs.open_ {W:World} {v:Value} {l:List Sg4} (h:Sgs W v l):∃ A c,v=J A l.length c∧l.length≤c∧c≤9223372036854775807:=xO h
theorem Sgs.nil (w:World):Sgs w (J none 0 0) []:=SlR.nil w 4
theorem zef (l:List Sg4) (k:Nat) (h:k<l.length) (i:Nat) (hi:i<4):(za1 l)[k*4+i]?=l[k].cells[i]?:=by
 induction l generalizing k with
 | nil=>simp at h
 | cons e l ih =>
  rw[show za1 (e::l)=e.cells++za1 l from rfl]
  have hl:e.cells.length=4:=rfl
  cases k with
  | zero=>rw[List.getElem?_append_left (by omega)];simp
  | succ k =>
   rw[List.getElem?_append_right (by omega),hl,show (k+1)*4+i-4=k*4+i from by omega]
   simpa using ih k (by simpa using h)
theorem Sgs.at_ {w:World} {A:Option Addr} {m c:Nat} {l:List Sg4} (h:Sgs w (J A m c) l) (hn:0<l.length):m=l.length∧∃ b H1,A=G ⟨b,H1,H⟩∧∀ (k:Nat) (hk:k<l.length),
  w.cell? ⟨b,H1+k*4,H⟩=G (C D l[k].seq)∧w.cell? ⟨b,H1+k*4+1,H⟩=G (C D l[k].fmt)∧w.cell? ⟨b,H1+k*4+2,H⟩=G (C D l[k].first)∧w.cell? ⟨b,H1+k*4+3,H⟩=G (C D l[k].count):=by
 obtain ⟨rfl,b,H1,rfl,hc⟩:=SlR.at_ h hn
 refine ⟨rfl,b,H1,rfl,fun k hk=>⟨?_,?_,?_,?_⟩⟩
 ·exact hc (k*4) _ (zef l k hk 0 (by omega))
 ·exact hc (k*4+1) _ (zef l k hk 1 (by omega))
 ·exact hc (k*4+2) _ (zef l k hk 2 (by omega))
 ·exact hc (k*4+3) _ (zef l k hk 3 (by omega))
structure Mf where
 next:Int
 term:Int
 vote:Int
 sq:Int
 sf:Int
 segs:List Sg4
deriving DecidableEq
def inB (n lo hi:Int):Bool:=decide (lo≤n∧n≤hi)
def zbs (next seq fmt:Int):Bool:=decide (1≤seq∧seq≤next-1∧(fmt=1∨fmt=2))
def zbj (m:Mf) (i:Nat) (s:Sg4):Bool :=
 zbs m.next s.seq s.fmt&&decide (s.seq≠m.sq)&&inB s.first 1 1073741820&&(m.segs.take i).all (fun t=>decide (t.seq≠s.seq)) &&
 (match m.segs[i-1]? with | none=>true | some p=>decide (i=0∨s.first=p.first+p.count))&&(inB s.count 1 4||(decide (s.count = -1)&&decide (i+1=m.segs.length)))
def zcr (m:Mf):Bool:=inB m.next 1 1073741824&&inB m.term 0 1073741824&&inB m.vote 0 5&&decide (m.segs.length≤60)
def zcv (m:Mf):Bool:=decide (m.sq=0∧m.sf=0)||zbs m.next m.sq m.sf
def zbu (m:Mf):Nat→Bool
 | 0=>true
 | k+1=>zbu m k&&(match m.segs[k]? with | none=>false | some s=>zbj m k s)
def zaF (m:Mf):Bool:=zcr m&&zcv m&&zbu m m.segs.length
theorem zaV (n lo hi:Int) (w:World):Calls E 64 #[C D n,C D lo,C D hi] w fun e w'=>e=.returned (K (inB n lo hi))∧w=w':=by
 go_enter Tryz.func64,Tryz.ntmps64
 go_wp2_with fail
 all_goals go_ret
 all_goals exact ⟨ret_bool (by rw[Pd];unfold inB;simp;omega),rfl⟩
theorem zag {W:World} {b:Nat} {t:TypeId} {a v u x y z:Value} (h:Blk W b t #[a,v,u,x,y,z]):W.cell? ⟨b,0,H⟩=G a∧W.cell? ⟨b,1,H⟩=G v∧W.cell? ⟨b,2,H⟩=G u∧W.cell? ⟨b,3,H⟩=G x∧W.cell? ⟨b,4,H⟩=G y∧W.cell? ⟨b,5,H⟩=G z :=
 ⟨h.cell 0 rfl,h.cell 1 rfl,h.cell 2 rfl,h.cell 3 rfl,h.cell 4 rfl,h.cell 5 rfl⟩
theorem zaK {W:World} {b:Nat} {t:TypeId} {a v u x:Value} (h:Blk W b t #[a,v,u,x]):W.cell? ⟨b,0,H⟩=G a∧W.cell? ⟨b,1,H⟩=G v∧W.cell? ⟨b,2,H⟩=G u∧W.cell? ⟨b,3,H⟩=G x :=
 ⟨h.cell 0 rfl,h.cell 1 rfl,h.cell 2 rfl,h.cell 3 rfl⟩
theorem ze1 (next term vote sq sf:Int) (v:Value) (seq fmt:Int) (hn:1≤next∧next≤1073741824) (w:World) :
  Calls E 65 #[M #[C D next,C D term,C D vote,C D sq,C D sf,v],C D seq,C D fmt] w fun e w'=>e=.returned (K (zbs next seq fmt))∧Ext w w':=by
 have h1:IntKind.i64.wrap (next-1)=next-1:=by rw[IntKind.wrap_i64];omega
 obtain ⟨h2,h3⟩:=hn
 go_enter Tryz.func65,Tryz.ntmps65
 go_wp2_with (go_at_call 64;refine (zaV _ _ _ _).mono ?_;rintro e w1 ⟨rfl,rfl⟩)
 all_goals go_ret
 all_goals refine ⟨ret_bool ?_,xA (xR _) _⟩
 all_goals (rw[Pd];simp[zbs,inB] at *;omega)
def mfC (m:Mf) (v:Value):Array Value:=#[C D m.next,C D m.term,C D m.vote,C D m.sq,C D m.sf,v]
theorem zcg {a b:World} (h:Ext a b) (n:Nat):Ext a (b.drewN n):=zqG h n
theorem zmL {w w':World} {b H1:Nat} {l:List Sg4} (he:Ext w w') (h:∀ (k:Nat) (hk:k<l.length),
   w.cell? ⟨b,H1+k*4,H⟩=G (C D l[k].seq)∧w.cell? ⟨b,H1+k*4+1,H⟩=G (C D l[k].fmt)∧w.cell? ⟨b,H1+k*4+2,H⟩=G (C D l[k].first)∧w.cell? ⟨b,H1+k*4+3,H⟩=G (C D l[k].count)) :
  ∀ (k:Nat) (hk:k<l.length),
   w'.cell? ⟨b,H1+k*4,H⟩=G (C D l[k].seq)∧w'.cell? ⟨b,H1+k*4+1,H⟩=G (C D l[k].fmt)∧w'.cell? ⟨b,H1+k*4+2,H⟩=G (C D l[k].first)∧w'.cell? ⟨b,H1+k*4+3,H⟩=G (C D l[k].count) :=
 fun k hk=>⟨he.cell (h k hk).1,he.cell (h k hk).2.1,he.cell (h k hk).2.2.1,he.cell (h k hk).2.2.2⟩
theorem zoz (m:Mf) (v:Value) (i:Nat) (hi:i<m.segs.length) (Kr:m.segs.length≤60) (hn:1≤m.next∧m.next≤1073741824) (Hl:∀ t∈m.segs.take i,1≤t.first∧t.first≤1073741820∧-1≤t.count∧t.count≤4) (w:World) (hS:Sgs w v m.segs) :
  Calls E 66 #[M #[C D m.next,C D m.term,C D m.vote,C D m.sq,C D m.sf,v],C D i] w fun e w'=>e=.returned (K (zbj m i m.segs[i]))∧Ext w w':=by
 obtain ⟨A,c,rfl,Hv,K8⟩:=hS.open_;obtain ⟨_,b,H1,rfl,H9⟩:=hS.at_ (by omega);obtain ⟨s0,s1,s2,s3⟩:=H9 i hi;obtain ⟨s,hs⟩:∃ s,m.segs[i]=s:=⟨_,rfl⟩
 rw[hs] at s0 s1 s2 s3 ⊢
 have HC:=F H9
 have HV:zbj m i s=zbj m i s:=rfl
 obtain ⟨R,hR⟩:∃ R,zbj m i s=R:=⟨_,rfl⟩;rw[hR];have HR:=F hR;have Hs:=F hs;have Hh:=F Hl;have H7:=P9 w 30 #[C D m.next,C D m.term,C D m.vote,C D m.sq,C D m.sf,J (G ⟨b,H1,H⟩) m.segs.length c]
 have hX:Ext w (w.alloc (I #[C D m.next,C D m.term,C D m.vote,C D m.sq,C D m.sf,J (G ⟨b,H1,H⟩) m.segs.length c] 30)):=xA (xR _) _
 obtain ⟨m0,m1,m2,m3,m4,m5⟩:=zag H7;have t0:=hX.cell s0;have t1:=hX.cell s1;have t2:=hX.cell s2;have t3:=hX.cell s3
 have KA:(i:Int)<(m.segs.length:Int):=by omega
 have K7:Blk ((w.alloc (I #[C D m.next,C D m.term,C D m.vote,C D m.sq,C D m.sf,J (G ⟨b,H1,H⟩) m.segs.length c] 30)).alloc (I #[C D s.seq,C D s.fmt,C D s.first,C D s.count] 36)) (w.heap.size+1) 36 #[C D s.seq,C D s.fmt,C D s.first,C D s.count]:=by
  have:=P9 (w.alloc (I #[C D m.next,C D m.term,C D m.vote,C D m.sq,C D m.sf,J (G ⟨b,H1,H⟩) m.segs.length c] 30)) 36 #[C D s.seq,C D s.fmt,C D s.first,C D s.count]
  rwa [xS] at this
 have K6:Ext w ((w.alloc (I #[C D m.next,C D m.term,C D m.vote,C D m.sq,C D m.sf,J (G ⟨b,H1,H⟩) m.segs.length c] 30)).alloc (I #[C D s.seq,C D s.fmt,C D s.first,C D s.count] 36)):=xA hX _
 have Ha:=H7.alloc (I #[C D s.seq,C D s.fmt,C D s.first,C D s.count] 36)
 have Hz:=fun (W:World)=>ze1 m.next m.term m.vote m.sq m.sf (J (G ⟨b,H1,H⟩) m.segs.length c) s.seq s.fmt hn W
 have HI:=F Hz;have KE:=F hn;clear hR hs Hl H9 Hz hn HV hS
 go_enter Tryz.func66,Tryz.ntmps66
 go_wp2_with fail
 refine (HI.out _).mono ?_
 rintro e w1 ⟨rfl,H0⟩;have HE:=F (xT K6 H0);have E0:=HE;obtain ⟨M0,M1,M2,M3,M4,M5⟩:=zag (Ha.ext H0);obtain ⟨S0,S1,S2,S3⟩:=zaK (K7.ext H0);have K3:=zmL HE.out HC.out;have HY:=F K3;clear K3 HC HI H7 Ha K7 hX K6 H0 HE m0 m1 m2 m3 m4 m5 t0 t1 t2 t3 s0 s1 s2 s3 M0 M1 M2 M4 S1
 cases hf:zbs m.next s.seq s.fmt with
 | false =>
  have hR:R=false:=by rw[←HR.out];unfold zbj;rw[hf];rfl
  subst hR;clear HR hf;go_wp2_with fail;go_ret
  exact ⟨rfl,E0.out⟩
 | true =>
 by_cases hq:s.seq=m.sq
 ·have hR:R=false:=by rw[←HR.out];unfold zbj;simp[hq]
  subst hR;clear HR hf;go_wp2_with fail;go_ret
  exact ⟨rfl,E0.out⟩
 cases hw:inB s.first 1 1073741820 with
 | false =>
  have hR:R=false:=by rw[←HR.out];unfold zbj;simp[hw]
  subst hR;clear HR hf
  go_wp2_with (go_at_call 64;refine (zaV _ _ _ _).mono ?_;rintro e w2 ⟨rfl,rfl⟩;rw[hw])
  go_ret
  exact ⟨rfl,E0.out⟩
 | true =>
 have H2:Hid (((m.segs.take i).all (fun t=>decide (t.seq≠s.seq)) &&
 (match m.segs[i-1]? with | none=>true | some p=>decide (i=0∨s.first=p.first+p.count))&&(inB s.count 1 4||(decide (s.count = -1)&&decide (i+1=m.segs.length))))=R):=F (by
  rw[←HR.out];unfold zbj;simp[hf,hw,hq];try rfl)
 clear HR hf
 go_wp2_with (go_at_call 64;refine (zaV _ _ _ _).mono ?_;rintro e w2 ⟨rfl,rfl⟩;rw[hw])
 go_loopw [6] (fun x W=>∃ j:Nat,j≤i∧x=C D j∧Hid (∀ q (_:q<j) (h2:q<m.segs.length),m.segs[q].seq≠s.seq)∧Ext w1 W) (fun x _=>i-(intOf x).toNat)
 case atStart=>exact ⟨0,by omega,rfl,F fun q hq=>by omega,xR _⟩
 case round =>
  obtain ⟨j,hj,rfl,Hn,H6⟩:=hrel;have Hg:=F (xT E0.out H6);have K4:=zmL H6 HY.out;have HJ:=F K4;have N3:=H6.cell M3;have N5:=H6.cell M5;have T0:=H6.cell S0;have T2:=H6.cell S2;have T3:=H6.cell S3;have HEq:=F H6;clear K4 HY H6 M3 M5 S0 S2 S3
  by_cases hlt:j<i
  ·have Kp:j<m.segs.length:=by omega
   obtain ⟨c0,_,_,_⟩:=HJ.out j Kp
   have hp:m.segs[j].seq=s.seq→R=false:=fun h=>by
    rw[←H2.out]
    have:((m.segs.take i).all (fun t=>decide (t.seq≠s.seq)))=false:=by
     rw[List.all_eq_false]
     exact ⟨m.segs[j],P1.2 ⟨j,by omega,rfl⟩,by simpa using h⟩
    rw[this];simp
   have hq:m.segs[j].seq≠s.seq→∀ q (_:q<j+1) (h2:q<m.segs.length),m.segs[q].seq≠s.seq:=fun h q h3 h2=>by
     by_cases e:q=j
     ·subst e;exact h
     ·exact Hn.out q (by omega) h2
   have Hp:=F hp;have Hq:=F hq;clear hp hq H2 Hn
   generalize m.segs[j].seq=x at *
   generalize s.seq=y at *
   by_cases hx:x=y
   ·have hR:=Hp.out hx
    subst hR hx;go_wp2_with fail
    go_quiet (fail)
    go_wp2_with fail;go_ret
    exact ⟨rfl,zcg Hg.out _⟩
   ·have Ki:=F (Hq.out hx)
    go_wp2_with fail
    go_quiet (fail)
    go_wp2_with fail
    go_roundw
    case rel=>exact ⟨j+1,by omega,by go_num,Ki,zcg HEq.out _⟩
    case measure=>simp[intOf];omega
  ·obtain rfl:j=i:=by omega
   have HD:((m.segs.take j).all (fun t=>decide (t.seq≠s.seq)))=true:=by
    rw[P6];intro x hx;obtain ⟨q,hq,rfl⟩:=P1.1 hx
    simpa using Hn.out q (by omega) (by omega)
   have H3:Hid ((((match m.segs[j-1]? with | none=>true | some p=>decide (j=0∨s.first=p.first+p.count))&&(inB s.count 1 4||(decide (s.count = -1)&&decide (j+1=m.segs.length)))))=R):=F (by
    rw[←H2.out,HD];rfl)
   clear H2 HD Hn HEq
   cases j with
   | zero =>
    have Hd:Hid ((inB s.count 1 4||(decide (s.count = -1)&&decide (0+1=m.segs.length)))=R):=F (by
     rw[←H3.out];cases m.segs[0-1]? <;> simp)
    clear H3 HJ N3
    have hz:decide ((0:Int)<((0:Nat):Int))=false:=by decide
    go_wp2_with fail
    go_quiet (fail)
    cases hcn:inB s.count 1 4 with
    | true =>
     have hR:R=true:=by rw[←Hd.out,hcn];rfl
     exact mcMan1a1
    | false =>
     by_cases hc1m:s.count = -1
     ·by_cases hlast:0+1=m.segs.length
      ·have hR:R=true:=by rw[←Hd.out];simp[hc1m,hlast]
       have Kq:((m.segs.length:Int)-1)=(0:Int):=by omega
       subst hR;clear hlast
       exact mcMan1a0
      ·have hR:R=false:=by rw[←Hd.out,hcn];simp[hc1m,hlast]
       subst hR
       exact mcMan1a0
     ·have hR:R=false:=by rw[←Hd.out,hcn];simp[hc1m]
      exact mcMan1a1
   | succ k =>
    have hk:k<m.segs.length:=by omega
    obtain ⟨_,_,d2,d3⟩:=HJ.out k hk
    obtain ⟨p1,p2,p3,p4⟩:=Hh.out m.segs[k] (P1.2 ⟨k,by omega,rfl⟩)
    have Ka:m.segs[k+1-1]?=G m.segs[k]:=by rw[Nat.add_sub_cancel];exact P0 hk
    have HK:Hid ((decide (s.first=m.segs[k].first+m.segs[k].count)&&(inB s.count 1 4||(decide (s.count = -1)&&decide (k+1+1=m.segs.length))))=R):=F (by
     rw[←H3.out,Ka];simp)
    clear H3 HJ Ka Hh
    generalize m.segs[k].first=pf at *
    generalize m.segs[k].count=pc at *
    have KF:IntKind.i64.wrap (pf+pc)=pf+pc:=by rw[IntKind.wrap_i64];omega
    by_cases hch:s.first=pf+pc
    ·have Hd:Hid ((inB s.count 1 4||(decide (s.count = -1)&&decide (k+1+1=m.segs.length)))=R):=F (by
      rw[←HK.out];simp[hch])
     clear HK;go_wp2_with fail
     go_quiet (fail)
     cases hcn:inB s.count 1 4 with
     | true =>
      have hR:R=true:=by rw[←Hd.out,hcn];rfl
      exact mcMan1a1
     | false =>
      by_cases hc1m:s.count = -1
      ·by_cases hlast:(k+1)+1=m.segs.length
       ·have hR:R=true:=by rw[←Hd.out];simp[hc1m,hlast]
        have Kq:((m.segs.length:Int)-1)=((k+1):Int):=by omega
        subst hR;clear hlast
        exact mcMan1a0
       ·have hR:R=false:=by rw[←Hd.out,hcn];simp[hc1m,hlast]
        subst hR
        exact mcMan1a0
      ·have hR:R=false:=by rw[←Hd.out,hcn];simp[hc1m]
       exact mcMan1a1
    ·have hR:R=false:=by rw[←HK.out];simp[hch]
     subst hR;clear HK;go_wp2_with fail
     go_quiet (fail)
     go_wp2_with fail;go_ret
     exact ⟨rfl,zcg Hg.out _⟩
def zd9 (n:Nat) (count:Int):Bool:=(decide (count = -1)&&(decide (n<1)||decide (4<n)))||(decide (count≠-1)&&decide ((n:Int)≠count))
def zfu (fs:List Fil) (s:Sg4):Option (List Ent):=match zbc fs (zaw 3 s.seq s.fmt) with
 | none=>none
 | some b=>if (zdj rT b s.fmt).err≠0 then none else if (zdj rT b s.fmt).first≠s.first then none else if zd9 (zdj rT b s.fmt).log.length s.count=true then none else some (zdj rT b s.fmt).log
def zu8 (w:World) (r:Option (List Ent)) (e:Ending) (w':World):Prop:=∃ v,e=.returned (.tuple #[v,C D (if r.isSome then 0 else 130)])∧OwnE w' w.heap.size v (r.getD [])∧Ext w w'
theorem zo5 {fs:List Fil} {r:Option (List UInt8)} {b:List UInt8} (h:zbc fs r=G b):∃ f∈fs,f.2=b:=by
 unfold zbc at h
 split at h
 ·cases h
 ·cases hg:fs[(zc5 fs r).toNat]? with
  | none=>rw[hg] at h;cases h
  | some f =>
   rw[hg] at h
   obtain rfl:f.2=b:=by simpa using h
   obtain ⟨hi,rfl⟩:=P2.1 hg
   exact ⟨_,P5 hi,rfl⟩
theorem zlf (v:Value) (fs:List Fil) (s:Sg4) (w:World) (hS:StW w) (hF:Fs w v fs) (hl:fs.length≤4000000) (Hf:∀ f∈fs,f.2.length≤2000000):Calls E 16 #[v,M #[C D s.seq,C D s.fmt,C D s.first,C D s.count]] w (zu8 w (zfu fs s)):=by
 obtain ⟨A,c,rfl,h1,h2⟩:=Fs.open_ hF
 have hX:Ext w (w.alloc (I #[C D s.seq,C D s.fmt,C D s.first,C D s.count] 36)):=xA (xR _) _
 have H7:=P9 w 36 #[C D s.seq,C D s.fmt,C D s.first,C D s.count];have key:=zgc _ fs 3 s.seq s.fmt _ (hS.ext hX) (hF.ext hX) hl;obtain ⟨R,hR⟩:∃ R,zfu fs s=R:=⟨_,rfl⟩;rw[hR];unfold zfu at hR
 have H4:∀ b,zbc fs (zaw 3 s.seq s.fmt)=G b→b.length≤2000000:=fun b h=>by
  obtain ⟨f,hf,rfl⟩:=zo5 h;exact Hf f hf
 obtain ⟨rb,HH⟩:∃ r,zbc fs (zaw 3 s.seq s.fmt)=r:=⟨_,rfl⟩;rw[HH] at key hR H4;have HR:=F hR;have He:=F key;obtain ⟨m0,m1,m2,m3⟩:=zaK H7;clear hR key hF hS HH Hf
 go_enter Tryz.func16,Tryz.ntmps16
 go_wp2_with fail
 refine He.out.mono ?_
 rintro e w1 ⟨v1,rfl,Hu,H0⟩;have E1:=xT hX H0;have Ha:=H7.ext H0;obtain ⟨p0,p1,p2,p3⟩:=zaK Ha;have Kf:=F Ha;have Hc:=F E1;clear m0 m1 m2 m3 H7 Ha hX H0 E1
 cases rb with
 | none =>
  obtain rfl:none=R:=HR.out
  dsimp only[Pa]
  go_wp2_with fail
  go_ret2
  exact ⟨_,rfl,P7 _ _ _ _,Hc.out⟩
 | some b =>
  have Hf:=H4 b rfl
  dsimp only[Pa,Pb] at Hu ⊢
  have H5:=zlm v1 b s.fmt w1 Hu Hf
  have H2:Hid ((if (zdj rT b s.fmt).err≠0 then none else if (zdj rT b s.fmt).first≠s.first then none else if zd9 (zdj rT b s.fmt).log.length s.count=true then none else some (zdj rT b s.fmt).log)=R):=HR
  obtain ⟨r,hr⟩:∃ r,zdj rT b s.fmt=r:=⟨_,rfl⟩;rw[hr] at H5 H2;have Ht:=F H5;clear H5 hr H4 HR Hu;go_wp2_with fail
  refine Ht.out.mono ?_
  rintro e w2 ⟨vl,rfl,HU,Hx⟩
  generalize ((r.first:Nat):Int)=rf at *
  have K9:Es w2 vl r.log:=xW HU
  obtain ⟨Al,cl,rfl,_,_⟩:=xO K9;have K0:=F HU;have Hj:=Kf.out.ext Hx
  have HL:Ext w2 (w2.alloc (I #[C D rf,J Al r.log.length cl,C D r.used] 90)):=xA (xR _) _
  obtain ⟨q0,q1,q2,q3⟩:=zaK (Hj.ext HL);have Ho:=F (xT Hc.out (xT Hx HL));have HZ:=F HL;have Kd:=P9 w2 90 #[C D rf,J Al r.log.length cl,C D r.used];obtain ⟨u0,u1,u2,_,_,_⟩:=zba Kd;clear p0 p1 p2 p3 K9 HU Hj HL Kd Hx
  by_cases he:r.err=0
  case neg =>
   obtain rfl:none=R:=by rw[←H2.out,if_pos he]
   have Ko:(r.err != 0)=true:=by simpa using he
   go_wp2_with fail
   go_ret2
   exact ⟨_,rfl,P7 _ _ _ _,Ho.out⟩
  have Ko:(r.err != 0)=false:=by simpa using he
  by_cases hf:rf=s.first
  case neg =>
   obtain rfl:none=R:=by rw[←H2.out,if_neg (fun h=>h he),if_pos hf]
   go_wp2_with fail
   go_ret2
   exact ⟨_,rfl,P7 _ _ _ _,Ho.out⟩
  have H3:Hid ((if zd9 r.log.length s.count=true then none else some r.log)=R):=F (by have h:=H2.out;rw[if_neg (fun h=>h he),if_neg (fun h=>h hf)] at h;exact h)
  clear H2;subst hf
  by_cases c1:s.count = -1
  ·have Kj:(s.count == -1)=true:=by simpa using c1
   have Kk:(s.count != -1)=false:=by simpa using c1
   by_cases n1:r.log.length<1
   ·have Ky:(r.log.length:Int)<1:=by omega
    obtain rfl:none=R:=by rw[←H3.out,if_pos (by unfold zd9;simp[c1];left;simpa using n1)]
    clear H3;go_wp2_with fail
    go_ret2
    exact ⟨_,rfl,P7 _ _ _ _,Ho.out⟩
   ·have Ky:¬ (r.log.length:Int)<1:=by omega
    by_cases n4:4<r.log.length
    ·have Kz:(4:Int)<(r.log.length:Int):=by omega
     obtain rfl:none=R:=by rw[←H3.out,if_pos (by unfold zd9;simp[c1,n4])]
     clear H3;go_wp2_with fail
     go_ret2
     exact ⟨_,rfl,P7 _ _ _ _,Ho.out⟩
    ·have Kz:¬ (4:Int)<(r.log.length:Int):=by omega
     obtain rfl:some r.log=R:=by rw[←H3.out,if_neg (by unfold zd9;rw[decide_eq_false n1,decide_eq_false n4];simp[c1])]
     clear H3;go_wp2_with fail
     go_ret2
     exact ⟨_,rfl,zaf (zab K0.out HZ.out) Hc.out.size,Ho.out⟩
  ·have Kj:(s.count == -1)=false:=by simpa using c1
   have Kk:(s.count != -1)=true:=by simpa using c1
   by_cases ce:(r.log.length:Int)=s.count
   ·have Kl:((r.log.length:Int) != s.count)=false:=by simpa using ce
    obtain rfl:some r.log=R:=by rw[←H3.out,if_neg (by unfold zd9;simp[c1,ce];try omega)]
    clear H3;go_wp2_with fail
    go_ret2
    exact ⟨_,rfl,zaf (zab K0.out HZ.out) Hc.out.size,Ho.out⟩
   ·have Kl:((r.log.length:Int) != s.count)=true:=by simpa using ce
    obtain rfl:none=R:=by rw[←H3.out,if_pos (by unfold zd9;simp[c1,ce])]
    clear H3;go_wp2_with fail
    go_ret2
    exact ⟨_,rfl,P7 _ _ _ _,Ho.out⟩
def pan (e:Int):Ending:=.panicked [{ v:=.iface 45 (C D e),recovered:=false }]
theorem zkj (e:Int) (w:World):Calls E 36 #[.bool true,C D e] w fun en w'=>en=.returned (.tuple #[])∧w=w':=by
 go_enter Tryz.func36,Tryz.ntmps36
 go_wp2
 go_end0
 exact ⟨rfl,rfl⟩
theorem zsU (e:Int) (w:World):Calls E 36 #[.bool false,C D e] w fun en w'=>en=pan e∧w=w':=by
 go_enter Tryz.func36,Tryz.ntmps36
 go_wp2
 exact ⟨rfl,rfl,rfl⟩
def ztE (w:World) (r:Option (List UInt8)) (e:Int) (en:Ending) (w':World):Prop:=(match r with
 | some b=>∃ v,en=.returned v∧Bs w' v b
 | none=>en=pan e)∧Ext w w'
theorem zjt (v:Value) (fs:List Fil) (k s f e:Int) (w:World) (hS:StW w) (hF:Fs w v fs) (hl:fs.length≤4000000):Calls E 35 #[v,M #[C .u8 k,C D s,C D f],C D e] w (ztE w (zbc fs (zaw k s f)) e):=by
 obtain ⟨A,c,rfl,h1,h2⟩:=Fs.open_ hF
 have hX:Ext w (w.alloc (I #[C .u8 k,C D s,C D f] 32)):=xA (xR _) _
 have key:=zr3 _ fs k s f _ (hS.ext hX) (hF.ext hX) hl;obtain ⟨r,hr⟩:∃ r,zaw k s f=r:=⟨_,rfl⟩
 rw[hr] at key ⊢
 obtain ⟨m0,m1,m2⟩:=zdI (P9 w 32 #[C .u8 k,C D s,C D f]);have He:=F key;have HF:=F (hF.ext hX);have HX:=F hX;clear key hF hX hS hr;obtain ⟨R,hR⟩:∃ R,zbc fs r=R:=⟨_,rfl⟩;rw[hR];unfold zbc at hR;have HR:=F hR;clear hR
 by_cases hneg:zc5 fs r<0
 ·obtain rfl:none=R:=by have:=HR.out;rwa [if_pos hneg] at this
  obtain ⟨x,hx⟩:∃ x,zc5 fs r=x:=⟨_,rfl⟩;rw[hx] at He hneg
  go_enter Tryz.func35,Tryz.ntmps35
  go_wp2_with fail
  refine He.out.mono ?_
  rintro e1 w1 ⟨rfl,H0⟩
  have Kv:¬ (0≤x):=by omega
  have HE:=F (xT HX.out H0);go_wp2_with fail
  rw[decide_eq_false (show ¬ (0≤x) by omega)]
  with_reducible refine (zsU _ _).mono ?_
  rintro e2 w2 ⟨rfl,rfl⟩
  exact ⟨rfl,rfl,HE.out⟩
 ·obtain ⟨i,hi,Kb⟩:=zl7 fs r hneg
  have HQ:=HR.out;rw[if_neg hneg,hi] at HQ
  rw[show ((i:Int).toNat)=i from by omega,P0 Kb] at HQ
  obtain rfl:some fs[i].2=R:=HQ
  rw[hi] at He;obtain ⟨y,hy⟩:∃ y,fs[i].2=y:=⟨_,rfl⟩;rw[hy];have Hy:=F hy;clear HR hneg hi hy
  go_enter Tryz.func35,Tryz.ntmps35
  go_wp2_with fail
  refine He.out.mono ?_
  rintro e1 w1 ⟨rfl,H0⟩
  have H0:Ext _ w1:=H0
  have HE:=F (xT HX.out H0)
  have Kv:(0:Int)≤(i:Int):=by omega
  obtain ⟨_,b,H1,rfl,hc⟩:=(HF.out.ext H0).at_ (by omega);obtain ⟨Kn,B2,d2,Hv,HP⟩:=hc i Kb
  have KC:(i:Int)<(fs.length:Int):=by omega
  rw[Hy.out] at HP Hv;have HB:=F HP;clear hc HP Kn H0;go_wp2_with fail
  with_reducible refine (zkj _ _).mono ?_
  rintro e2 w2 ⟨rfl,rfl⟩;go_wp2_with fail;go_ret
  exact ⟨⟨J B2 y.length d2,rfl,HB.out⟩,HE.out⟩
theorem zmU (e:Int) (w:World):(Instr.typeAssert (.iface 45 (C D e)) 20 45 true).run E w=.ok (.tuple #[C D e,K true]) w:=by kernel_rfl
theorem zrM (w:World):(Instr.typeAssert .nilIface 20 45 true).run E w=.ok (.tuple #[C D 0,K false]) w:=by kernel_rfl
theorem zrS (p:Addr) (y:Value) (e:Int) (older:List PanicEntry) (w:World) (hc:w.cell? p=G y) (hz:w.frozen? p=false) :
  CallsD E 77 #[L (some p)] (.panicking ({ v:=.iface 45 (C D e),recovered:=false }::older)) w fun en u' w' =>
   en=.returned (.tuple #[])∧u'=.panicking ({ v:=.iface 45 (C D e),recovered:=true }::older)∧w'=w.setCell p (C D e):=by
 refine callsD_of_wpS Tryz.func77 rfl fun c₀ cs hu=>?_
 have h1:=zmU e
 apply wpS_seq
 apply wpS_region
 simp[wpOpsS,go_sem,recoverD,hu,Tryz.ntmps77,Exit.thenS,h1]
 apply wpS_seq
 apply wpS_region
 simp[wpOpsS,go_sem,Exit.thenS,P8]
 refine wpS_cond (t:=true) (by simp[Act.eval,P8]) ?_
 simp only[if_true]
 apply wpS_region
 simp[wpOpsS,go_sem,hc,hz,bodyPostS,results,Tryz.results77,P8]
theorem zqc (p:Addr) (w:World) :
  CallsD E 77 #[L (some p)] .returning w fun en u' w'=>en=.returned (.tuple #[])∧u'=.returning∧w'=w:=by
 refine callsD_of_wpS Tryz.func77 rfl fun c₀ cs hu=>?_
 have h1:=zrM
 apply wpS_seq
 apply wpS_region
 simp[wpOpsS,go_sem,recoverD,hu,Tryz.ntmps77,Exit.thenS,h1]
 apply wpS_seq
 apply wpS_region
 simp[wpOpsS,go_sem,Exit.thenS,P8]
 refine wpS_cond (t:=false) (by simp[Act.eval,P8]) ?_
 simp only[Bool.false_eq_true,if_false]
 refine wpS_of_wp ?_
 cases c₀
 simp_all [wp_skip,bodyPostS,results,Tryz.results77]
theorem mcRd3a0 {P:Prop} (h:P:=by
 obtain ⟨f0,f1,f2,f3,f4⟩:=zbJ hb3;obtain ⟨g0,g1,g2,g3,g4⟩:=zaa hb3;obtain ⟨p0,p1,p2,p3,p4⟩:=zaa K2;go_wp2_with fail
 refine bodyPost_ret (zf6 _ _ _ _ _ rfl rfl (za2 hb3 _ _ _ _ _) rfl) rfl ?_
 exact ⟨rfl,za3 (xA Ke.out _) (by omega) _ _ _ _ _⟩):P:=h
def zfJ (fs:List Fil) (m:Mf):Option Sta:=if m.sq=0 then some ⟨0,0,0,1,false⟩ else match zbc fs (zaw 4 m.sq m.sf) with | none=>none | some b=>zeE b m.sf
theorem zf6 (tmps:Array Value) (W:World) (b:Nat) (cs:Array Value) (u:Value) (h4:tmps.getD 4 undef=L (G ⟨b,0,H⟩)) (h5:tmps.getD 5 undef=u) (hb:Blk W b 41 cs) (hs:cs.size=5):(results Tryz.f42 tmps).run E W=.ok (.tuple #[.agg cs,u]) W:=by
 have hl:=hb.load (P:=E) zdx rfl (by rw[hs];kernel_rfl)
 have HO:tmps[4]?.getD undef=L (G ⟨b,0,H⟩):=by simpa using h4
 have Km:tmps[5]?.getD undef=u:=by simpa using h5
 simp[results,Tryz.results42,HO,Km,asAddr,hl]
theorem ziJ {fs:List Fil} {r:Option (List UInt8)} {b:List UInt8} (h:zbc fs r=G b):∃ f∈fs,f.2=b:=by
 unfold zbc at h
 split at h
 ·cases h
 ·cases hg:fs[(zc5 fs r).toNat]? with
  | none=>rw[hg] at h;cases h
  | some f =>
   rw[hg] at h
   obtain rfl:f.2=b:=by simpa using h
   obtain ⟨hi,rfl⟩:=P2.1 hg
   exact ⟨_,P5 hi,rfl⟩
theorem zn3 (v vs:Value) (fs:List Fil) (m:Mf) (w:World) (hS:StW w) (hF:Fs w v fs) (hG:Sgs w vs m.segs) (hl:fs.length≤4000000) (Hf:∀ f∈fs,f.2.length≤2000000) :
  Calls E 42 #[v,M #[C D m.next,C D m.term,C D m.vote,C D m.sq,C D m.sf,vs]] w (zsb w (zfJ fs m)):=by
 obtain ⟨A,c,rfl,_,_⟩:=Fs.open_ hF;obtain ⟨B,d,rfl,_,_⟩:=hG.open_;obtain ⟨x1,Kw⟩:∃ x:Array Value,#[C D m.next,C D m.term,C D m.vote,C D m.sq,C D m.sf,J B m.segs.length d]=x:=⟨_,rfl⟩;obtain ⟨x2,Kx⟩:∃ x:Array Value,#[C D 0,C D 0,C D 0,C D 0,K false]=x:=⟨_,rfl⟩;have H7:=P9 w 30 x1;have Ha:=H7.alloc (I x2 41);have Hj:=P9 (w.alloc (I x1 30)) 41 x2;rw[xS] at Hj
 have hX:Ext w ((w.alloc (I x1 30)).alloc (I x2 41)):=xA (xA (xR _) _) _
 subst Kw Kx;have key:=zgc _ fs 4 m.sq m.sf _ (hS.ext hX) (hF.ext hX) hl;obtain ⟨R,hR⟩:∃ R,zfJ fs m=R:=⟨_,rfl⟩;rw[hR];unfold zfJ at hR
 have H4:∀ b,zbc fs (zaw 4 m.sq m.sf)=G b→b.length≤2000000:=fun b h=>by
  obtain ⟨f,hf,rfl⟩:=ziJ h;exact Hf f hf
 obtain ⟨rb,HH⟩:∃ r,zbc fs (zaw 4 m.sq m.sf)=r:=⟨_,rfl⟩;rw[HH] at key hR H4;obtain ⟨m0,m1,m2,m3,m4,m5⟩:=zag Ha;have Hm:=F Ha;have Hr:=F Hj;have HX:=F hX;have He:=F key;have HM:=F H4;clear H7 Ha hX key hF hS hG Hf H4 HH
 go_enter Tryz.func42,Tryz.ntmps42
 by_cases hq:m.sq=0
 ·rw[if_pos hq] at hR
  subst hR
  have Kt:(m.sq==0)=true:=by simpa using hq
  have KD:=F hq;clear hq He;go_wp2_with fail
  refine (zeW _).mono ?_
  rintro e w1 ⟨rfl,H0⟩;have Hi:=F (Hj.ext H0);have Hc:=F (xT HX.out H0);obtain ⟨f0,f1,f2,f3,f4⟩:=zbJ Hi.out;obtain ⟨g0,g1,g2,g3,g4⟩:=zaa Hi.out;clear Hj m0 m1 m2 m3 m4 m5;go_wp2_with fail
  refine bodyPost_ret (zf6 _ _ _ _ _ rfl rfl (za2 Hi.out _ _ _ _ _) rfl) rfl ?_
  exact ⟨rfl,za3 Hc.out (by omega) _ _ _ _ _⟩
 ·rw[if_neg hq] at hR
  have Kt:(m.sq==0)=false:=by simpa using hq
  have HR:=F hR;have Hq:=F hq;clear hR Hj hq;go_wp2_with fail
  refine He.out.mono ?_
  rintro e w1 ⟨v1,rfl,Hu,H0⟩;have Hi:=F (Hr.out.ext H0);have Kg:=F (Hm.out.ext H0);have Hc:=F (xT HX.out H0);obtain ⟨f0,f1,f2,f3,f4⟩:=zbJ Hi.out;obtain ⟨g0,g1,g2,g3,g4⟩:=zaa Hi.out;obtain ⟨p0,p1,p2,p3,p4,p5⟩:=zag Kg.out;clear m0 m1 m2 m3 m4 m5 H0
  cases rb with
  | none =>
   obtain rfl:none=R:=HR.out
   dsimp only[Pa]
   go_wp2_with fail
   refine bodyPost_ret (zf6 _ _ _ _ _ rfl rfl (za2 Hi.out _ _ _ _ _) rfl) rfl ?_
   exact ⟨rfl,za3 Hc.out (by omega) _ _ _ _ _⟩
  | some b =>
   have Hf:=HM.out b rfl
   dsimp only[Pa,Pb] at Hu ⊢
   have H5:=zqx v1 b m.sf w1 Hu Hf
   have H2:Hid (zeE b m.sf=R):=HR
   obtain ⟨r,hr⟩:∃ r,zeE b m.sf=r:=⟨_,rfl⟩;rw[hr] at H5 H2
   obtain rfl:r=R:=H2.out
   have Ht:=F H5;clear H5 hr HR Hu H2;go_wp2_with fail
   refine Ht.out.mono ?_
   rintro e w2 ⟨h2,Hx⟩;have K1:=F (Hi.out.ext Hx);have Ke:=F (xT Hc.out Hx);clear f0 f1 f2 f3 f4 g0 g1 g2 g3 g4 p0 p1 p2 p3 p4 p5
   cases r with
   | none =>
    obtain rfl:=h2
    have K2:=P9 w2 41 #[C D 0,C D 0,C D 0,C D 0,K false];have hb3:=K1.out.alloc (I #[C D 0,C D 0,C D 0,C D 0,K false] 41)
    exact mcRd3a0
   | some s =>
    obtain rfl:=h2
    have K2:=P9 w2 41 #[C D s.idx,C D s.term,C D s.sum,C D s.lvl,K s.fin];have hb3:=K1.out.alloc (I #[C D s.idx,C D s.term,C D s.sum,C D s.lvl,K s.fin] 41)
    exact mcRd3a0
theorem mcMan2a0 {P:Prop} (h:P:=by
 obtain ⟨j,hj,rfl,HN,H6⟩:=hrel;have Hg:=F (xT E0.out H6);have HEq:=F H6;obtain ⟨m0,m1,m2,m3,m4,m5⟩:=zag (Hb.out.ext H6);clear H6
 by_cases hlt:j<m.segs.length
 ·have Hz:=zoz m (J A m.segs.length c) j hlt h4 Hn.out (zgq HN.out) wr (HS.out.ext Hg.out)
  have HI:=F Hz;clear Hz
  have Ks:(j:Int)<(m.segs.length:Int):=by omega
  go_wp2_with fail
  refine HI.out.mono ?_
  rintro e w4 ⟨rfl,K5⟩
  cases hso:zbj m j m.segs[j] with
  | false =>
   have hR:R=2:=by rw[←H3.out,ze8 hlt hso _ hlt];rfl
   subst hR;go_wp2_with fail;go_ret
   exact ⟨rfl,xT Hg.out K5⟩
  | true =>
   have Kc:zbu m (j+1)=true:=by
    unfold zbu;rw[HN.out,P0 hlt];simpa using hso
   have Kh:=F Kc;clear Kc hso;go_wp2_with fail
   go_roundw
   case rel=>exact ⟨j+1,by omega,by go_num,Kh,xT HEq.out K5⟩
   case measure=>simp[intOf];omega
 ·obtain rfl:j=m.segs.length:=by omega
  have hR:R=0:=by rw[←H3.out,HN.out];rfl
  subst hR;go_wp2_with fail;go_ret
  exact ⟨rfl,Hg.out⟩):P:=h
theorem zs8:Tryz.prog.underlying 27=G (.struct (Tryz.prog.fieldsOf 27)):=by kernel_rfl
theorem zt5:Tryz.prog.stoodInHeld 27=false:=by kernel_rfl
theorem zh1 (a b c d:Int) (W:World):(Op.equalIn 10000 27 (M #[C D a,C D b]) (M #[C D c,C D d])).run E W=.ok (decide (a=c∧b=d)) W:=by
 have e:decide (a=c∧b=d)=(a==c&&b==d):=by
  rw[Pd]
  simp
 rw[run_equalIn_struct W 9999 27 _ _ zs8 zt5,e]
 cases h0:(a==c) <;> cases h1:(b==d) <;> simp[go_sem,h0,h1]
theorem zfv {n s f:Int} (h:zbs n s f=true):1≤s∧s≤n-1∧(f=1∨f=2):=by simpa [zbs] using h
theorem inB_b {n a b:Int}:inB n a b=true↔(a≤n∧n≤b):=by simp[inB]
theorem zko {m:Mf} {i:Nat} {s:Sg4} (h:zbj m i s=true):zbs m.next s.seq s.fmt=true∧s.seq≠m.sq∧(1≤s.first∧s.first≤1073741820)∧(∀ t∈m.segs.take i,t.seq≠s.seq)∧((1≤s.count∧s.count≤4)∨(s.count = -1∧i+1=m.segs.length)):=by
 unfold zbj at h;simp only[Pc,Pe,decide_eq_true_eq,P6,inB_b] at h;obtain ⟨⟨⟨⟨⟨h1,h2⟩,h3⟩,h4⟩,_⟩,h5⟩:=h
 exact ⟨h1,h2,h3,h4,h5⟩
theorem zhl {m:Mf}:∀ {k:Nat},zbu m k=true→∀ i,i<k→∃ s,m.segs[i]?=G s∧zbj m i s=true
 | 0,_,i,hi=>by omega
 | k+1,h,i,hi=>by
  unfold zbu at h;rw[Pc] at h
  by_cases e:i=k
  ·subst e
   have h2:=h.2
   cases hs:m.segs[i]? with
   | none=>rw[hs] at h2;cases h2
   | some s=>rw[hs] at h2;exact ⟨s,rfl,h2⟩
  ·exact zhl h.1 i (by omega)
theorem zgq {m:Mf} {k:Nat} (h:zbu m k=true):∀ t∈m.segs.take k,1≤t.first∧t.first≤1073741820∧-1≤t.count∧t.count≤4:=by
 intro t ht;obtain ⟨q,hq,rfl⟩:=P1.1 ht;obtain ⟨s,hs,ho⟩:=zhl h q (by omega);rw[P0 (by omega)] at hs
 cases hs
 obtain ⟨_,_,h3,_,h5⟩:=zko ho;omega
theorem ze8 {m:Mf} {i:Nat} (hi:i<m.segs.length) (h:zbj m i m.segs[i]=false):∀ k,i<k→zbu m k=false:=by
 intro k hk;rw[Bool.eq_false_iff];intro ht;obtain ⟨s,hs,ho⟩:=zhl ht i hk;rw[P0 hi] at hs
 cases hs
 rw[h] at ho;cases ho
theorem zhw (m:Mf) (v:Value) (w:World) (hS:Sgs w v m.segs) :
  Calls E 24 #[M #[C D m.next,C D m.term,C D m.vote,C D m.sq,C D m.sf,v]] w fun e w'=>e=.returned (C D (if zaF m then 0 else 2))∧Ext w w':=by
 obtain ⟨A,c,rfl,Hv,K8⟩:=hS.open_;obtain ⟨R,hR⟩:∃ R:Int,(if zaF m then 0 else 2)=R:=⟨_,rfl⟩;rw[hR];have HR:=F hR;have HS:=F hS;have H7:=P9 w 30 #[C D m.next,C D m.term,C D m.vote,C D m.sq,C D m.sf,J A m.segs.length c]
 have hX:Ext w (w.alloc (I #[C D m.next,C D m.term,C D m.vote,C D m.sq,C D m.sf,J A m.segs.length c] 30)):=xA (xR _) _
 obtain ⟨m0,m1,m2,m3,m4,m5⟩:=zag H7;have E0:=F hX;have Hb:=F H7;clear hR hS hX H7
 have H8:zcr m=false→R=2:=fun h=>by rw[←HR.out];unfold zaF;rw[h];rfl
 go_enter Tryz.func24,Tryz.ntmps24
 cases h1:inB m.next 1 1073741824 with
 | false =>
  have:=H8 (by unfold zcr;rw[h1];rfl)
  subst this
  go_wp2_with (go_at_call 64;refine (zaV _ _ _ _).mono ?_;rintro e w2 ⟨rfl,rfl⟩;rw[h1])
  go_ret
  exact ⟨rfl,E0.out⟩
 | true =>
 cases h2:inB m.term 0 1073741824 with
 | false =>
  have:=H8 (by unfold zcr;rw[h1,h2];rfl)
  subst this
  go_wp2_with (go_at_call 64;refine (zaV _ _ _ _).mono ?_;rintro e w2 ⟨rfl,rfl⟩;first | rw[h1] | rw[h2])
  go_ret
  exact ⟨rfl,E0.out⟩
 | true =>
 cases h3:inB m.vote 0 5 with
 | false =>
  have:=H8 (by unfold zcr;rw[h1,h2,h3];rfl)
  subst this
  go_wp2_with (go_at_call 64;refine (zaV _ _ _ _).mono ?_;rintro e w2 ⟨rfl,rfl⟩;first | rw[h1] | rw[h2] | rw[h3])
  go_ret
  exact ⟨rfl,E0.out⟩
 | true =>
 by_cases h4:m.segs.length≤60
 case neg =>
  have:=H8 (by unfold zcr;rw[h1,h2,h3];simpa using h4)
  subst this
  have h5:(60:Int)<(m.segs.length:Int):=by omega
  go_wp2_with (go_at_call 64;refine (zaV _ _ _ _).mono ?_;rintro e w2 ⟨rfl,rfl⟩;first | rw[h1] | rw[h2] | rw[h3])
  go_ret
  exact ⟨rfl,E0.out⟩
 have h5:¬ (60:Int)<(m.segs.length:Int):=by omega
 have Hk:zcr m=true:=by unfold zcr;rw[h1,h2,h3];simpa using h4
 have H2:Hid ((if (zcv m&&zbu m m.segs.length)=true then (0:Int) else 2)=R):=F (by rw[←HR.out];unfold zaF;rw[Hk];rfl)
 have hn:=inB_b.1 h1;have Hn:=F hn;clear H8 HR Hk hn
 rcases (show (m.sq=0∧m.sf=0)∨(m.sq=0∧m.sf≠0)∨m.sq≠0 by omega) with ⟨ha,hb⟩ | hc
 ·have HW:zcv m=true:=by unfold zcv;simp[ha,hb]
  have hA:=F ha;have hB:=F hb
  go_wp2_with (first | (go_at_call 64;refine (zaV _ _ _ _).mono ?_;rintro e w2 ⟨rfl,rfl⟩;first | rw[h1] | rw[h2] | rw[h3]))
  clear ha hb
  have H3:Hid ((if zbu m m.segs.length=true then (0:Int) else 2)=R):=F (by rw[←H2.out,HW];rfl)
  clear H2 m0 m1 m2 m3 m4 m5
  go_loopw [3] (fun x W=>∃ j:Nat,j≤m.segs.length∧x=C D j∧Hid (zbu m j=true)∧Ext (w.alloc (I #[C D m.next,C D m.term,C D m.vote,C D m.sq,C D m.sf,J A m.segs.length c] 30)) W) (fun x _=>m.segs.length-(intOf x).toNat)
  case atStart=>exact ⟨0,by omega,rfl,F rfl,(by rw[hA.out,hB.out];exact xR _)⟩
  case round =>
   exact mcMan2a0
 have HT:¬ (m.sq=0∧m.sf=0):=by omega
 cases hfo:zbs m.next m.sq m.sf with
 | false =>
  have Hw:=hfo
  have hR:R=2:=by rw[←H2.out];unfold zcv;rw[hfo];simp[HT]
  subst hR;clear H2 HT
  rcases hc with ⟨Hv,K8⟩ | Hv
  ·rw[Hv] at Hw
   go_wp2_with (first | (go_at_call 64;refine (zaV _ _ _ _).mono ?_;rintro e w2 ⟨rfl,rfl⟩;first | rw[h1] | rw[h2] | rw[h3]) | (go_at_call 65;refine (ze1 _ _ _ _ _ _ _ _ Hn.out _).mono ?_;rintro e w3 ⟨rfl,HA⟩;first | rw[hfo] | rw[Hw]))
   go_ret
   exact ⟨rfl,xT E0.out (by rw[Hv];exact HA)⟩
  ·go_wp2_with (first | (go_at_call 64;refine (zaV _ _ _ _).mono ?_;rintro e w2 ⟨rfl,rfl⟩;first | rw[h1] | rw[h2] | rw[h3]) | (go_at_call 65;refine (ze1 _ _ _ _ _ _ _ _ Hn.out _).mono ?_;rintro e w3 ⟨rfl,HA⟩;first | rw[hfo] | rw[Hw]))
   go_ret
   exact ⟨rfl,xT E0.out HA⟩
 | true =>
  have HW:zcv m=true:=by unfold zcv;rw[hfo];simp
  have Ku:m.sq≠0:=by have:=zfv hfo;omega
  clear HT hc
  go_wp2_with (first | (go_at_call 64;refine (zaV _ _ _ _).mono ?_;rintro e w2 ⟨rfl,rfl⟩;first | rw[h1] | rw[h2] | rw[h3]) | (go_at_call 65;refine (ze1 _ _ _ _ _ _ _ _ Hn.out _).mono ?_;rintro e w3 ⟨rfl,HA⟩;first | rw[hfo]))
  clear Ku
  have H3:Hid ((if zbu m m.segs.length=true then (0:Int) else 2)=R):=F (by rw[←H2.out,HW];rfl)
  clear H2 m0 m1 m2 m3 m4 m5
  go_loopw [3] (fun x W=>∃ j:Nat,j≤m.segs.length∧x=C D j∧Hid (zbu m j=true)∧Ext (w.alloc (I #[C D m.next,C D m.term,C D m.vote,C D m.sq,C D m.sf,J A m.segs.length c] 30)) W) (fun x _=>m.segs.length-(intOf x).toNat)
  case atStart=>exact ⟨0,by omega,rfl,F rfl,HA⟩
  case round =>
   exact mcMan2a0
theorem zpi {fs:List Fil} {s:Sg4} {x:List Ent} (h:zfu fs s=G x):(s.count = -1→1≤x.length∧x.length≤4)∧(s.count≠-1→(x.length:Int)=s.count):=by
 unfold zfu at h
 cases hb:zbc fs (zaw 3 s.seq s.fmt) with
 | none=>rw[hb] at h;cases h
 | some b =>
  rw[hb] at h;dsimp only at h
  split at h
  ·cases h
  ·split at h
   ·cases h
   ·split at h
    ·cases h
    ·rename_i hc
     cases h
     unfold zd9 at hc;simp only[Pe,Pc,decide_eq_true_eq] at hc
     constructor
     ·intro h1;omega
     ·intro h1;omega
def zfZ (fs:List Fil) (index:Int):List Sg4→Int→List Ent→Option (Int×List Ent)
 | [],last,out=>some (last,out)
 | s::l,last,out=>match zfu fs s with
  | none=>none
  | some x=>zfZ fs index l (if x.length=0 then last else s.first+x.length-1) (out++x.drop (index+1-s.first).toNat)
def zi9 (fs:List Fil) (m:Mf) (index:Int):List Ent×Bool:=match zfZ fs index m.segs (index+1) [] with
 | none=>([],false)
 | some (last,out)=>(out,decide (index<last)&&(match m.segs with | []=>true | s::_=>decide (s.first≤index+1)))
def zup (w:World) (r:List Ent×Bool) (e:Ending) (w':World):Prop:=∃ v,e=.returned (.tuple #[v,K r.2])∧OwnE w' w.heap.size v r.1∧Ext w w'
theorem zqX {x:List Ent} {first index:Int} {k:Nat} (hk:k<x.length):(x.take (k+1)).drop (index+1-first).toNat=(x.take k).drop (index+1-first).toNat++(if index<first+k then [x[k]] else []):=by
 rw[List.take_succ_eq_append_getElem hk]
 by_cases h:index<first+k
 ·rw[if_pos h,List.drop_append_of_le_length (by rw[P4];omega)]
 ·rw[if_neg h,List.append_nil,P3 (by simp;omega),P3 (by rw[P4];omega)]
def zsc (w:World) (r:Option Sta) (en:Ending) (w':World):Prop:=(match r with
 | some s=>en=.returned (M #[C D s.idx,C D s.term,C D s.sum,C D s.lvl,K s.fin])
 | none=>en=pan 130)∧Ext w w'
theorem zp2 (tmps:Array Value) (W:World) (b:Nat) (cs:Array Value) (h4:tmps.getD 4 undef=L (G ⟨b,0,H⟩)) (hb:Blk W b 41 cs) (hs:cs.size=5):(results Tryz.f37 tmps).run E W=.ok (.agg cs) W:=by
 have hl:=hb.load (P:=E) zdx rfl (by rw[hs];kernel_rfl)
 have HO:tmps[4]?.getD undef=L (G ⟨b,0,H⟩):=by simpa using h4
 simp[results,Tryz.results37,HO,asAddr,hl]
theorem zlV {W:World} {b c:Nat} {t:TypeId} {cs:Array Value} (h:Blk W b t cs) (HG:b≠c) (a' v' u' x' y':Value):Blk (((((W.setCell ⟨c,0,H⟩ a').setCell ⟨c,1,H⟩ v').setCell ⟨c,2,H⟩ u').setCell ⟨c,3,H⟩ x').setCell ⟨c,4,H⟩ y') b t cs :=
 ((((h.other HG 0 a').other HG 1 v').other HG 2 u').other HG 3 x').other HG 4 y'
end Go.Proofs.YteggfecbjgbndaaGreatDoor
