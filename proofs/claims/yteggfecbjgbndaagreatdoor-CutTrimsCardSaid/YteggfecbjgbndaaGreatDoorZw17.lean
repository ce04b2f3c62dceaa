/- Merged -/
import Derived.Test.YteggfecbjgbndaaGreatDoorZw8
import Derived.Test.YteggfecbjgbndaaGreatDoorZw15
set_option linter.all false
set_option maxHeartbeats 8000000
set_option maxRecDepth 100000
open Go.Value renaming int→B,bool→E
open Go.IntKind renaming i64→C
open Go.Mv renaming zhd→D
open List renaming mem_take_iff_getElem→P0
namespace Go.Proofs.YteggfecbjgbndaaGreatDoor
open Go.RowKit Go.Mv
def zhR (fs:List Fil):Bool:=decide (40<fs.length)||(fs.take 41).any (fun f=>decide (900<f.2.length∨60<f.1.length))
theorem zu6 (v:Value) (fs:List Fil) (w:World) (hF:Fs w v fs) (hl:fs.length≤4000000):Calls Tryz.prog 6 #[v] w fun e w'=>e=.returned (E (zhR fs))∧Ext w w':=by
 obtain ⟨A,c,rfl,h1,h2⟩:=Fs.open_ hF;obtain ⟨R,hR⟩:∃ R,zhR fs=R:=⟨_,rfl⟩;rw[hR];have HR:=D hR;have HF:=D hF;clear hR hF
 go_enter Tryz.func6,Tryz.ntmps6
 go_wp2_with fail
 go_loopw [3] (fun i wr=>∃ j:Nat,j≤fs.length∧j≤41∧i=B C j∧Hid (∀ q (_:q<j) (h2:q<fs.length),fs[q].2.length≤900∧fs[q].1.length≤60)∧w=wr) (fun i _=>fs.length-(intOf i).toNat)
 case atStart=>exact ⟨0,by omega,by omega,rfl,D fun q hq=>by omega,rfl⟩
 case round =>
  obtain ⟨j,hj,Hx,rfl,Hn,rfl⟩:=hrel
  by_cases hlt:j<fs.length
  ·by_cases h40:j≤40
   ·obtain ⟨_,b,Ht,rfl,hc⟩:=HF.out.at_ (by omega)
    obtain ⟨Ho,B2,d2,Hr,Hm⟩:=hc j hlt
    have Hf:(j:Int)<(fs.length:Int):=by omega
    have hp:(900<fs[j].2.length∨60<fs[j].1.length)→R=true:=fun h=>by
     rw[←HR.out];unfold zhR
     rw[Bool.or_eq_true];right
     rw[List.any_eq_true]
     exact ⟨fs[j],P0.2 ⟨j,by omega,rfl⟩,by simpa using h⟩
    have hq:fs[j].2.length≤900∧fs[j].1.length≤60→∀ q (_:q<j+1) (h2:q<fs.length),fs[q].2.length≤900∧fs[q].1.length≤60:=fun h q h3 h2=>by
     by_cases e:q=j
     ·subst e;exact h
     ·exact Hn.out q (by omega) h2
    have Hp:=D hp;have Hq:=D hq;clear hc hp hq HR Hn
    generalize fs[j].2.length=n2 at *
    generalize hx:fs[j].1=x at *
    simp only[sv] at Ho;clear Hm
    by_cases c1:900<n2
    ·have:=Hp.out (.inl c1)
     subst this
     have Hj:(900:Int)<(n2:Int):=by omega
     go_wp2_with fail;go_ret
     exact ⟨rfl,xR _⟩
    ·have Hj:¬ (900:Int)<(n2:Int):=by omega
     by_cases c2:60<x.length
     ·have:=Hp.out (.inr c2)
      subst this
      have Hk:(60:Int)<(x.length:Int):=by omega
      go_wp2_with fail;go_ret
      exact ⟨rfl,xR _⟩
     ·have Hk:¬ (60:Int)<(x.length:Int):=by omega
      have Hi:=D (Hq.out ⟨by omega,by omega⟩)
      go_wp2_with fail
      go_roundw
      case rel=>exact ⟨j+1,by omega,by omega,by go_num,Hi,trivial⟩
      case measure=>simp[intOf];omega
   ·have hR:R=true:=by rw[←HR.out];unfold zhR;rw[decide_eq_true (by omega)];rfl
    subst hR
    have Hf:(j:Int)<(fs.length:Int):=by omega
    have Hl:¬ ((j:Int)≤40):=by omega
    have Hw:(40:Int)<(fs.length:Int):=by omega
    go_wp2_with fail;go_ret
    exact ⟨ret_bool (by simp),xR _⟩
  ·obtain rfl:j=fs.length:=by omega
   have hR:R=decide ((40:Int)<(fs.length:Int)):=by
    rw[←HR.out];unfold zhR
    have:((fs.take 41).any (fun f=>decide (900<f.2.length∨60<f.1.length)))=false:=by
     rw[List.any_eq_false];intro f hf;obtain ⟨q,hq,rfl⟩:=P0.1 hf
     have:=Hn.out q (by omega) (by omega)
     simp;omega
    rw[this,Bool.or_false,Bool.eq_iff_iff];simp;omega
   subst hR;clear HR Hn;go_wp2_with fail;go_ret
   exact ⟨rfl,xR _⟩
structure Tup where
 s:Sta
 log:List Ent
 term:Int
 vote:Int
def zb5 (t:Tup):Bool:=t.s.ok&&decide (t.s.idx≤1073740824)&&decide (t.log.length≤200)&&decide (0≤t.vote)&&decide (t.vote≤5)
def goT:Int→List Ent→Option Int
 | c,[]=>some c
 | c,e::l=>if okB e.t e.k e.v&&decide (c≤e.t) then goT e.t l else none
def zbf (t:Tup):Bool:=zb5 t&&(match goT t.s.term t.log with | none=>false | some x=>decide (x≤t.term)&&decide (0≤t.term)&&decide (t.term≤1073741824))
theorem zaQ {W:World} {b:Nat} {t:TypeId} {a v u x y z p q:Value} (h:Blk W b t #[a,v,u,x,y,z,p,q]):W.cell? ⟨b,0,none⟩=some a∧W.cell? ⟨b,1,none⟩=some v∧W.cell? ⟨b,2,none⟩=some u∧W.cell? ⟨b,3,none⟩=some x∧W.cell? ⟨b,4,none⟩=some y∧W.cell? ⟨b,5,none⟩=some z∧W.cell? ⟨b,6,none⟩=some p∧W.cell? ⟨b,7,none⟩=some q :=
 ⟨h.cell 0 rfl,h.cell 1 rfl,h.cell 2 rfl,h.cell 3 rfl,h.cell 4 rfl,h.cell 5 rfl,h.cell 6 rfl,h.cell 7 rfl⟩
theorem zoP (t:Tup) (v:Value) (w:World) (hE:Es w v t.log):Calls Tryz.prog 44 #[.agg #[B C t.s.idx,B C t.s.term,B C t.s.sum,B C t.s.lvl,E t.s.fin,v,B C t.term,B C t.vote]] w fun e w'=>e=.returned (E (zbf t))∧Ext w w':=by
 obtain ⟨A,c,rfl,Hr,Hv⟩:=xO hE;obtain ⟨s,l,tm,vt⟩:=t
 dsimp only at *
 obtain ⟨R,hR⟩:∃ R,zbf ⟨s,l,tm,vt⟩=R:=⟨_,rfl⟩;rw[hR];have Hd:=Blk.new w 44 #[B C s.idx,B C s.term,B C s.sum,B C s.lvl,E s.fin,.slice A l.length c,B C tm,B C vt]
 have hX:Ext w (w.alloc (.cells #[B C s.idx,B C s.term,B C s.sum,B C s.lvl,E s.fin,.slice A l.length c,B C tm,B C vt] 44)):=xA (xR _) _
 obtain ⟨m0,m1,m2,m3,m4,m5,m6,m7⟩:=zaQ Hd;have HX:=D hX;have Hb:=D Hd;have HE:=D hE
 have H5:zb5 ⟨s,l,tm,vt⟩=false→false=R:=fun h=>by rw[←hR];unfold zbf;rw[h];rfl
 have H0:=D H5;have HR:=D hR;clear hX Hd hE H5 hR
 go_enter Tryz.func44,Tryz.ntmps44
 go_wp2_with fail
 refine (zhz s _).mono ?_
 rintro e w1 ⟨rfl,Ha⟩;have H3:=D (xT HX.out Ha);have He:=D (Hb.out.ext Ha);obtain ⟨p0,p1,p2,p3,p4,p5,p6,p7⟩:=zaQ He.out;clear m0 m1 m2 m3 m4 m5 m6 m7 Ha
 cases h1:s.ok with
 | false =>
  obtain rfl:=H0.out (by unfold zb5;simp[h1])
  go_wp2_with fail;go_ret
  exact ⟨rfl,H3.out⟩
 | true =>
 by_cases h2:s.idx≤1073740824
 case neg =>
  obtain rfl:=H0.out (by unfold zb5;simp[h2])
  go_wp2_with fail;go_ret
  exact ⟨rfl,H3.out⟩
 by_cases h3:(l.length:Int)≤200
 case neg =>
  obtain rfl:=H0.out (by unfold zb5;simp;omega)
  go_wp2_with fail;go_ret
  exact ⟨rfl,H3.out⟩
 by_cases h4:0≤vt
 case neg =>
  obtain rfl:=H0.out (by unfold zb5;simp[h4])
  go_wp2_with fail;go_ret
  exact ⟨rfl,H3.out⟩
 by_cases h5:vt≤5
 case neg =>
  obtain rfl:=H0.out (by unfold zb5;simp[h5])
  go_wp2_with fail;go_ret
  exact ⟨rfl,H3.out⟩
 have H1:zb5 ⟨s,l,tm,vt⟩=true:=by unfold zb5;simp[h1,h2,h4,h5];omega
 have H7:Hid ((match goT s.term l with | none=>false | some x=>decide (x≤tm)&&decide (0≤tm)&&decide (tm≤1073741824))=R):=D (by rw[←HR.out];unfold zbf;rw[H1];simp)
 clear H1 H0 HR;go_wp2_with fail
 go_loopw [3,4] (fun vc x W=>∃ (j:Nat) (H2:Int),j≤l.length∧x=B C j∧vc=B C H2∧Hid (goT s.term l=goT H2 (l.drop j))∧Ext w1 W) (fun _ x _=>l.length-(intOf x).toNat)
 case atStart=>exact ⟨0,s.term,by omega,rfl,rfl,D rfl,xR _⟩
 case round =>
  obtain ⟨j,H2,hj,rfl,rfl,HG,H8⟩:=hrel;have Hg:=D H8;have H6:=D (xT H3.out H8);obtain ⟨_,_,_,_,_,g5,g6,_⟩:=zaQ (He.out.ext H8);clear p0 p1 p2 p3 p4 p5 p6 p7 H8
  by_cases hlt:j<l.length
  ·obtain ⟨_,b,Ht,rfl,hc⟩:=Es.at_ (HE.out.ext H6.out) (by omega)
   obtain ⟨k0,k1,k2⟩:=hc j hlt;have hG:=HG.out;rw[List.drop_eq_getElem_cons hlt,goT] at hG
   have Hf:(j:Int)<(l.length:Int):=by omega
   clear hc HG
   generalize l[j]=e at *
   have HG:=D hG;clear hG;go_wp2_with fail
   refine (zfF _ _ _ _).mono ?_
   rintro e2 w5 ⟨rfl,H4⟩
   have H4:Ext wr w5:=H4
   have H9:=D H4;have Hu:=H4.cell g5;have Hy:=H4.cell k0;clear g5 k0 k1 k2 g6 H4
   cases ho:okB e.t e.k e.v with
   | false =>
    have hR:R=false:=by rw[←H7.out,HG.out,ho];rfl
    subst hR;go_wp2_with fail;go_ret
    exact ⟨rfl,xT H6.out H9.out⟩
   | true =>
    by_cases hcur:H2≤e.t
    ·have Hc:=HG.out
     rw[if_pos (by simp[ho,hcur])] at Hc
     have Hh:=D Hc
     have Hs:¬ (e.t<H2):=by omega
     clear Hc HG;go_wp2_with fail
     go_roundw
     case rel=>exact ⟨j+1,e.t,by omega,by go_num,rfl,Hh,xT Hg.out H9.out⟩
     case measure=>simp[intOf];omega
    ·have hR:R=false:=by rw[←H7.out,HG.out,if_neg (by simp[hcur])]
     subst hR
     have Hs:e.t<H2:=by omega
     go_wp2_with fail;go_ret
     exact ⟨rfl,xT H6.out H9.out⟩
  ·obtain rfl:j=l.length:=by omega
   have hR:R=(decide (H2≤tm)&&decide (0≤tm)&&decide (tm≤1073741824)):=by
    rw[←H7.out,HG.out,List.drop_length];rfl
   subst hR;clear H7 HG;go_wp2_with fail
   all_goals go_ret
   all_goals (refine ⟨ret_bool ?_,H6.out⟩;rw[Bool.eq_iff_iff];simp;try omega)
end Go.Proofs.YteggfecbjgbndaaGreatDoor
