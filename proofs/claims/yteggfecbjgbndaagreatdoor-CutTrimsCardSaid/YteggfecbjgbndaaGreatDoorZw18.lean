/- Merged -/
import Derived.Test.YteggfecbjgbndaaGreatDoorZw16
set_option linter.all false
set_option maxHeartbeats 8000000
set_option maxRecDepth 100000
open Go.Value renaming int→C,slice→F,agg→I
open Go.IntKind renaming i64→D
open Go.Mv renaming zhd→E
open Go.Obj renaming cells→G
open Go.Proofs.Tryz renaming prog→H
open List renaming take_succ_eq_append_getElem→P0,take_of_length_le→P1,append_assoc→P2,take_length→P3,not_mem_nil→P4,length_take→P6,length_drop→P7,length_nil→P8,append_nil→P9,mem_cons→Pa
open Go.Value renaming slice→Pb,ownBlock→Pc
open Go.IntKind renaming wrap_i64→Pd,i64→Pe
open Go.World renaming ownsRow_nil→Pf
namespace Go.Proofs.YteggfecbjgbndaaGreatDoor
open Go.RowKit Go.Mv
theorem zrl (v vs:Value) (fs:List Fil) (m:Mf) (index:Int) (w:World) (hS:StW w) (hF:Fs w v fs) (hG:Sgs w vs m.segs) (hl:fs.length≤4000000) (Ku:∀ f∈fs,f.2.length≤2000000)
  (HD:∀ s∈m.segs,1≤s.first∧s.first≤1073741820∧-1≤s.count∧s.count≤4) (Kz:0≤index∧index≤1073741824) (hn:m.segs.length≤60) :
  Calls H 43 #[v,I #[C D m.next,C D m.term,C D m.vote,C D m.sq,C D m.sf,vs],C D index] w (zup w (zi9 fs m index)):=by
 obtain ⟨A,c,rfl,_,_⟩:=Fs.open_ hF;obtain ⟨B,d,rfl,_,_⟩:=hG.open_;have Hf:=Blk.new w 30 #[C D m.next,C D m.term,C D m.vote,C D m.sq,C D m.sf,F B m.segs.length d]
 have hX:Ext w (w.alloc (G #[C D m.next,C D m.term,C D m.vote,C D m.sq,C D m.sf,F B m.segs.length d] 30)):=xA (xR _) _
 have Jr:(w.alloc (G #[C D m.next,C D m.term,C D m.vote,C D m.sq,C D m.sf,F B m.segs.length d] 30)).heap.size=w.heap.size+1:=by simp
 have Js:Pe.wrap (index+1)=index+1:=by rw[Pd];omega
 obtain ⟨R,hR⟩:∃ R,zi9 fs m index=R:=⟨_,rfl⟩;rw[hR];unfold zi9 at hR;have HR:=E hR;have HX:=E hX;have Hb:=E Hf;have HF:=E hF;have HG:=E hG;have HS:=E hS;have KL:=E Ku;have K3:=E HD;have Jh:=E Kz;obtain ⟨KX,KY⟩:=Kz;clear hR hX Hf hF hG hS Ku HD
 go_enter Tryz.func43,Tryz.ntmps43
 go_wp2_with fail
 go_loopw [8,9,10] (fun vo vl x W=>∃ (j:Nat) (Ao:Option Addr) (co:Nat) (out:List Ent) (last:Int),j≤m.segs.length∧x=C D j∧vo=F Ao out.length co∧vl=C D last∧Hid (zfZ fs index m.segs (index+1) []=zfZ fs index (m.segs.drop j) last out)∧Hid (out.length≤4*j)∧Hid (OwnE W (w.heap.size+1) (F Ao out.length co) out)∧Ext (w.alloc (G #[C D m.next,C D m.term,C D m.vote,C D m.sq,C D m.sf,F B m.segs.length d] 30)) W) (fun _ _ x _=>m.segs.length-(intOf x).toNat)
 case atStart=>exact ⟨0,none,0,[],index+1,by omega,rfl,rfl,rfl,E rfl,E (by simp),E (Pf _ _ _ _),xR _⟩
 case round =>
  rename World=>wo
  obtain ⟨j,Ao,co,out,last,hj,rfl,rfl,rfl,HP,Ki,HO,H3⟩:=hrel;have Hd:=E H3;have Hl:=E (xT HX.out H3);obtain ⟨_,_,_,_,_,M5⟩:=zag (Hb.out.ext H3)
  by_cases hlt:j<m.segs.length
  ·obtain ⟨_,b,Hm,rfl,H1⟩:=(HG.out.ext Hl.out).at_ (by omega)
   obtain ⟨s0,s1,s2,s3⟩:=H1 j hlt;have hP:=HP.out;rw[List.drop_eq_getElem_cons hlt,zfZ] at hP;obtain ⟨k1,k2,k3,k4⟩:=K3.out _ (List.getElem_mem hlt);obtain ⟨s,hs⟩:∃ s,m.segs[j]=s:=⟨_,rfl⟩
   have t2:w.cell? ⟨b,Hm+j*4+2,none⟩=some (C D s.first):=by
    obtain ⟨_,b1,Je,Hu,K8⟩:=HG.out.at_ (by omega)
    cases Hu
    have:=(K8 j hlt).2.2.1
    rwa [hs] at this
   rw[hs] at s0 s1 s2 s3 hP k1 k2 k3 k4;have key:=zlf (F A fs.length c) fs s wo (HS.out.ext Hl.out) (HF.out.ext Hl.out) hl KL.out;obtain ⟨rx,Kd⟩:∃ r,zfu fs s=r:=⟨_,rfl⟩;rw[Kd] at key hP
   have KA:=fun x (h:rx=some x)=>zpi (Kd.trans h)
   have Kn:=E KA;have KP:=E key;have K0:=E hP
   have KZ:(j:Int)<(m.segs.length:Int):=by omega
   clear H1 hP key Kd KA HP H3 hs;go_wp2_with fail
   refine KP.out.mono ?_
   rintro e w2 ⟨vx,rfl,Ht,HN⟩;have Kg:=E HN;have HK:=E (zab HO.out HN);have HW:=E Ht;have Jj:=HN.cell M5;obtain ⟨Ax,cx,rfl,_,_⟩:=xO (xW Ht)
   cases rx with
   | none =>
    have hR:=HR.out;rw[K0.out] at hR
    obtain rfl:(([],false):List Ent×Bool)=R:=hR
    dsimp only[Option.isSome]
    go_wp2_with fail
    go_ret2
    exact ⟨_,rfl,Pf _ _ _ _,xT Hl.out Kg.out⟩
   | some x =>
    obtain ⟨l1,l2⟩:=Kn.out x rfl
    dsimp only[Option.isSome,Option.getD] at HW ⊢
    have Ja:x.length≤4:=by
     by_cases h:s.count = -1
     ·exact (l1 h).2
     ·have:=l2 h;omega
    have KI:Hid (zfZ fs index m.segs (index+1) []=zfZ fs index (m.segs.drop (j+1)) (if x.length=0 then last else s.first+x.length-1) (out++x.drop (index+1-s.first).toNat)):=E K0.out
    have HH:∀ q,(Pb Ax x.length cx).ownBlock=some q→(Pb Ao out.length co).ownBlock≠some q:=by
     intro q Hk H8
     rcases Ht.2 with ⟨h,_⟩ | ⟨g,cap,cur,h,hb,_⟩
     ·rw[show (Pb Ax x.length cx)=_ from h] at Hk;cases Hk
     ·rw[show (Pb Ax x.length cx)=_ from h] at Hk
      obtain rfl:g=q:=by simpa [Pc] using Hk
      rcases HO.out.2 with ⟨h2,_⟩ | ⟨g2,cap2,cur2,h2,_,hg2,_⟩
      ·rw[h2] at H8;cases H8
      ·rw[h2] at H8
       obtain rfl:g2=g:=by simpa [Pc] using H8
       have:=(Array.getElem?_eq_some_iff.1 hg2).1
       omega
    have K4:=E HH;have K2:=E (And.intro k1 (And.intro k2 Ja))
    have HW:Hid (OwnE w2 wo.heap.size (F Ax x.length cx) x):=E Ht
    clear HH K0 Kn l1 l2 k3 k4 k1 k2 Ht s0 s1 s2 s3 M5 HN;go_wp2_with fail
    go_loopw [8,9,13] (fun vo vl y W=>∃ (k:Nat) (A2:Option Addr) (c2:Nat) (H2:List Ent) (H6:Int),k≤x.length∧y=C D k∧vo=F A2 H2.length c2∧vl=C D H6∧Hid (H2=out++(x.take k).drop (index+1-s.first).toNat)∧Hid (H6=if k=0 then last else s.first+k-1)∧Hid (OwnE W (w.heap.size+1) (F A2 H2.length c2) H2)∧Hid (OwnE W wo.heap.size (F Ax x.length cx) x)∧Hid (∀ q,(Pb Ax x.length cx).ownBlock=some q→(Pb A2 H2.length c2).ownBlock≠some q)∧Ext (w.alloc (G #[C D m.next,C D m.term,C D m.vote,C D m.sq,C D m.sf,F (some ⟨b,Hm,none⟩) m.segs.length d] 30)) W) (fun _ _ y _=>x.length-(intOf y).toNat)
    case atStart=>exact ⟨0,Ao,co,out,last,by omega,rfl,rfl,rfl,E (by simp),E rfl,HK,HW,K4,xT Hd.out Kg.out⟩
    case round =>
     obtain ⟨k,A2,c2,H2,H6,hk,rfl,rfl,rfl,H4,Hi,HZ,Kk,K5,Hg⟩:=hrel;have HJ:=E Hg;have H7:=Kk;have HY:=E (xT HX.out Hg);obtain ⟨_,_,_,_,_,N5⟩:=zag (Hb.out.ext Hg);have T2:=HY.out.cell t2;obtain ⟨q1,q2,q3⟩:=K2.out
     have Jt:Pe.wrap (s.first+(k:Int))=s.first+(k:Int):=by rw[Pd];omega
     have J6:Pe.wrap ((k:Int)+1)=((k+1:Nat):Int):=by rw[Pd];omega
     by_cases hkl:k<x.length
     ·obtain ⟨_,bx,ox,rfl,Kw⟩:=Es.at_ (xW H7.out) (by omega)
      clear Kk;obtain ⟨d0,d1,d2⟩:=Kw k hkl;have K9:=zqX (first:=s.first) (index:=index) hkl
      have Jq:(k:Int)<(x.length:Int):=by omega
      obtain ⟨e,he⟩:∃ e,x[k]=e:=⟨_,rfl⟩;rw[he] at d0 d1 d2 K9;have Km:=E K9;have Hq:=E q3;clear he K9 Kw t2 Hg q1 q2 q3
      by_cases hgt:index<s.first+(k:Int)
      ·have Ky:=zqZ wr e
       have K7:Ext wr (wr.alloc (G #[C D e.t,C D e.k,C D e.v] 54)):=xA (xR _) _
       have Kr:=OwnE.ext HZ.out K7;have Jk:=OwnE.ext H7.out K7
       obtain ⟨r1,r2⟩:H2.length≤244∧w.heap.size+1≤wr.heap.size:=by
        refine ⟨?_,?_⟩
        ·have h1:=congrArg List.length H4.out
         rw[xL,P7,P6] at h1;have h2:=Ki.out;have h3:=Hq.out;omega
        ·have h4:=HJ.out.size
         simp at h4
         omega
       have KM:=E r1;have KN:=E r2;clear r1 r2
       go_wp2_with (at_builtin;go_loud (refine zlx rfl (.tmp 52) (.tmp 57) rfl (w.heap.size+1) _ H2 rfl Kr _ [e] rfl Ky (by simp) (by show H2.length+1≤_;have:=KM.out;omega) (by rw[xS];have:=KN.out;omega) ?_);intro A8 c8 w8 KD Kq Kb Hv;refine Hid.out ?_)
       refine E ?_
       have Hh:Ext (w.alloc (G #[C D m.next,C D m.term,C D m.vote,C D m.sq,C D m.sf,F (some ⟨b,Hm,none⟩) m.segs.length d] 30)) w8:=Kq _ (xT HJ.out K7) (by rw[xS];omega)
       have Jg:=E Hh
       simp only[xC,P8,Nat.zero_add] at KD Hv ⊢
       clear Kr Ky Kq;go_wp2_with fail
       go_roundw
       case rel =>
        have H5:=H7.out
        refine ⟨k+1,A8,c8,H2++[e],s.first+k,by omega,by go_num,by simp,rfl,?_,?_,?_,?_,?_,Hh⟩
        ·refine E ?_
         rw[Km.out,if_pos hgt,←P2,←H4.out]
        ·refine E ?_
         rw[if_neg (by omega)];omega
        ·refine E ?_
         rw[show (H2++[e]).length=H2.length+1 from by simp];exact KD
        ·refine E ?_
         have J9:=OwnE.ext H7.out (xA (xR wr) (G #[C D e.t,C D e.k,C D e.v] 54))
         refine J9.kept Kb (.inr fun hh=>?_)
         exact K5.out _ rfl hh.symm
        ·refine E fun q Hk H8=>?_
         rw[show (H2++[e]).length=H2.length+1 from by simp] at H8
         rcases Hv with hh | hh
         ·rw[hh] at H8;exact K5.out q Hk H8
         ·rw[hh,xS] at H8
          have:=(H7.out.lt q Hk).2
          have:wr.heap.size+1=q:=by simpa using H8
          omega
       case measure=>simp[intOf];omega
      ·go_wp2_with fail
       go_roundw
       case rel =>
        refine ⟨k+1,A2,c2,H2,s.first+k,by omega,by go_num,rfl,rfl,?_,?_,HZ,H7,K5,HJ.out⟩
        ·refine E ?_
         rw[Km.out,if_neg hgt,P9];exact H4.out
        ·refine E ?_
         rw[if_neg (by omega)];omega
       case measure=>simp[intOf];omega
     ·obtain rfl:k=x.length:=by omega
      go_wp2_with fail
      go_roundw
      case rel =>
       have ho:=H4.out;rw[P3] at ho
       refine ⟨j+1,A2,c2,H2,H6,by omega,by go_num,rfl,rfl,?_,?_,HZ,HJ.out⟩
       ·refine E ?_
        rw[KI.out,ho,Hi.out]
       ·refine E ?_
        have h1:=Ki.out
        rw[ho,xL,P7];omega
      case measure=>simp[intOf];omega
  ·obtain rfl:j=m.segs.length:=by omega
   have hR:=HR.out;rw[HP.out,List.drop_length,zfZ] at hR
   obtain rfl:=hR
   have HK:=E (zaf HO.out (Nat.le_succ w.heap.size));clear HP HR HO
   have Hc:∀ W q,Ext wo W→zup w (out,q) (.returned (.tuple #[F Ao out.length co,.bool q])) W:=fun W q hE=>⟨_,rfl,zab HK.out hE,xT Hl.out hE⟩
   have H9:=E Hc;clear Hc
   by_cases hlast:index<last
   ·have hd:decide (index<last)=true:=by simp;omega
    cases hsg:m.segs with
    | nil =>
     rw[hsg] at M5;go_wp2_with fail
     go_quiet (fail)
     go_wp2_with fail
     go_ret2
     exact H9.out _ true (zcg (xR _) _)
    | cons s l =>
     have Hz:0<m.segs.length:=by rw[hsg];simp
     obtain ⟨_,b,Hm,rfl,H1⟩:=(HG.out.ext Hl.out).at_ Hz;obtain ⟨_,_,s2,_⟩:=H1 0 Hz
     have e0:m.segs[0]=s:=by simp[hsg]
     rw[e0] at s2
     have e1:((l.length:Int)+1==0)=false:=by simp;omega
     clear H1;go_wp2_with fail
     go_quiet (fail)
     go_wp2_with fail
     go_ret2
     exact H9.out _ (decide (s.first≤index+1)) (zcg (xR _) _)
   ·have hd:decide (index<last)=false:=by simp;omega
    go_wp2_with fail
    go_quiet (fail)
    go_wp2_with fail
    go_ret2
    exact H9.out _ false (zcg (xR _) _)
theorem zte:Tryz.prog.underlying 36=some (.struct (Tryz.prog.fieldsOf 36)):=by kernel_rfl
theorem zt7:Tryz.prog.stoodInHeld 36=false:=by kernel_rfl
theorem zmM:Tryz.prog.eqGuardType Tryz.prog.depth 36=false:=by kernel_rfl
theorem zkW (a b:Sg4) (W:World):(Op.equalIn 10000 36 (I #[C D a.seq,C D a.fmt,C D a.first,C D a.count]) (I #[C D b.seq,C D b.fmt,C D b.first,C D b.count])).run H W=.ok (decide (a=b)) W:=by
 have e:decide (a=b)=(a.seq==b.seq&&a.fmt==b.fmt&&a.first==b.first&&a.count==b.count):=by
  rw[Bool.eq_iff_iff]
  cases a;cases b
  simp[and_assoc]
 rw[run_equalIn_struct W 9999 36 _ _ zte zt7,e]
 cases h0:(a.seq==b.seq) <;> cases h1:(a.fmt==b.fmt) <;> cases h2:(a.first==b.first) <;> cases h3:(a.count==b.count) <;> simp[go_sem,h0,h1,h2,h3]
theorem zqz (a b:Mf) (va vb:Value) (w:World) (hA:Sgs w va a.segs) (hB:Sgs w vb b.segs) :
  Calls H 12 #[I #[C D a.next,C D a.term,C D a.vote,C D a.sq,C D a.sf,va],I #[C D b.next,C D b.term,C D b.vote,C D b.sq,C D b.sf,vb]] w fun e w'=>e=.returned (.bool (decide (a=b)))∧Ext w w':=by
 obtain ⟨A,c,rfl,K8,KV⟩:=hA.open_;obtain ⟨B,d,rfl,Jl,Jm⟩:=hB.open_;obtain ⟨n1,t1,v1,q1,f1,l1⟩:=a;obtain ⟨n2,t2,v2,q2,f2,l2⟩:=b
 dsimp only at *
 obtain ⟨R,hR⟩:∃ R,decide ((⟨n1,t1,v1,q1,f1,l1⟩:Mf)=⟨n2,t2,v2,q2,f2,l2⟩)=R:=⟨_,rfl⟩;rw[hR]
 have HR:Hid (decide (n1=n2∧t1=t2∧v1=v2∧q1=q2∧f1=f2∧l1=l2)=R):=E (by rw[←hR];simp)
 have HA:=E hA;have HB:=E hB;obtain ⟨x1,J7⟩:∃ x:Array Value,#[C D n1,C D t1,C D v1,C D q1,C D f1,F A l1.length c]=x:=⟨_,rfl⟩;obtain ⟨x2,J8⟩:∃ x:Array Value,#[C D n2,C D t2,C D v2,C D q2,C D f2,F B l2.length d]=x:=⟨_,rfl⟩;have Hf:=Blk.new w 30 x1;have Hu:=Hf.alloc (G x2 30);have HV:=Blk.new (w.alloc (G x1 30)) 30 x2;rw[xS] at HV
 have hX:Ext w ((w.alloc (G x1 30)).alloc (G x2 30)):=xA (xA (xR _) _) _
 subst J7 J8;obtain ⟨m0,m1,m2,m3,m4,m5⟩:=zag Hu;obtain ⟨p0,p1,p2,p3,p4,p5⟩:=zag HV;have E0:=E hX;have KJ:=E Hu;have KK:=E HV;clear hR hA hB hX Hf Hu HV
 go_enter Tryz.func12,Tryz.ntmps12
 by_cases e1:n1=n2
 case neg =>
  have:R=false:=by rw[←HR.out];simp[e1]
  subst this;go_wp2_with fail;go_ret
  exact ⟨rfl,xA (xA (xR _) _) _⟩
 subst e1
 by_cases e2:t1=t2
 case neg =>
  have:R=false:=by rw[←HR.out];simp[e2]
  subst this;go_wp2_with fail;go_ret
  exact ⟨rfl,xA (xA (xR _) _) _⟩
 subst e2
 by_cases e3:v1=v2
 case neg =>
  have:R=false:=by rw[←HR.out];simp[e3]
  subst this;go_wp2_with fail;go_ret
  exact ⟨rfl,xA (xA (xR _) _) _⟩
 subst e3
 by_cases e4:q1=q2
 case neg =>
  have:R=false:=by rw[←HR.out];simp[e4]
  subst this;go_wp2_with fail
  all_goals go_ret
  all_goals exact ⟨rfl,xA (xA (xR _) _) _⟩
 subst e4
 by_cases e5:f1=f2
 case neg =>
  have:R=false:=by rw[←HR.out];simp[e5]
  subst this;go_wp2_with fail
  all_goals go_ret
  all_goals exact ⟨rfl,xA (xA (xR _) _) _⟩
 subst e5
 by_cases e6:(l1.length:Int)=(l2.length:Int)
 case neg =>
  have:R=false:=by rw[←HR.out];simp;intro h;subst h;exact e6 rfl
  subst this;go_wp2_with fail
  all_goals go_ret
  all_goals exact ⟨rfl,xA (xA (xR _) _) _⟩
 have Kj:Hid (decide (l1=l2)=R):=E (by rw[←HR.out];simp)
 have Hj:l1.length=l2.length:=by omega
 have Hp:=E Hj;clear HR Hj;go_wp2_with fail
 go_loopw [5] (fun x W=>∃ k:Nat,k≤l1.length∧x=C D k∧Hid (l1.take k=l2.take k)∧Ext ((w.alloc (G #[C D n1,C D t1,C D v1,C D q1,C D f1,F A l1.length c] 30)).alloc (G #[C D n1,C D t1,C D v1,C D q1,C D f1,F B l2.length d] 30)) W) (fun x _=>l1.length-(intOf x).toNat)
 case atStart=>exact ⟨0,by omega,rfl,E rfl,(by first | exact xR _ | (rw[e6];exact xR _))⟩
 case round =>
  obtain ⟨k,hk,rfl,Hn,H3⟩:=hrel;have HEq:=E H3;have Hd:=E (xT E0.out H3);obtain ⟨_,_,_,_,_,M5⟩:=zag (KJ.out.ext H3);obtain ⟨_,_,_,_,_,P5⟩:=zag (KK.out.ext H3)
  by_cases hlt:k<l1.length
  ·have Kc:k<l2.length:=by have:=Hp.out;omega
   obtain ⟨_,b,Hm,rfl,H1⟩:=(HA.out.ext Hd.out).at_ (by omega);obtain ⟨_,b2,Jf,rfl,Ha⟩:=(HB.out.ext Hd.out).at_ (by omega);obtain ⟨s0,s1,s2,s3⟩:=H1 k hlt;obtain ⟨u0,u1,u2,u3⟩:=Ha k Kc;clear H1 Ha H3 m0 m1 m2 m3 m4 m5 p0 p1 p2 p3 p4 p5
   have Jn:(0:Int)≤(k:Int):=by omega
   have Jo:(k:Int)<(l1.length:Int):=by omega
   have Jp:(k:Int)<(l2.length:Int):=by omega
   have Kx:=zkW l1[k] l2[k];have Ka:=zmM;obtain ⟨q,hq⟩:∃ q,decide (l1[k]=l2[k])=q:=⟨_,rfl⟩;have Hq:=E hq;rw[hq] at Kx;clear hq;go_wp2_with fail
   go_quiet (fail)
   clear Kx Ka
   cases q
   ·have hR:R=false:=by
     rw[←Kj.out]
     have:=Hq.out
     simp only[decide_eq_false_iff_not] at this ⊢
     intro h
     apply this
     simp only[h]
    subst hR;go_wp2_with fail;go_ret
    exact ⟨rfl,zcg Hd.out _⟩
   ·go_wp2_with fail
    go_roundw
    case rel =>
     have H8:l1[k]=l2[k]:=by simpa using Hq.out
     refine ⟨k+1,by omega,by go_num,E ?_,zcg HEq.out _⟩
     rw[P0 hlt,P0 (by omega),Hn.out,H8]
    case measure=>simp[intOf];omega
  ·have hR:R=true:=by
    rw[←Kj.out];have h1:=Hn.out;have h2:=Hp.out;rw[P1 (by omega),P1 (by omega)] at h1
    simpa using h1
   subst hR
   obtain rfl:k=l1.length:=by omega
   clear m0 m1 m2 m3 m4 m5 p0 p1 p2 p3 p4 p5;go_wp2_with fail;go_ret
   exact ⟨rfl,Hd.out⟩
def zbW (l:List Sg4):List Int:=l.flatMap fun s=>[s.seq,s.fmt,s.first,s.count+1]
def zbU (m:Mf):List Int:=[m.next,m.term,m.vote,m.sq,m.sf,(m.segs.length:Int)]++zbW m.segs
def zbH (m:Mf):Option (List UInt8):=if zaF m then some (zaY rT (77::zao (zbU m))) else none
def ztr (w:World) (r:Option (List UInt8)) (e:Ending) (w':World):Prop:=(∃ v,e=.returned (.tuple #[v,C D (if r.isSome then 0 else 2)])∧OwnB w' w.heap.size v (r.getD []))∧Ext w w'
theorem zeg (l:List Sg4):(zbW l).length=4*l.length:=by
 induction l with
 | nil=>rfl
 | cons e l ih=>simp only[zbW,List.flatMap_cons,xL,xC,P8] at ih ⊢;omega
theorem ziU (l:List Sg4) (k:Nat) (h:k<l.length):zbW (l.take (k+1))=zbW (l.take k)++[l[k].seq,l[k].fmt,l[k].first,l[k].count+1]:=by
 rw[P0 h];unfold zbW;rw[List.flatMap_append];rfl
theorem zfr {m:Mf} (h:zaF m=true):(1≤m.next∧m.next≤1073741824)∧(0≤m.term∧m.term≤1073741824)∧(0≤m.vote∧m.vote≤5)∧m.segs.length≤60∧((m.sq=0∧m.sf=0)∨(1≤m.sq∧m.sq≤m.next-1∧(m.sf=1∨m.sf=2))) ∧
  ∀ i (hi:i<m.segs.length),zbj m i m.segs[i]=true:=by
 unfold zaF zcr zcv at h;simp only[Bool.and_eq_true,Bool.or_eq_true,decide_eq_true_eq,inB_b] at h;obtain ⟨⟨⟨⟨⟨h1,h2⟩,h3⟩,h4⟩,h5⟩,h6⟩:=h
 refine ⟨h1,h2,h3,h4,?_,fun i hi=>?_⟩
 ·rcases h5 with h5 | h5
  ·exact .inl h5
  ·exact .inr (zfv h5)
 ·obtain ⟨s,hs,ho⟩:=zhl h6 i hi
  rw[List.getElem?_eq_getElem hi] at hs
  cases hs
  exact ho
theorem zjB {m:Mf} (h:zaF m=true):zau (zbU m)=true:=by
 obtain ⟨h1,h2,h3,h4,h5,h6⟩:=zfr h;unfold zau;rw[List.all_eq_true];intro x hx;rw[numB_true];unfold zbU at hx
 rcases List.mem_append.1 hx with hx | hx
 ·simp only[Pa,P4,or_false] at hx
  rcases hx with rfl | rfl | rfl | rfl | rfl | rfl <;> omega
 ·obtain ⟨s,hs,hx⟩:=List.mem_flatMap.1 hx
  obtain ⟨i,hi,rfl⟩:=List.mem_iff_getElem.1 hs;obtain ⟨k1,_,k3,_,k5⟩:=zko (h6 i hi);have k0:=zfv k1;simp only[Pa,P4,or_false] at hx
  rcases hx with rfl | rfl | rfl | rfl <;> omega
def OwnI (w:World) (base:Nat) (v:Value) (l:List Int):Prop:=w.ownsRow base 3 1 v l.length (l.map iv)
theorem OwnI.is {w:World} {base:Nat} {v:Value} {l:List Int} (h:OwnI w base v l):Is w v l:=xW h
theorem OwnI.ext {w w':World} {base:Nat} {v:Value} {l:List Int} (h:OwnI w base v l) (he:Ext w w'):OwnI w' base v l:=zab h he
theorem zm7 {ops:Array Oper} {rest:List Oper} {o:Oper} {a:Act} {w:World} {Q:Exit→Act→World→Prop} (Ka:o.guard=none) (s x:Operand)
  (ho:o.op=.call { callee:=.builtin .append,args:=#[s,x],argTypes:=#[64,64] })
  (base:Nat) (v:Value) (bs:List Int) (hs:a.eval s=v) (Hy:OwnI w base v bs) (vx:Value) (cs:List Int) (hx:a.eval x=vx) (hr:Is w vx cs)
  (Hj:bs.length+cs.length≤40000000) (H5:base≤w.heap.size)
  (h:∀ A c w',OwnI w' base (F A (bs.length+cs.length) c) (bs++cs)→zcz base w w'→wpList H ops Q rest (a.put o.dst (F A (bs.length+cs.length) c)) w'):wpList H ops Q (o::rest) a w:=by
 obtain ⟨i0,hi,Jb,Jc,Jd⟩:=info_parts zgY
 refine zaC _ Ka s x 64 ho base 3 i0 (C D 0) 1 8 Tryz.underlying64 hi Jb Jc Jd rfl (by decide) v bs.length (bs.map iv) hs Hy vx cs.length (cs.map iv) hx hr (zrs _) (by unfold maxLen;omega) (by omega) H5 ?_
 intro v' w' h1 h2;obtain ⟨A,c,rfl,_,_⟩:=xO (xW h1)
 refine h A c w' ?_ (fun W0 hE hb=>Ext.grownOwn hE (zaf Hy hb) h2)
 unfold OwnI;rw[xL,List.map_append]
 exact h1
theorem zlN (m:Mf) (v:Value) (w:World) (hS:Sgs w v m.segs) :
  Calls H 62 #[I #[C D m.next,C D m.term,C D m.vote,C D m.sq,C D m.sf,v]] w (ztr w (zbH m)):=by
 obtain ⟨A,c,rfl,K8,KV⟩:=hS.open_;have Hf:=Blk.new w 30 #[C D m.next,C D m.term,C D m.vote,C D m.sq,C D m.sf,F A m.segs.length c]
 have hX:Ext w (w.alloc (G #[C D m.next,C D m.term,C D m.vote,C D m.sq,C D m.sf,F A m.segs.length c] 30)):=xA (xR _) _
 obtain ⟨m0,m1,m2,m3,m4,m5⟩:=zag Hf;have HS:=E hS;have Hs:=zhw m (F A m.segs.length c) _ (hS.ext hX);have Ho:=E Hs;clear Hs hS
 go_enter Tryz.func62,Tryz.ntmps62
 go_wp2_with fail
 refine Ho.out.mono ?_
 rintro e w1 ⟨rfl,K6⟩;have E1:=xT hX K6;have Kf:=E E1;have Hb:=E (Hf.ext K6);clear Hf hX K6 m0 m1 m2 m3 m4 m5 Ho
 cases hck:zaF m with
 | false =>
  have hr:zbH m=none:=by unfold zbH;rw[hck];rfl
  go_wp2_with fail
  go_ret2
  rw[hr]
  exact ⟨⟨_,rfl,Pf _ _ _ _⟩,Kf.out⟩
 | true =>
 have hr:zbH m=some (zaY rT (77::zao (zbU m))):=by unfold zbH;rw[hck];rfl
 have Hr:=E hr;have Kl:=E hck;obtain ⟨_,_,_,J0,_,_⟩:=zfr hck;obtain ⟨m0,m1,m2,m3,m4,m5⟩:=zag Hb.out;clear hr hck E1;go_wp2_with fail;have Hc:=zjB Kl.out;have H9:=E Hc;have hO:=zaG w1 ([m.next,m.term,m.vote,m.sq,m.sf,(m.segs.length:Int)].map iv) 3 6 rfl (by simp[maxLen]) (xN _);have HO:=E hO
 have Kp:Ext w1 (w1.alloc (G #[C D m.next,C D m.term,C D m.vote,C D m.sq,C D m.sf,C D (m.segs.length:Int)] 3)):=xA (xR _) _
 have Kh:=E Kp;obtain ⟨H0,HQ⟩:∃ H0,[m.next,m.term,m.vote,m.sq,m.sf,(m.segs.length:Int)]=H0:=⟨_,rfl⟩
 have HT:H0.length=6:=by rw[←HQ];rfl
 have KC:zbU m=H0++zbW m.segs:=by rw[←HQ];rfl
 have KH:=E HQ;have HM:=E KC;clear hO Kp KC HQ Hc m0 m1 m2 m3 m4 m5
 go_loopw [4,5] (fun vl x W=>∃ (j:Nat) (a':Option Addr) (c':Nat),j≤m.segs.length∧x=C D j∧vl=F a' (6+4*j) c'∧Hid (OwnI W w1.heap.size (F a' (6+4*j) c') (H0++zbW (m.segs.take j)))∧Ext w1 W) (fun _ x _=>m.segs.length-(intOf x).toNat)
 case atStart =>
  refine ⟨0,_,_,by omega,rfl,rfl,E ?_,Kh.out⟩
  have:=HO.out
  unfold OwnI
  rw[List.take_zero,show zbW []=[] from rfl,P9,HT,←KH.out]
  exact this
 case round =>
  obtain ⟨j,a',c',hj,rfl,rfl,He,H3⟩:=hrel;have Hd:=E H3;have HE:=E (xT Kf.out H3);obtain ⟨_,_,_,_,_,M5⟩:=zag (Hb.out.ext H3);clear H3
  have H5:w1.heap.size≤wr.heap.size:=Hd.out.size
  by_cases hlt:j<m.segs.length
  ·obtain ⟨_,b,Hm,rfl,H1⟩:=(HS.out.ext HE.out).at_ (by omega)
   obtain ⟨s0,s1,s2,s3⟩:=H1 j hlt;have KF:=ziU m.segs j hlt;have KE:=(zfr Kl.out).2.2.2.2.2 j hlt
   generalize m.segs[j]=s at *
   have KW:Pe.wrap (s.count+1)=s.count+1:=by
    obtain ⟨_,_,_,_,h5⟩:=zko KE
    rw[Pd];omega
   have KO:=E KF;clear H1 KF KE
   have KZ:(j:Int)<(m.segs.length:Int):=by omega
   have Kv:=Blk.new wr 36 #[C D s.seq,C D s.fmt,C D s.first,C D s.count]
   have KU:Ext wr (wr.alloc (G #[C D s.seq,C D s.fmt,C D s.first,C D s.count] 36)):=xA (xR _) _
   obtain ⟨k0,k1,k2,k3⟩:=zaK Kv
   have hI:Is ((wr.alloc (G #[C D s.seq,C D s.fmt,C D s.first,C D s.count] 36)).alloc (G #[C D s.seq,C D s.fmt,C D s.first,C D (s.count+1)] 3)) (F (some ⟨wr.heap.size+1,0,none⟩) 4 4) [s.seq,s.fmt,s.first,s.count+1]:=by
    have:=zaG (wr.alloc (G #[C D s.seq,C D s.fmt,C D s.first,C D s.count] 36)) ([s.seq,s.fmt,s.first,s.count+1].map iv) 3 4 rfl (by simp[maxLen]) (xN _)
    rw[xS] at this
    exact xW this
   have HI:=E hI
   have Kt:Ext wr ((wr.alloc (G #[C D s.seq,C D s.fmt,C D s.first,C D s.count] 36)).alloc (G #[C D s.seq,C D s.fmt,C D s.first,C D (s.count+1)] 3)):=xA KU _
   have K1:=E Kt;obtain ⟨P,hP⟩:∃ P,H0++zbW (m.segs.take j)=P:=⟨_,rfl⟩
   have Ks:P.length=6+4*j:=by rw[←hP,xL,HT,zeg,P6];omega
   rw[hP] at He;have HP:=E hP;clear Kv hI Kt hP
   go_wp2_with (at_builtin;refine zm7 rfl (.tmp 40) (.tmp 50) rfl w1.heap.size _ P rfl (He.out.ext K1.out) _ [s.seq,s.fmt,s.first,s.count+1] rfl HI.out (by rw[Ks];simp;omega) (Nat.le_trans H5 K1.out.size) ?_;intro A3 c3 w3 Hx KR;rw[Ks] at Hx ⊢;have Hg:=KR w1 (xT Hd.out K1.out) (xN _))
   go_roundw
   case rel =>
    refine ⟨j+1,_,_,by omega,by go_num,rfl,E ?_,Hg⟩
    rw[KO.out,←P2,HP.out]
    exact Hx
   case measure=>simp[intOf];omega
  ·obtain rfl:j=m.segs.length:=by omega
   have HU:=He.out;rw[P3,←HM.out] at HU;have HK:=E HU
   have J1:(zbU m).length≤2000000:=by rw[HM.out,xL,HT,zeg];omega
   have Hs:=zgo _ _ _ HU.is H9.out J1;have Ho:=E Hs;have J5:=zcj (zbU m)
   have J2:(zbU m).length≤246:=by rw[HM.out,xL,HT,zeg];omega
   clear HU Hs He HO Kh HM HS;go_wp2_with fail
   refine Ho.out.mono ?_
   rintro e w3 ⟨v3,rfl,Hx,Hg⟩
   have hb3:Bs w3 v3 (zao (zbU m)):=xW Hx
   obtain ⟨A3,c3,rfl,_,_⟩:=xO hb3;have Ke:=E hb3;have X3:=E (xT HE.out Hg);obtain ⟨L,hL⟩:∃ L,zao (zbU m)=L:=⟨_,rfl⟩
   have Ji:L.length≤2000:=by rw[←hL];omega
   have HL:=E hL;rw[hL] at Ke
   have Hw:(zao (zbU m)).length=L.length:=by rw[hL]
   rw[Hw] at *
   clear hb3 Hx hL J5 Hw Ho
   go_wp2_with (at_builtin;refine zaX rfl (.tmp 57) (.tmp 58) rfl w3.heap.size _ [77] rfl (zaG w3 [C .u8 77] 5 1 rfl (by simp[maxLen]) (xN _)) _ L rfl (Ke.out.ext (xA (xR _) _)) (by simp;omega) (by simp) ?_;intro A4 c4 w4 J3 KT;have Ko:Ext w3 w4:=KT w3 (xA (xR _) _) (xN _))
   refine (zhj _ _ _ J3.bs (by simp;omega)).mono ?_
   rintro e w5 ⟨A5,c5,rfl,J4,KQ⟩
   have hr:zbH m=some (zaY rT ([77]++L)):=by rw[Hr.out,HL.out];rfl
   go_wp2_with fail
   go_ret2
   rw[hr]
   exact ⟨⟨_,rfl,zaf J4 (xT X3.out Ko).size⟩,xT X3.out (xT Ko KQ)⟩
end Go.Proofs.YteggfecbjgbndaaGreatDoor
