/- Merged -/
import Derived.Test.YteggfecbjgbndaaGreatDoorZx23
set_option linter.all false
set_option maxHeartbeats 8000000
set_option maxRecDepth 100000
open Go.Proofs.Tryz
open Go.Value renaming int->B,slice->H,pointer->J
open Go.IntKind renaming i64->C
open Go.Mv renaming aN->D
open Option renaming some->F,none->L
open Go.Proofs.Tryz renaming prog->G
open Go.Obj renaming cells->I
open Bool renaming eq_false_iff->P0
open Go.Exit renaming inBlock->P1,goto->P2
open Nat renaming add_sub_cancel->P3,reduceAdd->P4
open List renaming getElem?_eq_getElem->P5,push_toArray->P6,cons_append->P7
namespace Go.Proofs.YteggfecbjgbndaaGreatDoor
open Go.RowKit Go.Mv Go.Shelf Go.MapKept
variable {P:Prop}
theorem mcMChka0(h:P:=by
 clear c2 Ht h1 h2 h3 h5 h6 ea;gi_loopw [3,52] (λv3 K0 W=>∃(k:Nat) (f:Int),v3=B C f/\K0=B C k/\k<=m.segs.length/\Hid (McI w m (H A m.segs.length c) k f W)) (λ_ K0 _=>m.segs.length+1-(intOf K0).toNat)
 case atStart=>exact⟨0,0,rfl,rfl,Nat.zero_le _,HI⟩
 case round=>
  clear HI;obtain⟨k,f,rfl,rfl,Kh,HI⟩:=hrel;by_cases hlt:k<m.segs.length
  ·have Kb:=Dq hlt;obtain⟨_,bo,of,rfl,He⟩:=Sgs.at_ (Sgs.ext HS HI.e) (by omega);have ec:=He k hlt;have Hm:cD m k m.segs[k]=false->aZ m=false:=λh=>HA.out (th hlt h _ hlt);have HJ:cD m k m.segs[k]=true->dc m (k+1)=true:=λh=>by unfold dc;rw[HI.out.ok,P5 hlt];simpa using h
   have Hq:=λu=>Dp hlt u;have Hn:m.segs[k]?=F m.segs[k]:=P5 hlt;have Hd:=D Kb;have Hj:=D Hm;have HP:=D HJ;have HT:=D Hq;have HO:=D Hn;clear Kb Hm HJ Hq Hn He;generalize m.segs[k]=s at *;have K8:Ext wr (wr.alloc (I #[B C s.seq,B C s.fmt,B C s.first,B C s.count] 36)):=xA (xR _) _;have Hw:=HI.ext K8;have HX:=Blk.new wr 36 #[B C s.seq,B C s.fmt,B C s.first,B C s.count];obtain⟨b,hb⟩:∃b:Bool,(b=true↔(cP m.next s.seq s.fmt=true/\¬eJ m k (B C s.seq))):=by classical exact⟨decide (cP m.next s.seq s.fmt=true/\¬eJ m k (B C s.seq)),decide_eq_true_iff⟩
   have H7:=tH b s.seq s.fmt m.next w.heap.size (w.heap.size+1+1) (w.heap.size+1) _ _ HN (Hw.bm.cell 0 rfl) Hw.bs.cell Hw.mp hb;have HC:=D H7;have Kf:w.heap.size+1+1<wr.heap.size:=HI.bs.lt;have H5:=D Hw;have Ha:=D HX;have HB:=D hb;have HF:=D HI.f;have Ke:(k:Int)<(m.segs.length:Int):=by omega
   have Kj:wrap64 ((m.segs.length:Int)-1)=(m.segs.length:Int)-1:=by have:=H4.out;unfold wrap64;omega
   have ea:=aj Hw.bm;have ed:=aM HX;have Hc:cD m k s=false\/cD m k s=true:=by cases cD m k s<;>simp
   clear H7 Hw HX hb K8;by_cases hcm:s.count = -1
   ·have e1:(s.count == -1)=true:=by simpa using hcm
    have HE:=D hcm;clear hcm;by_cases hla:k+1=m.segs.length
    ·have e2:((k:Int)==(m.segs.length:Int)-1)=true:=by simp;omega
     have Hf:((s.count = -1/\k+1=m.segs.length)\/(1<=s.count/\s.count<=4)):=.inl ⟨HE.out,hla⟩;have H8:=D Hf;clear Hf hla;cases b with
     |false=>
      have H3:=Hj (by rw[P0,Ne,Hd.out];exact λh=>absurd (HB.2 h.1) (by simp));gi_wp2_with (first|(refine⟨trivial,?_⟩;gi_at_call 177;refine(callsIn_wd.2 HC.out).mono ?_;rintro e w2⟨rfl,H6,H0⟩;have H1:Blk w2 w.heap.size 30 _:=(H0.block _ (by omega)).trans H5.out.bm;have H2:Blk w2 wr.heap.size 36 _:=(H0.block _ (by omega)).trans Ha.out;have eb:=aj H1;have ee:=aM H2) | (refine⟨trivial,?_⟩;gi_at_call 178;refine(callsIn_wd.2 (db _ _ _ _)).mono ?_;rintro e w' ⟨rfl,rfl⟩) | (refine⟨trivial,?_⟩) | (with_reducible show(∀f,(none:Option FuncId)=F f->_)/\_;refine⟨λ_ _=>trivial,?_⟩))
      all_goals
       refine wpIn_goto ?_;try simp only[Exit.then,P1]
       refine(show Exit.jumps [0] (λ_=>McJ w m) _ (P2 0) _ _ from ?_);refine bI ?_;exact⟨H3,rfl,rfl,H0.ext2 H5.e (by omega)⟩
     |true=>
      have HD:=D (HB.1 rfl);cases Hs:inB s.first 1 1073741820 with
      |false=>
       have H3:=Hj (by rw[P0,Ne,Hd.out];exact λh=>absurd (inB_b.2 h.2.1) (by rw[Hs];simp));gi_wp2_with (first|(refine⟨trivial,?_⟩;gi_at_call 177;refine(callsIn_wd.2 HC.out).mono ?_;rintro e w2⟨rfl,H6,H0⟩;have H1:Blk w2 w.heap.size 30 _:=(H0.block _ (by omega)).trans H5.out.bm;have H2:Blk w2 wr.heap.size 36 _:=(H0.block _ (by omega)).trans Ha.out;have eb:=aj H1;have ee:=aM H2) | (refine⟨trivial,?_⟩;gi_at_call 178;refine(callsIn_wd.2 (db _ _ _ _)).mono ?_;rintro e w' ⟨rfl,rfl⟩) | (refine⟨trivial,?_⟩) | (with_reducible show(∀f,(none:Option FuncId)=F f->_)/\_;refine⟨λ_ _=>trivial,?_⟩))
       all_goals
        refine wpIn_goto ?_;try simp only[Exit.then,P1]
        refine(show Exit.jumps [0] (λ_=>McJ w m) _ (P2 0) _ _ from ?_);refine bI ?_;exact⟨H3,rfl,rfl,H0.ext2 H5.e (by omega)⟩
      |true=>
       have Hr:=D (inB_b.1 Hs);have HM:wrap64 (s.first+s.count)=s.first+s.count:=by have h1:=Hr.out;have h2:=H8.out;unfold wrap64;omega
       by_cases hk0:k=0
       ·have q1:¬(0:Int)<(k:Int):=by omega
        have H9:=D (HP (Hd.2 ⟨HD.out,Hr.out,H8.out,.inl hk0⟩));clear hk0 Hc;gi_wp2_with (first|(refine⟨trivial,?_⟩;gi_at_call 177;refine(callsIn_wd.2 HC.out).mono ?_;rintro e w2⟨rfl,H6,H0⟩;have H1:Blk w2 w.heap.size 30 _:=(H0.block _ (by omega)).trans H5.out.bm;have H2:Blk w2 wr.heap.size 36 _:=(H0.block _ (by omega)).trans Ha.out;have eb:=aj H1;have ee:=aM H2) | (refine⟨trivial,?_⟩;gi_at_call 178;refine(callsIn_wd.2 (db _ _ _ _)).mono ?_;rintro e w' ⟨rfl,rfl⟩) | (refine⟨trivial,?_⟩) | (with_reducible show(∀f,(none:Option FuncId)=F f->_)/\_;refine⟨λ_ _=>trivial,?_⟩))
        exact⟨⟨k+1,s.first+s.count,by rw[HM],by go_num,by omega,D (H5.mt H0 (H6.congr λu=>HT.out u) H9 (.inr ⟨s,by rw[P3];exact HO.out,by omega,rfl⟩))⟩,by simp[intOf];omega⟩
       have q1:(0:Int)<(k:Int):=by omega
       obtain⟨p,Hh,HK,Hi⟩:=HF.resolve_left (λh=>hk0 h.1);by_cases hff:s.first=f
       ·have q2:(s.first != f)=false:=by simpa using hff
        have H9:=D (HP (Hd.2 ⟨HD.out,Hr.out,H8.out,.inr ⟨p,Hh,hff.trans Hi⟩⟩));clear hk0 hff Hh HK Hi Hc;gi_wp2_with (first|(refine⟨trivial,?_⟩;gi_at_call 177;refine(callsIn_wd.2 HC.out).mono ?_;rintro e w2⟨rfl,H6,H0⟩;have H1:Blk w2 w.heap.size 30 _:=(H0.block _ (by omega)).trans H5.out.bm;have H2:Blk w2 wr.heap.size 36 _:=(H0.block _ (by omega)).trans Ha.out;have eb:=aj H1;have ee:=aM H2) | (refine⟨trivial,?_⟩;gi_at_call 178;refine(callsIn_wd.2 (db _ _ _ _)).mono ?_;rintro e w' ⟨rfl,rfl⟩) | (refine⟨trivial,?_⟩) | (with_reducible show(∀f,(none:Option FuncId)=F f->_)/\_;refine⟨λ_ _=>trivial,?_⟩))
        exact⟨⟨k+1,s.first+s.count,by rw[HM],by go_num,by omega,D (H5.mt H0 (H6.congr λu=>HT.out u) H9 (.inr ⟨s,by rw[P3];exact HO.out,by omega,rfl⟩))⟩,by simp[intOf];omega⟩
       have q2:(s.first != f)=true:=by simpa using hff
       have H3:=Hj (by rw[P0,Ne,Hd.out];exact λh=>by (rcases h.2.2.2 with h' | ⟨p',h1',h2'⟩;exact hk0 h';rw[Hh]at h1';cases h1';exact hff (h2'.trans Hi.symm)));clear hk0 hff Hh HK Hi Hc;gi_wp2_with (first|(refine⟨trivial,?_⟩;gi_at_call 177;refine(callsIn_wd.2 HC.out).mono ?_;rintro e w2⟨rfl,H6,H0⟩;have H1:Blk w2 w.heap.size 30 _:=(H0.block _ (by omega)).trans H5.out.bm;have H2:Blk w2 wr.heap.size 36 _:=(H0.block _ (by omega)).trans Ha.out;have eb:=aj H1;have ee:=aM H2) | (refine⟨trivial,?_⟩;gi_at_call 178;refine(callsIn_wd.2 (db _ _ _ _)).mono ?_;rintro e w' ⟨rfl,rfl⟩) | (refine⟨trivial,?_⟩) | (with_reducible show(∀f,(none:Option FuncId)=F f->_)/\_;refine⟨λ_ _=>trivial,?_⟩))
       all_goals
        refine wpIn_goto ?_;try simp only[Exit.then,P1]
        refine(show Exit.jumps [0] (λ_=>McJ w m) _ (P2 0) _ _ from ?_);refine bI ?_;exact⟨H3,rfl,rfl,H0.ext2 H5.e (by omega)⟩
    ·have e2:((k:Int)==(m.segs.length:Int)-1)=false:=by simp;omega
     have Hf:¬((s.count = -1/\k+1=m.segs.length)\/(1<=s.count/\s.count<=4)):=by have:=HE.out;omega
     have Ka:cD m k s=false:=by rw[P0,Ne,Hd.out];exact λh=>Hf h.2.2.1
     have H3:=Hj Ka;have e3:inB s.count 1 4=false:=by rw[P0,Ne,inB_b];have:=HE.out;omega
     clear Hf hla Ka;cases b with
     |false=>
      gi_wp2_with (first|(refine⟨trivial,?_⟩;gi_at_call 177;refine(callsIn_wd.2 HC.out).mono ?_;rintro e w2⟨rfl,H6,H0⟩;have H1:Blk w2 w.heap.size 30 _:=(H0.block _ (by omega)).trans H5.out.bm;have H2:Blk w2 wr.heap.size 36 _:=(H0.block _ (by omega)).trans Ha.out;have eb:=aj H1;have ee:=aM H2) | (refine⟨trivial,?_⟩;gi_at_call 178;refine(callsIn_wd.2 (db _ _ _ _)).mono ?_;rintro e w' ⟨rfl,rfl⟩) | (refine⟨trivial,?_⟩) | (with_reducible show(∀f,(none:Option FuncId)=F f->_)/\_;refine⟨λ_ _=>trivial,?_⟩))
      all_goals
       refine wpIn_goto ?_;try simp only[Exit.then,P1]
       refine(show Exit.jumps [0] (λ_=>McJ w m) _ (P2 0) _ _ from ?_);refine bI ?_;exact⟨H3,rfl,rfl,H0.ext2 H5.e (by omega)⟩
     |true=>
      cases Hs:inB s.first 1 1073741820 with
      |false=>
       gi_wp2_with (first|(refine⟨trivial,?_⟩;gi_at_call 177;refine(callsIn_wd.2 HC.out).mono ?_;rintro e w2⟨rfl,H6,H0⟩;have H1:Blk w2 w.heap.size 30 _:=(H0.block _ (by omega)).trans H5.out.bm;have H2:Blk w2 wr.heap.size 36 _:=(H0.block _ (by omega)).trans Ha.out;have eb:=aj H1;have ee:=aM H2) | (refine⟨trivial,?_⟩;gi_at_call 178;refine(callsIn_wd.2 (db _ _ _ _)).mono ?_;rintro e w' ⟨rfl,rfl⟩) | (refine⟨trivial,?_⟩) | (with_reducible show(∀f,(none:Option FuncId)=F f->_)/\_;refine⟨λ_ _=>trivial,?_⟩))
       all_goals
        refine wpIn_goto ?_;try simp only[Exit.then,P1]
        refine(show Exit.jumps [0] (λ_=>McJ w m) _ (P2 0) _ _ from ?_);refine bI ?_;exact⟨H3,rfl,rfl,H0.ext2 H5.e (by omega)⟩
      |true=>
       gi_wp2_with (first|(refine⟨trivial,?_⟩;gi_at_call 177;refine(callsIn_wd.2 HC.out).mono ?_;rintro e w2⟨rfl,H6,H0⟩;have H1:Blk w2 w.heap.size 30 _:=(H0.block _ (by omega)).trans H5.out.bm;have H2:Blk w2 wr.heap.size 36 _:=(H0.block _ (by omega)).trans Ha.out;have eb:=aj H1;have ee:=aM H2) | (refine⟨trivial,?_⟩;gi_at_call 178;refine(callsIn_wd.2 (db _ _ _ _)).mono ?_;rintro e w' ⟨rfl,rfl⟩) | (refine⟨trivial,?_⟩) | (with_reducible show(∀f,(none:Option FuncId)=F f->_)/\_;refine⟨λ_ _=>trivial,?_⟩))
       all_goals
        refine wpIn_goto ?_;try simp only[Exit.then,P1]
        refine(show Exit.jumps [0] (λ_=>McJ w m) _ (P2 0) _ _ from ?_);refine bI ?_;exact⟨H3,rfl,rfl,H0.ext2 H5.e (by omega)⟩
   ·have e1:(s.count == -1)=false:=by simpa using hcm
    have HE:=D hcm;clear hcm;cases b with
    |false=>
     have H3:=Hj (by rw[P0,Ne,Hd.out];exact λh=>absurd (HB.2 h.1) (by simp));gi_wp2_with (first|(refine⟨trivial,?_⟩;gi_at_call 177;refine(callsIn_wd.2 HC.out).mono ?_;rintro e w2⟨rfl,H6,H0⟩;have H1:Blk w2 w.heap.size 30 _:=(H0.block _ (by omega)).trans H5.out.bm;have H2:Blk w2 wr.heap.size 36 _:=(H0.block _ (by omega)).trans Ha.out;have eb:=aj H1;have ee:=aM H2) | (refine⟨trivial,?_⟩;gi_at_call 178;refine(callsIn_wd.2 (db _ _ _ _)).mono ?_;rintro e w' ⟨rfl,rfl⟩) | (refine⟨trivial,?_⟩) | (with_reducible show(∀f,(none:Option FuncId)=F f->_)/\_;refine⟨λ_ _=>trivial,?_⟩))
     all_goals
      refine wpIn_goto ?_;try simp only[Exit.then,P1]
      refine(show Exit.jumps [0] (λ_=>McJ w m) _ (P2 0) _ _ from ?_);refine bI ?_;exact⟨H3,rfl,rfl,H0.ext2 H5.e (by omega)⟩
    |true=>
     have HD:=D (HB.1 rfl);cases Hs:inB s.first 1 1073741820 with
     |false=>
      have H3:=Hj (by rw[P0,Ne,Hd.out];exact λh=>absurd (inB_b.2 h.2.1) (by rw[Hs];simp));gi_wp2_with (first|(refine⟨trivial,?_⟩;gi_at_call 177;refine(callsIn_wd.2 HC.out).mono ?_;rintro e w2⟨rfl,H6,H0⟩;have H1:Blk w2 w.heap.size 30 _:=(H0.block _ (by omega)).trans H5.out.bm;have H2:Blk w2 wr.heap.size 36 _:=(H0.block _ (by omega)).trans Ha.out;have eb:=aj H1;have ee:=aM H2) | (refine⟨trivial,?_⟩;gi_at_call 178;refine(callsIn_wd.2 (db _ _ _ _)).mono ?_;rintro e w' ⟨rfl,rfl⟩) | (refine⟨trivial,?_⟩) | (with_reducible show(∀f,(none:Option FuncId)=F f->_)/\_;refine⟨λ_ _=>trivial,?_⟩))
      all_goals
       refine wpIn_goto ?_;try simp only[Exit.then,P1]
       refine(show Exit.jumps [0] (λ_=>McJ w m) _ (P2 0) _ _ from ?_);refine bI ?_;exact⟨H3,rfl,rfl,H0.ext2 H5.e (by omega)⟩
     |true=>
      have Hr:=D (inB_b.1 Hs);cases hc3:inB s.count 1 4 with
      |false=>
       have H3:=Hj (by rw[P0,Ne,Hd.out];exact λh=>by (rcases h.2.2.1 with h' | h';exact HE h'.1;rw[inB_b.2 h']at hc3;cases hc3));gi_wp2_with (first|(refine⟨trivial,?_⟩;gi_at_call 177;refine(callsIn_wd.2 HC.out).mono ?_;rintro e w2⟨rfl,H6,H0⟩;have H1:Blk w2 w.heap.size 30 _:=(H0.block _ (by omega)).trans H5.out.bm;have H2:Blk w2 wr.heap.size 36 _:=(H0.block _ (by omega)).trans Ha.out;have eb:=aj H1;have ee:=aM H2) | (refine⟨trivial,?_⟩;gi_at_call 178;refine(callsIn_wd.2 (db _ _ _ _)).mono ?_;rintro e w' ⟨rfl,rfl⟩) | (refine⟨trivial,?_⟩) | (with_reducible show(∀f,(none:Option FuncId)=F f->_)/\_;refine⟨λ_ _=>trivial,?_⟩))
       all_goals
        refine wpIn_goto ?_;try simp only[Exit.then,P1]
        refine(show Exit.jumps [0] (λ_=>McJ w m) _ (P2 0) _ _ from ?_);refine bI ?_;exact⟨H3,rfl,rfl,H0.ext2 H5.e (by omega)⟩
      |true=>
      have H8:=D (show((s.count = -1/\k+1=m.segs.length)\/(1<=s.count/\s.count<=4))from .inr (inB_b.1 hc3));have HM:wrap64 (s.first+s.count)=s.first+s.count:=by have h1:=Hr.out;have h2:=H8.out;unfold wrap64;omega
      by_cases hk0:k=0
      ·have q1:¬(0:Int)<(k:Int):=by omega
       have H9:=D (HP (Hd.2 ⟨HD.out,Hr.out,H8.out,.inl hk0⟩));clear hk0 Hc;gi_wp2_with (first|(refine⟨trivial,?_⟩;gi_at_call 177;refine(callsIn_wd.2 HC.out).mono ?_;rintro e w2⟨rfl,H6,H0⟩;have H1:Blk w2 w.heap.size 30 _:=(H0.block _ (by omega)).trans H5.out.bm;have H2:Blk w2 wr.heap.size 36 _:=(H0.block _ (by omega)).trans Ha.out;have eb:=aj H1;have ee:=aM H2) | (refine⟨trivial,?_⟩;gi_at_call 178;refine(callsIn_wd.2 (db _ _ _ _)).mono ?_;rintro e w' ⟨rfl,rfl⟩) | (refine⟨trivial,?_⟩) | (with_reducible show(∀f,(none:Option FuncId)=F f->_)/\_;refine⟨λ_ _=>trivial,?_⟩))
       exact⟨⟨k+1,s.first+s.count,by rw[HM],by go_num,by omega,D (H5.mt H0 (H6.congr λu=>HT.out u) H9 (.inr ⟨s,by rw[P3];exact HO.out,by omega,rfl⟩))⟩,by simp[intOf];omega⟩
      have q1:(0:Int)<(k:Int):=by omega
      obtain⟨p,Hh,HK,Hi⟩:=HF.resolve_left (λh=>hk0 h.1);by_cases hff:s.first=f
      ·have q2:(s.first != f)=false:=by simpa using hff
       have H9:=D (HP (Hd.2 ⟨HD.out,Hr.out,H8.out,.inr ⟨p,Hh,hff.trans Hi⟩⟩));clear hk0 hff Hh HK Hi Hc;gi_wp2_with (first|(refine⟨trivial,?_⟩;gi_at_call 177;refine(callsIn_wd.2 HC.out).mono ?_;rintro e w2⟨rfl,H6,H0⟩;have H1:Blk w2 w.heap.size 30 _:=(H0.block _ (by omega)).trans H5.out.bm;have H2:Blk w2 wr.heap.size 36 _:=(H0.block _ (by omega)).trans Ha.out;have eb:=aj H1;have ee:=aM H2) | (refine⟨trivial,?_⟩;gi_at_call 178;refine(callsIn_wd.2 (db _ _ _ _)).mono ?_;rintro e w' ⟨rfl,rfl⟩) | (refine⟨trivial,?_⟩) | (with_reducible show(∀f,(none:Option FuncId)=F f->_)/\_;refine⟨λ_ _=>trivial,?_⟩))
       exact⟨⟨k+1,s.first+s.count,by rw[HM],by go_num,by omega,D (H5.mt H0 (H6.congr λu=>HT.out u) H9 (.inr ⟨s,by rw[P3];exact HO.out,by omega,rfl⟩))⟩,by simp[intOf];omega⟩
      have q2:(s.first != f)=true:=by simpa using hff
      have H3:=Hj (by rw[P0,Ne,Hd.out];exact λh=>by (rcases h.2.2.2 with h' | ⟨p',h1',h2'⟩;exact hk0 h';rw[Hh]at h1';cases h1';exact hff (h2'.trans Hi.symm)));clear hk0 hff Hh HK Hi Hc;gi_wp2_with (first|(refine⟨trivial,?_⟩;gi_at_call 177;refine(callsIn_wd.2 HC.out).mono ?_;rintro e w2⟨rfl,H6,H0⟩;have H1:Blk w2 w.heap.size 30 _:=(H0.block _ (by omega)).trans H5.out.bm;have H2:Blk w2 wr.heap.size 36 _:=(H0.block _ (by omega)).trans Ha.out;have eb:=aj H1;have ee:=aM H2) | (refine⟨trivial,?_⟩;gi_at_call 178;refine(callsIn_wd.2 (db _ _ _ _)).mono ?_;rintro e w' ⟨rfl,rfl⟩) | (refine⟨trivial,?_⟩) | (with_reducible show(∀f,(none:Option FuncId)=F f->_)/\_;refine⟨λ_ _=>trivial,?_⟩))
      all_goals
       refine wpIn_goto ?_;try simp only[Exit.then,P1]
       refine(show Exit.jumps [0] (λ_=>McJ w m) _ (P2 0) _ _ from ?_);refine bI ?_;exact⟨H3,rfl,rfl,H0.ext2 H5.e (by omega)⟩
  ·obtain rfl:k=m.segs.length:=by omega
   have HV:aZ m=true:=HG K2 HI.ok;have hR:R=0:=by rw[<-HR.out,HV];rfl
   subst hR;gi_wp2;refine bJ ?_;go_ret;exact⟨rfl,HI.e⟩):P:=h
theorem mcMChka1(h:P:=by
 gi_wp2_with (first|(refine⟨trivial,?_⟩;gi_at_call 178;refine(callsIn_wd.2 (db _ _ _ _)).mono ?_;rintro e w' ⟨rfl,rfl⟩) | (refine⟨trivial,?_⟩) | (with_reducible show(∀f,(none:Option FuncId)=F f->_)/\_;refine⟨λ_ _=>trivial,?_⟩))
 all_goals
  refine wpIn_goto ?_;try simp only[Exit.then,P1]
  refine(show Exit.jumps [0] (λ_=>McJ w m) _ (P2 0) _ _ from ?_);refine bI ?_;exact⟨H3,rfl,rfl,Hv.out⟩):P:=h
theorem mcMChka2(h:P:=by
 go_enter Tryz.func177,Tryz.ntmps177
 go_wp2_with (first
  |(go_at_call 178;refine(db _ _ _ _).mono ?_;rintro e w' ⟨rfl,rfl⟩))
 go_ret;exact⟨rfl,Kc.out,Hu.out⟩):P:=h
theorem db(n a hi:Int)(w:World):Calls G 178 #[B C n,B C a,B C hi] w λe w'=>e=.returned (.bool (inB n a hi))/\w=w':=by
 by_cases h1:a<=n<;>by_cases h2:n<=hi<;>
  (have hb:inB n a hi=(decide (a<=n)&&decide (n<=hi)):=by (unfold inB;rw[Bool.eq_iff_iff];simp)
   have a:=D hb;clear hb;go_enter func178,ntmps178
   go_wp2;go_ret;refine⟨?_,rfl⟩;rw[a.out];simp[h1,h2])
theorem Nz(w:World):(zeroValue 3).run G w=.ok (B C 0) w:=by kernel_rfl
theorem LW{next b a:Int}:cP next b a=true↔inB b 1 (next-1)=true/\inB a 1 2=true:=by
 unfold cP inB;simp only[decide_eq_true_eq];omega
theorem tH(b:Bool)(a d next:Int)(j bs r:Nat)(S:Value->Prop)(w:World)(hn:1<=next/\next<=1073741824)(hc:w.cell? ⟨j,0,L⟩=F (B C next))(hs:w.cell? ⟨bs,0,L⟩=F (.map (some r)))(g:SSet w r (.int .i64) (B C 1) S)(hb:b=true↔(cP next a d=true/\¬S (B C a))):
  Calls G 177 #[B C a,B C d,J (F ⟨j,0,L⟩),J (F ⟨bs,0,L⟩)] w λe w'=>e=.returned (.bool b)/\SSet w' r (.int .i64) (B C 1) (λx=>S x\/x=B C a)/\MT w w' r:=by
 have m:wrap64 (next-1)=next-1:=by unfold wrap64;omega
 obtain⟨n,l,h,i⟩:=g.update (P:=G) (T:=221) (K:=3) (E:=3) (k:=B C a) underlying221 underlying3 rfl;have hl:=g.lookup (P:=G) (T:=221) (K:=3) (E:=3) (k:=B C a) underlying221 underlying3 rfl (Nz w);have Kc:=D h;have Hu:=D i;rw[LW]at hb;have c:=D hb;clear g h i hb;cases h1:inB a 1 (next-1)with
 |false=>
  obtain rfl:b=false:=by rw[P0,Ne,c.out];simp[h1]
  clear hl c;exact mcMChka2
 |true=>
  cases h2:inB d 1 2 with
  |false=>
   obtain rfl:b=false:=by rw[P0,Ne,c.out];simp[h2]
   clear hl c;exact mcMChka2
  |true=>
   rcases hl with⟨f,hl⟩|⟨f,hl⟩
   ·obtain rfl:b=false:=by rw[P0,Ne,c.out];simp[f]
    clear c f;exact mcMChka2
   ·obtain rfl:b=true:=by rw[c.out];exact⟨⟨h1,h2⟩,f⟩
    clear c f;exact mcMChka2
def McJ(w:World)(m:Mf)(a:Act)(W:World):Prop:=aZ m=false/\a.defers=[]/\a.tmps.size=107/\Ext w W
structure McI (w:World) (m:Mf) (v:Value) (k:Nat) (f:Int) (W:World):Prop where
 bm:Blk W w.heap.size 30 (mfC m v)
 mp:SSet W (w.heap.size+1) (.int .i64) (B C 1) (eJ m k)
 bs:Boxed W (w.heap.size+1+1) 221 (.map (some (w.heap.size+1)))
 e:Ext w W
 ok:dc m k=true
 f:(k=0/\f=0)\/∃ p,m.segs[k-1]?=F p/\1<=k/\f=p.first+p.count
theorem McI.ext{w:World}{m:Mf}{v:Value}{k:Nat}{f:Int}{W W':World}(h:McI w m v k f W)(a:Ext W W'):McI w m v k f W':=
 ⟨h.bm.ext a,h.mp.ext a,h.bs.kept (row:=none) (Ext.grown a none) (by simp),xT h.e a,h.ok,h.f⟩
theorem McI.mt{w:World}{m:Mf}{v:Value}{k:Nat}{f:Int}{W W':World}(h:McI w m v k f W)(b:MT W W' (w.heap.size+1)){a:Nat}{f':Int}(c:SSet W' (w.heap.size+1) (.int .i64) (B C 1) (eJ m a))(d:dc m a=true)(hf:(a=0/\f'=0)\/∃p,m.segs[a-1]?=F p/\1<=a/\f'=p.first+p.count):McI w m v a f' W':=
 ⟨(b.block _ (by omega)).trans h.bm,c,(b.block _ (by omega)).trans h.bs,b.ext2 h.e (by omega),d,hf⟩
theorem F2(m:Mf)(v:Value)(w:World)(J:Sgs w v m.segs):
  Calls G 117 #[.agg #[B C m.next,B C m.term,B C m.vote,B C m.sq,B C m.sf,v]] w λe w'=>e=.returned (B C (if aZ m then 0 else 2))/\Ext w w':=by
 obtain⟨A,c,rfl,Kg,Hs⟩:=J.open_;obtain⟨R,hR⟩:∃R:Int,(if aZ m then 0 else 2)=R:=⟨_,rfl⟩;rw[hR];have HR:=D hR;clear hR;have Ki:=@run_makeMap G;have V:=nP (P:=G) (w.alloc (I #[B C m.next,B C m.term,B C m.vote,B C m.sq,B C m.sf,H A m.segs.length c] 30)) .i64 underlying221 underlying3 #[] 0 0 (B C 1) rfl;have Q:SSet ((w.alloc (I #[B C m.next,B C m.term,B C m.vote,B C m.sq,B C m.sf,H A m.segs.length c] 30)).alloc (.map #[{ key:=B C 0,val:=B C 1,born:=0 }] 1)) (w.heap.size+1) (.int .i64) (B C 1) (λx=>x=B C 0):=by
  refine⟨_,1,by have:=heap_alloc_new (w.alloc (I #[B C m.next,B C m.term,B C m.vote,B C m.sq,B C m.sf,H A m.segs.length c] 30)) (.map #[{ key:=B C 0,val:=B C 1,born:=0 }] 1);rwa[xS]at this,?_,?_,?_⟩
  ·exact stamped_push (stamped_empty 0) (by simp)
  ·intro x hx;simp at hx;subst hx;exact⟨rfl,rfl⟩
  intro k;simp;exact⟨λh=>h.symm,λh=>h.symm⟩
 simp only[P6,xI,P7,P4,xS]at V;have HS:=D J;have O:=D Q;clear J Q;have S:Ext w (((w.alloc (I #[B C m.next,B C m.term,B C m.vote,B C m.sq,B C m.sf,H A m.segs.length c] 30)).alloc (.map #[{ key:=B C 0,val:=B C 1,born:=0 }] 1)).alloc (I #[.map (some (w.heap.size+1))] 221)):=xA (xA (xA (xR _) _) _) _;have t:=((Blk.new w 30 #[B C m.next,B C m.term,B C m.vote,B C m.sq,B C m.sf,H A m.segs.length c]).alloc (.map #[{ key:=B C 0,val:=B C 1,born:=0 }] 1)).alloc (I #[.map (some (w.heap.size+1))] 221);have q:=Boxed.new ((w.alloc (I #[B C m.next,B C m.term,B C m.vote,B C m.sq,B C m.sf,H A m.segs.length c] 30)).alloc (.map #[{ key:=B C 0,val:=B C 1,born:=0 }] 1)) 221 (.map (some (w.heap.size+1)));rw[xS,xS]at q;have Hv:=D S;have Hx:=D t;have o:=D q;have H0:=O.ext (xA (xR _) (I #[.map (some (w.heap.size+1))] 221));have r:=D H0;have ea:=aj t;have c2:=q.cell;clear S t q O H0;refine(callsIn_wd (ro:=none) (n:=9)).1 ?_;refine callsIn_of_wp func117 rfl trivial ?_ rfl;simp only[ntmps117,List.size_toArray,xC,List.length_nil,P4,Nat.reduceSub,Array.replicate_succ,Array.replicate_zero,P6,List.append_toArray,xI,P7];gi_wp2;refine eU 0 (McJ w m) (λa _=>0) rfl (λl' h=>by cases l'<;>first | exact absurd rfl h | rfl) ?_ ?_
 ·intro N;have K3:=D N;clear N;cases h1:inB m.next 1 1073741824 with
  |false=>
   have H3:aZ m=false:=by unfold aZ dN;rw[h1];rfl
   exact mcMChka1
  |true=>
  cases h2:inB m.term 0 1073741824 with
  |false=>
   have H3:aZ m=false:=by unfold aZ dN;rw[h1,h2];rfl
   exact mcMChka1
  |true=>
  cases h3:inB m.vote 0 5 with
  |false=>
   have H3:aZ m=false:=by unfold aZ dN;rw[h1,h2,h3];rfl
   exact mcMChka1
  |true=>
  by_cases h4:m.segs.length<=60
  case neg=>
   have H3:aZ m=false:=by unfold aZ dN;rw[h1,h2,h3];simp[h4]
   have h5:(60:Int)<(m.segs.length:Int):=by omega
   exact mcMChka1
  have h5:¬(60:Int)<(m.segs.length:Int):=by omega
  have h6:(m.segs.length:Int)<=60:=by omega
  have z:dN m=true:=by unfold dN;rw[h1,h2,h3];simpa using h4
  have hn:=inB_b.1 h1;have HN:=D hn;have H4:=D h4;have Hk:dX m=false->aZ m=false:=λh=>by unfold aZ;rw[z,h];rfl
  have L:dc m m.segs.length=false->aZ m=false:=λh=>by unfold aZ;rw[h];simp
  have M:dX m=true->dc m m.segs.length=true->aZ m=true:=λh h'=>by unfold aZ;rw[z,h,h'];rfl
  have X:=D Hk;have HA:=D L;have HG:=D M;have Ht:=λW=>Lg m.sq m.sf 0 0 W;clear hn h4 Hk L M z;by_cases g:m.sq=0/\m.sf=0
  ·rw[decide_eq_true (by simpa using g)]at Ht;have j:McI w m (H A m.segs.length c) 0 0 _:=⟨Hx.out,r.congr λx=>by (unfold eJ;simp[g.1]),o.out,Hv.out,rfl,.inl ⟨rfl,rfl⟩⟩;have l:dX m=true:=by unfold dX;simp[g]
   have HI:=D j;have K2:=D l;have HQ:=D g;clear j l g Hv Hx o r;gi_wp2_with (first|(refine⟨trivial,?_⟩;gi_at_call 178;refine(callsIn_wd.2 (db _ _ _ _)).mono ?_;rintro e w' ⟨rfl,rfl⟩) | (refine⟨trivial,?_⟩) | (with_reducible show(∀f,(none:Option FuncId)=F f->_)/\_;refine⟨λ_ _=>trivial,?_⟩))
   refine⟨λ_ h=>(by cases h),?_⟩;gi_wp2_with fail
   exact mcMChka0
  ·rw[decide_eq_false (by simpa using g)]at Ht;have T:∀b,(b=true↔(cP m.next m.sq m.sf=true/\¬(B C m.sq=B C 0)))↔(b=cP m.next m.sq m.sf):=λb=>by
    have:cP m.next m.sq m.sf=true->¬(B C m.sq=B C 0):=λh e=>by have:=(mZ h).1;injection e with _ e;omega
    cases b<;>cases d:cP m.next m.sq m.sf<;>simp_all
   have H7:=tH (cP m.next m.sq m.sf) m.sq m.sf m.next w.heap.size (w.heap.size+1+1) (w.heap.size+1) _ _ HN (Hx.cell 0 rfl) o.cell r ((T _).2 rfl);have HC:=D H7;clear H7 T;cases d:cP m.next m.sq m.sf with
   |false=>
    rw[d]at HC;have H3:aZ m=false:=X (by unfold dX;rw[d];simp[g]);clear g d;gi_wp2_with (first|(refine⟨trivial,?_⟩;gi_at_call 177;refine(callsIn_wd.2 HC.out).mono ?_;rintro e w2⟨rfl,H6,H0⟩)| (first|(refine⟨trivial,?_⟩;gi_at_call 178;refine(callsIn_wd.2 (db _ _ _ _)).mono ?_;rintro e w' ⟨rfl,rfl⟩) | (refine⟨trivial,?_⟩) | (with_reducible show(∀f,(none:Option FuncId)=F f->_)/\_;refine⟨λ_ _=>trivial,?_⟩)))
    all_goals
     refine wpIn_goto ?_;try simp only[Exit.then,P1]
     refine(show Exit.jumps [0] (λ_=>McJ w m) _ (P2 0) _ _ from ?_);refine bI ?_;exact⟨H3,rfl,rfl,H0.ext2 Hv (by omega)⟩
   |true=>
    rw[d]at HC;have l:dX m=true:=by unfold dX;rw[d];simp
    have K2:=D l;clear l g d;gi_wp2_with (first|(refine⟨trivial,?_⟩;gi_at_call 177;refine(callsIn_wd.2 HC.out).mono ?_;rintro e w2⟨rfl,H6,H0⟩;have H1:Blk w2 w.heap.size 30 _:=(H0.block _ (by omega)).trans Hx.out;have eb:=aj H1) | (first|(refine⟨trivial,?_⟩;gi_at_call 178;refine(callsIn_wd.2 (db _ _ _ _)).mono ?_;rintro e w' ⟨rfl,rfl⟩) | (refine⟨trivial,?_⟩) | (with_reducible show(∀f,(none:Option FuncId)=F f->_)/\_;refine⟨λ_ _=>trivial,?_⟩)))
    have j:McI w m (H A m.segs.length c) 0 0 w2:=⟨H1,H6.congr λx=>by (unfold eJ;simp),(H0.block _ (by omega)).trans o.out,H0.ext2 Hv (by omega),rfl,.inl ⟨rfl,rfl⟩⟩;have HI:=D j;clear j H1 H6 H0 Hv Hx o r HC eb;exact mcMChka0
 ·rintro⟨E,df⟩W⟨HV,hd,y,Z⟩;cases hd;dsimp only at y;have hR:R=2:=by rw[<-HR.out,HV];rfl
  subst hR;have K:=fM 107 E y;generalize hU:(λi=>E.getD i undef)=U at K;have Y:E = #[U 0,U 1,U 2,U 3,U 4,U 5,U 6,U 7,U 8,U 9,U 10,U 11,U 12,U 13,U 14,U 15,U 16,U 17,U 18,U 19,U 20,U 21,U 22,U 23,U 24,U 25,U 26,U 27,U 28,U 29,U 30,U 31,U 32,U 33,U 34,U 35,U 36,U 37,U 38,U 39,U 40,U 41,U 42,U 43,U 44,U 45,U 46,U 47,U 48,U 49,U 50,U 51,U 52,U 53,U 54,U 55,U 56,U 57,U 58,U 59,U 60,U 61,U 62,U 63,U 64,U 65,U 66,U 67,U 68,U 69,U 70,U 71,U 72,U 73,U 74,U 75,U 76,U 77,U 78,U 79,U 80,U 81,U 82,U 83,U 84,U 85,U 86,U 87,U 88,U 89,U 90,U 91,U 92,U 93,U 94,U 95,U 96,U 97,U 98,U 99,U 100,U 101,U 102,U 103,U 104,U 105,U 106]:=K;clear K hU y;subst Y;clear HV;gi_wp2;refine bJ ?_;go_ret;exact⟨rfl,Z⟩
