/- Merged -/
import Derived.Test.YteggfecbjgbndaaGreatDoorZw19
import Derived.Test.YteggfecbjgbndaaGreatDoorZw32
set_option linter.all false
set_option maxHeartbeats 8000000
set_option maxRecDepth 100000
open Go.Value renaming int→B,slice→H,pointer→J
open Go.IntKind renaming i64→C
open Go.Mv renaming zhd→D
open Option renaming some→F,none→L
open Go.Proofs.Tryz renaming prog→G
open Go.Obj renaming cells→I
open Bool renaming eq_false_iff→P0
open Go.Exit renaming inBlock→P1,goto→P2
open Nat renaming add_sub_cancel→P3,reduceAdd→P4
open List renaming getElem?_eq_getElem→P5,push_toArray→P6,cons_append→P7
namespace Go.Proofs.YteggfecbjgbndaaGreatDoor
open Go.RowKit Go.Mv Go.Shelf Go.MapKept
theorem mcMChka0 {P:Prop} (h:P:=by
 clear m0 m1 m2 m3 m4 m5 c2 Ht h1 h2 h3 h5 h6
 gi_loopw [3,52] (fun v3 K0 W=>∃ (k:Nat) (f:Int),v3=B C f∧K0=B C k∧k≤m.segs.length∧Hid (McI w m (H A m.segs.length c) k f W)) (fun _ K0 _=>m.segs.length+1-(intOf K0).toNat)
 case atStart=>exact ⟨0,0,rfl,rfl,Nat.zero_le _,HI⟩
 case round =>
  clear HI;obtain ⟨k,f,rfl,rfl,Kh,HI⟩:=hrel
  by_cases hlt:k<m.segs.length
  ·have Kb:=zkX hlt
   obtain ⟨_,bo,of,rfl,He⟩:=Sgs.at_ (Sgs.ext HS.out HI.out.e) (by omega);obtain ⟨d0,d1,d2,d3⟩:=He k hlt
   have Hm:zbj m k m.segs[k]=false→zaF m=false:=fun h=>HA.out (ze8 hlt h _ hlt)
   have HJ:zbj m k m.segs[k]=true→zbu m (k+1)=true:=fun h=>by unfold zbu;rw[HI.out.ok,P5 hlt];simpa using h
   have Hq:=fun u=>zkV hlt u
   have Hn:m.segs[k]?=F m.segs[k]:=P5 hlt
   have Hd:=D Kb;have Hj:=D Hm;have HP:=D HJ;have HT:=D Hq;have HO:=D Hn;clear Kb Hm HJ Hq Hn He
   generalize m.segs[k]=s at *
   have K8:Ext wr (wr.alloc (I #[B C s.seq,B C s.fmt,B C s.first,B C s.count] 36)):=xA (xR _) _
   have Hw:=HI.out.ext K8;have HX:=Blk.new wr 36 #[B C s.seq,B C s.fmt,B C s.first,B C s.count]
   obtain ⟨b,hb⟩:∃ b:Bool,(b=true↔(zbs m.next s.seq s.fmt=true∧¬ zdg m k (B C s.seq))):=by classical exact ⟨decide (zbs m.next s.seq s.fmt=true∧¬ zdg m k (B C s.seq)),decide_eq_true_iff⟩
   have H7:=zhA b s.seq s.fmt m.next w.heap.size (w.heap.size+1+1) (w.heap.size+1) _ _ HN.out (Hw.bm.cell 0 rfl) Hw.bs.cell Hw.mp hb;have HC:=D H7
   have Kf:w.heap.size+1+1<wr.heap.size:=HI.out.bs.lt
   have H5:=D Hw;have Ha:=D HX;have HB:=D hb;have HF:=D HI.out.f
   have Ke:(k:Int)<(m.segs.length:Int):=by omega
   have Kj:wrap64 ((m.segs.length:Int)-1)=(m.segs.length:Int)-1:=by have:=H4.out;unfold wrap64;omega
   obtain ⟨m0,m1,m2,m3,m4,m5⟩:=zag Hw.bm;obtain ⟨x0,x1,x2,x3⟩:=zaK HX
   have Hc:zbj m k s=false∨zbj m k s=true:=by cases zbj m k s <;> simp
   clear H7 Hw HX hb K8
   by_cases hcm:s.count = -1
   ·have e1:(s.count == -1)=true:=by simpa using hcm
    have HE:=D hcm;clear hcm
    by_cases hla:k+1=m.segs.length
    ·have e2:((k:Int)==(m.segs.length:Int)-1)=true:=by simp;omega
     have Hf:((s.count = -1∧k+1=m.segs.length)∨(1≤s.count∧s.count≤4)):=.inl ⟨HE.out,hla⟩
     have H8:=D Hf;clear Hf hla
     cases b with
     | false =>
      have H3:=Hj.out (by rw[P0,Ne,Hd.out];exact fun h=>absurd (HB.out.2 h.1) (by simp))
      gi_wp2_with (first | (refine ⟨trivial,?_⟩;gi_at_call 177;refine (callsIn_wd.2 HC.out).mono ?_;rintro e w2 ⟨rfl,H6,H0⟩;have H1:Blk w2 w.heap.size 30 _:=(H0.block _ (by omega)).trans H5.out.bm;have H2:Blk w2 wr.heap.size 36 _:=(H0.block _ (by omega)).trans Ha.out;obtain ⟨n0,n1,n2,n3,n4,n5⟩:=zag H1;obtain ⟨y0,y1,y2,y3⟩:=zaK H2) | (refine ⟨trivial,?_⟩;gi_at_call 178;refine (callsIn_wd.2 (zai _ _ _ _)).mono ?_;rintro e w' ⟨rfl,rfl⟩) | (refine ⟨trivial,?_⟩) | (with_reducible show (∀ f,(none:Option FuncId)=F f→_)∧_;refine ⟨fun _ _=>trivial,?_⟩))
      all_goals
       refine wpIn_goto ?_
       try simp only[Exit.then,P1]
       refine (show Exit.jumps [0] (fun _=>McJ w m) _ (P2 0) _ _ from ?_)
       refine zar (by simp) ?_
       exact ⟨H3,rfl,rfl,H0.ext2 H5.out.e (by omega)⟩
     | true =>
      have HD:=D (HB.out.1 rfl)
      cases Hs:inB s.first 1 1073741820 with
      | false =>
       have H3:=Hj.out (by rw[P0,Ne,Hd.out];exact fun h=>absurd (inB_b.2 h.2.1) (by rw[Hs];simp))
       gi_wp2_with (first | (refine ⟨trivial,?_⟩;gi_at_call 177;refine (callsIn_wd.2 HC.out).mono ?_;rintro e w2 ⟨rfl,H6,H0⟩;have H1:Blk w2 w.heap.size 30 _:=(H0.block _ (by omega)).trans H5.out.bm;have H2:Blk w2 wr.heap.size 36 _:=(H0.block _ (by omega)).trans Ha.out;obtain ⟨n0,n1,n2,n3,n4,n5⟩:=zag H1;obtain ⟨y0,y1,y2,y3⟩:=zaK H2) | (refine ⟨trivial,?_⟩;gi_at_call 178;refine (callsIn_wd.2 (zai _ _ _ _)).mono ?_;rintro e w' ⟨rfl,rfl⟩) | (refine ⟨trivial,?_⟩) | (with_reducible show (∀ f,(none:Option FuncId)=F f→_)∧_;refine ⟨fun _ _=>trivial,?_⟩))
       all_goals
        refine wpIn_goto ?_
        try simp only[Exit.then,P1]
        refine (show Exit.jumps [0] (fun _=>McJ w m) _ (P2 0) _ _ from ?_)
        refine zar (by simp) ?_
        exact ⟨H3,rfl,rfl,H0.ext2 H5.out.e (by omega)⟩
      | true =>
       have Hr:=D (inB_b.1 Hs)
       have HM:wrap64 (s.first+s.count)=s.first+s.count:=by have h1:=Hr.out;have h2:=H8.out;unfold wrap64;omega
       by_cases hk0:k=0
       ·have q1:¬ (0:Int)<(k:Int):=by omega
        have H9:=D (HP.out (Hd.out.2 ⟨HD.out,Hr.out,H8.out,.inl hk0⟩));clear hk0 Hc
        gi_wp2_with (first | (refine ⟨trivial,?_⟩;gi_at_call 177;refine (callsIn_wd.2 HC.out).mono ?_;rintro e w2 ⟨rfl,H6,H0⟩;have H1:Blk w2 w.heap.size 30 _:=(H0.block _ (by omega)).trans H5.out.bm;have H2:Blk w2 wr.heap.size 36 _:=(H0.block _ (by omega)).trans Ha.out;obtain ⟨n0,n1,n2,n3,n4,n5⟩:=zag H1;obtain ⟨y0,y1,y2,y3⟩:=zaK H2) | (refine ⟨trivial,?_⟩;gi_at_call 178;refine (callsIn_wd.2 (zai _ _ _ _)).mono ?_;rintro e w' ⟨rfl,rfl⟩) | (refine ⟨trivial,?_⟩) | (with_reducible show (∀ f,(none:Option FuncId)=F f→_)∧_;refine ⟨fun _ _=>trivial,?_⟩))
        exact ⟨⟨k+1,s.first+s.count,by rw[HM],by go_num,by omega,D (H5.out.mt H0 (H6.congr fun u=>HT.out u) H9.out (.inr ⟨s,by rw[P3];exact HO.out,by omega,rfl⟩))⟩,by simp[intOf];omega⟩
       ·have q1:(0:Int)<(k:Int):=by omega
        obtain ⟨p,Hh,HK,Hi⟩:=HF.out.resolve_left (fun h=>hk0 h.1)
        by_cases hff:s.first=f
        ·have q2:(s.first != f)=false:=by simpa using hff
         have H9:=D (HP.out (Hd.out.2 ⟨HD.out,Hr.out,H8.out,.inr ⟨p,Hh,hff.trans Hi⟩⟩));clear hk0 hff Hh HK Hi Hc
         gi_wp2_with (first | (refine ⟨trivial,?_⟩;gi_at_call 177;refine (callsIn_wd.2 HC.out).mono ?_;rintro e w2 ⟨rfl,H6,H0⟩;have H1:Blk w2 w.heap.size 30 _:=(H0.block _ (by omega)).trans H5.out.bm;have H2:Blk w2 wr.heap.size 36 _:=(H0.block _ (by omega)).trans Ha.out;obtain ⟨n0,n1,n2,n3,n4,n5⟩:=zag H1;obtain ⟨y0,y1,y2,y3⟩:=zaK H2) | (refine ⟨trivial,?_⟩;gi_at_call 178;refine (callsIn_wd.2 (zai _ _ _ _)).mono ?_;rintro e w' ⟨rfl,rfl⟩) | (refine ⟨trivial,?_⟩) | (with_reducible show (∀ f,(none:Option FuncId)=F f→_)∧_;refine ⟨fun _ _=>trivial,?_⟩))
         exact ⟨⟨k+1,s.first+s.count,by rw[HM],by go_num,by omega,D (H5.out.mt H0 (H6.congr fun u=>HT.out u) H9.out (.inr ⟨s,by rw[P3];exact HO.out,by omega,rfl⟩))⟩,by simp[intOf];omega⟩
        ·have q2:(s.first != f)=true:=by simpa using hff
         have H3:=Hj.out (by rw[P0,Ne,Hd.out];exact fun h=>by (rcases h.2.2.2 with h' | ⟨p',h1',h2'⟩;exact hk0 h';rw[Hh] at h1';cases h1';exact hff (h2'.trans Hi.symm)))
         clear hk0 hff Hh HK Hi Hc
         gi_wp2_with (first | (refine ⟨trivial,?_⟩;gi_at_call 177;refine (callsIn_wd.2 HC.out).mono ?_;rintro e w2 ⟨rfl,H6,H0⟩;have H1:Blk w2 w.heap.size 30 _:=(H0.block _ (by omega)).trans H5.out.bm;have H2:Blk w2 wr.heap.size 36 _:=(H0.block _ (by omega)).trans Ha.out;obtain ⟨n0,n1,n2,n3,n4,n5⟩:=zag H1;obtain ⟨y0,y1,y2,y3⟩:=zaK H2) | (refine ⟨trivial,?_⟩;gi_at_call 178;refine (callsIn_wd.2 (zai _ _ _ _)).mono ?_;rintro e w' ⟨rfl,rfl⟩) | (refine ⟨trivial,?_⟩) | (with_reducible show (∀ f,(none:Option FuncId)=F f→_)∧_;refine ⟨fun _ _=>trivial,?_⟩))
         all_goals
          refine wpIn_goto ?_
          try simp only[Exit.then,P1]
          refine (show Exit.jumps [0] (fun _=>McJ w m) _ (P2 0) _ _ from ?_)
          refine zar (by simp) ?_
          exact ⟨H3,rfl,rfl,H0.ext2 H5.out.e (by omega)⟩
    ·have e2:((k:Int)==(m.segs.length:Int)-1)=false:=by simp;omega
     have Hf:¬ ((s.count = -1∧k+1=m.segs.length)∨(1≤s.count∧s.count≤4)):=by have:=HE.out;omega
     have Ka:zbj m k s=false:=by rw[P0,Ne,Hd.out];exact fun h=>Hf h.2.2.1
     have H3:=Hj.out Ka
     have e3:inB s.count 1 4=false:=by rw[P0,Ne,inB_b];have:=HE.out;omega
     clear Hf hla Ka
     cases b with
     | false =>
      gi_wp2_with (first | (refine ⟨trivial,?_⟩;gi_at_call 177;refine (callsIn_wd.2 HC.out).mono ?_;rintro e w2 ⟨rfl,H6,H0⟩;have H1:Blk w2 w.heap.size 30 _:=(H0.block _ (by omega)).trans H5.out.bm;have H2:Blk w2 wr.heap.size 36 _:=(H0.block _ (by omega)).trans Ha.out;obtain ⟨n0,n1,n2,n3,n4,n5⟩:=zag H1;obtain ⟨y0,y1,y2,y3⟩:=zaK H2) | (refine ⟨trivial,?_⟩;gi_at_call 178;refine (callsIn_wd.2 (zai _ _ _ _)).mono ?_;rintro e w' ⟨rfl,rfl⟩) | (refine ⟨trivial,?_⟩) | (with_reducible show (∀ f,(none:Option FuncId)=F f→_)∧_;refine ⟨fun _ _=>trivial,?_⟩))
      all_goals
       refine wpIn_goto ?_
       try simp only[Exit.then,P1]
       refine (show Exit.jumps [0] (fun _=>McJ w m) _ (P2 0) _ _ from ?_)
       refine zar (by simp) ?_
       exact ⟨H3,rfl,rfl,H0.ext2 H5.out.e (by omega)⟩
     | true =>
      cases Hs:inB s.first 1 1073741820 with
      | false =>
       gi_wp2_with (first | (refine ⟨trivial,?_⟩;gi_at_call 177;refine (callsIn_wd.2 HC.out).mono ?_;rintro e w2 ⟨rfl,H6,H0⟩;have H1:Blk w2 w.heap.size 30 _:=(H0.block _ (by omega)).trans H5.out.bm;have H2:Blk w2 wr.heap.size 36 _:=(H0.block _ (by omega)).trans Ha.out;obtain ⟨n0,n1,n2,n3,n4,n5⟩:=zag H1;obtain ⟨y0,y1,y2,y3⟩:=zaK H2) | (refine ⟨trivial,?_⟩;gi_at_call 178;refine (callsIn_wd.2 (zai _ _ _ _)).mono ?_;rintro e w' ⟨rfl,rfl⟩) | (refine ⟨trivial,?_⟩) | (with_reducible show (∀ f,(none:Option FuncId)=F f→_)∧_;refine ⟨fun _ _=>trivial,?_⟩))
       all_goals
        refine wpIn_goto ?_
        try simp only[Exit.then,P1]
        refine (show Exit.jumps [0] (fun _=>McJ w m) _ (P2 0) _ _ from ?_)
        refine zar (by simp) ?_
        exact ⟨H3,rfl,rfl,H0.ext2 H5.out.e (by omega)⟩
      | true =>
       gi_wp2_with (first | (refine ⟨trivial,?_⟩;gi_at_call 177;refine (callsIn_wd.2 HC.out).mono ?_;rintro e w2 ⟨rfl,H6,H0⟩;have H1:Blk w2 w.heap.size 30 _:=(H0.block _ (by omega)).trans H5.out.bm;have H2:Blk w2 wr.heap.size 36 _:=(H0.block _ (by omega)).trans Ha.out;obtain ⟨n0,n1,n2,n3,n4,n5⟩:=zag H1;obtain ⟨y0,y1,y2,y3⟩:=zaK H2) | (refine ⟨trivial,?_⟩;gi_at_call 178;refine (callsIn_wd.2 (zai _ _ _ _)).mono ?_;rintro e w' ⟨rfl,rfl⟩) | (refine ⟨trivial,?_⟩) | (with_reducible show (∀ f,(none:Option FuncId)=F f→_)∧_;refine ⟨fun _ _=>trivial,?_⟩))
       all_goals
        refine wpIn_goto ?_
        try simp only[Exit.then,P1]
        refine (show Exit.jumps [0] (fun _=>McJ w m) _ (P2 0) _ _ from ?_)
        refine zar (by simp) ?_
        exact ⟨H3,rfl,rfl,H0.ext2 H5.out.e (by omega)⟩
   ·have e1:(s.count == -1)=false:=by simpa using hcm
    have HE:=D hcm;clear hcm
    cases b with
    | false =>
     have H3:=Hj.out (by rw[P0,Ne,Hd.out];exact fun h=>absurd (HB.out.2 h.1) (by simp))
     gi_wp2_with (first | (refine ⟨trivial,?_⟩;gi_at_call 177;refine (callsIn_wd.2 HC.out).mono ?_;rintro e w2 ⟨rfl,H6,H0⟩;have H1:Blk w2 w.heap.size 30 _:=(H0.block _ (by omega)).trans H5.out.bm;have H2:Blk w2 wr.heap.size 36 _:=(H0.block _ (by omega)).trans Ha.out;obtain ⟨n0,n1,n2,n3,n4,n5⟩:=zag H1;obtain ⟨y0,y1,y2,y3⟩:=zaK H2) | (refine ⟨trivial,?_⟩;gi_at_call 178;refine (callsIn_wd.2 (zai _ _ _ _)).mono ?_;rintro e w' ⟨rfl,rfl⟩) | (refine ⟨trivial,?_⟩) | (with_reducible show (∀ f,(none:Option FuncId)=F f→_)∧_;refine ⟨fun _ _=>trivial,?_⟩))
     all_goals
      refine wpIn_goto ?_
      try simp only[Exit.then,P1]
      refine (show Exit.jumps [0] (fun _=>McJ w m) _ (P2 0) _ _ from ?_)
      refine zar (by simp) ?_
      exact ⟨H3,rfl,rfl,H0.ext2 H5.out.e (by omega)⟩
    | true =>
     have HD:=D (HB.out.1 rfl)
     cases Hs:inB s.first 1 1073741820 with
     | false =>
      have H3:=Hj.out (by rw[P0,Ne,Hd.out];exact fun h=>absurd (inB_b.2 h.2.1) (by rw[Hs];simp))
      gi_wp2_with (first | (refine ⟨trivial,?_⟩;gi_at_call 177;refine (callsIn_wd.2 HC.out).mono ?_;rintro e w2 ⟨rfl,H6,H0⟩;have H1:Blk w2 w.heap.size 30 _:=(H0.block _ (by omega)).trans H5.out.bm;have H2:Blk w2 wr.heap.size 36 _:=(H0.block _ (by omega)).trans Ha.out;obtain ⟨n0,n1,n2,n3,n4,n5⟩:=zag H1;obtain ⟨y0,y1,y2,y3⟩:=zaK H2) | (refine ⟨trivial,?_⟩;gi_at_call 178;refine (callsIn_wd.2 (zai _ _ _ _)).mono ?_;rintro e w' ⟨rfl,rfl⟩) | (refine ⟨trivial,?_⟩) | (with_reducible show (∀ f,(none:Option FuncId)=F f→_)∧_;refine ⟨fun _ _=>trivial,?_⟩))
      all_goals
       refine wpIn_goto ?_
       try simp only[Exit.then,P1]
       refine (show Exit.jumps [0] (fun _=>McJ w m) _ (P2 0) _ _ from ?_)
       refine zar (by simp) ?_
       exact ⟨H3,rfl,rfl,H0.ext2 H5.out.e (by omega)⟩
     | true =>
      have Hr:=D (inB_b.1 Hs)
      cases hc3:inB s.count 1 4 with
      | false =>
       have H3:=Hj.out (by rw[P0,Ne,Hd.out];exact fun h=>by (rcases h.2.2.1 with h' | h';exact HE.out h'.1;rw[inB_b.2 h'] at hc3;cases hc3))
       gi_wp2_with (first | (refine ⟨trivial,?_⟩;gi_at_call 177;refine (callsIn_wd.2 HC.out).mono ?_;rintro e w2 ⟨rfl,H6,H0⟩;have H1:Blk w2 w.heap.size 30 _:=(H0.block _ (by omega)).trans H5.out.bm;have H2:Blk w2 wr.heap.size 36 _:=(H0.block _ (by omega)).trans Ha.out;obtain ⟨n0,n1,n2,n3,n4,n5⟩:=zag H1;obtain ⟨y0,y1,y2,y3⟩:=zaK H2) | (refine ⟨trivial,?_⟩;gi_at_call 178;refine (callsIn_wd.2 (zai _ _ _ _)).mono ?_;rintro e w' ⟨rfl,rfl⟩) | (refine ⟨trivial,?_⟩) | (with_reducible show (∀ f,(none:Option FuncId)=F f→_)∧_;refine ⟨fun _ _=>trivial,?_⟩))
       all_goals
        refine wpIn_goto ?_
        try simp only[Exit.then,P1]
        refine (show Exit.jumps [0] (fun _=>McJ w m) _ (P2 0) _ _ from ?_)
        refine zar (by simp) ?_
        exact ⟨H3,rfl,rfl,H0.ext2 H5.out.e (by omega)⟩
      | true =>
      have H8:=D (show ((s.count = -1∧k+1=m.segs.length)∨(1≤s.count∧s.count≤4)) from .inr (inB_b.1 hc3))
      have HM:wrap64 (s.first+s.count)=s.first+s.count:=by have h1:=Hr.out;have h2:=H8.out;unfold wrap64;omega
      by_cases hk0:k=0
      ·have q1:¬ (0:Int)<(k:Int):=by omega
       have H9:=D (HP.out (Hd.out.2 ⟨HD.out,Hr.out,H8.out,.inl hk0⟩));clear hk0 Hc
       gi_wp2_with (first | (refine ⟨trivial,?_⟩;gi_at_call 177;refine (callsIn_wd.2 HC.out).mono ?_;rintro e w2 ⟨rfl,H6,H0⟩;have H1:Blk w2 w.heap.size 30 _:=(H0.block _ (by omega)).trans H5.out.bm;have H2:Blk w2 wr.heap.size 36 _:=(H0.block _ (by omega)).trans Ha.out;obtain ⟨n0,n1,n2,n3,n4,n5⟩:=zag H1;obtain ⟨y0,y1,y2,y3⟩:=zaK H2) | (refine ⟨trivial,?_⟩;gi_at_call 178;refine (callsIn_wd.2 (zai _ _ _ _)).mono ?_;rintro e w' ⟨rfl,rfl⟩) | (refine ⟨trivial,?_⟩) | (with_reducible show (∀ f,(none:Option FuncId)=F f→_)∧_;refine ⟨fun _ _=>trivial,?_⟩))
       exact ⟨⟨k+1,s.first+s.count,by rw[HM],by go_num,by omega,D (H5.out.mt H0 (H6.congr fun u=>HT.out u) H9.out (.inr ⟨s,by rw[P3];exact HO.out,by omega,rfl⟩))⟩,by simp[intOf];omega⟩
      ·have q1:(0:Int)<(k:Int):=by omega
       obtain ⟨p,Hh,HK,Hi⟩:=HF.out.resolve_left (fun h=>hk0 h.1)
       by_cases hff:s.first=f
       ·have q2:(s.first != f)=false:=by simpa using hff
        have H9:=D (HP.out (Hd.out.2 ⟨HD.out,Hr.out,H8.out,.inr ⟨p,Hh,hff.trans Hi⟩⟩));clear hk0 hff Hh HK Hi Hc
        gi_wp2_with (first | (refine ⟨trivial,?_⟩;gi_at_call 177;refine (callsIn_wd.2 HC.out).mono ?_;rintro e w2 ⟨rfl,H6,H0⟩;have H1:Blk w2 w.heap.size 30 _:=(H0.block _ (by omega)).trans H5.out.bm;have H2:Blk w2 wr.heap.size 36 _:=(H0.block _ (by omega)).trans Ha.out;obtain ⟨n0,n1,n2,n3,n4,n5⟩:=zag H1;obtain ⟨y0,y1,y2,y3⟩:=zaK H2) | (refine ⟨trivial,?_⟩;gi_at_call 178;refine (callsIn_wd.2 (zai _ _ _ _)).mono ?_;rintro e w' ⟨rfl,rfl⟩) | (refine ⟨trivial,?_⟩) | (with_reducible show (∀ f,(none:Option FuncId)=F f→_)∧_;refine ⟨fun _ _=>trivial,?_⟩))
        exact ⟨⟨k+1,s.first+s.count,by rw[HM],by go_num,by omega,D (H5.out.mt H0 (H6.congr fun u=>HT.out u) H9.out (.inr ⟨s,by rw[P3];exact HO.out,by omega,rfl⟩))⟩,by simp[intOf];omega⟩
       ·have q2:(s.first != f)=true:=by simpa using hff
        have H3:=Hj.out (by rw[P0,Ne,Hd.out];exact fun h=>by (rcases h.2.2.2 with h' | ⟨p',h1',h2'⟩;exact hk0 h';rw[Hh] at h1';cases h1';exact hff (h2'.trans Hi.symm)))
        clear hk0 hff Hh HK Hi Hc
        gi_wp2_with (first | (refine ⟨trivial,?_⟩;gi_at_call 177;refine (callsIn_wd.2 HC.out).mono ?_;rintro e w2 ⟨rfl,H6,H0⟩;have H1:Blk w2 w.heap.size 30 _:=(H0.block _ (by omega)).trans H5.out.bm;have H2:Blk w2 wr.heap.size 36 _:=(H0.block _ (by omega)).trans Ha.out;obtain ⟨n0,n1,n2,n3,n4,n5⟩:=zag H1;obtain ⟨y0,y1,y2,y3⟩:=zaK H2) | (refine ⟨trivial,?_⟩;gi_at_call 178;refine (callsIn_wd.2 (zai _ _ _ _)).mono ?_;rintro e w' ⟨rfl,rfl⟩) | (refine ⟨trivial,?_⟩) | (with_reducible show (∀ f,(none:Option FuncId)=F f→_)∧_;refine ⟨fun _ _=>trivial,?_⟩))
        all_goals
         refine wpIn_goto ?_
         try simp only[Exit.then,P1]
         refine (show Exit.jumps [0] (fun _=>McJ w m) _ (P2 0) _ _ from ?_)
         refine zar (by simp) ?_
         exact ⟨H3,rfl,rfl,H0.ext2 H5.out.e (by omega)⟩
  ·obtain rfl:k=m.segs.length:=by omega
   have HV:zaF m=true:=HG.out K2.out HI.out.ok
   have hR:R=0:=by rw[←HR.out,HV];rfl
   subst hR
   gi_wp2
   refine za5 ?_
   go_ret
   exact ⟨rfl,HI.out.e⟩):P:=h
theorem mcMChka1 {P:Prop} (h:P:=by
 gi_wp2_with (first | (refine ⟨trivial,?_⟩;gi_at_call 178;refine (callsIn_wd.2 (zai _ _ _ _)).mono ?_;rintro e w' ⟨rfl,rfl⟩) | (refine ⟨trivial,?_⟩) | (with_reducible show (∀ f,(none:Option FuncId)=F f→_)∧_;refine ⟨fun _ _=>trivial,?_⟩))
 all_goals
  refine wpIn_goto ?_
  try simp only[Exit.then,P1]
  refine (show Exit.jumps [0] (fun _=>McJ w m) _ (P2 0) _ _ from ?_)
  refine zar (by simp) ?_
  exact ⟨H3,rfl,rfl,Hv.out⟩):P:=h
theorem mcMChka2 {P:Prop} (h:P:=by
 go_enter Tryz.func177,Tryz.ntmps177
 go_wp2_with (first
  | (go_at_call 178;refine (zai _ _ _ _).mono ?_;rintro e w' ⟨rfl,rfl⟩))
 go_ret
 exact ⟨rfl,Kc.out,Hu.out⟩):P:=h
theorem zai (n lo hi:Int) (w:World):Calls G 178 #[B C n,B C lo,B C hi] w fun e w'=>e=.returned (.bool (inB n lo hi))∧w=w':=by
 by_cases h1:lo≤n <;> by_cases h2:n≤hi <;>
  (have hb:inB n lo hi=(decide (lo≤n)&&decide (n≤hi)):=by (unfold inB;rw[Bool.eq_iff_iff];simp)
   have HB:=D hb;clear hb
   go_enter Tryz.func178,Tryz.ntmps178
   go_wp2
   go_ret
   refine ⟨?_,rfl⟩
   rw[HB.out]
   simp[h1,h2])
theorem ztq (w:World):(zeroValue 3).run G w=.ok (B C 0) w:=by kernel_rfl
theorem zq2 {next seq fmt:Int}:zbs next seq fmt=true↔inB seq 1 (next-1)=true∧inB fmt 1 2=true:=by
 unfold zbs inB;simp only[decide_eq_true_eq];omega
theorem zhA (b:Bool) (seq fmt next:Int) (bm bs r:Nat) (S:Value→Prop) (w:World) (hn:1≤next∧next≤1073741824) (hc:w.cell? ⟨bm,0,L⟩=F (B C next)) (hs:w.cell? ⟨bs,0,L⟩=F (.map (some r)))
  (hF:SSet w r (.int .i64) (B C 1) S) (hb:b=true↔(zbs next seq fmt=true∧¬ S (B C seq))) :
  Calls G 177 #[B C seq,B C fmt,J (F ⟨bm,0,L⟩),J (F ⟨bs,0,L⟩)] w fun e w'=>e=.returned (.bool b)∧SSet w' r (.int .i64) (B C 1) (fun x=>S x∨x=B C seq)∧MT w w' r:=by
 have hw:wrap64 (next-1)=next-1:=by unfold wrap64;omega
 obtain ⟨w2,hu,K4,K5⟩:=hF.update (P:=G) (T:=221) (K:=3) (E:=3) (k:=B C seq) Tryz.underlying221 Tryz.underlying3 rfl;have hl:=hF.lookup (P:=G) (T:=221) (K:=3) (E:=3) (k:=B C seq) Tryz.underlying221 Tryz.underlying3 rfl (ztq w);have Kc:=D K4;have Hu:=D K5;rw[zq2] at hb;have Hb:=D hb;clear hF K4 K5 hb
 cases h1:inB seq 1 (next-1) with
 | false =>
  obtain rfl:b=false:=by rw[P0,Ne,Hb.out];simp[h1]
  clear hl Hb
  exact mcMChka2
 | true =>
  cases h2:inB fmt 1 2 with
  | false =>
   obtain rfl:b=false:=by rw[P0,Ne,Hb.out];simp[h2]
   clear hl Hb
   exact mcMChka2
  | true =>
   rcases hl with ⟨hS,hl⟩ | ⟨hS,hl⟩
   ·obtain rfl:b=false:=by rw[P0,Ne,Hb.out];simp[hS]
    clear Hb hS
    exact mcMChka2
   ·obtain rfl:b=true:=by rw[Hb.out];exact ⟨⟨h1,h2⟩,hS⟩
    clear Hb hS
    exact mcMChka2
def McJ (w:World) (m:Mf) (a:Act) (W:World):Prop:=zaF m=false∧a.defers=[]∧a.tmps.size=107∧Ext w W
structure McI (w:World) (m:Mf) (v:Value) (k:Nat) (f:Int) (W:World):Prop where
 bm:Blk W w.heap.size 30 (mfC m v)
 mp:SSet W (w.heap.size+1) (.int .i64) (B C 1) (zdg m k)
 bs:Boxed W (w.heap.size+1+1) 221 (.map (some (w.heap.size+1)))
 e:Ext w W
 ok:zbu m k=true
 f:(k=0∧f=0)∨∃ p,m.segs[k-1]?=F p∧1≤k∧f=p.first+p.count
theorem McI.ext {w:World} {m:Mf} {v:Value} {k:Nat} {f:Int} {W W':World} (h:McI w m v k f W) (hE:Ext W W'):McI w m v k f W' :=
 ⟨h.bm.ext hE,h.mp.ext hE,h.bs.kept (row:=none) (Ext.grown hE none) (by simp),xT h.e hE,h.ok,h.f⟩
theorem McI.mt {w:World} {m:Mf} {v:Value} {k:Nat} {f:Int} {W W':World} (h:McI w m v k f W) (hM:MT W W' (w.heap.size+1)) {k':Nat} {f':Int} (hS:SSet W' (w.heap.size+1) (.int .i64) (B C 1) (zdg m k')) (ho:zbu m k'=true) (hf:(k'=0∧f'=0)∨∃ p,m.segs[k'-1]?=F p∧1≤k'∧f'=p.first+p.count):McI w m v k' f' W' :=
 ⟨(hM.block _ (by omega)).trans h.bm,hS,(hM.block _ (by omega)).trans h.bs,hM.ext2 h.e (by omega),ho,hf⟩
theorem zjq (m:Mf) (v:Value) (w:World) (hS:Sgs w v m.segs) :
  Calls G 117 #[.agg #[B C m.next,B C m.term,B C m.vote,B C m.sq,B C m.sf,v]] w fun e w'=>e=.returned (B C (if zaF m then 0 else 2))∧Ext w w':=by
 obtain ⟨A,c,rfl,Kg,Hs⟩:=hS.open_;obtain ⟨R,hR⟩:∃ R:Int,(if zaF m then 0 else 2)=R:=⟨_,rfl⟩;rw[hR];have HR:=D hR;clear hR;have Ki:=@run_makeMap G;have HY:=zev (P:=G) (w.alloc (I #[B C m.next,B C m.term,B C m.vote,B C m.sq,B C m.sf,H A m.segs.length c] 30)) .i64 Tryz.underlying221 Tryz.underlying3 #[] 0 0 (B C 1) rfl
 have K6:SSet ((w.alloc (I #[B C m.next,B C m.term,B C m.vote,B C m.sq,B C m.sf,H A m.segs.length c] 30)).alloc (.map #[{ key:=B C 0,val:=B C 1,born:=0 }] 1)) (w.heap.size+1) (.int .i64) (B C 1) (fun x=>x=B C 0):=by
  refine ⟨_,1,by have:=heap_alloc_new (w.alloc (I #[B C m.next,B C m.term,B C m.vote,B C m.sq,B C m.sf,H A m.segs.length c] 30)) (.map #[{ key:=B C 0,val:=B C 1,born:=0 }] 1);rwa [xS] at this,?_,?_,?_⟩
  ·exact stamped_push (stamped_empty 0) (by simp)
  ·intro x hx
   simp at hx
   subst hx
   exact ⟨rfl,rfl⟩
  ·intro k
   simp
   exact ⟨fun h=>h.symm,fun h=>h.symm⟩
 simp only[P6,xI,P7,P4,xS] at HY;have HS:=D hS;have K1:=D K6;clear hS K6
 have K7:Ext w (((w.alloc (I #[B C m.next,B C m.term,B C m.vote,B C m.sq,B C m.sf,H A m.segs.length c] 30)).alloc (.map #[{ key:=B C 0,val:=B C 1,born:=0 }] 1)).alloc (I #[.map (some (w.heap.size+1))] 221)):=xA (xA (xA (xR _) _) _) _
 have HW:=((Blk.new w 30 #[B C m.next,B C m.term,B C m.vote,B C m.sq,B C m.sf,H A m.segs.length c]).alloc (.map #[{ key:=B C 0,val:=B C 1,born:=0 }] 1)).alloc (I #[.map (some (w.heap.size+1))] 221);have HU:=Boxed.new ((w.alloc (I #[B C m.next,B C m.term,B C m.vote,B C m.sq,B C m.sf,H A m.segs.length c] 30)).alloc (.map #[{ key:=B C 0,val:=B C 1,born:=0 }] 1)) 221 (.map (some (w.heap.size+1)));rw[xS,xS] at HU;have Hv:=D K7;have Hx:=D HW;have Hy:=D HU;have H0:=K1.out.ext (xA (xR _) (I #[.map (some (w.heap.size+1))] 221));have Hu:=D H0;obtain ⟨m0,m1,m2,m3,m4,m5⟩:=zag HW;have c2:=HU.cell;clear K7 HW HU K1 H0
 refine (callsIn_wd (ro:=none) (n:=9)).1 ?_
 refine callsIn_of_wp Tryz.func117 rfl trivial ?_ rfl
 simp only[Tryz.ntmps117,List.size_toArray,xC,List.length_nil,P4,Nat.reduceSub,Array.replicate_succ,Array.replicate_zero,P6,List.append_toArray,xI,P7]
 gi_wp2
 refine zcX 0 (McJ w m) (fun a _=>0) rfl (fun l' h=>by cases l' <;> first | exact absurd rfl h | rfl) ?_ ?_
 ·intro Hp
  have K3:=D Hp;clear Hp
  cases h1:inB m.next 1 1073741824 with
  | false =>
   have H3:zaF m=false:=by unfold zaF zcr;rw[h1];rfl
   exact mcMChka1
  | true =>
  cases h2:inB m.term 0 1073741824 with
  | false =>
   have H3:zaF m=false:=by unfold zaF zcr;rw[h1,h2];rfl
   exact mcMChka1
  | true =>
  cases h3:inB m.vote 0 5 with
  | false =>
   have H3:zaF m=false:=by unfold zaF zcr;rw[h1,h2,h3];rfl
   exact mcMChka1
  | true =>
  by_cases h4:m.segs.length≤60
  case neg =>
   have H3:zaF m=false:=by unfold zaF zcr;rw[h1,h2,h3];simp[h4]
   have h5:(60:Int)<(m.segs.length:Int):=by omega
   exact mcMChka1
  have h5:¬ (60:Int)<(m.segs.length:Int):=by omega
  have h6:(m.segs.length:Int)≤60:=by omega
  have Hg:zcr m=true:=by unfold zcr;rw[h1,h2,h3];simpa using h4
  have hn:=inB_b.1 h1;have HN:=D hn;have H4:=D h4
  have Hk:zcv m=false→zaF m=false:=fun h=>by unfold zaF;rw[Hg,h];rfl
  have Hl:zbu m m.segs.length=false→zaF m=false:=fun h=>by unfold zaF;rw[h];simp
  have Ho:zcv m=true→zbu m m.segs.length=true→zaF m=true:=fun h h'=>by unfold zaF;rw[Hg,h,h'];rfl
  have Hz:=D Hk;have HA:=D Hl;have HG:=D Ho
  have Ht:=fun W=>zh1 m.sq m.sf 0 0 W
  clear hn h4 Hk Hl Ho Hg
  by_cases hq:m.sq=0∧m.sf=0
  ·rw[decide_eq_true (by simpa using hq)] at Ht
   have HH:McI w m (H A m.segs.length c) 0 0 _:=⟨Hx.out,Hu.out.congr fun x=>by (unfold zdg;simp[hq.1]),Hy.out,Hv.out,rfl,.inl ⟨rfl,rfl⟩⟩
   have HL:zcv m=true:=by unfold zcv;simp[hq]
   have HI:=D HH;have K2:=D HL;have HQ:=D hq;clear HH HL hq Hv Hx Hy Hu
   gi_wp2_with (first | (refine ⟨trivial,?_⟩;gi_at_call 178;refine (callsIn_wd.2 (zai _ _ _ _)).mono ?_;rintro e w' ⟨rfl,rfl⟩) | (refine ⟨trivial,?_⟩) | (with_reducible show (∀ f,(none:Option FuncId)=F f→_)∧_;refine ⟨fun _ _=>trivial,?_⟩))
   refine ⟨fun _ h=>(by cases h),?_⟩
   gi_wp2_with fail
   exact mcMChka0
  ·rw[decide_eq_false (by simpa using hq)] at Ht
   have K9:∀ b,(b=true↔(zbs m.next m.sq m.sf=true∧¬ (B C m.sq=B C 0)))↔(b=zbs m.next m.sq m.sf):=fun b=>by
    have:zbs m.next m.sq m.sf=true→¬ (B C m.sq=B C 0):=fun h e=>by have:=(zfv h).1;injection e with _ e;omega
    cases b <;> cases hfo:zbs m.next m.sq m.sf <;> simp_all
   have H7:=zhA (zbs m.next m.sq m.sf) m.sq m.sf m.next w.heap.size (w.heap.size+1+1) (w.heap.size+1) _ _ HN.out (Hx.out.cell 0 rfl) Hy.out.cell Hu.out ((K9 _).2 rfl);have HC:=D H7;clear H7 K9
   cases hfo:zbs m.next m.sq m.sf with
   | false =>
    rw[hfo] at HC
    have H3:zaF m=false:=Hz.out (by unfold zcv;rw[hfo];simp[hq])
    clear hq hfo
    gi_wp2_with (first | (refine ⟨trivial,?_⟩;gi_at_call 177;refine (callsIn_wd.2 HC.out).mono ?_;rintro e w2 ⟨rfl,H6,H0⟩) | (first | (refine ⟨trivial,?_⟩;gi_at_call 178;refine (callsIn_wd.2 (zai _ _ _ _)).mono ?_;rintro e w' ⟨rfl,rfl⟩) | (refine ⟨trivial,?_⟩) | (with_reducible show (∀ f,(none:Option FuncId)=F f→_)∧_;refine ⟨fun _ _=>trivial,?_⟩)))
    all_goals
     refine wpIn_goto ?_
     try simp only[Exit.then,P1]
     refine (show Exit.jumps [0] (fun _=>McJ w m) _ (P2 0) _ _ from ?_)
     refine zar (by simp) ?_
     exact ⟨H3,rfl,rfl,H0.ext2 Hv.out (by omega)⟩
   | true =>
    rw[hfo] at HC
    have HL:zcv m=true:=by unfold zcv;rw[hfo];simp
    have K2:=D HL;clear HL hq hfo
    gi_wp2_with (first | (refine ⟨trivial,?_⟩;gi_at_call 177;refine (callsIn_wd.2 HC.out).mono ?_;rintro e w2 ⟨rfl,H6,H0⟩;have H1:Blk w2 w.heap.size 30 _:=(H0.block _ (by omega)).trans Hx.out;obtain ⟨n0,n1,n2,n3,n4,n5⟩:=zag H1) | (first | (refine ⟨trivial,?_⟩;gi_at_call 178;refine (callsIn_wd.2 (zai _ _ _ _)).mono ?_;rintro e w' ⟨rfl,rfl⟩) | (refine ⟨trivial,?_⟩) | (with_reducible show (∀ f,(none:Option FuncId)=F f→_)∧_;refine ⟨fun _ _=>trivial,?_⟩)))
    have HH:McI w m (H A m.segs.length c) 0 0 w2:=⟨H1,H6.congr fun x=>by (unfold zdg;simp),(H0.block _ (by omega)).trans Hy.out,H0.ext2 Hv.out (by omega),rfl,.inl ⟨rfl,rfl⟩⟩
    have HI:=D HH;clear HH H1 H6 H0 n0 n1 n2 n3 n4 n5 Hv Hx Hy Hu HC
    exact mcMChka0
 ·rintro ⟨TT,df⟩ W ⟨HV,hd,HZ,hE⟩
  cases hd
  dsimp only at HZ
  have hR:R=2:=by rw[←HR.out,HV];rfl
  subst hR;have hT:=zdo 107 TT HZ
  generalize hU:(fun i=>TT.getD i undef)=U at hT
  have Kd:TT = #[U 0,U 1,U 2,U 3,U 4,U 5,U 6,U 7,U 8,U 9,U 10,U 11,U 12,U 13,U 14,U 15,U 16,U 17,U 18,U 19,U 20,U 21,U 22,U 23,U 24,U 25,U 26,U 27,U 28,U 29,U 30,U 31,U 32,U 33,U 34,U 35,U 36,U 37,U 38,U 39,U 40,U 41,U 42,U 43,U 44,U 45,U 46,U 47,U 48,U 49,U 50,U 51,U 52,U 53,U 54,U 55,U 56,U 57,U 58,U 59,U 60,U 61,U 62,U 63,U 64,U 65,U 66,U 67,U 68,U 69,U 70,U 71,U 72,U 73,U 74,U 75,U 76,U 77,U 78,U 79,U 80,U 81,U 82,U 83,U 84,U 85,U 86,U 87,U 88,U 89,U 90,U 91,U 92,U 93,U 94,U 95,U 96,U 97,U 98,U 99,U 100,U 101,U 102,U 103,U 104,U 105,U 106]:=hT
  clear hT hU HZ;subst Kd;clear HV
  gi_wp2
  refine za5 ?_
  go_ret
  exact ⟨rfl,hE⟩
end Go.Proofs.YteggfecbjgbndaaGreatDoor
