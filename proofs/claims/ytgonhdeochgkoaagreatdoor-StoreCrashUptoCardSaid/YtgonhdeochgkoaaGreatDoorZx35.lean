/- Merged -/
import Derived.Test.YtgonhdeochgkoaaGreatDoorZx31
set_option linter.all false
set_option maxHeartbeats 8000000
set_option maxRecDepth 100000
open Bool renaming eq_false_iff→P0
open Go.Exit renaming inBlock→P1,goto→P2
open Nat renaming add_sub_cancel→P3,reduceAdd→P4
open List renaming getElem?_eq_getElem→P5,push_toArray→P6,cons_append→P7
namespace Go.Proofs.YtgonhdeochgkoaaGreatDoor
open Go.RowKit Go.Mv Go.Shelf Go.MapKept
theorem mcMChka0 {P:Prop} (h:P:=by
 clear m0 m1 m2 m3 m4 m5 c2 Ht h1 h2 h3 h5 h6
 gi_loopw [3,52] (fun v3 K0 W=>∃ (k:Nat) (f:Int),v3=.int .i64 f∧K0=.int .i64 k∧k≤m.segs.length∧Hid (McI w m (.slice A m.segs.length c) k f W)) (fun _ K0 _=>m.segs.length+1-(intOf K0).toNat)
 case atStart=>exact ⟨0,0,rfl,rfl,Nat.zero_le _,HI⟩
 case round =>
  clear HI;obtain ⟨k,f,rfl,rfl,Kh,HI⟩:=hrel
  by_cases hlt:k<m.segs.length
  ·have Kb:=zlo hlt
   obtain ⟨_,bo,of,rfl,He⟩:=Sgs.at_ (Sgs.ext HS.out HI.out.e) (by omega);obtain ⟨d0,d1,d2,d3⟩:=He k hlt
   have Hm:zbv m k m.segs[k]=false→zax m=false:=fun h=>HA.out (zfy hlt h _ hlt)
   have HJ:zbv m k m.segs[k]=true→zbH m (k+1)=true:=fun h=>by unfold zbH;rw[HI.out.ok,P5 hlt];simpa using h
   have Hq:=fun u=>zln hlt u
   have Hn:m.segs[k]?=some m.segs[k]:=P5 hlt
   have Hd:=zhd Kb;have Hj:=zhd Hm;have HP:=zhd HJ;have HT:=zhd Hq;have HO:=zhd Hn;clear Kb Hm HJ Hq Hn He
   generalize m.segs[k]=s at *
   have K8:Ext wr (wr.alloc (.cells #[.int .i64 s.seq,.int .i64 s.fmt,.int .i64 s.first,.int .i64 s.count] 74)):=xA (xR _) _
   have Hw:=HI.out.ext K8;have HX:=Blk.new wr 74 #[.int .i64 s.seq,.int .i64 s.fmt,.int .i64 s.first,.int .i64 s.count]
   obtain ⟨b,hb⟩:∃ b:Bool,(b=true↔(zbC m.next s.seq s.fmt=true∧¬ zdu m k (.int .i64 s.seq))):=by classical exact ⟨decide (zbC m.next s.seq s.fmt=true∧¬ zdu m k (.int .i64 s.seq)),decide_eq_true_iff⟩
   have H7:=zhO b s.seq s.fmt m.next w.heap.size (w.heap.size+1+1) (w.heap.size+1) _ _ HN.out (Hw.bm.cell 0 rfl) Hw.bs.cell Hw.mp hb;have HC:=zhd H7
   have Kf:w.heap.size+1+1<wr.heap.size:=HI.out.bs.lt
   have H5:=zhd Hw;have Ha:=zhd HX;have HB:=zhd hb;have HF:=zhd HI.out.f
   have Ke:(k:Int)<(m.segs.length:Int):=by omega
   have Kj:wrap64 ((m.segs.length:Int)-1)=(m.segs.length:Int)-1:=by have:=H4.out;unfold wrap64;omega
   obtain ⟨m0,m1,m2,m3,m4,m5⟩:=zan Hw.bm;obtain ⟨x0,x1,x2,x3⟩:=zay HX
   have Hc:zbv m k s=false∨zbv m k s=true:=by cases zbv m k s <;> simp
   clear H7 Hw HX hb K8
   by_cases hcm:s.count = -1
   ·have e1:(s.count == -1)=true:=by simpa using hcm
    have HE:=zhd hcm;clear hcm
    by_cases hla:k+1=m.segs.length
    ·have e2:((k:Int)==(m.segs.length:Int)-1)=true:=by simp;omega
     have Hf:((s.count = -1∧k+1=m.segs.length)∨(1≤s.count∧s.count≤4)):=.inl ⟨HE.out,hla⟩
     have H8:=zhd Hf;clear Hf hla
     cases b with
     | false =>
      have H3:=Hj.out (by rw[P0,Ne,Hd.out];exact fun h=>absurd (HB.out.2 h.1) (by simp))
      gi_wp2_with (first | (refine ⟨trivial,?_⟩;gi_at_call 124;refine (callsIn_wd.2 HC.out).mono ?_;rintro e w2 ⟨rfl,H6,H0⟩;have H1:Blk w2 w.heap.size 30 _:=(H0.block _ (by omega)).trans H5.out.bm;have H2:Blk w2 wr.heap.size 74 _:=(H0.block _ (by omega)).trans Ha.out;obtain ⟨n0,n1,n2,n3,n4,n5⟩:=zan H1;obtain ⟨y0,y1,y2,y3⟩:=zay H2) | (refine ⟨trivial,?_⟩;gi_at_call 125;refine (callsIn_wd.2 (zak _ _ _ _)).mono ?_;rintro e w' ⟨rfl,rfl⟩) | (refine ⟨trivial,?_⟩) | (with_reducible show (∀ f,(none:Option FuncId)=some f→_)∧_;refine ⟨fun _ _=>trivial,?_⟩))
      all_goals
       refine wpIn_goto ?_
       try simp only[Exit.then,P1]
       refine (show Exit.jumps [0] (fun _=>McJ w m) _ (P2 0) _ _ from ?_)
       refine zag (by simp) ?_
       exact ⟨H3,rfl,rfl,H0.ext2 H5.out.e (by omega)⟩
     | true =>
      have HD:=zhd (HB.out.1 rfl)
      cases Hs:inB s.first 1 1073741820 with
      | false =>
       have H3:=Hj.out (by rw[P0,Ne,Hd.out];exact fun h=>absurd (inB_b.2 h.2.1) (by rw[Hs];simp))
       gi_wp2_with (first | (refine ⟨trivial,?_⟩;gi_at_call 124;refine (callsIn_wd.2 HC.out).mono ?_;rintro e w2 ⟨rfl,H6,H0⟩;have H1:Blk w2 w.heap.size 30 _:=(H0.block _ (by omega)).trans H5.out.bm;have H2:Blk w2 wr.heap.size 74 _:=(H0.block _ (by omega)).trans Ha.out;obtain ⟨n0,n1,n2,n3,n4,n5⟩:=zan H1;obtain ⟨y0,y1,y2,y3⟩:=zay H2) | (refine ⟨trivial,?_⟩;gi_at_call 125;refine (callsIn_wd.2 (zak _ _ _ _)).mono ?_;rintro e w' ⟨rfl,rfl⟩) | (refine ⟨trivial,?_⟩) | (with_reducible show (∀ f,(none:Option FuncId)=some f→_)∧_;refine ⟨fun _ _=>trivial,?_⟩))
       all_goals
        refine wpIn_goto ?_
        try simp only[Exit.then,P1]
        refine (show Exit.jumps [0] (fun _=>McJ w m) _ (P2 0) _ _ from ?_)
        refine zag (by simp) ?_
        exact ⟨H3,rfl,rfl,H0.ext2 H5.out.e (by omega)⟩
      | true =>
       have Hr:=zhd (inB_b.1 Hs)
       have HM:wrap64 (s.first+s.count)=s.first+s.count:=by have h1:=Hr.out;have h2:=H8.out;unfold wrap64;omega
       by_cases hk0:k=0
       ·have q1:¬ (0:Int)<(k:Int):=by omega
        have H9:=zhd (HP.out (Hd.out.2 ⟨HD.out,Hr.out,H8.out,.inl hk0⟩));clear hk0 Hc
        gi_wp2_with (first | (refine ⟨trivial,?_⟩;gi_at_call 124;refine (callsIn_wd.2 HC.out).mono ?_;rintro e w2 ⟨rfl,H6,H0⟩;have H1:Blk w2 w.heap.size 30 _:=(H0.block _ (by omega)).trans H5.out.bm;have H2:Blk w2 wr.heap.size 74 _:=(H0.block _ (by omega)).trans Ha.out;obtain ⟨n0,n1,n2,n3,n4,n5⟩:=zan H1;obtain ⟨y0,y1,y2,y3⟩:=zay H2) | (refine ⟨trivial,?_⟩;gi_at_call 125;refine (callsIn_wd.2 (zak _ _ _ _)).mono ?_;rintro e w' ⟨rfl,rfl⟩) | (refine ⟨trivial,?_⟩) | (with_reducible show (∀ f,(none:Option FuncId)=some f→_)∧_;refine ⟨fun _ _=>trivial,?_⟩))
        exact ⟨⟨k+1,s.first+s.count,by rw[HM],by go_num,by omega,zhd (H5.out.mt H0 (H6.congr fun u=>HT.out u) H9.out (.inr ⟨s,by rw[P3];exact HO.out,by omega,rfl⟩))⟩,by simp[intOf];omega⟩
       ·have q1:(0:Int)<(k:Int):=by omega
        obtain ⟨p,Hh,HK,Hi⟩:=HF.out.resolve_left (fun h=>hk0 h.1)
        by_cases hff:s.first=f
        ·have q2:(s.first != f)=false:=by simpa using hff
         have H9:=zhd (HP.out (Hd.out.2 ⟨HD.out,Hr.out,H8.out,.inr ⟨p,Hh,hff.trans Hi⟩⟩));clear hk0 hff Hh HK Hi Hc
         gi_wp2_with (first | (refine ⟨trivial,?_⟩;gi_at_call 124;refine (callsIn_wd.2 HC.out).mono ?_;rintro e w2 ⟨rfl,H6,H0⟩;have H1:Blk w2 w.heap.size 30 _:=(H0.block _ (by omega)).trans H5.out.bm;have H2:Blk w2 wr.heap.size 74 _:=(H0.block _ (by omega)).trans Ha.out;obtain ⟨n0,n1,n2,n3,n4,n5⟩:=zan H1;obtain ⟨y0,y1,y2,y3⟩:=zay H2) | (refine ⟨trivial,?_⟩;gi_at_call 125;refine (callsIn_wd.2 (zak _ _ _ _)).mono ?_;rintro e w' ⟨rfl,rfl⟩) | (refine ⟨trivial,?_⟩) | (with_reducible show (∀ f,(none:Option FuncId)=some f→_)∧_;refine ⟨fun _ _=>trivial,?_⟩))
         exact ⟨⟨k+1,s.first+s.count,by rw[HM],by go_num,by omega,zhd (H5.out.mt H0 (H6.congr fun u=>HT.out u) H9.out (.inr ⟨s,by rw[P3];exact HO.out,by omega,rfl⟩))⟩,by simp[intOf];omega⟩
        ·have q2:(s.first != f)=true:=by simpa using hff
         have H3:=Hj.out (by rw[P0,Ne,Hd.out];exact fun h=>by (rcases h.2.2.2 with h' | ⟨p',h1',h2'⟩;exact hk0 h';rw[Hh] at h1';cases h1';exact hff (h2'.trans Hi.symm)))
         clear hk0 hff Hh HK Hi Hc
         gi_wp2_with (first | (refine ⟨trivial,?_⟩;gi_at_call 124;refine (callsIn_wd.2 HC.out).mono ?_;rintro e w2 ⟨rfl,H6,H0⟩;have H1:Blk w2 w.heap.size 30 _:=(H0.block _ (by omega)).trans H5.out.bm;have H2:Blk w2 wr.heap.size 74 _:=(H0.block _ (by omega)).trans Ha.out;obtain ⟨n0,n1,n2,n3,n4,n5⟩:=zan H1;obtain ⟨y0,y1,y2,y3⟩:=zay H2) | (refine ⟨trivial,?_⟩;gi_at_call 125;refine (callsIn_wd.2 (zak _ _ _ _)).mono ?_;rintro e w' ⟨rfl,rfl⟩) | (refine ⟨trivial,?_⟩) | (with_reducible show (∀ f,(none:Option FuncId)=some f→_)∧_;refine ⟨fun _ _=>trivial,?_⟩))
         all_goals
          refine wpIn_goto ?_
          try simp only[Exit.then,P1]
          refine (show Exit.jumps [0] (fun _=>McJ w m) _ (P2 0) _ _ from ?_)
          refine zag (by simp) ?_
          exact ⟨H3,rfl,rfl,H0.ext2 H5.out.e (by omega)⟩
    ·have e2:((k:Int)==(m.segs.length:Int)-1)=false:=by simp;omega
     have Hf:¬ ((s.count = -1∧k+1=m.segs.length)∨(1≤s.count∧s.count≤4)):=by have:=HE.out;omega
     have Ka:zbv m k s=false:=by rw[P0,Ne,Hd.out];exact fun h=>Hf h.2.2.1
     have H3:=Hj.out Ka
     have e3:inB s.count 1 4=false:=by rw[P0,Ne,inB_b];have:=HE.out;omega
     clear Hf hla Ka
     cases b with
     | false =>
      gi_wp2_with (first | (refine ⟨trivial,?_⟩;gi_at_call 124;refine (callsIn_wd.2 HC.out).mono ?_;rintro e w2 ⟨rfl,H6,H0⟩;have H1:Blk w2 w.heap.size 30 _:=(H0.block _ (by omega)).trans H5.out.bm;have H2:Blk w2 wr.heap.size 74 _:=(H0.block _ (by omega)).trans Ha.out;obtain ⟨n0,n1,n2,n3,n4,n5⟩:=zan H1;obtain ⟨y0,y1,y2,y3⟩:=zay H2) | (refine ⟨trivial,?_⟩;gi_at_call 125;refine (callsIn_wd.2 (zak _ _ _ _)).mono ?_;rintro e w' ⟨rfl,rfl⟩) | (refine ⟨trivial,?_⟩) | (with_reducible show (∀ f,(none:Option FuncId)=some f→_)∧_;refine ⟨fun _ _=>trivial,?_⟩))
      all_goals
       refine wpIn_goto ?_
       try simp only[Exit.then,P1]
       refine (show Exit.jumps [0] (fun _=>McJ w m) _ (P2 0) _ _ from ?_)
       refine zag (by simp) ?_
       exact ⟨H3,rfl,rfl,H0.ext2 H5.out.e (by omega)⟩
     | true =>
      cases Hs:inB s.first 1 1073741820 with
      | false =>
       gi_wp2_with (first | (refine ⟨trivial,?_⟩;gi_at_call 124;refine (callsIn_wd.2 HC.out).mono ?_;rintro e w2 ⟨rfl,H6,H0⟩;have H1:Blk w2 w.heap.size 30 _:=(H0.block _ (by omega)).trans H5.out.bm;have H2:Blk w2 wr.heap.size 74 _:=(H0.block _ (by omega)).trans Ha.out;obtain ⟨n0,n1,n2,n3,n4,n5⟩:=zan H1;obtain ⟨y0,y1,y2,y3⟩:=zay H2) | (refine ⟨trivial,?_⟩;gi_at_call 125;refine (callsIn_wd.2 (zak _ _ _ _)).mono ?_;rintro e w' ⟨rfl,rfl⟩) | (refine ⟨trivial,?_⟩) | (with_reducible show (∀ f,(none:Option FuncId)=some f→_)∧_;refine ⟨fun _ _=>trivial,?_⟩))
       all_goals
        refine wpIn_goto ?_
        try simp only[Exit.then,P1]
        refine (show Exit.jumps [0] (fun _=>McJ w m) _ (P2 0) _ _ from ?_)
        refine zag (by simp) ?_
        exact ⟨H3,rfl,rfl,H0.ext2 H5.out.e (by omega)⟩
      | true =>
       gi_wp2_with (first | (refine ⟨trivial,?_⟩;gi_at_call 124;refine (callsIn_wd.2 HC.out).mono ?_;rintro e w2 ⟨rfl,H6,H0⟩;have H1:Blk w2 w.heap.size 30 _:=(H0.block _ (by omega)).trans H5.out.bm;have H2:Blk w2 wr.heap.size 74 _:=(H0.block _ (by omega)).trans Ha.out;obtain ⟨n0,n1,n2,n3,n4,n5⟩:=zan H1;obtain ⟨y0,y1,y2,y3⟩:=zay H2) | (refine ⟨trivial,?_⟩;gi_at_call 125;refine (callsIn_wd.2 (zak _ _ _ _)).mono ?_;rintro e w' ⟨rfl,rfl⟩) | (refine ⟨trivial,?_⟩) | (with_reducible show (∀ f,(none:Option FuncId)=some f→_)∧_;refine ⟨fun _ _=>trivial,?_⟩))
       all_goals
        refine wpIn_goto ?_
        try simp only[Exit.then,P1]
        refine (show Exit.jumps [0] (fun _=>McJ w m) _ (P2 0) _ _ from ?_)
        refine zag (by simp) ?_
        exact ⟨H3,rfl,rfl,H0.ext2 H5.out.e (by omega)⟩
   ·have e1:(s.count == -1)=false:=by simpa using hcm
    have HE:=zhd hcm;clear hcm
    cases b with
    | false =>
     have H3:=Hj.out (by rw[P0,Ne,Hd.out];exact fun h=>absurd (HB.out.2 h.1) (by simp))
     gi_wp2_with (first | (refine ⟨trivial,?_⟩;gi_at_call 124;refine (callsIn_wd.2 HC.out).mono ?_;rintro e w2 ⟨rfl,H6,H0⟩;have H1:Blk w2 w.heap.size 30 _:=(H0.block _ (by omega)).trans H5.out.bm;have H2:Blk w2 wr.heap.size 74 _:=(H0.block _ (by omega)).trans Ha.out;obtain ⟨n0,n1,n2,n3,n4,n5⟩:=zan H1;obtain ⟨y0,y1,y2,y3⟩:=zay H2) | (refine ⟨trivial,?_⟩;gi_at_call 125;refine (callsIn_wd.2 (zak _ _ _ _)).mono ?_;rintro e w' ⟨rfl,rfl⟩) | (refine ⟨trivial,?_⟩) | (with_reducible show (∀ f,(none:Option FuncId)=some f→_)∧_;refine ⟨fun _ _=>trivial,?_⟩))
     all_goals
      refine wpIn_goto ?_
      try simp only[Exit.then,P1]
      refine (show Exit.jumps [0] (fun _=>McJ w m) _ (P2 0) _ _ from ?_)
      refine zag (by simp) ?_
      exact ⟨H3,rfl,rfl,H0.ext2 H5.out.e (by omega)⟩
    | true =>
     have HD:=zhd (HB.out.1 rfl)
     cases Hs:inB s.first 1 1073741820 with
     | false =>
      have H3:=Hj.out (by rw[P0,Ne,Hd.out];exact fun h=>absurd (inB_b.2 h.2.1) (by rw[Hs];simp))
      gi_wp2_with (first | (refine ⟨trivial,?_⟩;gi_at_call 124;refine (callsIn_wd.2 HC.out).mono ?_;rintro e w2 ⟨rfl,H6,H0⟩;have H1:Blk w2 w.heap.size 30 _:=(H0.block _ (by omega)).trans H5.out.bm;have H2:Blk w2 wr.heap.size 74 _:=(H0.block _ (by omega)).trans Ha.out;obtain ⟨n0,n1,n2,n3,n4,n5⟩:=zan H1;obtain ⟨y0,y1,y2,y3⟩:=zay H2) | (refine ⟨trivial,?_⟩;gi_at_call 125;refine (callsIn_wd.2 (zak _ _ _ _)).mono ?_;rintro e w' ⟨rfl,rfl⟩) | (refine ⟨trivial,?_⟩) | (with_reducible show (∀ f,(none:Option FuncId)=some f→_)∧_;refine ⟨fun _ _=>trivial,?_⟩))
      all_goals
       refine wpIn_goto ?_
       try simp only[Exit.then,P1]
       refine (show Exit.jumps [0] (fun _=>McJ w m) _ (P2 0) _ _ from ?_)
       refine zag (by simp) ?_
       exact ⟨H3,rfl,rfl,H0.ext2 H5.out.e (by omega)⟩
     | true =>
      have Hr:=zhd (inB_b.1 Hs)
      cases hc3:inB s.count 1 4 with
      | false =>
       have H3:=Hj.out (by rw[P0,Ne,Hd.out];exact fun h=>by (rcases h.2.2.1 with h' | h';exact HE.out h'.1;rw[inB_b.2 h'] at hc3;cases hc3))
       gi_wp2_with (first | (refine ⟨trivial,?_⟩;gi_at_call 124;refine (callsIn_wd.2 HC.out).mono ?_;rintro e w2 ⟨rfl,H6,H0⟩;have H1:Blk w2 w.heap.size 30 _:=(H0.block _ (by omega)).trans H5.out.bm;have H2:Blk w2 wr.heap.size 74 _:=(H0.block _ (by omega)).trans Ha.out;obtain ⟨n0,n1,n2,n3,n4,n5⟩:=zan H1;obtain ⟨y0,y1,y2,y3⟩:=zay H2) | (refine ⟨trivial,?_⟩;gi_at_call 125;refine (callsIn_wd.2 (zak _ _ _ _)).mono ?_;rintro e w' ⟨rfl,rfl⟩) | (refine ⟨trivial,?_⟩) | (with_reducible show (∀ f,(none:Option FuncId)=some f→_)∧_;refine ⟨fun _ _=>trivial,?_⟩))
       all_goals
        refine wpIn_goto ?_
        try simp only[Exit.then,P1]
        refine (show Exit.jumps [0] (fun _=>McJ w m) _ (P2 0) _ _ from ?_)
        refine zag (by simp) ?_
        exact ⟨H3,rfl,rfl,H0.ext2 H5.out.e (by omega)⟩
      | true =>
      have H8:=zhd (show ((s.count = -1∧k+1=m.segs.length)∨(1≤s.count∧s.count≤4)) from .inr (inB_b.1 hc3))
      have HM:wrap64 (s.first+s.count)=s.first+s.count:=by have h1:=Hr.out;have h2:=H8.out;unfold wrap64;omega
      by_cases hk0:k=0
      ·have q1:¬ (0:Int)<(k:Int):=by omega
       have H9:=zhd (HP.out (Hd.out.2 ⟨HD.out,Hr.out,H8.out,.inl hk0⟩));clear hk0 Hc
       gi_wp2_with (first | (refine ⟨trivial,?_⟩;gi_at_call 124;refine (callsIn_wd.2 HC.out).mono ?_;rintro e w2 ⟨rfl,H6,H0⟩;have H1:Blk w2 w.heap.size 30 _:=(H0.block _ (by omega)).trans H5.out.bm;have H2:Blk w2 wr.heap.size 74 _:=(H0.block _ (by omega)).trans Ha.out;obtain ⟨n0,n1,n2,n3,n4,n5⟩:=zan H1;obtain ⟨y0,y1,y2,y3⟩:=zay H2) | (refine ⟨trivial,?_⟩;gi_at_call 125;refine (callsIn_wd.2 (zak _ _ _ _)).mono ?_;rintro e w' ⟨rfl,rfl⟩) | (refine ⟨trivial,?_⟩) | (with_reducible show (∀ f,(none:Option FuncId)=some f→_)∧_;refine ⟨fun _ _=>trivial,?_⟩))
       exact ⟨⟨k+1,s.first+s.count,by rw[HM],by go_num,by omega,zhd (H5.out.mt H0 (H6.congr fun u=>HT.out u) H9.out (.inr ⟨s,by rw[P3];exact HO.out,by omega,rfl⟩))⟩,by simp[intOf];omega⟩
      ·have q1:(0:Int)<(k:Int):=by omega
       obtain ⟨p,Hh,HK,Hi⟩:=HF.out.resolve_left (fun h=>hk0 h.1)
       by_cases hff:s.first=f
       ·have q2:(s.first != f)=false:=by simpa using hff
        have H9:=zhd (HP.out (Hd.out.2 ⟨HD.out,Hr.out,H8.out,.inr ⟨p,Hh,hff.trans Hi⟩⟩));clear hk0 hff Hh HK Hi Hc
        gi_wp2_with (first | (refine ⟨trivial,?_⟩;gi_at_call 124;refine (callsIn_wd.2 HC.out).mono ?_;rintro e w2 ⟨rfl,H6,H0⟩;have H1:Blk w2 w.heap.size 30 _:=(H0.block _ (by omega)).trans H5.out.bm;have H2:Blk w2 wr.heap.size 74 _:=(H0.block _ (by omega)).trans Ha.out;obtain ⟨n0,n1,n2,n3,n4,n5⟩:=zan H1;obtain ⟨y0,y1,y2,y3⟩:=zay H2) | (refine ⟨trivial,?_⟩;gi_at_call 125;refine (callsIn_wd.2 (zak _ _ _ _)).mono ?_;rintro e w' ⟨rfl,rfl⟩) | (refine ⟨trivial,?_⟩) | (with_reducible show (∀ f,(none:Option FuncId)=some f→_)∧_;refine ⟨fun _ _=>trivial,?_⟩))
        exact ⟨⟨k+1,s.first+s.count,by rw[HM],by go_num,by omega,zhd (H5.out.mt H0 (H6.congr fun u=>HT.out u) H9.out (.inr ⟨s,by rw[P3];exact HO.out,by omega,rfl⟩))⟩,by simp[intOf];omega⟩
       ·have q2:(s.first != f)=true:=by simpa using hff
        have H3:=Hj.out (by rw[P0,Ne,Hd.out];exact fun h=>by (rcases h.2.2.2 with h' | ⟨p',h1',h2'⟩;exact hk0 h';rw[Hh] at h1';cases h1';exact hff (h2'.trans Hi.symm)))
        clear hk0 hff Hh HK Hi Hc
        gi_wp2_with (first | (refine ⟨trivial,?_⟩;gi_at_call 124;refine (callsIn_wd.2 HC.out).mono ?_;rintro e w2 ⟨rfl,H6,H0⟩;have H1:Blk w2 w.heap.size 30 _:=(H0.block _ (by omega)).trans H5.out.bm;have H2:Blk w2 wr.heap.size 74 _:=(H0.block _ (by omega)).trans Ha.out;obtain ⟨n0,n1,n2,n3,n4,n5⟩:=zan H1;obtain ⟨y0,y1,y2,y3⟩:=zay H2) | (refine ⟨trivial,?_⟩;gi_at_call 125;refine (callsIn_wd.2 (zak _ _ _ _)).mono ?_;rintro e w' ⟨rfl,rfl⟩) | (refine ⟨trivial,?_⟩) | (with_reducible show (∀ f,(none:Option FuncId)=some f→_)∧_;refine ⟨fun _ _=>trivial,?_⟩))
        all_goals
         refine wpIn_goto ?_
         try simp only[Exit.then,P1]
         refine (show Exit.jumps [0] (fun _=>McJ w m) _ (P2 0) _ _ from ?_)
         refine zag (by simp) ?_
         exact ⟨H3,rfl,rfl,H0.ext2 H5.out.e (by omega)⟩
  ·obtain rfl:k=m.segs.length:=by omega
   have HV:zax m=true:=HG.out K2.out HI.out.ok
   have hR:R=0:=by rw[←HR.out,HV];rfl
   subst hR
   gi_wp2
   refine zat ?_
   go_ret
   exact ⟨rfl,HI.out.e⟩):P:=h
theorem mcMChka1 {P:Prop} (h:P:=by
 gi_wp2_with (first | (refine ⟨trivial,?_⟩;gi_at_call 125;refine (callsIn_wd.2 (zak _ _ _ _)).mono ?_;rintro e w' ⟨rfl,rfl⟩) | (refine ⟨trivial,?_⟩) | (with_reducible show (∀ f,(none:Option FuncId)=some f→_)∧_;refine ⟨fun _ _=>trivial,?_⟩))
 all_goals
  refine wpIn_goto ?_
  try simp only[Exit.then,P1]
  refine (show Exit.jumps [0] (fun _=>McJ w m) _ (P2 0) _ _ from ?_)
  refine zag (by simp) ?_
  exact ⟨H3,rfl,rfl,Hv.out⟩):P:=h
theorem mcMChka2 {P:Prop} (h:P:=by
 go_enter Tryz.func124,Tryz.ntmps124
 go_wp2_with (first
  | (go_at_call 125;refine (zak _ _ _ _).mono ?_;rintro e w' ⟨rfl,rfl⟩))
 go_ret
 exact ⟨rfl,Kc.out,Hu.out⟩):P:=h
theorem zak (n lo hi:Int) (w:World):Calls Tryz.prog 125 #[.int .i64 n,.int .i64 lo,.int .i64 hi] w fun e w'=>e=.returned (.bool (inB n lo hi))∧w=w':=by
 by_cases h1:lo≤n <;> by_cases h2:n≤hi <;>
  (have hb:inB n lo hi=(decide (lo≤n)&&decide (n≤hi)):=by (unfold inB;rw[Bool.eq_iff_iff];simp)
   have HB:=zhd hb;clear hb
   go_enter Tryz.func125,Tryz.ntmps125
   go_wp2
   go_ret
   refine ⟨?_,rfl⟩
   rw[HB.out]
   simp[h1,h2])
theorem ztz (w:World):(zeroValue 3).run Tryz.prog w=.ok (.int .i64 0) w:=by kernel_rfl
theorem zqX {next seq fmt:Int}:zbC next seq fmt=true↔inB seq 1 (next-1)=true∧inB fmt 1 2=true:=by
 unfold zbC inB;simp only[decide_eq_true_eq];omega
theorem zhO (b:Bool) (seq fmt next:Int) (bm bs r:Nat) (S:Value→Prop) (w:World) (hn:1≤next∧next≤1073741824) (hc:w.cell? ⟨bm,0,none⟩=some (.int .i64 next)) (hs:w.cell? ⟨bs,0,none⟩=some (.map (some r)))
  (hF:SSet w r (.int .i64) (.int .i64 1) S) (hb:b=true↔(zbC next seq fmt=true∧¬ S (.int .i64 seq))) :
  Calls Tryz.prog 124 #[.int .i64 seq,.int .i64 fmt,.pointer (some ⟨bm,0,none⟩),.pointer (some ⟨bs,0,none⟩)] w fun e w'=>e=.returned (.bool b)∧SSet w' r (.int .i64) (.int .i64 1) (fun x=>S x∨x=.int .i64 seq)∧MT w w' r:=by
 have hw:wrap64 (next-1)=next-1:=by unfold wrap64;omega
 obtain ⟨w2,hu,K4,K5⟩:=hF.update (P:=Tryz.prog) (T:=168) (K:=3) (E:=3) (k:=.int .i64 seq) Tryz.underlying168 Tryz.underlying3 rfl;have hl:=hF.lookup (P:=Tryz.prog) (T:=168) (K:=3) (E:=3) (k:=.int .i64 seq) Tryz.underlying168 Tryz.underlying3 rfl (ztz w);have Kc:=zhd K4;have Hu:=zhd K5;rw[zqX] at hb;have Hb:=zhd hb;clear hF K4 K5 hb
 cases h1:inB seq 1 (next-1) with
 | false =>
  obtain rfl:b=false:=by rw[P0,Ne,Hb.out];simp[h1]
  clear hl Hb
  exact mcMChka2
 | true =>
  cases h2:inB fmt 1 2 with
  | false =>
   obtain rfl:b=false:=by rw[P0,Ne,Hb.out];simp[h2]
   clear hl Hb
   exact mcMChka2
  | true =>
   rcases hl with ⟨hS,hl⟩ | ⟨hS,hl⟩
   ·obtain rfl:b=false:=by rw[P0,Ne,Hb.out];simp[hS]
    clear Hb hS
    exact mcMChka2
   ·obtain rfl:b=true:=by rw[Hb.out];exact ⟨⟨h1,h2⟩,hS⟩
    clear Hb hS
    exact mcMChka2
def McJ (w:World) (m:Mf) (a:Act) (W:World):Prop:=zax m=false∧a.defers=[]∧a.tmps.size=107∧Ext w W
structure McI (w:World) (m:Mf) (v:Value) (k:Nat) (f:Int) (W:World):Prop where
 bm:Blk W w.heap.size 30 (mfC m v)
 mp:SSet W (w.heap.size+1) (.int .i64) (.int .i64 1) (zdu m k)
 bs:Boxed W (w.heap.size+1+1) 168 (.map (some (w.heap.size+1)))
 e:Ext w W
 ok:zbH m k=true
 f:(k=0∧f=0)∨∃ p,m.segs[k-1]?=some p∧1≤k∧f=p.first+p.count
theorem McI.ext {w:World} {m:Mf} {v:Value} {k:Nat} {f:Int} {W W':World} (h:McI w m v k f W) (hE:Ext W W'):McI w m v k f W' :=
 ⟨h.bm.ext hE,h.mp.ext hE,h.bs.kept (row:=none) (Ext.grown hE none) (by simp),xT h.e hE,h.ok,h.f⟩
theorem McI.mt {w:World} {m:Mf} {v:Value} {k:Nat} {f:Int} {W W':World} (h:McI w m v k f W) (hM:MT W W' (w.heap.size+1)) {k':Nat} {f':Int} (hS:SSet W' (w.heap.size+1) (.int .i64) (.int .i64 1) (zdu m k')) (ho:zbH m k'=true) (hf:(k'=0∧f'=0)∨∃ p,m.segs[k'-1]?=some p∧1≤k'∧f'=p.first+p.count):McI w m v k' f' W' :=
 ⟨(hM.block _ (by omega)).trans h.bm,hS,(hM.block _ (by omega)).trans h.bs,hM.ext2 h.e (by omega),ho,hf⟩
theorem zoW (m:Mf) (v:Value) (w:World) (hS:Sgs w v m.segs) :
  Calls Tryz.prog 82 #[.agg #[.int .i64 m.next,.int .i64 m.term,.int .i64 m.vote,.int .i64 m.sq,.int .i64 m.sf,v]] w fun e w'=>e=.returned (.int .i64 (if zax m then 0 else 2))∧Ext w w':=by
 obtain ⟨A,c,rfl,Kg,Hs⟩:=hS.open_;obtain ⟨R,hR⟩:∃ R:Int,(if zax m then 0 else 2)=R:=⟨_,rfl⟩;rw[hR];have HR:=zhd hR;clear hR;have Ki:=@run_makeMap Tryz.prog;have HY:=zdT (P:=Tryz.prog) (w.alloc (.cells #[.int .i64 m.next,.int .i64 m.term,.int .i64 m.vote,.int .i64 m.sq,.int .i64 m.sf,.slice A m.segs.length c] 30)) .i64 Tryz.underlying168 Tryz.underlying3 #[] 0 0 (.int .i64 1) rfl
 have K6:SSet ((w.alloc (.cells #[.int .i64 m.next,.int .i64 m.term,.int .i64 m.vote,.int .i64 m.sq,.int .i64 m.sf,.slice A m.segs.length c] 30)).alloc (.map #[{ key:=.int .i64 0,val:=.int .i64 1,born:=0 }] 1)) (w.heap.size+1) (.int .i64) (.int .i64 1) (fun x=>x=.int .i64 0):=by
  refine ⟨_,1,by have:=heap_alloc_new (w.alloc (.cells #[.int .i64 m.next,.int .i64 m.term,.int .i64 m.vote,.int .i64 m.sq,.int .i64 m.sf,.slice A m.segs.length c] 30)) (.map #[{ key:=.int .i64 0,val:=.int .i64 1,born:=0 }] 1);rwa [xS] at this,?_,?_,?_⟩
  ·exact stamped_push (stamped_empty 0) (by simp)
  ·intro x hx
   simp at hx
   subst hx
   exact ⟨rfl,rfl⟩
  ·intro k
   simp
   exact ⟨fun h=>h.symm,fun h=>h.symm⟩
 simp only[P6,xI,P7,P4,xS] at HY;have HS:=zhd hS;have K1:=zhd K6;clear hS K6
 have K7:Ext w (((w.alloc (.cells #[.int .i64 m.next,.int .i64 m.term,.int .i64 m.vote,.int .i64 m.sq,.int .i64 m.sf,.slice A m.segs.length c] 30)).alloc (.map #[{ key:=.int .i64 0,val:=.int .i64 1,born:=0 }] 1)).alloc (.cells #[.map (some (w.heap.size+1))] 168)):=xA (xA (xA (xR _) _) _) _
 have HW:=((Blk.new w 30 #[.int .i64 m.next,.int .i64 m.term,.int .i64 m.vote,.int .i64 m.sq,.int .i64 m.sf,.slice A m.segs.length c]).alloc (.map #[{ key:=.int .i64 0,val:=.int .i64 1,born:=0 }] 1)).alloc (.cells #[.map (some (w.heap.size+1))] 168);have HU:=Boxed.new ((w.alloc (.cells #[.int .i64 m.next,.int .i64 m.term,.int .i64 m.vote,.int .i64 m.sq,.int .i64 m.sf,.slice A m.segs.length c] 30)).alloc (.map #[{ key:=.int .i64 0,val:=.int .i64 1,born:=0 }] 1)) 168 (.map (some (w.heap.size+1)));rw[xS,xS] at HU;have Hv:=zhd K7;have Hx:=zhd HW;have Hy:=zhd HU;have H0:=K1.out.ext (xA (xR _) (.cells #[.map (some (w.heap.size+1))] 168));have Hu:=zhd H0;obtain ⟨m0,m1,m2,m3,m4,m5⟩:=zan HW;have c2:=HU.cell;clear K7 HW HU K1 H0
 refine (callsIn_wd (ro:=none) (n:=9)).1 ?_
 refine callsIn_of_wp Tryz.func82 rfl trivial ?_ rfl
 simp only[Tryz.ntmps82,List.size_toArray,xC,List.length_nil,P4,Nat.reduceSub,Array.replicate_succ,Array.replicate_zero,P6,List.append_toArray,xI,P7]
 gi_wp2
 refine zbl 0 (McJ w m) (fun a _=>0) rfl (fun l' h=>by cases l' <;> first | exact absurd rfl h | rfl) ?_ ?_
 ·intro Hp
  have K3:=zhd Hp;clear Hp
  cases h1:inB m.next 1 1073741824 with
  | false =>
   have H3:zax m=false:=by unfold zax zcr;rw[h1];rfl
   exact mcMChka1
  | true =>
  cases h2:inB m.term 0 1073741824 with
  | false =>
   have H3:zax m=false:=by unfold zax zcr;rw[h1,h2];rfl
   exact mcMChka1
  | true =>
  cases h3:inB m.vote 0 5 with
  | false =>
   have H3:zax m=false:=by unfold zax zcr;rw[h1,h2,h3];rfl
   exact mcMChka1
  | true =>
  by_cases h4:m.segs.length≤60
  case neg =>
   have H3:zax m=false:=by unfold zax zcr;rw[h1,h2,h3];simp[h4]
   have h5:(60:Int)<(m.segs.length:Int):=by omega
   exact mcMChka1
  have h5:¬ (60:Int)<(m.segs.length:Int):=by omega
  have h6:(m.segs.length:Int)≤60:=by omega
  have Hg:zcr m=true:=by unfold zcr;rw[h1,h2,h3];simpa using h4
  have hn:=inB_b.1 h1;have HN:=zhd hn;have H4:=zhd h4
  have Hk:zcI m=false→zax m=false:=fun h=>by unfold zax;rw[Hg,h];rfl
  have Hl:zbH m m.segs.length=false→zax m=false:=fun h=>by unfold zax;rw[h];simp
  have Ho:zcI m=true→zbH m m.segs.length=true→zax m=true:=fun h h'=>by unfold zax;rw[Hg,h,h'];rfl
  have Hz:=zhd Hk;have HA:=zhd Hl;have HG:=zhd Ho
  have Ht:=fun W=>zrK m.sq m.sf 0 0 W
  clear hn h4 Hk Hl Ho Hg
  by_cases hq:m.sq=0∧m.sf=0
  ·rw[decide_eq_true (by simpa using hq)] at Ht
   have HH:McI w m (.slice A m.segs.length c) 0 0 _:=⟨Hx.out,Hu.out.congr fun x=>by (unfold zdu;simp[hq.1]),Hy.out,Hv.out,rfl,.inl ⟨rfl,rfl⟩⟩
   have HL:zcI m=true:=by unfold zcI;simp[hq]
   have HI:=zhd HH;have K2:=zhd HL;have HQ:=zhd hq;clear HH HL hq Hv Hx Hy Hu
   gi_wp2_with (first | (refine ⟨trivial,?_⟩;gi_at_call 125;refine (callsIn_wd.2 (zak _ _ _ _)).mono ?_;rintro e w' ⟨rfl,rfl⟩) | (refine ⟨trivial,?_⟩) | (with_reducible show (∀ f,(none:Option FuncId)=some f→_)∧_;refine ⟨fun _ _=>trivial,?_⟩))
   refine ⟨fun _ h=>(by cases h),?_⟩
   gi_wp2_with fail
   exact mcMChka0
  ·rw[decide_eq_false (by simpa using hq)] at Ht
   have K9:∀ b,(b=true↔(zbC m.next m.sq m.sf=true∧¬ (Value.int .i64 m.sq=Value.int .i64 0)))↔(b=zbC m.next m.sq m.sf):=fun b=>by
    have:zbC m.next m.sq m.sf=true→¬ (Value.int .i64 m.sq=Value.int .i64 0):=fun h e=>by have:=(zeF h).1;injection e with _ e;omega
    cases b <;> cases hfo:zbC m.next m.sq m.sf <;> simp_all
   have H7:=zhO (zbC m.next m.sq m.sf) m.sq m.sf m.next w.heap.size (w.heap.size+1+1) (w.heap.size+1) _ _ HN.out (Hx.out.cell 0 rfl) Hy.out.cell Hu.out ((K9 _).2 rfl);have HC:=zhd H7;clear H7 K9
   cases hfo:zbC m.next m.sq m.sf with
   | false =>
    rw[hfo] at HC
    have H3:zax m=false:=Hz.out (by unfold zcI;rw[hfo];simp[hq])
    clear hq hfo
    gi_wp2_with (first | (refine ⟨trivial,?_⟩;gi_at_call 124;refine (callsIn_wd.2 HC.out).mono ?_;rintro e w2 ⟨rfl,H6,H0⟩) | (first | (refine ⟨trivial,?_⟩;gi_at_call 125;refine (callsIn_wd.2 (zak _ _ _ _)).mono ?_;rintro e w' ⟨rfl,rfl⟩) | (refine ⟨trivial,?_⟩) | (with_reducible show (∀ f,(none:Option FuncId)=some f→_)∧_;refine ⟨fun _ _=>trivial,?_⟩)))
    all_goals
     refine wpIn_goto ?_
     try simp only[Exit.then,P1]
     refine (show Exit.jumps [0] (fun _=>McJ w m) _ (P2 0) _ _ from ?_)
     refine zag (by simp) ?_
     exact ⟨H3,rfl,rfl,H0.ext2 Hv.out (by omega)⟩
   | true =>
    rw[hfo] at HC
    have HL:zcI m=true:=by unfold zcI;rw[hfo];simp
    have K2:=zhd HL;clear HL hq hfo
    gi_wp2_with (first | (refine ⟨trivial,?_⟩;gi_at_call 124;refine (callsIn_wd.2 HC.out).mono ?_;rintro e w2 ⟨rfl,H6,H0⟩;have H1:Blk w2 w.heap.size 30 _:=(H0.block _ (by omega)).trans Hx.out;obtain ⟨n0,n1,n2,n3,n4,n5⟩:=zan H1) | (first | (refine ⟨trivial,?_⟩;gi_at_call 125;refine (callsIn_wd.2 (zak _ _ _ _)).mono ?_;rintro e w' ⟨rfl,rfl⟩) | (refine ⟨trivial,?_⟩) | (with_reducible show (∀ f,(none:Option FuncId)=some f→_)∧_;refine ⟨fun _ _=>trivial,?_⟩)))
    have HH:McI w m (.slice A m.segs.length c) 0 0 w2:=⟨H1,H6.congr fun x=>by (unfold zdu;simp),(H0.block _ (by omega)).trans Hy.out,H0.ext2 Hv.out (by omega),rfl,.inl ⟨rfl,rfl⟩⟩
    have HI:=zhd HH;clear HH H1 H6 H0 n0 n1 n2 n3 n4 n5 Hv Hx Hy Hu HC
    exact mcMChka0
 ·rintro ⟨TT,df⟩ W ⟨HV,hd,HZ,hE⟩
  cases hd
  dsimp only at HZ
  have hR:R=2:=by rw[←HR.out,HV];rfl
  subst hR;have hT:=zdf 107 TT HZ
  generalize hU:(fun i=>TT.getD i undef)=U at hT
  have Kd:TT = #[U 0,U 1,U 2,U 3,U 4,U 5,U 6,U 7,U 8,U 9,U 10,U 11,U 12,U 13,U 14,U 15,U 16,U 17,U 18,U 19,U 20,U 21,U 22,U 23,U 24,U 25,U 26,U 27,U 28,U 29,U 30,U 31,U 32,U 33,U 34,U 35,U 36,U 37,U 38,U 39,U 40,U 41,U 42,U 43,U 44,U 45,U 46,U 47,U 48,U 49,U 50,U 51,U 52,U 53,U 54,U 55,U 56,U 57,U 58,U 59,U 60,U 61,U 62,U 63,U 64,U 65,U 66,U 67,U 68,U 69,U 70,U 71,U 72,U 73,U 74,U 75,U 76,U 77,U 78,U 79,U 80,U 81,U 82,U 83,U 84,U 85,U 86,U 87,U 88,U 89,U 90,U 91,U 92,U 93,U 94,U 95,U 96,U 97,U 98,U 99,U 100,U 101,U 102,U 103,U 104,U 105,U 106]:=hT
  clear hT hU HZ;subst Kd;clear HV
  gi_wp2
  refine zat ?_
  go_ret
  exact ⟨rfl,hE⟩
end Go.Proofs.YtgonhdeochgkoaaGreatDoor
