/- Merged: MChk -/
import Derived.Test.YtgonhdeochgkoaaGreatDoorZt19
import Derived.Test.YtgonhdeochgkoaaGreatDoorZt22
set_option linter.all false
set_option maxHeartbeats 8000000
set_option maxRecDepth 100000
namespace Go.Proofs.YtgonhdeochgkoaaGreatDoor
open Go.RowKit Go.Mv Go.Shelf Go.MapKept
theorem mcMChka0 {P:Prop} (h:P:=by
 clear m0 m1 m2 m3 m4 m5 c2 href h1 h2 h3 h5 h6
 gi_loopw [3,52] (fun v3 v52 W=>∃ (k:Nat) (f:Int),v3=.int .i64 f∧v52=.int .i64 k∧k≤m.segs.length∧Hid (McI w m (.slice A m.segs.length c) k f W)) (fun _ v52 _=>m.segs.length+1-(intOf v52).toNat)
 case atStart=>exact ⟨0,0,rfl,rfl,Nat.zero_le _,HI⟩
 case round =>
  clear HI;obtain ⟨k,f,rfl,rfl,hkl,HI⟩:=hrel
  by_cases hlt:k<m.segs.length
  ·have hso:=zlV hlt
   obtain ⟨_,bo,of,rfl,hcells⟩:=Sgs.at_ (Sgs.ext HS.out HI.out.e) (by omega);obtain ⟨d0,d1,d2,d3⟩:=hcells k hlt
   have hbadk:zbz m k m.segs[k]=false→zav m=false:=fun h=>HBAD2.out (zfQ hlt h _ hlt)
   have hnxt:zbz m k m.segs[k]=true→zbH m (k+1)=true:=fun h=>by unfold zbH;rw[HI.out.ok,List.getElem?_eq_getElem hlt];simpa using h
   have hseen:=fun u=>zlU hlt u
   have hgetk:m.segs[k]?=some m.segs[k]:=List.getElem?_eq_getElem hlt
   have HSO:=zhd hso;have HBK:=zhd hbadk;have HNX:=zhd hnxt;have HSE:=zhd hseen;have HGK:=zhd hgetk;clear hso hbadk hnxt hseen hgetk hcells
   generalize m.segs[k]=s at *
   have hX1:Ext wr (wr.alloc (.cells #[.int .i64 s.seq,.int .i64 s.fmt,.int .i64 s.first,.int .i64 s.count] 74)):=Ext.alloc (Ext.refl _) _
   have hI1:=HI.out.ext hX1;have hbx:=Blk.new wr 74 #[.int .i64 s.seq,.int .i64 s.fmt,.int .i64 s.first,.int .i64 s.count]
   obtain ⟨b,hb⟩:∃ b:Bool,(b=true↔(zbD m.next s.seq s.fmt=true∧¬ zdu m k (.int .i64 s.seq))):=by classical exact ⟨decide (zbD m.next s.seq s.fmt=true∧¬ zdu m k (.int .i64 s.seq)),decide_eq_true_iff⟩
   have hcall:=zic b s.seq s.fmt m.next w.heap.size (w.heap.size+1+1) (w.heap.size+1) _ _ HN.out (hI1.bm.cell 0 rfl) hI1.bs.cell hI1.mp hb;have HC:=zhd hcall
   have hbz:w.heap.size+1+1<wr.heap.size:=HI.out.bs.lt
   have HI1:=zhd hI1;have HBX:=zhd hbx;have HB:=zhd hb;have HF:=zhd HI.out.f
   have hklz:(k:Int)<(m.segs.length:Int):=by omega
   have hwl:wrap64 ((m.segs.length:Int)-1)=(m.segs.length:Int)-1:=by have:=H4.out;unfold wrap64;omega
   obtain ⟨m0,m1,m2,m3,m4,m5⟩:=zap hI1.bm;obtain ⟨x0,x1,x2,x3⟩:=zay hbx
   have hokz:zbz m k s=false∨zbz m k s=true:=by cases zbz m k s <;> simp
   clear hcall hI1 hbx hb hX1
   by_cases hcm:s.count = -1
   ·have e1:(s.count == -1)=true:=by simpa using hcm
    have HCM:=zhd hcm;clear hcm
    by_cases hla:k+1=m.segs.length
    ·have e2:((k:Int)==(m.segs.length:Int)-1)=true:=by simp;omega
     have hcnt:((s.count = -1∧k+1=m.segs.length)∨(1≤s.count∧s.count≤4)):=.inl ⟨HCM.out,hla⟩
     have HCNT:=zhd hcnt;clear hcnt hla
     cases b with
     | false =>
      have hbad:=HBK.out (by rw[Bool.eq_false_iff,Ne,HSO.out];exact fun h=>absurd (HB.out.2 h.1) (by simp))
      gi_wp2_with (first | (refine ⟨trivial,?_⟩;gi_at_call 124;refine (callsIn_wd.2 HC.out).mono ?_;rintro e w2 ⟨rfl,hs2,hm2⟩;have hbm2:Blk w2 w.heap.size 30 _:=(hm2.block _ (by omega)).trans HI1.out.bm;have hbx2:Blk w2 wr.heap.size 74 _:=(hm2.block _ (by omega)).trans HBX.out;obtain ⟨n0,n1,n2,n3,n4,n5⟩:=zap hbm2;obtain ⟨y0,y1,y2,y3⟩:=zay hbx2) | (refine ⟨trivial,?_⟩;gi_at_call 125;refine (callsIn_wd.2 (zam _ _ _ _)).mono ?_;rintro e w' ⟨rfl,rfl⟩) | (refine ⟨trivial,?_⟩) | (with_reducible show (∀ f,(none:Option FuncId)=some f→_)∧_;refine ⟨fun _ _=>trivial,?_⟩))
      all_goals
       refine wpIn_goto ?_
       try simp only[Exit.then,Exit.inBlock]
       refine (show Exit.jumps [0] (fun _=>McJ w m) _ (Exit.goto 0) _ _ from ?_)
       refine zah (by simp) ?_
       exact ⟨hbad,rfl,rfl,hm2.ext2 HI1.out.e (by omega)⟩
     | true =>
      have HBT:=zhd (HB.out.1 rfl)
      cases hc2:inB s.first 1 1073741820 with
      | false =>
       have hbad:=HBK.out (by rw[Bool.eq_false_iff,Ne,HSO.out];exact fun h=>absurd (inB_b.2 h.2.1) (by rw[hc2];simp))
       gi_wp2_with (first | (refine ⟨trivial,?_⟩;gi_at_call 124;refine (callsIn_wd.2 HC.out).mono ?_;rintro e w2 ⟨rfl,hs2,hm2⟩;have hbm2:Blk w2 w.heap.size 30 _:=(hm2.block _ (by omega)).trans HI1.out.bm;have hbx2:Blk w2 wr.heap.size 74 _:=(hm2.block _ (by omega)).trans HBX.out;obtain ⟨n0,n1,n2,n3,n4,n5⟩:=zap hbm2;obtain ⟨y0,y1,y2,y3⟩:=zay hbx2) | (refine ⟨trivial,?_⟩;gi_at_call 125;refine (callsIn_wd.2 (zam _ _ _ _)).mono ?_;rintro e w' ⟨rfl,rfl⟩) | (refine ⟨trivial,?_⟩) | (with_reducible show (∀ f,(none:Option FuncId)=some f→_)∧_;refine ⟨fun _ _=>trivial,?_⟩))
       all_goals
        refine wpIn_goto ?_
        try simp only[Exit.then,Exit.inBlock]
        refine (show Exit.jumps [0] (fun _=>McJ w m) _ (Exit.goto 0) _ _ from ?_)
        refine zah (by simp) ?_
        exact ⟨hbad,rfl,rfl,hm2.ext2 HI1.out.e (by omega)⟩
      | true =>
       have HC2:=zhd (inB_b.1 hc2)
       have hwf:wrap64 (s.first+s.count)=s.first+s.count:=by have h1:=HC2.out;have h2:=HCNT.out;unfold wrap64;omega
       by_cases hk0:k=0
       ·have q1:¬ (0:Int)<(k:Int):=by omega
        have HNX2:=zhd (HNX.out (HSO.out.2 ⟨HBT.out,HC2.out,HCNT.out,.inl hk0⟩));clear hk0 hokz
        gi_wp2_with (first | (refine ⟨trivial,?_⟩;gi_at_call 124;refine (callsIn_wd.2 HC.out).mono ?_;rintro e w2 ⟨rfl,hs2,hm2⟩;have hbm2:Blk w2 w.heap.size 30 _:=(hm2.block _ (by omega)).trans HI1.out.bm;have hbx2:Blk w2 wr.heap.size 74 _:=(hm2.block _ (by omega)).trans HBX.out;obtain ⟨n0,n1,n2,n3,n4,n5⟩:=zap hbm2;obtain ⟨y0,y1,y2,y3⟩:=zay hbx2) | (refine ⟨trivial,?_⟩;gi_at_call 125;refine (callsIn_wd.2 (zam _ _ _ _)).mono ?_;rintro e w' ⟨rfl,rfl⟩) | (refine ⟨trivial,?_⟩) | (with_reducible show (∀ f,(none:Option FuncId)=some f→_)∧_;refine ⟨fun _ _=>trivial,?_⟩))
        exact ⟨⟨k+1,s.first+s.count,by rw[hwf],by go_num,by omega,zhd (HI1.out.mt hm2 (hs2.congr fun u=>HSE.out u) HNX2.out (.inr ⟨s,by rw[Nat.add_sub_cancel];exact HGK.out,by omega,rfl⟩))⟩,by simp[intOf];omega⟩
       ·have q1:(0:Int)<(k:Int):=by omega
        obtain ⟨p,hp1,hp2,hp3⟩:=HF.out.resolve_left (fun h=>hk0 h.1)
        by_cases hff:s.first=f
        ·have q2:(s.first != f)=false:=by simpa using hff
         have HNX2:=zhd (HNX.out (HSO.out.2 ⟨HBT.out,HC2.out,HCNT.out,.inr ⟨p,hp1,hff.trans hp3⟩⟩));clear hk0 hff hp1 hp2 hp3 hokz
         gi_wp2_with (first | (refine ⟨trivial,?_⟩;gi_at_call 124;refine (callsIn_wd.2 HC.out).mono ?_;rintro e w2 ⟨rfl,hs2,hm2⟩;have hbm2:Blk w2 w.heap.size 30 _:=(hm2.block _ (by omega)).trans HI1.out.bm;have hbx2:Blk w2 wr.heap.size 74 _:=(hm2.block _ (by omega)).trans HBX.out;obtain ⟨n0,n1,n2,n3,n4,n5⟩:=zap hbm2;obtain ⟨y0,y1,y2,y3⟩:=zay hbx2) | (refine ⟨trivial,?_⟩;gi_at_call 125;refine (callsIn_wd.2 (zam _ _ _ _)).mono ?_;rintro e w' ⟨rfl,rfl⟩) | (refine ⟨trivial,?_⟩) | (with_reducible show (∀ f,(none:Option FuncId)=some f→_)∧_;refine ⟨fun _ _=>trivial,?_⟩))
         exact ⟨⟨k+1,s.first+s.count,by rw[hwf],by go_num,by omega,zhd (HI1.out.mt hm2 (hs2.congr fun u=>HSE.out u) HNX2.out (.inr ⟨s,by rw[Nat.add_sub_cancel];exact HGK.out,by omega,rfl⟩))⟩,by simp[intOf];omega⟩
        ·have q2:(s.first != f)=true:=by simpa using hff
         have hbad:=HBK.out (by rw[Bool.eq_false_iff,Ne,HSO.out];exact fun h=>by (rcases h.2.2.2 with h' | ⟨p',h1',h2'⟩;exact hk0 h';rw[hp1] at h1';cases h1';exact hff (h2'.trans hp3.symm)))
         clear hk0 hff hp1 hp2 hp3 hokz
         gi_wp2_with (first | (refine ⟨trivial,?_⟩;gi_at_call 124;refine (callsIn_wd.2 HC.out).mono ?_;rintro e w2 ⟨rfl,hs2,hm2⟩;have hbm2:Blk w2 w.heap.size 30 _:=(hm2.block _ (by omega)).trans HI1.out.bm;have hbx2:Blk w2 wr.heap.size 74 _:=(hm2.block _ (by omega)).trans HBX.out;obtain ⟨n0,n1,n2,n3,n4,n5⟩:=zap hbm2;obtain ⟨y0,y1,y2,y3⟩:=zay hbx2) | (refine ⟨trivial,?_⟩;gi_at_call 125;refine (callsIn_wd.2 (zam _ _ _ _)).mono ?_;rintro e w' ⟨rfl,rfl⟩) | (refine ⟨trivial,?_⟩) | (with_reducible show (∀ f,(none:Option FuncId)=some f→_)∧_;refine ⟨fun _ _=>trivial,?_⟩))
         all_goals
          refine wpIn_goto ?_
          try simp only[Exit.then,Exit.inBlock]
          refine (show Exit.jumps [0] (fun _=>McJ w m) _ (Exit.goto 0) _ _ from ?_)
          refine zah (by simp) ?_
          exact ⟨hbad,rfl,rfl,hm2.ext2 HI1.out.e (by omega)⟩
    ·have e2:((k:Int)==(m.segs.length:Int)-1)=false:=by simp;omega
     have hcnt:¬ ((s.count = -1∧k+1=m.segs.length)∨(1≤s.count∧s.count≤4)):=by have:=HCM.out;omega
     have hsf:zbz m k s=false:=by rw[Bool.eq_false_iff,Ne,HSO.out];exact fun h=>hcnt h.2.2.1
     have hbad:=HBK.out hsf
     have e3:inB s.count 1 4=false:=by rw[Bool.eq_false_iff,Ne,inB_b];have:=HCM.out;omega
     clear hcnt hla hsf
     cases b with
     | false =>
      gi_wp2_with (first | (refine ⟨trivial,?_⟩;gi_at_call 124;refine (callsIn_wd.2 HC.out).mono ?_;rintro e w2 ⟨rfl,hs2,hm2⟩;have hbm2:Blk w2 w.heap.size 30 _:=(hm2.block _ (by omega)).trans HI1.out.bm;have hbx2:Blk w2 wr.heap.size 74 _:=(hm2.block _ (by omega)).trans HBX.out;obtain ⟨n0,n1,n2,n3,n4,n5⟩:=zap hbm2;obtain ⟨y0,y1,y2,y3⟩:=zay hbx2) | (refine ⟨trivial,?_⟩;gi_at_call 125;refine (callsIn_wd.2 (zam _ _ _ _)).mono ?_;rintro e w' ⟨rfl,rfl⟩) | (refine ⟨trivial,?_⟩) | (with_reducible show (∀ f,(none:Option FuncId)=some f→_)∧_;refine ⟨fun _ _=>trivial,?_⟩))
      all_goals
       refine wpIn_goto ?_
       try simp only[Exit.then,Exit.inBlock]
       refine (show Exit.jumps [0] (fun _=>McJ w m) _ (Exit.goto 0) _ _ from ?_)
       refine zah (by simp) ?_
       exact ⟨hbad,rfl,rfl,hm2.ext2 HI1.out.e (by omega)⟩
     | true =>
      cases hc2:inB s.first 1 1073741820 with
      | false =>
       gi_wp2_with (first | (refine ⟨trivial,?_⟩;gi_at_call 124;refine (callsIn_wd.2 HC.out).mono ?_;rintro e w2 ⟨rfl,hs2,hm2⟩;have hbm2:Blk w2 w.heap.size 30 _:=(hm2.block _ (by omega)).trans HI1.out.bm;have hbx2:Blk w2 wr.heap.size 74 _:=(hm2.block _ (by omega)).trans HBX.out;obtain ⟨n0,n1,n2,n3,n4,n5⟩:=zap hbm2;obtain ⟨y0,y1,y2,y3⟩:=zay hbx2) | (refine ⟨trivial,?_⟩;gi_at_call 125;refine (callsIn_wd.2 (zam _ _ _ _)).mono ?_;rintro e w' ⟨rfl,rfl⟩) | (refine ⟨trivial,?_⟩) | (with_reducible show (∀ f,(none:Option FuncId)=some f→_)∧_;refine ⟨fun _ _=>trivial,?_⟩))
       all_goals
        refine wpIn_goto ?_
        try simp only[Exit.then,Exit.inBlock]
        refine (show Exit.jumps [0] (fun _=>McJ w m) _ (Exit.goto 0) _ _ from ?_)
        refine zah (by simp) ?_
        exact ⟨hbad,rfl,rfl,hm2.ext2 HI1.out.e (by omega)⟩
      | true =>
       gi_wp2_with (first | (refine ⟨trivial,?_⟩;gi_at_call 124;refine (callsIn_wd.2 HC.out).mono ?_;rintro e w2 ⟨rfl,hs2,hm2⟩;have hbm2:Blk w2 w.heap.size 30 _:=(hm2.block _ (by omega)).trans HI1.out.bm;have hbx2:Blk w2 wr.heap.size 74 _:=(hm2.block _ (by omega)).trans HBX.out;obtain ⟨n0,n1,n2,n3,n4,n5⟩:=zap hbm2;obtain ⟨y0,y1,y2,y3⟩:=zay hbx2) | (refine ⟨trivial,?_⟩;gi_at_call 125;refine (callsIn_wd.2 (zam _ _ _ _)).mono ?_;rintro e w' ⟨rfl,rfl⟩) | (refine ⟨trivial,?_⟩) | (with_reducible show (∀ f,(none:Option FuncId)=some f→_)∧_;refine ⟨fun _ _=>trivial,?_⟩))
       all_goals
        refine wpIn_goto ?_
        try simp only[Exit.then,Exit.inBlock]
        refine (show Exit.jumps [0] (fun _=>McJ w m) _ (Exit.goto 0) _ _ from ?_)
        refine zah (by simp) ?_
        exact ⟨hbad,rfl,rfl,hm2.ext2 HI1.out.e (by omega)⟩
   ·have e1:(s.count == -1)=false:=by simpa using hcm
    have HCM:=zhd hcm;clear hcm
    cases b with
    | false =>
     have hbad:=HBK.out (by rw[Bool.eq_false_iff,Ne,HSO.out];exact fun h=>absurd (HB.out.2 h.1) (by simp))
     gi_wp2_with (first | (refine ⟨trivial,?_⟩;gi_at_call 124;refine (callsIn_wd.2 HC.out).mono ?_;rintro e w2 ⟨rfl,hs2,hm2⟩;have hbm2:Blk w2 w.heap.size 30 _:=(hm2.block _ (by omega)).trans HI1.out.bm;have hbx2:Blk w2 wr.heap.size 74 _:=(hm2.block _ (by omega)).trans HBX.out;obtain ⟨n0,n1,n2,n3,n4,n5⟩:=zap hbm2;obtain ⟨y0,y1,y2,y3⟩:=zay hbx2) | (refine ⟨trivial,?_⟩;gi_at_call 125;refine (callsIn_wd.2 (zam _ _ _ _)).mono ?_;rintro e w' ⟨rfl,rfl⟩) | (refine ⟨trivial,?_⟩) | (with_reducible show (∀ f,(none:Option FuncId)=some f→_)∧_;refine ⟨fun _ _=>trivial,?_⟩))
     all_goals
      refine wpIn_goto ?_
      try simp only[Exit.then,Exit.inBlock]
      refine (show Exit.jumps [0] (fun _=>McJ w m) _ (Exit.goto 0) _ _ from ?_)
      refine zah (by simp) ?_
      exact ⟨hbad,rfl,rfl,hm2.ext2 HI1.out.e (by omega)⟩
    | true =>
     have HBT:=zhd (HB.out.1 rfl)
     cases hc2:inB s.first 1 1073741820 with
     | false =>
      have hbad:=HBK.out (by rw[Bool.eq_false_iff,Ne,HSO.out];exact fun h=>absurd (inB_b.2 h.2.1) (by rw[hc2];simp))
      gi_wp2_with (first | (refine ⟨trivial,?_⟩;gi_at_call 124;refine (callsIn_wd.2 HC.out).mono ?_;rintro e w2 ⟨rfl,hs2,hm2⟩;have hbm2:Blk w2 w.heap.size 30 _:=(hm2.block _ (by omega)).trans HI1.out.bm;have hbx2:Blk w2 wr.heap.size 74 _:=(hm2.block _ (by omega)).trans HBX.out;obtain ⟨n0,n1,n2,n3,n4,n5⟩:=zap hbm2;obtain ⟨y0,y1,y2,y3⟩:=zay hbx2) | (refine ⟨trivial,?_⟩;gi_at_call 125;refine (callsIn_wd.2 (zam _ _ _ _)).mono ?_;rintro e w' ⟨rfl,rfl⟩) | (refine ⟨trivial,?_⟩) | (with_reducible show (∀ f,(none:Option FuncId)=some f→_)∧_;refine ⟨fun _ _=>trivial,?_⟩))
      all_goals
       refine wpIn_goto ?_
       try simp only[Exit.then,Exit.inBlock]
       refine (show Exit.jumps [0] (fun _=>McJ w m) _ (Exit.goto 0) _ _ from ?_)
       refine zah (by simp) ?_
       exact ⟨hbad,rfl,rfl,hm2.ext2 HI1.out.e (by omega)⟩
     | true =>
      have HC2:=zhd (inB_b.1 hc2)
      cases hc3:inB s.count 1 4 with
      | false =>
       have hbad:=HBK.out (by rw[Bool.eq_false_iff,Ne,HSO.out];exact fun h=>by (rcases h.2.2.1 with h' | h';exact HCM.out h'.1;rw[inB_b.2 h'] at hc3;cases hc3))
       gi_wp2_with (first | (refine ⟨trivial,?_⟩;gi_at_call 124;refine (callsIn_wd.2 HC.out).mono ?_;rintro e w2 ⟨rfl,hs2,hm2⟩;have hbm2:Blk w2 w.heap.size 30 _:=(hm2.block _ (by omega)).trans HI1.out.bm;have hbx2:Blk w2 wr.heap.size 74 _:=(hm2.block _ (by omega)).trans HBX.out;obtain ⟨n0,n1,n2,n3,n4,n5⟩:=zap hbm2;obtain ⟨y0,y1,y2,y3⟩:=zay hbx2) | (refine ⟨trivial,?_⟩;gi_at_call 125;refine (callsIn_wd.2 (zam _ _ _ _)).mono ?_;rintro e w' ⟨rfl,rfl⟩) | (refine ⟨trivial,?_⟩) | (with_reducible show (∀ f,(none:Option FuncId)=some f→_)∧_;refine ⟨fun _ _=>trivial,?_⟩))
       all_goals
        refine wpIn_goto ?_
        try simp only[Exit.then,Exit.inBlock]
        refine (show Exit.jumps [0] (fun _=>McJ w m) _ (Exit.goto 0) _ _ from ?_)
        refine zah (by simp) ?_
        exact ⟨hbad,rfl,rfl,hm2.ext2 HI1.out.e (by omega)⟩
      | true =>
      have HCNT:=zhd (show ((s.count = -1∧k+1=m.segs.length)∨(1≤s.count∧s.count≤4)) from .inr (inB_b.1 hc3))
      have hwf:wrap64 (s.first+s.count)=s.first+s.count:=by have h1:=HC2.out;have h2:=HCNT.out;unfold wrap64;omega
      by_cases hk0:k=0
      ·have q1:¬ (0:Int)<(k:Int):=by omega
       have HNX2:=zhd (HNX.out (HSO.out.2 ⟨HBT.out,HC2.out,HCNT.out,.inl hk0⟩));clear hk0 hokz
       gi_wp2_with (first | (refine ⟨trivial,?_⟩;gi_at_call 124;refine (callsIn_wd.2 HC.out).mono ?_;rintro e w2 ⟨rfl,hs2,hm2⟩;have hbm2:Blk w2 w.heap.size 30 _:=(hm2.block _ (by omega)).trans HI1.out.bm;have hbx2:Blk w2 wr.heap.size 74 _:=(hm2.block _ (by omega)).trans HBX.out;obtain ⟨n0,n1,n2,n3,n4,n5⟩:=zap hbm2;obtain ⟨y0,y1,y2,y3⟩:=zay hbx2) | (refine ⟨trivial,?_⟩;gi_at_call 125;refine (callsIn_wd.2 (zam _ _ _ _)).mono ?_;rintro e w' ⟨rfl,rfl⟩) | (refine ⟨trivial,?_⟩) | (with_reducible show (∀ f,(none:Option FuncId)=some f→_)∧_;refine ⟨fun _ _=>trivial,?_⟩))
       exact ⟨⟨k+1,s.first+s.count,by rw[hwf],by go_num,by omega,zhd (HI1.out.mt hm2 (hs2.congr fun u=>HSE.out u) HNX2.out (.inr ⟨s,by rw[Nat.add_sub_cancel];exact HGK.out,by omega,rfl⟩))⟩,by simp[intOf];omega⟩
      ·have q1:(0:Int)<(k:Int):=by omega
       obtain ⟨p,hp1,hp2,hp3⟩:=HF.out.resolve_left (fun h=>hk0 h.1)
       by_cases hff:s.first=f
       ·have q2:(s.first != f)=false:=by simpa using hff
        have HNX2:=zhd (HNX.out (HSO.out.2 ⟨HBT.out,HC2.out,HCNT.out,.inr ⟨p,hp1,hff.trans hp3⟩⟩));clear hk0 hff hp1 hp2 hp3 hokz
        gi_wp2_with (first | (refine ⟨trivial,?_⟩;gi_at_call 124;refine (callsIn_wd.2 HC.out).mono ?_;rintro e w2 ⟨rfl,hs2,hm2⟩;have hbm2:Blk w2 w.heap.size 30 _:=(hm2.block _ (by omega)).trans HI1.out.bm;have hbx2:Blk w2 wr.heap.size 74 _:=(hm2.block _ (by omega)).trans HBX.out;obtain ⟨n0,n1,n2,n3,n4,n5⟩:=zap hbm2;obtain ⟨y0,y1,y2,y3⟩:=zay hbx2) | (refine ⟨trivial,?_⟩;gi_at_call 125;refine (callsIn_wd.2 (zam _ _ _ _)).mono ?_;rintro e w' ⟨rfl,rfl⟩) | (refine ⟨trivial,?_⟩) | (with_reducible show (∀ f,(none:Option FuncId)=some f→_)∧_;refine ⟨fun _ _=>trivial,?_⟩))
        exact ⟨⟨k+1,s.first+s.count,by rw[hwf],by go_num,by omega,zhd (HI1.out.mt hm2 (hs2.congr fun u=>HSE.out u) HNX2.out (.inr ⟨s,by rw[Nat.add_sub_cancel];exact HGK.out,by omega,rfl⟩))⟩,by simp[intOf];omega⟩
       ·have q2:(s.first != f)=true:=by simpa using hff
        have hbad:=HBK.out (by rw[Bool.eq_false_iff,Ne,HSO.out];exact fun h=>by (rcases h.2.2.2 with h' | ⟨p',h1',h2'⟩;exact hk0 h';rw[hp1] at h1';cases h1';exact hff (h2'.trans hp3.symm)))
        clear hk0 hff hp1 hp2 hp3 hokz
        gi_wp2_with (first | (refine ⟨trivial,?_⟩;gi_at_call 124;refine (callsIn_wd.2 HC.out).mono ?_;rintro e w2 ⟨rfl,hs2,hm2⟩;have hbm2:Blk w2 w.heap.size 30 _:=(hm2.block _ (by omega)).trans HI1.out.bm;have hbx2:Blk w2 wr.heap.size 74 _:=(hm2.block _ (by omega)).trans HBX.out;obtain ⟨n0,n1,n2,n3,n4,n5⟩:=zap hbm2;obtain ⟨y0,y1,y2,y3⟩:=zay hbx2) | (refine ⟨trivial,?_⟩;gi_at_call 125;refine (callsIn_wd.2 (zam _ _ _ _)).mono ?_;rintro e w' ⟨rfl,rfl⟩) | (refine ⟨trivial,?_⟩) | (with_reducible show (∀ f,(none:Option FuncId)=some f→_)∧_;refine ⟨fun _ _=>trivial,?_⟩))
        all_goals
         refine wpIn_goto ?_
         try simp only[Exit.then,Exit.inBlock]
         refine (show Exit.jumps [0] (fun _=>McJ w m) _ (Exit.goto 0) _ _ from ?_)
         refine zah (by simp) ?_
         exact ⟨hbad,rfl,rfl,hm2.ext2 HI1.out.e (by omega)⟩
  ·obtain rfl:k=m.segs.length:=by omega
   have hck:zav m=true:=HGOOD.out HSN.out HI.out.ok
   have hR:R=0:=by rw[←HR.out,hck];rfl
   subst hR
   gi_wp2
   refine zas ?_
   go_ret
   exact ⟨rfl,HI.out.e⟩):P:=h
theorem mcMChka1 {P:Prop} (h:P:=by
 gi_wp2_with (first | (refine ⟨trivial,?_⟩;gi_at_call 125;refine (callsIn_wd.2 (zam _ _ _ _)).mono ?_;rintro e w' ⟨rfl,rfl⟩) | (refine ⟨trivial,?_⟩) | (with_reducible show (∀ f,(none:Option FuncId)=some f→_)∧_;refine ⟨fun _ _=>trivial,?_⟩))
 all_goals
  refine wpIn_goto ?_
  try simp only[Exit.then,Exit.inBlock]
  refine (show Exit.jumps [0] (fun _=>McJ w m) _ (Exit.goto 0) _ _ from ?_)
  refine zah (by simp) ?_
  exact ⟨hbad,rfl,rfl,HXE.out⟩):P:=h
theorem zam (n lo hi:Int) (w:World):Calls Tryz.prog 125 #[.int .i64 n,.int .i64 lo,.int .i64 hi] w fun e w'=>e=.returned (.bool (inB n lo hi))∧w=w':=by
 by_cases h1:lo≤n <;> by_cases h2:n≤hi <;>
  (have hb:inB n lo hi=(decide (lo≤n)&&decide (n≤hi)):=by (unfold inB;rw[Bool.eq_iff_iff];simp)
   have HB:=zhd hb;clear hb
   go_enter Tryz.func125,Tryz.ntmps125
   go_wp2
   go_ret
   refine ⟨?_,rfl⟩
   rw[HB.out]
   simp[h1,h2])
theorem zum (w:World):(zeroValue 3).run Tryz.prog w=.ok (.int .i64 0) w:=by kernel_rfl
theorem zrA {next seq fmt:Int}:zbD next seq fmt=true↔inB seq 1 (next-1)=true∧inB fmt 1 2=true:=by
 unfold zbD inB;simp only[decide_eq_true_eq];omega
theorem zic (b:Bool) (seq fmt next:Int) (bm bs r:Nat) (S:Value→Prop) (w:World) (hn:1≤next∧next≤1073741824) (hc:w.cell? ⟨bm,0,none⟩=some (.int .i64 next)) (hs:w.cell? ⟨bs,0,none⟩=some (.map (some r)))
  (hF:SSet w r (.int .i64) (.int .i64 1) S) (hb:b=true↔(zbD next seq fmt=true∧¬ S (.int .i64 seq))) :
  Calls Tryz.prog 124 #[.int .i64 seq,.int .i64 fmt,.pointer (some ⟨bm,0,none⟩),.pointer (some ⟨bs,0,none⟩)] w fun e w'=>e=.returned (.bool b)∧SSet w' r (.int .i64) (.int .i64 1) (fun x=>S x∨x=.int .i64 seq)∧MT w w' r:=by
 have hw:wrap64 (next-1)=next-1:=by unfold wrap64;omega
 obtain ⟨w2,hu,hF2,hM2⟩:=hF.update (P:=Tryz.prog) (T:=168) (K:=3) (E:=3) (k:=.int .i64 seq) Tryz.underlying168 Tryz.underlying3 rfl;have hl:=hF.lookup (P:=Tryz.prog) (T:=168) (K:=3) (E:=3) (k:=.int .i64 seq) Tryz.underlying168 Tryz.underlying3 rfl (zum w);have HF2:=zhd hF2;have HM2:=zhd hM2;rw[zrA] at hb;have Hb:=zhd hb;clear hF hF2 hM2 hb
 cases h1:inB seq 1 (next-1) with
 | false =>
  obtain rfl:b=false:=by rw[Bool.eq_false_iff,Ne,Hb.out];simp[h1]
  clear hl Hb
  go_enter Tryz.func124,Tryz.ntmps124
  go_wp2_with (first
   | (go_at_call 125;refine (zam _ _ _ _).mono ?_;rintro e w' ⟨rfl,rfl⟩))
  go_ret
  exact ⟨rfl,HF2.out,HM2.out⟩
 | true =>
  cases h2:inB fmt 1 2 with
  | false =>
   obtain rfl:b=false:=by rw[Bool.eq_false_iff,Ne,Hb.out];simp[h2]
   clear hl Hb
   go_enter Tryz.func124,Tryz.ntmps124
   go_wp2_with (first
    | (go_at_call 125;refine (zam _ _ _ _).mono ?_;rintro e w' ⟨rfl,rfl⟩))
   go_ret
   exact ⟨rfl,HF2.out,HM2.out⟩
  | true =>
   rcases hl with ⟨hS,hl⟩ | ⟨hS,hl⟩
   ·obtain rfl:b=false:=by rw[Bool.eq_false_iff,Ne,Hb.out];simp[hS]
    clear Hb hS
    go_enter Tryz.func124,Tryz.ntmps124
    go_wp2_with (first
     | (go_at_call 125;refine (zam _ _ _ _).mono ?_;rintro e w' ⟨rfl,rfl⟩))
    go_ret
    exact ⟨rfl,HF2.out,HM2.out⟩
   ·obtain rfl:b=true:=by rw[Hb.out];exact ⟨⟨h1,h2⟩,hS⟩
    clear Hb hS
    go_enter Tryz.func124,Tryz.ntmps124
    go_wp2_with (first
     | (go_at_call 125;refine (zam _ _ _ _).mono ?_;rintro e w' ⟨rfl,rfl⟩))
    go_ret
    exact ⟨rfl,HF2.out,HM2.out⟩
def McJ (w:World) (m:Mf) (a:Act) (W:World):Prop:=zav m=false∧a.defers=[]∧a.tmps.size=107∧Ext w W
structure McI (w:World) (m:Mf) (v:Value) (k:Nat) (f:Int) (W:World):Prop where
 bm:Blk W w.heap.size 30 (mfC m v)
 mp:SSet W (w.heap.size+1) (.int .i64) (.int .i64 1) (zdu m k)
 bs:Boxed W (w.heap.size+1+1) 168 (.map (some (w.heap.size+1)))
 e:Ext w W
 ok:zbH m k=true
 f:(k=0∧f=0)∨∃ p,m.segs[k-1]?=some p∧1≤k∧f=p.first+p.count
theorem McI.ext {w:World} {m:Mf} {v:Value} {k:Nat} {f:Int} {W W':World} (h:McI w m v k f W) (hE:Ext W W'):McI w m v k f W' :=
 ⟨h.bm.ext hE,h.mp.ext hE,h.bs.kept (row:=none) (Ext.grown hE none) (by simp),Ext.trans h.e hE,h.ok,h.f⟩
theorem McI.mt {w:World} {m:Mf} {v:Value} {k:Nat} {f:Int} {W W':World} (h:McI w m v k f W) (hM:MT W W' (w.heap.size+1)) {k':Nat} {f':Int} (hS:SSet W' (w.heap.size+1) (.int .i64) (.int .i64 1) (zdu m k')) (ho:zbH m k'=true) (hf:(k'=0∧f'=0)∨∃ p,m.segs[k'-1]?=some p∧1≤k'∧f'=p.first+p.count):McI w m v k' f' W' :=
 ⟨(hM.block _ (by omega)).trans h.bm,hS,(hM.block _ (by omega)).trans h.bs,hM.ext2 h.e (by omega),ho,hf⟩
theorem zpq (m:Mf) (v:Value) (w:World) (hS:Sgs w v m.segs) :
  Calls Tryz.prog 82 #[.agg #[.int .i64 m.next,.int .i64 m.term,.int .i64 m.vote,.int .i64 m.sq,.int .i64 m.sf,v]] w fun e w'=>e=.returned (.int .i64 (if zav m then 0 else 2))∧Ext w w':=by
 obtain ⟨A,c,rfl,hc1,hc2⟩:=hS.open_;obtain ⟨R,hR⟩:∃ R:Int,(if zav m then 0 else 2)=R:=⟨_,rfl⟩;rw[hR];have HR:=zhd hR;clear hR;have hmm:=@run_makeMap Tryz.prog;have hins:=zdX (P:=Tryz.prog) (w.alloc (.cells #[.int .i64 m.next,.int .i64 m.term,.int .i64 m.vote,.int .i64 m.sq,.int .i64 m.sf,.slice A m.segs.length c] 30)) .i64 Tryz.underlying168 Tryz.underlying3 #[] 0 0 (.int .i64 1) rfl
 have hS0:SSet ((w.alloc (.cells #[.int .i64 m.next,.int .i64 m.term,.int .i64 m.vote,.int .i64 m.sq,.int .i64 m.sf,.slice A m.segs.length c] 30)).alloc (.map #[{ key:=.int .i64 0,val:=.int .i64 1,born:=0 }] 1)) (w.heap.size+1) (.int .i64) (.int .i64 1) (fun x=>x=.int .i64 0):=by
  refine ⟨_,1,by have:=heap_alloc_new (w.alloc (.cells #[.int .i64 m.next,.int .i64 m.term,.int .i64 m.vote,.int .i64 m.sq,.int .i64 m.sf,.slice A m.segs.length c] 30)) (.map #[{ key:=.int .i64 0,val:=.int .i64 1,born:=0 }] 1);rwa [World.size_alloc] at this,?_,?_,?_⟩
  ·exact stamped_push (stamped_empty 0) (by simp)
  ·intro x hx
   simp at hx
   subst hx
   exact ⟨rfl,rfl⟩
  ·intro k
   simp
   exact ⟨fun h=>h.symm,fun h=>h.symm⟩
 simp only[List.push_toArray,List.nil_append,List.cons_append,Nat.reduceAdd,World.size_alloc] at hins;have HS:=zhd hS;have HS0:=zhd hS0;clear hS hS0
 have hX0:Ext w (((w.alloc (.cells #[.int .i64 m.next,.int .i64 m.term,.int .i64 m.vote,.int .i64 m.sq,.int .i64 m.sf,.slice A m.segs.length c] 30)).alloc (.map #[{ key:=.int .i64 0,val:=.int .i64 1,born:=0 }] 1)).alloc (.cells #[.map (some (w.heap.size+1))] 168)):=Ext.alloc (Ext.alloc (Ext.alloc (Ext.refl _) _) _) _
 have hB0:=((Blk.new w 30 #[.int .i64 m.next,.int .i64 m.term,.int .i64 m.vote,.int .i64 m.sq,.int .i64 m.sf,.slice A m.segs.length c]).alloc (.map #[{ key:=.int .i64 0,val:=.int .i64 1,born:=0 }] 1)).alloc (.cells #[.map (some (w.heap.size+1))] 168);have hB2:=Boxed.new ((w.alloc (.cells #[.int .i64 m.next,.int .i64 m.term,.int .i64 m.vote,.int .i64 m.sq,.int .i64 m.sf,.slice A m.segs.length c] 30)).alloc (.map #[{ key:=.int .i64 0,val:=.int .i64 1,born:=0 }] 1)) 168 (.map (some (w.heap.size+1)));rw[World.size_alloc,World.size_alloc] at hB2;have HXE:=zhd hX0;have HB0:=zhd hB0;have HB2:=zhd hB2;have hm2:=HS0.out.ext (Ext.alloc (Ext.refl _) (.cells #[.map (some (w.heap.size+1))] 168));have HM2:=zhd hm2;obtain ⟨m0,m1,m2,m3,m4,m5⟩:=zap hB0;have c2:=hB2.cell;clear hX0 hB0 hB2 HS0 hm2
 refine (callsIn_wd (ro:=none) (n:=9)).1 ?_
 refine callsIn_of_wp Tryz.func82 rfl trivial ?_ rfl
 simp only[Tryz.ntmps82,List.size_toArray,List.length_cons,List.length_nil,Nat.reduceAdd,Nat.reduceSub,Array.replicate_succ,Array.replicate_zero,List.push_toArray,List.append_toArray,List.nil_append,List.cons_append]
 gi_wp2
 refine zbq 0 (McJ w m) (fun a _=>0) rfl (fun l' h=>by cases l' <;> first | exact absurd rfl h | rfl) ?_ ?_
 ·intro hrest
  have Hrest:=zhd hrest;clear hrest
  cases h1:inB m.next 1 1073741824 with
  | false =>
   have hbad:zav m=false:=by unfold zav zct;rw[h1];rfl
   exact mcMChka1
  | true =>
  cases h2:inB m.term 0 1073741824 with
  | false =>
   have hbad:zav m=false:=by unfold zav zct;rw[h1,h2];rfl
   exact mcMChka1
  | true =>
  cases h3:inB m.vote 0 5 with
  | false =>
   have hbad:zav m=false:=by unfold zav zct;rw[h1,h2,h3];rfl
   exact mcMChka1
  | true =>
  by_cases h4:m.segs.length≤60
  case neg =>
   have hbad:zav m=false:=by unfold zav zct;rw[h1,h2,h3];simp[h4]
   have h5:(60:Int)<(m.segs.length:Int):=by omega
   exact mcMChka1
  have h5:¬ (60:Int)<(m.segs.length:Int):=by omega
  have h6:(m.segs.length:Int)≤60:=by omega
  have hhead:zct m=true:=by unfold zct;rw[h1,h2,h3];simpa using h4
  have hn:=inB_b.1 h1;have HN:=zhd hn;have H4:=zhd h4
  have hbad1:zcK m=false→zav m=false:=fun h=>by unfold zav;rw[hhead,h];rfl
  have hbad2:zbH m m.segs.length=false→zav m=false:=fun h=>by unfold zav;rw[h];simp
  have hgood:zcK m=true→zbH m m.segs.length=true→zav m=true:=fun h h'=>by unfold zav;rw[hhead,h,h'];rfl
  have HBAD1:=zhd hbad1;have HBAD2:=zhd hbad2;have HGOOD:=zhd hgood
  have href:=fun W=>zsm m.sq m.sf 0 0 W
  clear hn h4 hbad1 hbad2 hgood hhead
  by_cases hq:m.sq=0∧m.sf=0
  ·rw[decide_eq_true (by simpa using hq)] at href
   have hI0:McI w m (.slice A m.segs.length c) 0 0 _:=⟨HB0.out,HM2.out.congr fun x=>by (unfold zdu;simp[hq.1]),HB2.out,HXE.out,rfl,.inl ⟨rfl,rfl⟩⟩
   have hsn:zcK m=true:=by unfold zcK;simp[hq]
   have HI:=zhd hI0;have HSN:=zhd hsn;have HQ:=zhd hq;clear hI0 hsn hq HXE HB0 HB2 HM2
   gi_wp2_with (first | (refine ⟨trivial,?_⟩;gi_at_call 125;refine (callsIn_wd.2 (zam _ _ _ _)).mono ?_;rintro e w' ⟨rfl,rfl⟩) | (refine ⟨trivial,?_⟩) | (with_reducible show (∀ f,(none:Option FuncId)=some f→_)∧_;refine ⟨fun _ _=>trivial,?_⟩))
   refine ⟨fun _ h=>(by cases h),?_⟩
   gi_wp2_with fail
   exact mcMChka0
  ·rw[decide_eq_false (by simpa using hq)] at href
   have hnq:∀ b,(b=true↔(zbD m.next m.sq m.sf=true∧¬ (Value.int .i64 m.sq=Value.int .i64 0)))↔(b=zbD m.next m.sq m.sf):=fun b=>by
    have:zbD m.next m.sq m.sf=true→¬ (Value.int .i64 m.sq=Value.int .i64 0):=fun h e=>by have:=(zeT h).1;injection e with _ e;omega
    cases b <;> cases hfo:zbD m.next m.sq m.sf <;> simp_all
   have hcall:=zic (zbD m.next m.sq m.sf) m.sq m.sf m.next w.heap.size (w.heap.size+1+1) (w.heap.size+1) _ _ HN.out (HB0.out.cell 0 rfl) HB2.out.cell HM2.out ((hnq _).2 rfl);have HC:=zhd hcall;clear hcall hnq
   cases hfo:zbD m.next m.sq m.sf with
   | false =>
    rw[hfo] at HC
    have hbad:zav m=false:=HBAD1.out (by unfold zcK;rw[hfo];simp[hq])
    clear hq hfo
    gi_wp2_with (first | (refine ⟨trivial,?_⟩;gi_at_call 124;refine (callsIn_wd.2 HC.out).mono ?_;rintro e w2 ⟨rfl,hs2,hm2⟩) | (first | (refine ⟨trivial,?_⟩;gi_at_call 125;refine (callsIn_wd.2 (zam _ _ _ _)).mono ?_;rintro e w' ⟨rfl,rfl⟩) | (refine ⟨trivial,?_⟩) | (with_reducible show (∀ f,(none:Option FuncId)=some f→_)∧_;refine ⟨fun _ _=>trivial,?_⟩)))
    all_goals
     refine wpIn_goto ?_
     try simp only[Exit.then,Exit.inBlock]
     refine (show Exit.jumps [0] (fun _=>McJ w m) _ (Exit.goto 0) _ _ from ?_)
     refine zah (by simp) ?_
     exact ⟨hbad,rfl,rfl,hm2.ext2 HXE.out (by omega)⟩
   | true =>
    rw[hfo] at HC
    have hsn:zcK m=true:=by unfold zcK;rw[hfo];simp
    have HSN:=zhd hsn;clear hsn hq hfo
    gi_wp2_with (first | (refine ⟨trivial,?_⟩;gi_at_call 124;refine (callsIn_wd.2 HC.out).mono ?_;rintro e w2 ⟨rfl,hs2,hm2⟩;have hbm2:Blk w2 w.heap.size 30 _:=(hm2.block _ (by omega)).trans HB0.out;obtain ⟨n0,n1,n2,n3,n4,n5⟩:=zap hbm2) | (first | (refine ⟨trivial,?_⟩;gi_at_call 125;refine (callsIn_wd.2 (zam _ _ _ _)).mono ?_;rintro e w' ⟨rfl,rfl⟩) | (refine ⟨trivial,?_⟩) | (with_reducible show (∀ f,(none:Option FuncId)=some f→_)∧_;refine ⟨fun _ _=>trivial,?_⟩)))
    have hI0:McI w m (.slice A m.segs.length c) 0 0 w2:=⟨hbm2,hs2.congr fun x=>by (unfold zdu;simp),(hm2.block _ (by omega)).trans HB2.out,hm2.ext2 HXE.out (by omega),rfl,.inl ⟨rfl,rfl⟩⟩
    have HI:=zhd hI0;clear hI0 hbm2 hs2 hm2 n0 n1 n2 n3 n4 n5 HXE HB0 HB2 HM2 HC
    exact mcMChka0
 ·rintro ⟨TT,df⟩ W ⟨hck,hd,hsz,hE⟩
  cases hd
  dsimp only at hsz
  have hR:R=2:=by rw[←HR.out,hck];rfl
  subst hR;have hT:=zdi 107 TT hsz
  generalize hU:(fun i=>TT.getD i undef)=U at hT
  have hT2:TT = #[U 0,U 1,U 2,U 3,U 4,U 5,U 6,U 7,U 8,U 9,U 10,U 11,U 12,U 13,U 14,U 15,U 16,U 17,U 18,U 19,U 20,U 21,U 22,U 23,U 24,U 25,U 26,U 27,U 28,U 29,U 30,U 31,U 32,U 33,U 34,U 35,U 36,U 37,U 38,U 39,U 40,U 41,U 42,U 43,U 44,U 45,U 46,U 47,U 48,U 49,U 50,U 51,U 52,U 53,U 54,U 55,U 56,U 57,U 58,U 59,U 60,U 61,U 62,U 63,U 64,U 65,U 66,U 67,U 68,U 69,U 70,U 71,U 72,U 73,U 74,U 75,U 76,U 77,U 78,U 79,U 80,U 81,U 82,U 83,U 84,U 85,U 86,U 87,U 88,U 89,U 90,U 91,U 92,U 93,U 94,U 95,U 96,U 97,U 98,U 99,U 100,U 101,U 102,U 103,U 104,U 105,U 106]:=hT
  clear hT hU hsz;subst hT2;clear hck
  gi_wp2
  refine zas ?_
  go_ret
  exact ⟨rfl,hE⟩
end Go.Proofs.YtgonhdeochgkoaaGreatDoor
