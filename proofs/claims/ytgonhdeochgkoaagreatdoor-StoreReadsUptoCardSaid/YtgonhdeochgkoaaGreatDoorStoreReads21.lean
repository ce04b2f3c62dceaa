/- Merged: MChk Sort DskP -/
import Derived.Test.YtgonhdeochgkoaaGreatDoorStoreReads20
import Derived.Shelf.Sort.Plain
import Derived.Shelf.Slices.In.SortNone
import Derived.Test.YtgonhdeochgkoaaGreatDoorProg
import Derived.Sort.KeysCollected
set_option linter.all false
set_option maxHeartbeats 8000000
set_option maxRecDepth 100000
namespace Go.Proofs.YtgonhdeochgkoaaGreatDoor
open Go.RowKit Go.Mv Go.Shelf Go.MapKept
theorem mcMChk0 {P:Prop} (h:P:=by
 clear m0 m1 m2 m3 m4 m5 c2 href h1 h2 h3 h5 h6
 gi_loopw [3,52] (fun v3 v52 W=>∃ (k:Nat) (f:Int),v3=.int .i64 f∧v52=.int .i64 k∧k≤m.segs.length∧Hid (McI w m (.slice A m.segs.length c) k f W)) (fun _ v52 _=>m.segs.length+1-(intOf v52).toNat)
 case atStart=>exact ⟨0,0,rfl,rfl,Nat.zero_le _,HI⟩
 case round =>
  clear HI
  obtain ⟨k,f,rfl,rfl,hkl,HI⟩:=hrel
  by_cases hlt:k<m.segs.length
  ·have hso:=zkD hlt
   obtain ⟨_,bo,of,rfl,hcells⟩:=Sgs.at_ (Sgs.ext HS.out HI.out.e) (by omega)
   obtain ⟨d0,d1,d2,d3⟩:=hcells k hlt
   have hbadk:zbi m k m.segs[k]=false→zaD m=false:=fun h=>HBAD2.out (zfd hlt h _ hlt)
   have hnxt:zbi m k m.segs[k]=true→zbp m (k+1)=true:=fun h=>by unfold zbp;rw[HI.out.ok,List.getElem?_eq_getElem hlt];simpa using h
   have hseen:=fun u=>zkC hlt u
   have hgetk:m.segs[k]?=some m.segs[k]:=List.getElem?_eq_getElem hlt
   have HSO:=zhd hso
   have HBK:=zhd hbadk
   have HNX:=zhd hnxt
   have HSE:=zhd hseen
   have HGK:=zhd hgetk
   clear hso hbadk hnxt hseen hgetk hcells
   generalize m.segs[k]=s at *
   have hX1:Ext wr (wr.alloc (.cells #[.int .i64 s.seq,.int .i64 s.fmt,.int .i64 s.first,.int .i64 s.count] 74)):=Ext.alloc (Ext.refl _) _
   have hI1:=HI.out.ext hX1
   have hbx:=Blk.new wr 74 #[.int .i64 s.seq,.int .i64 s.fmt,.int .i64 s.first,.int .i64 s.count]
   obtain ⟨b,hb⟩:∃ b:Bool,(b=true↔(zbn m.next s.seq s.fmt=true∧¬ zda m k (.int .i64 s.seq))):=by classical exact ⟨decide (zbn m.next s.seq s.fmt=true∧¬ zda m k (.int .i64 s.seq)),decide_eq_true_iff⟩
   have hcall:=zhm b s.seq s.fmt m.next w.heap.size (w.heap.size+1+1) (w.heap.size+1) _ _ HN.out (hI1.bm.cell 0 rfl) hI1.bs.cell hI1.mp hb
   have HC:=zhd hcall
   have hbz:w.heap.size+1+1<wr.heap.size:=HI.out.bs.lt
   have HI1:=zhd hI1
   have HBX:=zhd hbx
   have HB:=zhd hb
   have HF:=zhd HI.out.f
   have hklz:(k:Int)<(m.segs.length:Int):=by omega
   have hwl:wrap64 ((m.segs.length:Int)-1)=(m.segs.length:Int)-1:=by have:=H4.out;unfold wrap64;omega
   obtain ⟨m0,m1,m2,m3,m4,m5⟩:=zao hI1.bm
   obtain ⟨x0,x1,x2,x3⟩:=zat hbx
   have hokz:zbi m k s=false∨zbi m k s=true:=by cases zbi m k s <;> simp
   clear hcall hI1 hbx hb hX1
   by_cases hcm:s.count = -1
   ·have e1:(s.count == -1)=true:=by simpa using hcm
    have HCM:=zhd hcm
    clear hcm
    by_cases hla:k+1=m.segs.length
    ·have e2:((k:Int)==(m.segs.length:Int)-1)=true:=by simp;omega
     have hcnt:((s.count = -1∧k+1=m.segs.length)∨(1≤s.count∧s.count≤4)):=.inl ⟨HCM.out,hla⟩
     have HCNT:=zhd hcnt
     clear hcnt hla
     cases b with
     | false =>
      have hbad:=HBK.out (by rw[Bool.eq_false_iff,Ne,HSO.out];exact fun h=>absurd (HB.out.2 h.1) (by simp))
      gi_wp2_with (first | (refine ⟨trivial,?_⟩;gi_at_call 124;refine (callsIn_wd.2 HC.out).mono ?_;rintro e w2 ⟨rfl,hs2,hm2⟩;have hbm2:Blk w2 w.heap.size 30 _:=(hm2.block _ (by omega)).trans HI1.out.bm;have hbx2:Blk w2 wr.heap.size 74 _:=(hm2.block _ (by omega)).trans HBX.out;obtain ⟨n0,n1,n2,n3,n4,n5⟩:=zao hbm2;obtain ⟨y0,y1,y2,y3⟩:=zat hbx2) | (refine ⟨trivial,?_⟩;gi_at_call 125;refine (callsIn_wd.2 (zaj _ _ _ _)).mono ?_;rintro e w' ⟨rfl,rfl⟩) | (refine ⟨trivial,?_⟩) | (with_reducible show (∀ f,(none:Option FuncId)=some f→_)∧_;refine ⟨fun _ _=>trivial,?_⟩))
      all_goals
       refine wpIn_goto ?_
       try simp only[Exit.then,Exit.inBlock]
       refine (show Exit.jumps [0] (fun _=>McJ w m) _ (Exit.goto 0) _ _ from ?_)
       refine zaf (by simp) ?_
       exact ⟨hbad,rfl,rfl,hm2.ext2 HI1.out.e (by omega)⟩
     | true =>
      have HBT:=zhd (HB.out.1 rfl)
      cases hc2:inB s.first 1 1073741820 with
      | false =>
       have hbad:=HBK.out (by rw[Bool.eq_false_iff,Ne,HSO.out];exact fun h=>absurd (inB_b.2 h.2.1) (by rw[hc2];simp))
       gi_wp2_with (first | (refine ⟨trivial,?_⟩;gi_at_call 124;refine (callsIn_wd.2 HC.out).mono ?_;rintro e w2 ⟨rfl,hs2,hm2⟩;have hbm2:Blk w2 w.heap.size 30 _:=(hm2.block _ (by omega)).trans HI1.out.bm;have hbx2:Blk w2 wr.heap.size 74 _:=(hm2.block _ (by omega)).trans HBX.out;obtain ⟨n0,n1,n2,n3,n4,n5⟩:=zao hbm2;obtain ⟨y0,y1,y2,y3⟩:=zat hbx2) | (refine ⟨trivial,?_⟩;gi_at_call 125;refine (callsIn_wd.2 (zaj _ _ _ _)).mono ?_;rintro e w' ⟨rfl,rfl⟩) | (refine ⟨trivial,?_⟩) | (with_reducible show (∀ f,(none:Option FuncId)=some f→_)∧_;refine ⟨fun _ _=>trivial,?_⟩))
       all_goals
        refine wpIn_goto ?_
        try simp only[Exit.then,Exit.inBlock]
        refine (show Exit.jumps [0] (fun _=>McJ w m) _ (Exit.goto 0) _ _ from ?_)
        refine zaf (by simp) ?_
        exact ⟨hbad,rfl,rfl,hm2.ext2 HI1.out.e (by omega)⟩
      | true =>
       have HC2:=zhd (inB_b.1 hc2)
       have hwf:wrap64 (s.first+s.count)=s.first+s.count:=by have h1:=HC2.out;have h2:=HCNT.out;unfold wrap64;omega
       by_cases hk0:k=0
       ·have q1:¬ (0:Int)<(k:Int):=by omega
        have HNX2:=zhd (HNX.out (HSO.out.2 ⟨HBT.out,HC2.out,HCNT.out,.inl hk0⟩))
        clear hk0 hokz
        gi_wp2_with (first | (refine ⟨trivial,?_⟩;gi_at_call 124;refine (callsIn_wd.2 HC.out).mono ?_;rintro e w2 ⟨rfl,hs2,hm2⟩;have hbm2:Blk w2 w.heap.size 30 _:=(hm2.block _ (by omega)).trans HI1.out.bm;have hbx2:Blk w2 wr.heap.size 74 _:=(hm2.block _ (by omega)).trans HBX.out;obtain ⟨n0,n1,n2,n3,n4,n5⟩:=zao hbm2;obtain ⟨y0,y1,y2,y3⟩:=zat hbx2) | (refine ⟨trivial,?_⟩;gi_at_call 125;refine (callsIn_wd.2 (zaj _ _ _ _)).mono ?_;rintro e w' ⟨rfl,rfl⟩) | (refine ⟨trivial,?_⟩) | (with_reducible show (∀ f,(none:Option FuncId)=some f→_)∧_;refine ⟨fun _ _=>trivial,?_⟩))
        exact ⟨⟨k+1,s.first+s.count,by rw[hwf],by go_num,by omega,zhd (HI1.out.mt hm2 (hs2.congr fun u=>HSE.out u) HNX2.out (.inr ⟨s,by rw[Nat.add_sub_cancel];exact HGK.out,by omega,rfl⟩))⟩,by simp[intOf];omega⟩
       ·have q1:(0:Int)<(k:Int):=by omega
        obtain ⟨p,hp1,hp2,hp3⟩:=HF.out.resolve_left (fun h=>hk0 h.1)
        by_cases hff:s.first=f
        ·have q2:(s.first != f)=false:=by simpa using hff
         have HNX2:=zhd (HNX.out (HSO.out.2 ⟨HBT.out,HC2.out,HCNT.out,.inr ⟨p,hp1,hff.trans hp3⟩⟩))
         clear hk0 hff hp1 hp2 hp3 hokz
         gi_wp2_with (first | (refine ⟨trivial,?_⟩;gi_at_call 124;refine (callsIn_wd.2 HC.out).mono ?_;rintro e w2 ⟨rfl,hs2,hm2⟩;have hbm2:Blk w2 w.heap.size 30 _:=(hm2.block _ (by omega)).trans HI1.out.bm;have hbx2:Blk w2 wr.heap.size 74 _:=(hm2.block _ (by omega)).trans HBX.out;obtain ⟨n0,n1,n2,n3,n4,n5⟩:=zao hbm2;obtain ⟨y0,y1,y2,y3⟩:=zat hbx2) | (refine ⟨trivial,?_⟩;gi_at_call 125;refine (callsIn_wd.2 (zaj _ _ _ _)).mono ?_;rintro e w' ⟨rfl,rfl⟩) | (refine ⟨trivial,?_⟩) | (with_reducible show (∀ f,(none:Option FuncId)=some f→_)∧_;refine ⟨fun _ _=>trivial,?_⟩))
         exact ⟨⟨k+1,s.first+s.count,by rw[hwf],by go_num,by omega,zhd (HI1.out.mt hm2 (hs2.congr fun u=>HSE.out u) HNX2.out (.inr ⟨s,by rw[Nat.add_sub_cancel];exact HGK.out,by omega,rfl⟩))⟩,by simp[intOf];omega⟩
        ·have q2:(s.first != f)=true:=by simpa using hff
         have hbad:=HBK.out (by rw[Bool.eq_false_iff,Ne,HSO.out];exact fun h=>by (rcases h.2.2.2 with h' | ⟨p',h1',h2'⟩;exact hk0 h';rw[hp1] at h1';cases h1';exact hff (h2'.trans hp3.symm)))
         clear hk0 hff hp1 hp2 hp3 hokz
         gi_wp2_with (first | (refine ⟨trivial,?_⟩;gi_at_call 124;refine (callsIn_wd.2 HC.out).mono ?_;rintro e w2 ⟨rfl,hs2,hm2⟩;have hbm2:Blk w2 w.heap.size 30 _:=(hm2.block _ (by omega)).trans HI1.out.bm;have hbx2:Blk w2 wr.heap.size 74 _:=(hm2.block _ (by omega)).trans HBX.out;obtain ⟨n0,n1,n2,n3,n4,n5⟩:=zao hbm2;obtain ⟨y0,y1,y2,y3⟩:=zat hbx2) | (refine ⟨trivial,?_⟩;gi_at_call 125;refine (callsIn_wd.2 (zaj _ _ _ _)).mono ?_;rintro e w' ⟨rfl,rfl⟩) | (refine ⟨trivial,?_⟩) | (with_reducible show (∀ f,(none:Option FuncId)=some f→_)∧_;refine ⟨fun _ _=>trivial,?_⟩))
         all_goals
          refine wpIn_goto ?_
          try simp only[Exit.then,Exit.inBlock]
          refine (show Exit.jumps [0] (fun _=>McJ w m) _ (Exit.goto 0) _ _ from ?_)
          refine zaf (by simp) ?_
          exact ⟨hbad,rfl,rfl,hm2.ext2 HI1.out.e (by omega)⟩
    ·have e2:((k:Int)==(m.segs.length:Int)-1)=false:=by simp;omega
     have hcnt:¬ ((s.count = -1∧k+1=m.segs.length)∨(1≤s.count∧s.count≤4)):=by have:=HCM.out;omega
     have hsf:zbi m k s=false:=by rw[Bool.eq_false_iff,Ne,HSO.out];exact fun h=>hcnt h.2.2.1
     have hbad:=HBK.out hsf
     have e3:inB s.count 1 4=false:=by rw[Bool.eq_false_iff,Ne,inB_b];have:=HCM.out;omega
     clear hcnt hla hsf
     cases b with
     | false =>
      gi_wp2_with (first | (refine ⟨trivial,?_⟩;gi_at_call 124;refine (callsIn_wd.2 HC.out).mono ?_;rintro e w2 ⟨rfl,hs2,hm2⟩;have hbm2:Blk w2 w.heap.size 30 _:=(hm2.block _ (by omega)).trans HI1.out.bm;have hbx2:Blk w2 wr.heap.size 74 _:=(hm2.block _ (by omega)).trans HBX.out;obtain ⟨n0,n1,n2,n3,n4,n5⟩:=zao hbm2;obtain ⟨y0,y1,y2,y3⟩:=zat hbx2) | (refine ⟨trivial,?_⟩;gi_at_call 125;refine (callsIn_wd.2 (zaj _ _ _ _)).mono ?_;rintro e w' ⟨rfl,rfl⟩) | (refine ⟨trivial,?_⟩) | (with_reducible show (∀ f,(none:Option FuncId)=some f→_)∧_;refine ⟨fun _ _=>trivial,?_⟩))
      all_goals
       refine wpIn_goto ?_
       try simp only[Exit.then,Exit.inBlock]
       refine (show Exit.jumps [0] (fun _=>McJ w m) _ (Exit.goto 0) _ _ from ?_)
       refine zaf (by simp) ?_
       exact ⟨hbad,rfl,rfl,hm2.ext2 HI1.out.e (by omega)⟩
     | true =>
      cases hc2:inB s.first 1 1073741820 with
      | false =>
       gi_wp2_with (first | (refine ⟨trivial,?_⟩;gi_at_call 124;refine (callsIn_wd.2 HC.out).mono ?_;rintro e w2 ⟨rfl,hs2,hm2⟩;have hbm2:Blk w2 w.heap.size 30 _:=(hm2.block _ (by omega)).trans HI1.out.bm;have hbx2:Blk w2 wr.heap.size 74 _:=(hm2.block _ (by omega)).trans HBX.out;obtain ⟨n0,n1,n2,n3,n4,n5⟩:=zao hbm2;obtain ⟨y0,y1,y2,y3⟩:=zat hbx2) | (refine ⟨trivial,?_⟩;gi_at_call 125;refine (callsIn_wd.2 (zaj _ _ _ _)).mono ?_;rintro e w' ⟨rfl,rfl⟩) | (refine ⟨trivial,?_⟩) | (with_reducible show (∀ f,(none:Option FuncId)=some f→_)∧_;refine ⟨fun _ _=>trivial,?_⟩))
       all_goals
        refine wpIn_goto ?_
        try simp only[Exit.then,Exit.inBlock]
        refine (show Exit.jumps [0] (fun _=>McJ w m) _ (Exit.goto 0) _ _ from ?_)
        refine zaf (by simp) ?_
        exact ⟨hbad,rfl,rfl,hm2.ext2 HI1.out.e (by omega)⟩
      | true =>
       gi_wp2_with (first | (refine ⟨trivial,?_⟩;gi_at_call 124;refine (callsIn_wd.2 HC.out).mono ?_;rintro e w2 ⟨rfl,hs2,hm2⟩;have hbm2:Blk w2 w.heap.size 30 _:=(hm2.block _ (by omega)).trans HI1.out.bm;have hbx2:Blk w2 wr.heap.size 74 _:=(hm2.block _ (by omega)).trans HBX.out;obtain ⟨n0,n1,n2,n3,n4,n5⟩:=zao hbm2;obtain ⟨y0,y1,y2,y3⟩:=zat hbx2) | (refine ⟨trivial,?_⟩;gi_at_call 125;refine (callsIn_wd.2 (zaj _ _ _ _)).mono ?_;rintro e w' ⟨rfl,rfl⟩) | (refine ⟨trivial,?_⟩) | (with_reducible show (∀ f,(none:Option FuncId)=some f→_)∧_;refine ⟨fun _ _=>trivial,?_⟩))
       all_goals
        refine wpIn_goto ?_
        try simp only[Exit.then,Exit.inBlock]
        refine (show Exit.jumps [0] (fun _=>McJ w m) _ (Exit.goto 0) _ _ from ?_)
        refine zaf (by simp) ?_
        exact ⟨hbad,rfl,rfl,hm2.ext2 HI1.out.e (by omega)⟩
   ·have e1:(s.count == -1)=false:=by simpa using hcm
    have HCM:=zhd hcm
    clear hcm
    cases b with
    | false =>
     have hbad:=HBK.out (by rw[Bool.eq_false_iff,Ne,HSO.out];exact fun h=>absurd (HB.out.2 h.1) (by simp))
     gi_wp2_with (first | (refine ⟨trivial,?_⟩;gi_at_call 124;refine (callsIn_wd.2 HC.out).mono ?_;rintro e w2 ⟨rfl,hs2,hm2⟩;have hbm2:Blk w2 w.heap.size 30 _:=(hm2.block _ (by omega)).trans HI1.out.bm;have hbx2:Blk w2 wr.heap.size 74 _:=(hm2.block _ (by omega)).trans HBX.out;obtain ⟨n0,n1,n2,n3,n4,n5⟩:=zao hbm2;obtain ⟨y0,y1,y2,y3⟩:=zat hbx2) | (refine ⟨trivial,?_⟩;gi_at_call 125;refine (callsIn_wd.2 (zaj _ _ _ _)).mono ?_;rintro e w' ⟨rfl,rfl⟩) | (refine ⟨trivial,?_⟩) | (with_reducible show (∀ f,(none:Option FuncId)=some f→_)∧_;refine ⟨fun _ _=>trivial,?_⟩))
     all_goals
      refine wpIn_goto ?_
      try simp only[Exit.then,Exit.inBlock]
      refine (show Exit.jumps [0] (fun _=>McJ w m) _ (Exit.goto 0) _ _ from ?_)
      refine zaf (by simp) ?_
      exact ⟨hbad,rfl,rfl,hm2.ext2 HI1.out.e (by omega)⟩
    | true =>
     have HBT:=zhd (HB.out.1 rfl)
     cases hc2:inB s.first 1 1073741820 with
     | false =>
      have hbad:=HBK.out (by rw[Bool.eq_false_iff,Ne,HSO.out];exact fun h=>absurd (inB_b.2 h.2.1) (by rw[hc2];simp))
      gi_wp2_with (first | (refine ⟨trivial,?_⟩;gi_at_call 124;refine (callsIn_wd.2 HC.out).mono ?_;rintro e w2 ⟨rfl,hs2,hm2⟩;have hbm2:Blk w2 w.heap.size 30 _:=(hm2.block _ (by omega)).trans HI1.out.bm;have hbx2:Blk w2 wr.heap.size 74 _:=(hm2.block _ (by omega)).trans HBX.out;obtain ⟨n0,n1,n2,n3,n4,n5⟩:=zao hbm2;obtain ⟨y0,y1,y2,y3⟩:=zat hbx2) | (refine ⟨trivial,?_⟩;gi_at_call 125;refine (callsIn_wd.2 (zaj _ _ _ _)).mono ?_;rintro e w' ⟨rfl,rfl⟩) | (refine ⟨trivial,?_⟩) | (with_reducible show (∀ f,(none:Option FuncId)=some f→_)∧_;refine ⟨fun _ _=>trivial,?_⟩))
      all_goals
       refine wpIn_goto ?_
       try simp only[Exit.then,Exit.inBlock]
       refine (show Exit.jumps [0] (fun _=>McJ w m) _ (Exit.goto 0) _ _ from ?_)
       refine zaf (by simp) ?_
       exact ⟨hbad,rfl,rfl,hm2.ext2 HI1.out.e (by omega)⟩
     | true =>
      have HC2:=zhd (inB_b.1 hc2)
      cases hc3:inB s.count 1 4 with
      | false =>
       have hbad:=HBK.out (by rw[Bool.eq_false_iff,Ne,HSO.out];exact fun h=>by (rcases h.2.2.1 with h' | h';exact HCM.out h'.1;rw[inB_b.2 h'] at hc3;cases hc3))
       gi_wp2_with (first | (refine ⟨trivial,?_⟩;gi_at_call 124;refine (callsIn_wd.2 HC.out).mono ?_;rintro e w2 ⟨rfl,hs2,hm2⟩;have hbm2:Blk w2 w.heap.size 30 _:=(hm2.block _ (by omega)).trans HI1.out.bm;have hbx2:Blk w2 wr.heap.size 74 _:=(hm2.block _ (by omega)).trans HBX.out;obtain ⟨n0,n1,n2,n3,n4,n5⟩:=zao hbm2;obtain ⟨y0,y1,y2,y3⟩:=zat hbx2) | (refine ⟨trivial,?_⟩;gi_at_call 125;refine (callsIn_wd.2 (zaj _ _ _ _)).mono ?_;rintro e w' ⟨rfl,rfl⟩) | (refine ⟨trivial,?_⟩) | (with_reducible show (∀ f,(none:Option FuncId)=some f→_)∧_;refine ⟨fun _ _=>trivial,?_⟩))
       all_goals
        refine wpIn_goto ?_
        try simp only[Exit.then,Exit.inBlock]
        refine (show Exit.jumps [0] (fun _=>McJ w m) _ (Exit.goto 0) _ _ from ?_)
        refine zaf (by simp) ?_
        exact ⟨hbad,rfl,rfl,hm2.ext2 HI1.out.e (by omega)⟩
      | true =>
      have HCNT:=zhd (show ((s.count = -1∧k+1=m.segs.length)∨(1≤s.count∧s.count≤4)) from .inr (inB_b.1 hc3))
      have hwf:wrap64 (s.first+s.count)=s.first+s.count:=by have h1:=HC2.out;have h2:=HCNT.out;unfold wrap64;omega
      by_cases hk0:k=0
      ·have q1:¬ (0:Int)<(k:Int):=by omega
       have HNX2:=zhd (HNX.out (HSO.out.2 ⟨HBT.out,HC2.out,HCNT.out,.inl hk0⟩))
       clear hk0 hokz
       gi_wp2_with (first | (refine ⟨trivial,?_⟩;gi_at_call 124;refine (callsIn_wd.2 HC.out).mono ?_;rintro e w2 ⟨rfl,hs2,hm2⟩;have hbm2:Blk w2 w.heap.size 30 _:=(hm2.block _ (by omega)).trans HI1.out.bm;have hbx2:Blk w2 wr.heap.size 74 _:=(hm2.block _ (by omega)).trans HBX.out;obtain ⟨n0,n1,n2,n3,n4,n5⟩:=zao hbm2;obtain ⟨y0,y1,y2,y3⟩:=zat hbx2) | (refine ⟨trivial,?_⟩;gi_at_call 125;refine (callsIn_wd.2 (zaj _ _ _ _)).mono ?_;rintro e w' ⟨rfl,rfl⟩) | (refine ⟨trivial,?_⟩) | (with_reducible show (∀ f,(none:Option FuncId)=some f→_)∧_;refine ⟨fun _ _=>trivial,?_⟩))
       exact ⟨⟨k+1,s.first+s.count,by rw[hwf],by go_num,by omega,zhd (HI1.out.mt hm2 (hs2.congr fun u=>HSE.out u) HNX2.out (.inr ⟨s,by rw[Nat.add_sub_cancel];exact HGK.out,by omega,rfl⟩))⟩,by simp[intOf];omega⟩
      ·have q1:(0:Int)<(k:Int):=by omega
       obtain ⟨p,hp1,hp2,hp3⟩:=HF.out.resolve_left (fun h=>hk0 h.1)
       by_cases hff:s.first=f
       ·have q2:(s.first != f)=false:=by simpa using hff
        have HNX2:=zhd (HNX.out (HSO.out.2 ⟨HBT.out,HC2.out,HCNT.out,.inr ⟨p,hp1,hff.trans hp3⟩⟩))
        clear hk0 hff hp1 hp2 hp3 hokz
        gi_wp2_with (first | (refine ⟨trivial,?_⟩;gi_at_call 124;refine (callsIn_wd.2 HC.out).mono ?_;rintro e w2 ⟨rfl,hs2,hm2⟩;have hbm2:Blk w2 w.heap.size 30 _:=(hm2.block _ (by omega)).trans HI1.out.bm;have hbx2:Blk w2 wr.heap.size 74 _:=(hm2.block _ (by omega)).trans HBX.out;obtain ⟨n0,n1,n2,n3,n4,n5⟩:=zao hbm2;obtain ⟨y0,y1,y2,y3⟩:=zat hbx2) | (refine ⟨trivial,?_⟩;gi_at_call 125;refine (callsIn_wd.2 (zaj _ _ _ _)).mono ?_;rintro e w' ⟨rfl,rfl⟩) | (refine ⟨trivial,?_⟩) | (with_reducible show (∀ f,(none:Option FuncId)=some f→_)∧_;refine ⟨fun _ _=>trivial,?_⟩))
        exact ⟨⟨k+1,s.first+s.count,by rw[hwf],by go_num,by omega,zhd (HI1.out.mt hm2 (hs2.congr fun u=>HSE.out u) HNX2.out (.inr ⟨s,by rw[Nat.add_sub_cancel];exact HGK.out,by omega,rfl⟩))⟩,by simp[intOf];omega⟩
       ·have q2:(s.first != f)=true:=by simpa using hff
        have hbad:=HBK.out (by rw[Bool.eq_false_iff,Ne,HSO.out];exact fun h=>by (rcases h.2.2.2 with h' | ⟨p',h1',h2'⟩;exact hk0 h';rw[hp1] at h1';cases h1';exact hff (h2'.trans hp3.symm)))
        clear hk0 hff hp1 hp2 hp3 hokz
        gi_wp2_with (first | (refine ⟨trivial,?_⟩;gi_at_call 124;refine (callsIn_wd.2 HC.out).mono ?_;rintro e w2 ⟨rfl,hs2,hm2⟩;have hbm2:Blk w2 w.heap.size 30 _:=(hm2.block _ (by omega)).trans HI1.out.bm;have hbx2:Blk w2 wr.heap.size 74 _:=(hm2.block _ (by omega)).trans HBX.out;obtain ⟨n0,n1,n2,n3,n4,n5⟩:=zao hbm2;obtain ⟨y0,y1,y2,y3⟩:=zat hbx2) | (refine ⟨trivial,?_⟩;gi_at_call 125;refine (callsIn_wd.2 (zaj _ _ _ _)).mono ?_;rintro e w' ⟨rfl,rfl⟩) | (refine ⟨trivial,?_⟩) | (with_reducible show (∀ f,(none:Option FuncId)=some f→_)∧_;refine ⟨fun _ _=>trivial,?_⟩))
        all_goals
         refine wpIn_goto ?_
         try simp only[Exit.then,Exit.inBlock]
         refine (show Exit.jumps [0] (fun _=>McJ w m) _ (Exit.goto 0) _ _ from ?_)
         refine zaf (by simp) ?_
         exact ⟨hbad,rfl,rfl,hm2.ext2 HI1.out.e (by omega)⟩
  ·obtain rfl:k=m.segs.length:=by omega
   have hck:zaD m=true:=HGOOD.out HSN.out HI.out.ok
   have hR:R=0:=by rw[←HR.out,hck];rfl
   subst hR
   gi_wp2
   refine zap ?_
   go_ret
   exact ⟨rfl,HI.out.e⟩):P:=h
theorem mcMChk1 {P:Prop} (h:P:=by
 gi_wp2_with (first | (refine ⟨trivial,?_⟩;gi_at_call 125;refine (callsIn_wd.2 (zaj _ _ _ _)).mono ?_;rintro e w' ⟨rfl,rfl⟩) | (refine ⟨trivial,?_⟩) | (with_reducible show (∀ f,(none:Option FuncId)=some f→_)∧_;refine ⟨fun _ _=>trivial,?_⟩))
 all_goals
  refine wpIn_goto ?_
  try simp only[Exit.then,Exit.inBlock]
  refine (show Exit.jumps [0] (fun _=>McJ w m) _ (Exit.goto 0) _ _ from ?_)
  refine zaf (by simp) ?_
  exact ⟨hbad,rfl,rfl,HXE.out⟩):P:=h
theorem zaj (n lo hi:Int) (w:World):Calls Tryz.prog 125 #[.int .i64 n,.int .i64 lo,.int .i64 hi] w fun e w'=>e=.returned (.bool (inB n lo hi))∧w=w':=by
 by_cases h1:lo≤n <;> by_cases h2:n≤hi <;>
  (have hb:inB n lo hi=(decide (lo≤n)&&decide (n≤hi)):=by (unfold inB;rw[Bool.eq_iff_iff];simp)
   have HB:=zhd hb
   clear hb
   go_enter Tryz.func125,Tryz.ntmps125
   go_wp2
   go_ret
   refine ⟨?_,rfl⟩
   rw[HB.out]
   simp[h1,h2])
theorem zsn (w:World):(zeroValue 3).run Tryz.prog w=.ok (.int .i64 0) w:=by kernel_rfl
theorem zpP {next seq fmt:Int}:zbn next seq fmt=true↔inB seq 1 (next-1)=true∧inB fmt 1 2=true:=by
 unfold zbn inB
 simp only[decide_eq_true_eq]
 omega
theorem zhm (b:Bool) (seq fmt next:Int) (bm bs r:Nat) (S:Value→Prop) (w:World) (hn:1≤next∧next≤1073741824) (hc:w.cell? ⟨bm,0,none⟩=some (.int .i64 next)) (hs:w.cell? ⟨bs,0,none⟩=some (.map (some r)))
  (hF:SSet w r (.int .i64) (.int .i64 1) S) (hb:b=true↔(zbn next seq fmt=true∧¬ S (.int .i64 seq))) :
  Calls Tryz.prog 124 #[.int .i64 seq,.int .i64 fmt,.pointer (some ⟨bm,0,none⟩),.pointer (some ⟨bs,0,none⟩)] w fun e w'=>e=.returned (.bool b)∧SSet w' r (.int .i64) (.int .i64 1) (fun x=>S x∨x=.int .i64 seq)∧MT w w' r:=by
 have hw:wrap64 (next-1)=next-1:=by unfold wrap64;omega
 obtain ⟨w2,hu,hF2,hM2⟩:=hF.update (P:=Tryz.prog) (T:=168) (K:=3) (E:=3) (k:=.int .i64 seq) Tryz.underlying168 Tryz.underlying3 rfl
 have hl:=hF.lookup (P:=Tryz.prog) (T:=168) (K:=3) (E:=3) (k:=.int .i64 seq) Tryz.underlying168 Tryz.underlying3 rfl (zsn w)
 have HF2:=zhd hF2
 have HM2:=zhd hM2
 rw[zpP] at hb
 have Hb:=zhd hb
 clear hF hF2 hM2 hb
 cases h1:inB seq 1 (next-1) with
 | false =>
  obtain rfl:b=false:=by rw[Bool.eq_false_iff,Ne,Hb.out];simp[h1]
  clear hl Hb
  go_enter Tryz.func124,Tryz.ntmps124
  go_wp2_with (first
   | (go_at_call 125;refine (zaj _ _ _ _).mono ?_;rintro e w' ⟨rfl,rfl⟩))
  go_ret
  exact ⟨rfl,HF2.out,HM2.out⟩
 | true =>
  cases h2:inB fmt 1 2 with
  | false =>
   obtain rfl:b=false:=by rw[Bool.eq_false_iff,Ne,Hb.out];simp[h2]
   clear hl Hb
   go_enter Tryz.func124,Tryz.ntmps124
   go_wp2_with (first
    | (go_at_call 125;refine (zaj _ _ _ _).mono ?_;rintro e w' ⟨rfl,rfl⟩))
   go_ret
   exact ⟨rfl,HF2.out,HM2.out⟩
  | true =>
   rcases hl with ⟨hS,hl⟩ | ⟨hS,hl⟩
   ·obtain rfl:b=false:=by rw[Bool.eq_false_iff,Ne,Hb.out];simp[hS]
    clear Hb hS
    go_enter Tryz.func124,Tryz.ntmps124
    go_wp2_with (first
     | (go_at_call 125;refine (zaj _ _ _ _).mono ?_;rintro e w' ⟨rfl,rfl⟩))
    go_ret
    exact ⟨rfl,HF2.out,HM2.out⟩
   ·obtain rfl:b=true:=by rw[Hb.out];exact ⟨⟨h1,h2⟩,hS⟩
    clear Hb hS
    go_enter Tryz.func124,Tryz.ntmps124
    go_wp2_with (first
     | (go_at_call 125;refine (zaj _ _ _ _).mono ?_;rintro e w' ⟨rfl,rfl⟩))
    go_ret
    exact ⟨rfl,HF2.out,HM2.out⟩
def McJ (w:World) (m:Mf) (a:Act) (W:World):Prop:=zaD m=false∧a.defers=[]∧a.tmps.size=107∧Ext w W
structure McI (w:World) (m:Mf) (v:Value) (k:Nat) (f:Int) (W:World):Prop where
 bm:Blk W w.heap.size 30 (mfC m v)
 mp:SSet W (w.heap.size+1) (.int .i64) (.int .i64 1) (zda m k)
 bs:Boxed W (w.heap.size+1+1) 168 (.map (some (w.heap.size+1)))
 e:Ext w W
 ok:zbp m k=true
 f:(k=0∧f=0)∨∃ p,m.segs[k-1]?=some p∧1≤k∧f=p.first+p.count
theorem McI.ext {w:World} {m:Mf} {v:Value} {k:Nat} {f:Int} {W W':World} (h:McI w m v k f W) (hE:Ext W W'):McI w m v k f W' :=
 ⟨h.bm.ext hE,h.mp.ext hE,h.bs.kept (row:=none) (Ext.grown hE none) (by simp),Ext.trans h.e hE,h.ok,h.f⟩
theorem McI.mt {w:World} {m:Mf} {v:Value} {k:Nat} {f:Int} {W W':World} (h:McI w m v k f W) (hM:MT W W' (w.heap.size+1)) {k':Nat} {f':Int} (hS:SSet W' (w.heap.size+1) (.int .i64) (.int .i64 1) (zda m k')) (ho:zbp m k'=true) (hf:(k'=0∧f'=0)∨∃ p,m.segs[k'-1]?=some p∧1≤k'∧f'=p.first+p.count):McI w m v k' f' W' :=
 ⟨(hM.block _ (by omega)).trans h.bm,hS,(hM.block _ (by omega)).trans h.bs,hM.ext2 h.e (by omega),ho,hf⟩
theorem znP (m:Mf) (v:Value) (w:World) (hS:Sgs w v m.segs) :
  Calls Tryz.prog 82 #[.agg #[.int .i64 m.next,.int .i64 m.term,.int .i64 m.vote,.int .i64 m.sq,.int .i64 m.sf,v]] w fun e w'=>e=.returned (.int .i64 (if zaD m then 0 else 2))∧Ext w w':=by
 obtain ⟨A,c,rfl,hc1,hc2⟩:=hS.open_
 obtain ⟨R,hR⟩:∃ R:Int,(if zaD m then 0 else 2)=R:=⟨_,rfl⟩
 rw[hR]
 have HR:=zhd hR
 clear hR
 have hmm:=@run_makeMap Tryz.prog
 have hins:=zdD (P:=Tryz.prog) (w.alloc (.cells #[.int .i64 m.next,.int .i64 m.term,.int .i64 m.vote,.int .i64 m.sq,.int .i64 m.sf,.slice A m.segs.length c] 30)) .i64 Tryz.underlying168 Tryz.underlying3 #[] 0 0 (.int .i64 1) rfl
 have hS0:SSet ((w.alloc (.cells #[.int .i64 m.next,.int .i64 m.term,.int .i64 m.vote,.int .i64 m.sq,.int .i64 m.sf,.slice A m.segs.length c] 30)).alloc (.map #[{ key:=.int .i64 0,val:=.int .i64 1,born:=0 }] 1)) (w.heap.size+1) (.int .i64) (.int .i64 1) (fun x=>x=.int .i64 0):=by
  refine ⟨_,1,by have:=heap_alloc_new (w.alloc (.cells #[.int .i64 m.next,.int .i64 m.term,.int .i64 m.vote,.int .i64 m.sq,.int .i64 m.sf,.slice A m.segs.length c] 30)) (.map #[{ key:=.int .i64 0,val:=.int .i64 1,born:=0 }] 1);rwa [World.size_alloc] at this,?_,?_,?_⟩
  ·exact stamped_push (stamped_empty 0) (by simp)
  ·intro x hx
   simp at hx
   subst hx
   exact ⟨rfl,rfl⟩
  ·intro k
   simp
   exact ⟨fun h=>h.symm,fun h=>h.symm⟩
 simp only[List.push_toArray,List.nil_append,List.cons_append,Nat.reduceAdd,World.size_alloc] at hins
 have HS:=zhd hS
 have HS0:=zhd hS0
 clear hS hS0
 have hX0:Ext w (((w.alloc (.cells #[.int .i64 m.next,.int .i64 m.term,.int .i64 m.vote,.int .i64 m.sq,.int .i64 m.sf,.slice A m.segs.length c] 30)).alloc (.map #[{ key:=.int .i64 0,val:=.int .i64 1,born:=0 }] 1)).alloc (.cells #[.map (some (w.heap.size+1))] 168)):=Ext.alloc (Ext.alloc (Ext.alloc (Ext.refl _) _) _) _
 have hB0:=((Blk.new w 30 #[.int .i64 m.next,.int .i64 m.term,.int .i64 m.vote,.int .i64 m.sq,.int .i64 m.sf,.slice A m.segs.length c]).alloc (.map #[{ key:=.int .i64 0,val:=.int .i64 1,born:=0 }] 1)).alloc (.cells #[.map (some (w.heap.size+1))] 168)
 have hB2:=Boxed.new ((w.alloc (.cells #[.int .i64 m.next,.int .i64 m.term,.int .i64 m.vote,.int .i64 m.sq,.int .i64 m.sf,.slice A m.segs.length c] 30)).alloc (.map #[{ key:=.int .i64 0,val:=.int .i64 1,born:=0 }] 1)) 168 (.map (some (w.heap.size+1)))
 rw[World.size_alloc,World.size_alloc] at hB2
 have HXE:=zhd hX0
 have HB0:=zhd hB0
 have HB2:=zhd hB2
 have hm2:=HS0.out.ext (Ext.alloc (Ext.refl _) (.cells #[.map (some (w.heap.size+1))] 168))
 have HM2:=zhd hm2
 obtain ⟨m0,m1,m2,m3,m4,m5⟩:=zao hB0
 have c2:=hB2.cell
 clear hX0 hB0 hB2 HS0 hm2
 refine (callsIn_wd (ro:=none) (n:=9)).1 ?_
 refine callsIn_of_wp Tryz.func82 rfl trivial ?_ rfl
 simp only[Tryz.ntmps82,List.size_toArray,List.length_cons,List.length_nil,Nat.reduceAdd,Nat.reduceSub,Array.replicate_succ,Array.replicate_zero,List.push_toArray,List.append_toArray,List.nil_append,List.cons_append]
 gi_wp2
 refine za9 0 (McJ w m) (fun a _=>0) rfl (fun l' h=>by cases l' <;> first | exact absurd rfl h | rfl) ?_ ?_
 ·intro hrest
  have Hrest:=zhd hrest
  clear hrest
  cases h1:inB m.next 1 1073741824 with
  | false =>
   have hbad:zaD m=false:=by unfold zaD zch;rw[h1];rfl
   exact mcMChk1
  | true =>
  cases h2:inB m.term 0 1073741824 with
  | false =>
   have hbad:zaD m=false:=by unfold zaD zch;rw[h1,h2];rfl
   exact mcMChk1
  | true =>
  cases h3:inB m.vote 0 5 with
  | false =>
   have hbad:zaD m=false:=by unfold zaD zch;rw[h1,h2,h3];rfl
   exact mcMChk1
  | true =>
  by_cases h4:m.segs.length≤60
  case neg =>
   have hbad:zaD m=false:=by unfold zaD zch;rw[h1,h2,h3];simp[h4]
   have h5:(60:Int)<(m.segs.length:Int):=by omega
   exact mcMChk1
  have h5:¬ (60:Int)<(m.segs.length:Int):=by omega
  have h6:(m.segs.length:Int)≤60:=by omega
  have hhead:zch m=true:=by unfold zch;rw[h1,h2,h3];simpa using h4
  have hn:=inB_b.1 h1
  have HN:=zhd hn
  have H4:=zhd h4
  have hbad1:zcm m=false→zaD m=false:=fun h=>by unfold zaD;rw[hhead,h];rfl
  have hbad2:zbp m m.segs.length=false→zaD m=false:=fun h=>by unfold zaD;rw[h];simp
  have hgood:zcm m=true→zbp m m.segs.length=true→zaD m=true:=fun h h'=>by unfold zaD;rw[hhead,h,h'];rfl
  have HBAD1:=zhd hbad1
  have HBAD2:=zhd hbad2
  have HGOOD:=zhd hgood
  have href:=fun W=>zqx m.sq m.sf 0 0 W
  clear hn h4 hbad1 hbad2 hgood hhead
  by_cases hq:m.sq=0∧m.sf=0
  ·rw[decide_eq_true (by simpa using hq)] at href
   have hI0:McI w m (.slice A m.segs.length c) 0 0 _:=⟨HB0.out,HM2.out.congr fun x=>by (unfold zda;simp[hq.1]),HB2.out,HXE.out,rfl,.inl ⟨rfl,rfl⟩⟩
   have hsn:zcm m=true:=by unfold zcm;simp[hq]
   have HI:=zhd hI0
   have HSN:=zhd hsn
   have HQ:=zhd hq
   clear hI0 hsn hq HXE HB0 HB2 HM2
   gi_wp2_with (first | (refine ⟨trivial,?_⟩;gi_at_call 125;refine (callsIn_wd.2 (zaj _ _ _ _)).mono ?_;rintro e w' ⟨rfl,rfl⟩) | (refine ⟨trivial,?_⟩) | (with_reducible show (∀ f,(none:Option FuncId)=some f→_)∧_;refine ⟨fun _ _=>trivial,?_⟩))
   refine ⟨fun _ h=>(by cases h),?_⟩
   gi_wp2_with fail
   exact mcMChk0
  ·rw[decide_eq_false (by simpa using hq)] at href
   have hnq:∀ b,(b=true↔(zbn m.next m.sq m.sf=true∧¬ (Value.int .i64 m.sq=Value.int .i64 0)))↔(b=zbn m.next m.sq m.sf):=fun b=>by
    have:zbn m.next m.sq m.sf=true→¬ (Value.int .i64 m.sq=Value.int .i64 0):=fun h e=>by have:=(zeo h).1;injection e with _ e;omega
    cases b <;> cases hfo:zbn m.next m.sq m.sf <;> simp_all
   have hcall:=zhm (zbn m.next m.sq m.sf) m.sq m.sf m.next w.heap.size (w.heap.size+1+1) (w.heap.size+1) _ _ HN.out (HB0.out.cell 0 rfl) HB2.out.cell HM2.out ((hnq _).2 rfl)
   have HC:=zhd hcall
   clear hcall hnq
   cases hfo:zbn m.next m.sq m.sf with
   | false =>
    rw[hfo] at HC
    have hbad:zaD m=false:=HBAD1.out (by unfold zcm;rw[hfo];simp[hq])
    clear hq hfo
    gi_wp2_with (first | (refine ⟨trivial,?_⟩;gi_at_call 124;refine (callsIn_wd.2 HC.out).mono ?_;rintro e w2 ⟨rfl,hs2,hm2⟩) | (first | (refine ⟨trivial,?_⟩;gi_at_call 125;refine (callsIn_wd.2 (zaj _ _ _ _)).mono ?_;rintro e w' ⟨rfl,rfl⟩) | (refine ⟨trivial,?_⟩) | (with_reducible show (∀ f,(none:Option FuncId)=some f→_)∧_;refine ⟨fun _ _=>trivial,?_⟩)))
    all_goals
     refine wpIn_goto ?_
     try simp only[Exit.then,Exit.inBlock]
     refine (show Exit.jumps [0] (fun _=>McJ w m) _ (Exit.goto 0) _ _ from ?_)
     refine zaf (by simp) ?_
     exact ⟨hbad,rfl,rfl,hm2.ext2 HXE.out (by omega)⟩
   | true =>
    rw[hfo] at HC
    have hsn:zcm m=true:=by unfold zcm;rw[hfo];simp
    have HSN:=zhd hsn
    clear hsn hq hfo
    gi_wp2_with (first | (refine ⟨trivial,?_⟩;gi_at_call 124;refine (callsIn_wd.2 HC.out).mono ?_;rintro e w2 ⟨rfl,hs2,hm2⟩;have hbm2:Blk w2 w.heap.size 30 _:=(hm2.block _ (by omega)).trans HB0.out;obtain ⟨n0,n1,n2,n3,n4,n5⟩:=zao hbm2) | (first | (refine ⟨trivial,?_⟩;gi_at_call 125;refine (callsIn_wd.2 (zaj _ _ _ _)).mono ?_;rintro e w' ⟨rfl,rfl⟩) | (refine ⟨trivial,?_⟩) | (with_reducible show (∀ f,(none:Option FuncId)=some f→_)∧_;refine ⟨fun _ _=>trivial,?_⟩)))
    have hI0:McI w m (.slice A m.segs.length c) 0 0 w2:=⟨hbm2,hs2.congr fun x=>by (unfold zda;simp),(hm2.block _ (by omega)).trans HB2.out,hm2.ext2 HXE.out (by omega),rfl,.inl ⟨rfl,rfl⟩⟩
    have HI:=zhd hI0
    clear hI0 hbm2 hs2 hm2 n0 n1 n2 n3 n4 n5 HXE HB0 HB2 HM2 HC
    exact mcMChk0
 ·rintro ⟨TT,df⟩ W ⟨hck,hd,hsz,hE⟩
  cases hd
  dsimp only at hsz
  have hR:R=2:=by rw[←HR.out,hck];rfl
  subst hR
  have hT:=zcX 107 TT hsz
  generalize hU:(fun i=>TT.getD i undef)=U at hT
  have hT2:TT = #[U 0,U 1,U 2,U 3,U 4,U 5,U 6,U 7,U 8,U 9,U 10,U 11,U 12,U 13,U 14,U 15,U 16,U 17,U 18,U 19,U 20,U 21,U 22,U 23,U 24,U 25,U 26,U 27,U 28,U 29,U 30,U 31,U 32,U 33,U 34,U 35,U 36,U 37,U 38,U 39,U 40,U 41,U 42,U 43,U 44,U 45,U 46,U 47,U 48,U 49,U 50,U 51,U 52,U 53,U 54,U 55,U 56,U 57,U 58,U 59,U 60,U 61,U 62,U 63,U 64,U 65,U 66,U 67,U 68,U 69,U 70,U 71,U 72,U 73,U 74,U 75,U 76,U 77,U 78,U 79,U 80,U 81,U 82,U 83,U 84,U 85,U 86,U 87,U 88,U 89,U 90,U 91,U 92,U 93,U 94,U 95,U 96,U 97,U 98,U 99,U 100,U 101,U 102,U 103,U 104,U 105,U 106]:=hT
  clear hT hU hsz
  subst hT2
  clear hck
  gi_wp2
  refine zap ?_
  go_ret
  exact ⟨rfl,hE⟩
end Go.Proofs.YtgonhdeochgkoaaGreatDoor

namespace Go.Proofs
open Go.Shelf
def Tryz.lays190_ren:Go.Shelf.Ren:=⟨fun | 190=>151 | 125=>175 | 258=>174 | 128=>220 | 129=>221 | 302=>211 | 303=>212 | 304=>213 | 305=>214 | 306=>215 | 307=>216 | 308=>217 | 309=>218 | 310=>219 | 333=>236 | 329=>237 | 330=>238 | 334=>239 | 335=>240 | 336=>241 | 344=>249 | n=>n,fun | 31=>64 | 9=>9 | 3=>3 | 46=>179 | 0=>0 | 51=>142 | 53=>234 | 4=>4 | 183=>249 | 182=>248 | 131=>254 | 5=>5 | 218=>272 | 222=>276 | 228=>283 | 229=>284 | n=>n,fun | n=>n⟩
theorem Tryz.lays190:Go.Proofs.Lays.n190 Tryz.prog Tryz.lays190_ren:={
 mixed:=by kernel_rfl
 f125:=Tryz.func175.trans (congrArg some (by kernel_rfl))
 f128:=Tryz.func220.trans (congrArg some (by kernel_rfl))
 f129:=Tryz.func221.trans (congrArg some (by kernel_rfl))
 f190:=Tryz.func151.trans (congrArg some (by kernel_rfl))
 f258:=Tryz.func174.trans (congrArg some (by kernel_rfl))
 f302:=Tryz.func211.trans (congrArg some (by kernel_rfl))
 f303:=Tryz.func212.trans (congrArg some (by kernel_rfl))
 f304:=Tryz.func213.trans (congrArg some (by kernel_rfl))
 f305:=Tryz.func214.trans (congrArg some (by kernel_rfl))
 f306:=Tryz.func215.trans (congrArg some (by kernel_rfl))
 f307:=Tryz.func216.trans (congrArg some (by kernel_rfl))
 f308:=Tryz.func217.trans (congrArg some (by kernel_rfl))
 f309:=Tryz.func218.trans (congrArg some (by kernel_rfl))
 f310:=Tryz.func219.trans (congrArg some (by kernel_rfl))
 f329:=Tryz.func237.trans (congrArg some (by kernel_rfl))
 f330:=Tryz.func238.trans (congrArg some (by kernel_rfl))
 f333:=Tryz.func236.trans (congrArg some (by kernel_rfl))
 f334:=Tryz.func239.trans (congrArg some (by kernel_rfl))
 f335:=Tryz.func240.trans (congrArg some (by kernel_rfl))
 f336:=Tryz.func241.trans (congrArg some (by kernel_rfl))
 f344:=Tryz.func249.trans (congrArg some (by kernel_rfl))
 t0:=Tryz.underlying0
 a0:=Tryz.isAgg0
 z0:=Tryz.sizeOf0
 v0:=Tryz.zeroValue0
 t3:=Tryz.underlying3
 a3:=Tryz.isAgg3
 z3:=Tryz.sizeOf3
 v3:=Tryz.zeroValue3
 t4:=Tryz.underlying4
 a4:=Tryz.isAgg4
 z4:=Tryz.sizeOf4
 v4:=Tryz.zeroValue4
 t5:=Tryz.underlying5
 a5:=Tryz.isAgg5
 z5:=Tryz.sizeOf5
 v5:=Tryz.zeroValue5
 t9:=Tryz.underlying9
 a9:=Tryz.isAgg9
 z9:=Tryz.sizeOf9
 v9:=Tryz.zeroValue9
 t31:=Tryz.underlying64
 a31:=Tryz.isAgg64
 z31:=Tryz.sizeOf64
 v31:=Tryz.zeroValue64
 t46:=Tryz.underlying179
 a46:=Tryz.isAgg179
 z46:=Tryz.sizeOf179
 v46:=Tryz.zeroValue179
 t51:=Tryz.underlying142
 a51:=Tryz.isAgg142
 z51:=Tryz.sizeOf142
 v51:=Tryz.zeroValue142
 t53:=Tryz.underlying234
 a53:=Tryz.isAgg234
 z53:=Tryz.sizeOf234
 v53:=Tryz.zeroValue234
 t131:=Tryz.underlying254
 a131:=Tryz.isAgg254
 z131:=Tryz.sizeOf254
 v131:=Tryz.zeroValue254
 t182:=Tryz.underlying248
 a182:=Tryz.isAgg248
 z182:=Tryz.sizeOf248
 v182:=Tryz.zeroValue248
 t183:=Tryz.underlying249
 a183:=Tryz.isAgg249
 z183:=Tryz.sizeOf249
 v183:=Tryz.zeroValue249
 t218:=Tryz.underlying272
 a218:=Tryz.isAgg272
 z218:=Tryz.sizeOf272
 v218:=Tryz.zeroValue272
 t222:=Tryz.underlying276
 a222:=Tryz.isAgg276
 z222:=Tryz.sizeOf276
 v222:=Tryz.zeroValue276
 t228:=Tryz.underlying283
 a228:=Tryz.isAgg283
 z228:=Tryz.sizeOf283
 v228:=Tryz.zeroValue283
 t229:=Tryz.underlying284
 a229:=Tryz.isAgg284
 z229:=Tryz.sizeOf284
 v229:=Tryz.zeroValue284 }
open Go.Sort Go.RowKit in
theorem Tryz.slices_Sort_string (blk off cap:Nat) (ss:List (List UInt8)) (w:World) (hH:Holds encStr w blk off ss.toArray) (hblk:blk<w.heap.size) (hsz:ss.length<4611686018427387904) :
  Calls Tryz.prog 151 #[.slice (some ⟨blk,off,none⟩) ss.length cap] w fun e w' =>
   e=.returned (.tuple #[])∧∃ n os,w'=grow (putRow encStr (Sort.ahead w n) blk off (ss.mergeSort fun x y=>decide (x≤y)).toArray) os:=Any.slices_Sort_string Tryz.lays190 blk off cap ss w hH hblk hsz
open Go.RowKit Go.Sort in
theorem Tryz.slices_Sort_string_none (p:Option Addr) (cap:Nat) (w:World) :
  Calls Tryz.prog 151 #[.slice p 0 cap] w fun e w'=>e=.returned (.tuple #[])∧w'=w:=Any.slices_Sort_string_none Tryz.lays190 p cap w
end Go.Proofs

namespace Go.Proofs.YtgonhdeochgkoaaGreatDoor
open Go.RowKit Go.Mv
abbrev ltB (a b:List UInt8):Bool:=Op.bytesLess a b
theorem zeR:∀ (a b:List UInt8),ltB a b=true↔a<b
 | [],[]=>by simp[ltB,Op.bytesLess]
 | _::_,[]=>by simp[ltB,Op.bytesLess]
 | [],_::_=>by simp[ltB,Op.bytesLess]
 | x::a,y::b=>by
  have ih:=zeR a b
  unfold ltB at ih ⊢
  rw[Op.bytesLess,List.cons_lt_cons_iff,Bool.or_eq_true,Bool.and_eq_true,ih]
  simp
theorem zgM (a:List UInt8):ltB a a=false:=by
 rw[Bool.eq_false_iff]
 intro h
 exact List.lt_irrefl a ((zeR a a).1 h)
theorem zhK {a b c:List UInt8} (h:ltB a b=true) (k:ltB b c=true):ltB a c=true:=(zeR a c).2 (List.lt_trans ((zeR a b).1 h) ((zeR b c).1 k))
theorem zlO {a b:List UInt8} (h:ltB a b=true):a≠b:=by rintro rfl;rw[zgM] at h;cases h
theorem zny {a b:List UInt8} (h:ltB a b=false) (hn:a≠b):ltB b a=true:=by
 rw[zeR]
 rw[Bool.eq_false_iff,Ne,zeR] at h
 rcases List.le_iff_lt_or_eq.1 (List.not_lt.1 h) with h | h
 ·exact h
 ·exact absurd h.symm hn
def Srt (l:List Fil):Prop:=l.Pairwise fun p q=>ltB p.1 q.1=true
theorem Srt.apart {l:List Fil} (h:Srt l):Apart l:=by
 unfold Apart List.Nodup
 rw[List.pairwise_map]
 exact List.Pairwise.imp (fun h=>zlO h) h
theorem zdj {n b:List UInt8}:∀ {l:List Fil},zai n l=some b→(n,b)∈l
 | [],h=>by cases h
 | p::l,h=>by
  rw[zai] at h
  split at h
  ·rename_i e
   cases h
   subst e
   exact List.mem_cons_self
  ·exact List.mem_cons_of_mem _ (zdj h)
theorem zc4 {n b:List UInt8}:∀ {l:List Fil},Apart l→(n,b)∈l→zai n l=some b
 | p::l,ha,h=>by
  rw[zai]
  rcases List.mem_cons.1 h with rfl | h
  ·rw[if_pos rfl]
  ·rw[if_neg (zfn ha h),zc4 (zd2 ha) h]
theorem getF_isNone {n:List UInt8} {l:List Fil}:zai n l=none↔∀ p∈l,p.1≠n:=by
 constructor
 ·intro h p hp e
  induction l with
  | nil=>cases hp
  | cons q l ih =>
   rw[zai] at h
   split at h
   ·cases h
   ·rename_i hq
    rcases List.mem_cons.1 hp with rfl | hp
    ·exact hq e
    ·exact ih h hp
 ·exact zdW
theorem ztg {l l':List Fil} (h:Srt l) (h':Srt l') (hg:∀ n,zai n l=zai n l'):l=l':=by
 have hm:∀ p,p∈l↔p∈l':=fun p=>⟨fun hp=>zdj (by rw[←hg];exact zc4 h.apart hp),fun hp=>zdj (by rw[hg];exact zc4 h'.apart hp)⟩
 have nd:∀ {l:List Fil},Srt l→l.Nodup:=fun h=>List.Pairwise.imp (fun {a b} h e=>zlO h (congrArg Prod.fst e)) h
 have hp:l.Perm l':=(List.perm_ext_iff_of_nodup (nd h) (nd h')).2 hm
 refine List.Perm.eq_of_pairwise (le:=fun p q:Fil=>ltB p.1 q.1=true) (fun a b _ _ h1 h2=>?_) h h' hp
 have:=zhK h1 h2
 rw[zgM] at this
 cases this
/-! Striking out, laying in -/
theorem zce (n:List UInt8):∀ l:List Fil,(za7 n l).Sublist l
 | []=>List.Sublist.refl _
 | p::l=>by
  rw[za7]
  split
  ·exact List.sublist_cons_self _ _
  ·exact (zce n l).cons_cons _
theorem zfs {l:List Fil} (ha:Apart l) (n x:List UInt8):zai x (za7 n l)=if x=n then none else zai x l:=by
 induction l with
 | nil=>simp[za7,zai]
 | cons p l ih =>
  have ih:=ih (zd2 ha)
  rw[za7]
  split
  ·rename_i hp
   subst hp
   split
   ·rename_i hx
    subst hx
    exact zdW fun q hq=>Ne.symm (zfn ha hq)
   ·rename_i hx
    rw[zai,if_neg (Ne.symm hx)]
  ·rename_i hp
   rw[zai,zai,ih]
   split
   ·rename_i hx
    subst hx
    rw[if_neg hp]
   ·rfl
theorem zgD (n b x:List UInt8):∀ l:List Fil,zai x (zbe n b l)=if x=n then some b else zai x l
 | []=>by
  rw[zbe,zai,zai]
  by_cases h:x=n
  ·rw[if_pos h,if_pos h.symm]
  ·rw[if_neg h,if_neg (Ne.symm h)];rfl
 | p::l=>by
  have ih:=zgD n b x l
  rw[zbe]
  split
  ·rename_i hp
   rw[zai,zai]
   by_cases h:x=n
   ·rw[if_pos h,if_pos h.symm]
   ·rw[if_neg h,if_neg (Ne.symm h),if_neg (by rw[hp];exact Ne.symm h)]
  ·rename_i hp
   rw[zai,zai,ih]
   by_cases h:x=n
   ·subst h
    rw[if_pos rfl,if_pos rfl,if_neg hp]
   ·rw[if_neg h,if_neg h]
theorem zkP (n b:List UInt8):∀ l:List Fil,∀ q∈zbe n b l,q.1=n∨q∈l
 | [],q,hq=>by rw[zbe,List.mem_singleton] at hq;subst hq;exact .inl rfl
 | p::l,q,hq=>by
  rw[zbe] at hq
  split at hq
  ·rcases List.mem_cons.1 hq with rfl | hq
   ·exact .inl rfl
   ·exact .inr (List.mem_cons_of_mem _ hq)
  ·rcases List.mem_cons.1 hq with rfl | hq
   ·exact .inr List.mem_cons_self
   ·rcases zkP n b l q hq with h | h
    ·exact .inl h
    ·exact .inr (List.mem_cons_of_mem _ h)
theorem zjf {p:Fil} {l:List Fil} (h:Apart l) (hn:∀ q∈l,p.1≠q.1):Apart (p::l):=by
 unfold Apart
 rw[List.map_cons,List.nodup_cons]
 refine ⟨fun hm=>?_,h⟩
 obtain ⟨q,hq,e⟩:=List.mem_map.1 hm
 exact hn q hq e.symm
theorem Apart.upd {n b:List UInt8}:∀ {l:List Fil},Apart l→Apart (zbe n b l)
 | [],_=>by simp[zbe,Apart]
 | p::l,ha=>by
  rw[zbe]
  split
  ·rename_i hp
   exact zjf (zd2 ha) fun q hq=>by rw[←hp];exact zfn ha hq
  ·rename_i hp
   refine zjf (Apart.upd (zd2 ha)) fun q hq=>?_
   rcases zkP n b l q hq with h | h
   ·rw[h];exact hp
   ·exact zfn ha h
theorem Apart.del {n:List UInt8} {l:List Fil} (h:Apart l):Apart (za7 n l):=((zce n l).map _).nodup h
theorem Srt.del {n:List UInt8} {l:List Fil} (h:Srt l):Srt (za7 n l):=List.Pairwise.sublist (zce n l) h
def zcE (p:Fil):List Fil→List Fil
 | []=>[p]
 | q::l=>if ltB q.1 p.1 then q::zcE p l else p::q::l
theorem zj0 (p:Fil):∀ (l:List Fil) (q:Fil),q∈zcE p l↔q=p∨q∈l
 | [],q=>by simp[zcE]
 | r::l,q=>by
  rw[zcE]
  split
  ·rw[List.mem_cons,zj0 p l q,List.mem_cons]
   exact ⟨fun h=>h.elim (fun h=>.inr (.inl h)) (fun h=>h.elim .inl fun h=>.inr (.inr h)),fun h=>h.elim (fun h=>.inr (.inl h)) fun h=>h.elim .inl fun h=>.inr (.inr h)⟩
  ·rw[List.mem_cons,List.mem_cons]
theorem Srt.ins {p:Fil}:∀ {l:List Fil},Srt l→(∀ q∈l,q.1≠p.1)→Srt (zcE p l)
 | [],_,_=>by simp[zcE,Srt]
 | q::l,h,hn=>by
  have hc:=List.pairwise_cons.1 h
  rw[zcE]
  split
  ·rename_i hlt
   refine List.pairwise_cons.2 ⟨fun r hr=>?_,Srt.ins hc.2 fun q hq=>hn q (List.mem_cons_of_mem _ hq)⟩
   rcases (zj0 p l r).1 hr with rfl | hr
   ·exact hlt
   ·exact hc.1 r hr
  ·rename_i hlt
   have hpq:=zny (by simpa using hlt) (hn q List.mem_cons_self)
   refine List.pairwise_cons.2 ⟨fun r hr=>?_,h⟩
   rcases List.mem_cons.1 hr with rfl | hr
   ·exact hpq
   ·exact zhK hpq (hc.1 r hr)
theorem zlD (p:Fil) (x:List UInt8):∀ {l:List Fil},(∀ q∈l,q.1≠p.1)→zai x (zcE p l)=if x=p.1 then some p.2 else zai x l
 | [],_=>by
  rw[zcE,zai,zai]
  by_cases h:x=p.1
  ·rw[if_pos h,if_pos h.symm]
  ·rw[if_neg h,if_neg (Ne.symm h)];rfl
 | q::l,hn=>by
  have ih:=zlD p x (l:=l) fun q hq=>hn q (List.mem_cons_of_mem _ hq)
  rw[zcE]
  split
  ·rw[zai,zai,ih]
   by_cases h:x=p.1
   ·subst h
    rw[if_pos rfl,if_neg (hn q List.mem_cons_self),if_pos rfl]
   ·rw[if_neg h,if_neg h]
  ·rw[zai]
   by_cases h:x=p.1
   ·rw[if_pos h,if_pos h.symm]
   ·rw[if_neg h,if_neg (Ne.symm h)]
def withS (l:List Fil) (p:Fil):List Fil:=zcE p (za7 p.1 l)
theorem zpI {n:List UInt8} {l:List Fil} (ha:Apart l):∀ q∈za7 n l,q.1≠n:=getF_isNone.1 (by rw[zfs ha,if_pos rfl])
theorem Srt.withS {l:List Fil} (h:Srt l) (p:Fil):Srt (withS l p):=h.del.ins (zpI h.apart)
theorem zkn {l:List Fil} (h:Srt l) (p:Fil) (x:List UInt8):zai x (withS l p)=if x=p.1 then some p.2 else zai x l:=by
 unfold Go.Proofs.YtgonhdeochgkoaaGreatDoor.withS
 rw[zlD p x (zpI h.apart),zfs h.apart]
 split <;> rfl
/-! Operations -/
structure Oq where
 k:Int
 n:List UInt8
 t:List UInt8
 b:List UInt8
def zcs (l:List Fil) (o:Oq):List Fil :=
 if o.k=1 then withS l (o.n,[]) else
 match zai o.n l with
 | none=>l
 | some b=>if o.k=2 then withS l (o.n,b++o.b) else if o.k=3∧o.t≠o.n then withS (za7 o.n l) (o.t,b) else if o.k=4 then za7 o.n l else l
def zbk (m:List Fil) (o:Oq):List Fil :=
 if o.k=1 then zbe o.n [] m else
 if o.k=2 then (match zai o.n m with | none=>m | some b=>zbe o.n (b++o.b) m) else
 if o.k=3 then (match zai o.n m with | none=>m | some b=>zbe o.t b (za7 o.n m)) else
 if o.k=4 then za7 o.n m else m
structure Tells (l m:List Fil):Prop where
 s:Srt l
 a:Apart m
 g:∀ x,zai x l=zai x m
theorem Tells.with_ {l m:List Fil} (h:Tells l m) (n b:List UInt8):Tells (withS l (n,b)) (zbe n b m):=⟨h.s.withS _,h.a.upd,fun x=>by rw[zkn h.s,zgD,h.g]⟩
theorem Tells.del {l m:List Fil} (h:Tells l m) (n:List UInt8):Tells (za7 n l) (za7 n m):=⟨h.s.del,h.a.del,fun x=>by rw[zfs h.s.apart,zfs h.a,h.g]⟩
theorem Tells.done {l m:List Fil} (h:Tells l m) (o:Oq):Tells (zcs l o) (zbk m o):=by
 unfold zcs zbk
 by_cases h1:o.k=1
 ·rw[if_pos h1,if_pos h1]
  exact h.with_ _ _
 ·rw[if_neg h1,if_neg h1]
  cases hg:zai o.n m with
  | none =>
   rw[h.g,hg]
   dsimp only
   split
   ·exact h
   ·split
    ·exact h
    ·split
     ·rw[zhy (getF_isNone.1 hg)]
      exact h
     ·exact h
  | some b =>
   rw[h.g,hg]
   dsimp only
   split
   ·exact h.with_ _ _
   ·by_cases h3:o.k=3
    ·rw[if_pos h3]
     by_cases ht:o.t=o.n
     ·rw[if_neg (fun h=>h.2 ht),if_neg (by omega),ht]
      refine ⟨h.s,h.a.del.upd,fun x=>?_⟩
      rw[zgD,zfs h.a,h.g]
      split
      ·rename_i hx
       rw[hx,hg]
      ·rfl
     ·rw[if_pos ⟨h3,ht⟩]
      exact (h.del _).with_ _ _
    ·rw[if_neg (fun h=>h3 h.1),if_neg h3]
     split
     ·exact h.del _
     ·exact h
def zcq:List Fil→List Fil
 | []=>[]
 | p::l=>zbe p.1 p.2 (zcq l)
def zbd (l:List Fil) (p:Fil):List Fil:=if (zai p.1 l).isNone then withS l p else l
def zj6 (fs:List Fil) (q:List Oq):List Fil:=q.foldl zcs (fs.foldl zbd [])
def zbE (fs:List Fil) (q:List Oq):List Fil:=q.foldl zbk (zcq fs)
theorem zjv (x:List UInt8):∀ l:List Fil,zai x (zcq l)=zai x l
 | []=>rfl
 | p::l=>by
  rw[zcq,zgD,zjv x l,zai]
  by_cases h:x=p.1
  ·rw[if_pos h,if_pos h.symm]
  ·rw[if_neg h,if_neg (Ne.symm h)]
theorem zil:∀ l:List Fil,Apart (zcq l)
 | []=>List.nodup_nil
 | _::l=>(zil l).upd
theorem zqK {l:List Fil} (h:Srt l) (p:Fil):Srt (zbd l p)∧∀ x,zai x (zbd l p)=(zai x l).or (if p.1=x then some p.2 else none):=by
 unfold zbd
 by_cases hn:zai p.1 l=none
 ·rw[if_pos (by rw[hn];rfl)]
  refine ⟨h.withS p,fun x=>?_⟩
  rw[zkn h]
  by_cases hx:x=p.1
  ·subst hx;rw[if_pos rfl,hn,if_pos rfl];rfl
  ·rw[if_neg hx,if_neg (Ne.symm hx),Option.or_none]
 ·obtain ⟨b,hb⟩:=Option.ne_none_iff_exists'.1 hn
  rw[if_neg (by rw[hb];simp)]
  refine ⟨h,fun x=>?_⟩
  by_cases hx:p.1=x
  ·subst hx;rw[hb];rfl
  ·rw[if_neg hx,Option.or_none]
theorem zjH:∀ (fs l:List Fil),Srt l→Srt (fs.foldl zbd l)∧∀ x,zai x (fs.foldl zbd l)=(zai x l).or (zai x fs)
 | [],l,h=>⟨h,fun x=>by simp[zai]⟩
 | p::fs,l,h=>by
  obtain ⟨h1,h2⟩:=zqK h p
  obtain ⟨h3,h4⟩:=zjH fs _ h1
  refine ⟨h3,fun x=>?_⟩
  rw[List.foldl_cons,h4,h2,Option.or_assoc,zai]
  congr 1
  split <;> simp
theorem zjK:∀ (q:List Oq) {l m:List Fil},Tells l m→Tells (q.foldl zcs l) (q.foldl zbk m)
 | [],_,_,h=>h
 | o::q,_,_,h=>zjK q (h.done o)
theorem zhW (fs:List Fil) (q:List Oq):Tells (zj6 fs q) (zbE fs q):=by
 obtain ⟨h1,h2⟩:=zjH fs [] List.Pairwise.nil
 exact zjK q ⟨h1,zil fs,fun x=>by rw[h2,zjv];rfl⟩
def zbl (m:List Fil):List Fil:=((m.map (·.1)).mergeSort leB).map fun n=>(n,(zai n m).getD [])
theorem ztM:∀ a b c:List UInt8,leB a b=true→leB b c=true→leB a c=true:=fun a b c h1 h2=>by simp only[leB,decide_eq_true_eq] at *;exact List.le_trans h1 h2
theorem ztL:∀ a b:List UInt8,(leB a b||leB b a)=true:=fun a b=>by simp only[leB,Bool.or_eq_true,decide_eq_true_eq];exact List.le_total a b
theorem zoP (l:List (List UInt8)) (hn:l.Nodup):(l.mergeSort leB).Pairwise fun a b=>ltB a b=true:=by
 have h1:=List.pairwise_mergeSort ztM ztL l
 have h2:(l.mergeSort leB).Nodup:=(List.mergeSort_perm l leB).nodup_iff.2 hn
 refine List.Pairwise.imp₂ (fun a b h1 h2=>?_) h1 h2
 simp only[leB,decide_eq_true_eq] at h1
 rw[zeR]
 rcases List.le_iff_lt_or_eq.1 h1 with h | h
 ·exact h
 ·exact absurd h h2
theorem zo0 {m:List Fil} (ha:Apart m):Tells (zbl m) m:=by
 have hs:=zoP _ ha
 have hS:Srt (zbl m):=by
  unfold Srt zbl
  rw[List.pairwise_map]
  exact hs
 refine ⟨hS,ha,fun x=>?_⟩
 cases hg:zai x m with
 | none =>
  refine zdW fun p hp e=>?_
  obtain ⟨n,hn,rfl⟩:=List.mem_map.1 hp
  have hn':=(List.mergeSort_perm _ leB).mem_iff.1 hn
  obtain ⟨q,hq,hqe⟩:=List.mem_map.1 hn'
  exact getF_isNone.1 hg q hq (hqe.trans e)
 | some b =>
  refine zc4 hS.apart (List.mem_map.2 ⟨x,(List.mergeSort_perm _ leB).mem_iff.2 (List.mem_map.2 ⟨_,zdj hg,rfl⟩),by rw[hg];rfl⟩)
theorem zmd (fs:List Fil) (q:List Oq):zbl (zbE fs q)=zj6 fs q:=by
 have h1:=zhW fs q
 have h2:=zo0 h1.a
 exact ztg h2.s h1.s fun x=>by rw[h2.g,h1.g]
end Go.Proofs.YtgonhdeochgkoaaGreatDoor
