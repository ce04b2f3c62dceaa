/- Merged -/
import Derived.Test.YtgonhdeochgkoaaGreatDoorZx26
import Derived.Test.YtgonhdeochgkoaaGreatDoorZx29
set_option linter.all false
set_option maxHeartbeats 8000000
set_option maxRecDepth 100000
namespace Go.Proofs.YtgonhdeochgkoaaGreatDoor
open Go.RowKit Go.Mv
def zcl (l:List Fil) (ks:List (List UInt8)):List (List UInt8):=(l.map (·.1)).filter fun n=>!decide (n∈ks)
def zg2 (d:Dk) (ks:List (List UInt8)):Dk×Int:=zaN false d ((zcl d.now ks).map zcb)
def zdH (d:Dk) (n b:List UInt8):Dk×Int:=zaN true d [za3 n,za2 n b]
def zaS (n t:List UInt8):Oq:=⟨3,n,t,[]⟩
def zaA:List UInt8:=[77,46,110,101,119]
def zbq:List UInt8:=[77]
def zcn (d:Dk) (b:List UInt8) (ks:List (List UInt8)):Dk×Int :=
 if (zdH d zaA b).2≠0 then zdH d zaA b else
 if (zaN true (zdH d zaA b).1 [zaS zaA zbq]).2≠0 then zaN true (zdH d zaA b).1 [zaS zaA zbq] else
 zg2 (zaN true (zdH d zaA b).1 [zaS zaA zbq]).1 ks
theorem zi4 {l:List Fil} {n t c:List UInt8} (Hh:t≠n) (h:zah n l=some c):za1 l (zaS n t)=withS (zbg n l) (t,c):=by
 unfold za1 zaS;rw[if_neg (by simp)];dsimp only;rw[h];dsimp only;rw[if_neg (by simp),if_pos ⟨rfl,Hh⟩]
theorem zdo (n:List UInt8):∀ fs:List Fil,zao fs (some n)=zah n fs
 | []=>rfl
 | p::fs=>by rw[znz,zah,zdo n fs]
theorem ziZ (fs:List Fil):zao fs none=none:=by
 unfold zao
 rw[if_pos (show zb4 fs none<0 from by show (-1:Int)<0;decide)]
theorem zhD {b:List UInt8} (h:b.length<4):zaM rT b=none:=by
 unfold zaM;rw[if_neg];intro e
 have:=congrArg List.length e
 rw[ze6,List.length_drop] at this;omega
theorem zji {b:List UInt8} (h:b.length<4):zbe b=none:=by
 unfold zbe;rw[zhD h]
theorem zkk {m:Mf} {j:Nat} {k s f:Int} (h:(zaO m)[j]?=some (k,s,f)):(j=0∧(k,s,f)=(1,0,0))∨(0<j∧zgQ m k s f):=by
 rw[znU] at h
 cases j with
 | zero=>left;simp at h;exact ⟨rfl,by rw[←h.1,←h.2.1,←h.2.2]⟩
 | succ j =>
  right
  rw[List.getElem?_cons_succ] at h
  have:=ztr (List.mem_of_getElem? h)
  exact ⟨Nat.succ_pos j,this⟩
open Go.RowKit Go.Mv Go.Shelf
theorem zoP (W:World) (cs:List Value) (t:TypeId) (sz m:Nat) (hs:cs.length=m*sz) (hm:m≤1000) {n:Nat} (hn:W.heap.size=n):SlR (W.alloc (.cells cs.toArray t)) sz (.slice (some ⟨n,0,none⟩) m m) m cs:=by
 subst hn
 refine ⟨hs,_,_,rfl,xN _,by unfold maxLen;omega,fun _=>⟨_,0,rfl,fun j u hu=>?_⟩⟩
 have:=(Blk.new W t cs.toArray).cell (0+j) (by simpa using hu)
 exact this
theorem zoL (tmps:Array Value) (W:World) (b:Nat) (cs:Array Value) (e:Value) (h4:tmps.getD 6 undef=.pointer (some ⟨b,0,none⟩)) (h3:tmps.getD 7 undef=e) (hb:Blk W b 25 cs) (hs:cs.size=5):(results Tryz.f27 tmps).run Tryz.prog W=.ok (.tuple #[.agg cs,e]) W:=by
 have Hg:tmps[6]?.getD undef=.pointer (some ⟨b,0,none⟩):=by simpa using h4
 have Hf:tmps[7]?.getD undef=e:=by simpa using h3
 have hl:=hb.load (P:=Tryz.prog) zg3 rfl (by rw[hs];kernel_rfl)
 simp[results,Tryz.results27,Hg,Hf,asAddr,hl,Sem.run_bind,Sem.run_pure,Result.andThen_ok]
def zdG (d:Dk) (nm:Option (List UInt8)) (b:List UInt8):Dk×Int:=match nm with | none=>(d,2) | some n=>zdH d n b
theorem zsk (v:Value) (d:Dk) (n:Nat) (k s f:Int) (vb:Value) (b:List UInt8) (w:World) (hS:StW w) (hD:DkV w v d) (hs:Sz n d) (hB:Bs w vb b) (Hd:n+2+b.length≤1000000) :
  Calls Tryz.prog 27 #[v,.agg #[.int .u8 k,.int .i64 s,.int .i64 f],vb] w fun e w'=>∃ u,e=.returned (.tuple #[u,.int .i64 (zdG d (zas k s f) b).2])∧zjn w' w.heap.size u (zdG d (zas k s f) b).1∧Ext w w':=by
 obtain ⟨vf,vq,rfl,hF,hQ⟩:=hD;obtain ⟨A,c,rfl,_,_⟩:=Fs.open_ hF;obtain ⟨B,e2,rfl,_,_⟩:=Qs.open_ hQ;obtain ⟨C,c2,rfl,_,_⟩:=xO hB;obtain ⟨W0,H8⟩:∃ W0,((w.alloc (.cells #[.slice A d.fs.length c,.slice B d.q.length e2,.int .i64 d.quota,.int .i64 d.fuse,.bool d.dead] 25)).alloc (.cells #[.int .u8 k,.int .i64 s,.int .i64 f] 49)).alloc (.cells #[.slice none 0 0,.slice none 0 0,.int .i64 0,.int .i64 0,.bool false] 25)=W0:=⟨_,rfl⟩
 have H6:Ext w W0:=by rw[←H8];exact xA (xA (xA (xR _) _) _) _
 have h0:Blk W0 w.heap.size 25 (zaz A d.fs.length c B d.q.length e2 d.quota d.fuse d.dead):=by rw[←H8];exact ((Blk.new w _ _).alloc _).alloc _
 have h1:Blk W0 (w.heap.size+1) 49 #[.int .u8 k,.int .i64 s,.int .i64 f]:=by
  rw[←H8]
  have:=(Blk.new (w.alloc (.cells #[.slice A d.fs.length c,.slice B d.q.length e2,.int .i64 d.quota,.int .i64 d.fuse,.bool d.dead] 25)) 49 #[.int .u8 k,.int .i64 s,.int .i64 f]).alloc (.cells #[.slice none 0 0,.slice none 0 0,.int .i64 0,.int .i64 0,.bool false] 25)
  rwa [xS] at this
 have h2:Blk W0 (w.heap.size+1+1) 25 (zaz none 0 0 none 0 0 0 0 false):=by
  rw[←H8]
  have:=Blk.new ((w.alloc (.cells #[.slice A d.fs.length c,.slice B d.q.length e2,.int .i64 d.quota,.int .i64 d.fuse,.bool d.dead] 25)).alloc (.cells #[.int .u8 k,.int .i64 s,.int .i64 f] 49)) 25 #[.slice none 0 0,.slice none 0 0,.int .i64 0,.int .i64 0,.bool false]
  rwa [xS,xS] at this
 have H9:=zhd H6;have H0:=zhd h0;have H2:=zhd h2;have HB:=zhd (hB.ext H6);have HF:=zhd (hF.ext H6);have HQ:=zhd (hQ.ext H6);have HN:=zhd (zeA k s f W0 (hS.ext H6));obtain ⟨g0,g1,g2,g3,g4⟩:=zac h0;have i0:=h1.cell 0 rfl;have i1:=h1.cell 1 rfl;have i2:=h1.cell 2 rfl;have HZ:=zhd hs;have Hb:=zhd Hd;clear h0 h1 h2 hF hQ hB H6 hs hS Hd;obtain ⟨S,hS⟩:∃ S,zdG d (zas k s f) b=S:=⟨_,rfl⟩;rw[hS];have HS:=zhd hS;clear hS
 go_enter Tryz.func27,Tryz.ntmps27
 go_wp2_with fail
 refine HN.out.mono ?_
 rintro e w1 ⟨rfl,Ha⟩;clear i0 i1 i2 g0 g1 g2 g3 g4 HN H8;obtain ⟨g0,g1,g2,g3,g4⟩:=zac (H0.out.ext Ha);have H1:=zhd Ha;clear Ha
 cases hn:zas k s f with
 | none =>
  have H5:=HS.out;rw[hn] at H5;subst H5;simp only[Option.getD_none,Option.isSome_none,Bool.false_eq_true,if_false,sv];clear HS hn;go_wp2_with fail;clear g0 g1 g2 g3 g4
  refine (zhQ _ d n w1 (show DkV w1 _ d from ⟨_,_,rfl,HF.out.ext H1.out,HQ.out.ext H1.out⟩) (by have:=Hb.out;omega) HZ.out).mono ?_
  rintro e w2 ⟨u,rfl,⟨A3,c3,B3,e3,rfl,of,oq⟩,H7⟩;have H4:=H2.out.ext (xT H1.out H7);have hX:=xT H9.out (xT H1.out H7);have H3:=xT H9.out H1.out;obtain ⟨f0,f1,f2,f3,f4⟩:=za4 H4;obtain ⟨d0,d1,d2,d3,d4⟩:=zac H4;have Q1:=zhd H4;have Q2:=zhd of;have Q3:=zhd oq;have Q4:=zhd hX;have Q5:=zhd H3.size;clear H4 of oq hX H3 H7;go_wp2_with fail
  refine bodyPost_ret (zoL _ _ _ _ (.int .i64 2) rfl rfl (zaJ Q1.out _ _ _ _ _) rfl) rfl ?_
  exact ⟨_,rfl,⟨_,_,_,_,rfl,OwnF.box1 (OwnX.base Q2.out.f Q5.out) Q1.out,OwnQ.box1 (OwnX.base Q3.out Q5.out) Q1.out⟩,zaB Q4.out (by omega) _ _ _ _ _⟩
 | some nm =>
  have H5:=HS.out;rw[hn] at H5;simp only[zdG,zdH] at H5;simp only[Option.getD_some,Option.isSome_some,if_true,sv];have HS:=zhd H5;clear H5 hn;go_wp2_with fail;clear g0 g1 g2 g3 g4
  have H3:Ext w1 (w1.alloc (.cells #[.int .u8 1,sv nm,sv [],.slice none 0 0,.int .u8 2,sv nm,sv [],.slice C b.length c2] 86)):=xA (xR _) _
  have He:Qs (w1.alloc (.cells #[.int .u8 1,sv nm,sv [],.slice none 0 0,.int .u8 2,sv nm,sv [],.slice C b.length c2] 86)) (.slice (some ⟨w1.heap.size,0,none⟩) 2 2) [za3 nm,za2 nm b] :=
   ⟨[.int .u8 1,sv nm,sv [],.slice none 0 0,.int .u8 2,sv nm,sv [],.slice C b.length c2],zoP w1 _ 86 4 2 rfl (by omega) rfl,
     RowOf.append (xs:=[.int .u8 1,sv nm,sv [],.slice none 0 0]) (zfU (o:=za3 nm) (SlR.nil _ 1)) (zfU (o:=za2 nm b) (Bs.ext (HB.out.ext H1.out) H3))⟩
  have hC:=zhR _ d n true _ [za3 nm,za2 nm b] _ (show DkV (w1.alloc (.cells #[.int .u8 1,sv nm,sv [],.slice none 0 0,.int .u8 2,sv nm,sv [],.slice C b.length c2] 86)) (.agg #[.slice A d.fs.length c,.slice B d.q.length e2,.int .i64 d.quota,.int .i64 d.fuse,.bool d.dead]) d from ⟨_,_,rfl,(HF.out.ext H1.out).ext H3,(HQ.out.ext H1.out).ext H3⟩) HZ.out He (by have:=Hb.out;simp[zaG,za3,za2];omega)
  rw[HS.out] at hC
  refine hC.mono ?_
  rintro e w2 ⟨u,rfl,⟨A3,c3,B3,e3,rfl,of,oq⟩,H7⟩;have hY:=xT H1.out (xT H3 H7);have H4:=H2.out.ext hY;have hX:=xT H9.out hY;have Hc:=xT H9.out (xT H1.out H3);obtain ⟨f0,f1,f2,f3,f4⟩:=za4 H4;obtain ⟨d0,d1,d2,d3,d4⟩:=zac H4;have Q1:=zhd H4;have Q2:=zhd of;have Q3:=zhd oq;have Q4:=zhd hX;have Q5:=zhd Hc.size;clear H4 of oq hX H3 Hc H7 He hC hY;go_wp2_with fail
  refine bodyPost_ret (zoL _ _ _ _ (.int .i64 S.2) rfl rfl (zaJ Q1.out _ _ _ _ _) rfl) rfl ?_
  exact ⟨_,rfl,⟨_,_,_,_,rfl,OwnF.box1 (OwnX.base Q2.out Q5.out) Q1.out,OwnQ.box1 (OwnX.base Q3.out Q5.out) Q1.out⟩,zaB Q4.out (by omega) _ _ _ _ _⟩
end Go.Proofs.YtgonhdeochgkoaaGreatDoor
