/- Merged: SRead -/
import Derived.Test.YtgonhdeochgkoaaGreatDoorZt21
import Derived.Test.YtgonhdeochgkoaaGreatDoorZt30
set_option linter.all false
set_option maxHeartbeats 8000000
set_option maxRecDepth 100000
namespace Go.Proofs.YtgonhdeochgkoaaGreatDoor
open Go.RowKit Go.Mv
/-! What Read$1 lays into the boxes of t and m -/
theorem mcSReada0 {P:Prop} (h:P:=by
 refine tkN 21 rfl ?_;refine tkN 22 rfl ?_;refine tkN 23 rfl ?_;refine tkN 24 rfl ?_
 refine ar1 25 rfl (fun K hK=>?_)
 go_simp
 refine (HKR.out _ (Ext.drew (Ext.refl _))).mono ?_
 rintro e w9 ⟨rfl,hE9'⟩;have hE9:=Ext.trans (Ext.drew (Ext.refl W)) hE9'
 refine shK hK _ _ (HOLD.out _ hE9) (fun _=>?_)
 cases hrr:zbN ⟨s,out,m.term,m.vote⟩ with
 | false =>
  have HBAD:Hid (zbM 130=R):=by unfold Hid;rw[←HR5.out,hrr];simp
  refine tkN 26 rfl ?_
  refine ar1 27 rfl (fun K hK=>?_)
  go_simp
  refine (za0 _ _).mono ?_
  rintro e w10 ⟨rfl,rfl⟩
  exact ⟨rfl,rfl,HBAD.out,Ext.trans HEW.out hE9,(hE9.block D (Array.getElem?_eq_some_iff.1 HKD.out).1).trans HKD.out⟩
 | true =>
  have HGOOD:Hid ((⟨0,⟨s,out,m.term,m.vote⟩,m⟩:Rd)=R):=by unfold Hid;rw[←HR5.out,hrr];simp
  refine tkN 26 rfl ?_
  refine ar1 27 rfl (fun K hK=>?_)
  go_simp
  refine (zb6 _ _).mono ?_
  rintro e w10 ⟨rfl,rfl⟩
  refine shK hK _ _ (HOLD.out _ hE9) (fun _=>?_)
  refine wpAnyH_done (by kernel_rfl) ?_ _
  exact zfM ⟨rfl,rfl,rfl,rfl,rfl,rfl,HGOOD.out,hE9⟩):P:=h
structure zvA (w:World) (bt bm:Nat) (r:Rd) (w':World):Prop where
 ok:∃ vl vs,Blk w' bt 56 (zbV r.t vl)∧Blk w' bm 30 (mfC r.m vs)∧OwnE w' w.heap.size vl r.t.log∧OwnS w' w.heap.size vs r.m.segs
 gr:∀ W0,Ext W0 w→W0.heap.size≤bt→W0.heap.size≤bm→Ext W0 w'
 bl:∀ b t cs,b≠bt→b≠bm→Blk w b t cs→Blk w' b t cs
def R1P (r:Rd) (bt bm:Nat) (w:World) (en:Ending) (w':World):Prop:=if r.err=0 then en=.returned (.tuple #[])∧zvA w bt bm r w' else en=pan r.err∧Ext w w'
theorem zfw {r:Rd} {bt bm:Nat} {w:World} {en:Ending} {w':World} {e:Int} (h:r=zbM e) (he:e≠0) (h1:en=pan e) (h2:Ext w w'):R1P r bt bm w en w':=by
 subst h;unfold R1P
 rw[if_neg (show ¬ (zbM e).err=0 from he)]
 exact ⟨h1,h2⟩
theorem zrO {W:World} {b k:Nat} (h:k≠b) (a v u x y z p q:Value):(zdj W b a v u x y z p q).heap[k]?=W.heap[k]?:=by
 unfold zdj;rw[Below.heap_setCell _ _ _ _ h,Below.heap_setCell _ _ _ _ h,Below.heap_setCell _ _ _ _ h,Below.heap_setCell _ _ _ _ h,Below.heap_setCell _ _ _ _ h,Below.heap_setCell _ _ _ _ h,Below.heap_setCell _ _ _ _ h,Below.heap_setCell _ _ _ _ h]
theorem zp1 (X:World) (k:Nat):X.drew.heap[k]?=X.heap[k]?:=rfl
theorem zp2 {W:World} {b k:Nat} (h:k≠b) (a v u x y z p q:Value):(World.drew (zdj W b a v u x y z p q)).heap[k]?=W.heap[k]?:=(zp1 _ k).trans (zrO h a v u x y z p q)
theorem zjL {W:World} {b D:Nat} {t:TypeId} {cs:Array Value} (h:Blk W b t cs) (hD:b≠D) (o:Obj):Blk (W.putObj D o) b t cs:=(World.putObj_heap_other hD).trans h
theorem zrN {W:World} {b k:Nat} (h:k≠b) (a v u x y z:Value):(zb2 W b a v u x y z).heap[k]?=W.heap[k]?:=by
 unfold zb2;rw[Below.heap_setCell _ _ _ _ h,Below.heap_setCell _ _ _ _ h,Below.heap_setCell _ _ _ _ h,Below.heap_setCell _ _ _ _ h,Below.heap_setCell _ _ _ _ h,Below.heap_setCell _ _ _ _ h]
structure RdI (wn:World) (bx bl:Nat) (s:Sta) (term vote:Int) (G:Nat→Prop) (pre:List (Int×Ent)) (W:World):Prop where
 ex:∃ (A:Option Addr) (c:Nat) (last:Int) (out:List Ent),pre.foldl (zff s.idx) (s.idx+1,[])=(last,out)∧Blk W bx 56 (zbV ⟨s,out,term,vote⟩ (.slice A out.length c))∧Blk W bl 3 #[.int .i64 last]∧OwnE W (wn.heap.size+1) (.slice A out.length c) out∧(∀ k,G k↔k=bx∨k=bl∨(Value.slice A out.length c).ownBlock=some k)
 e:Ext wn W
theorem zoB {W:World} {base:Nat} {v:Value} {l:List Ent} (h:OwnE W base v l) {k:Nat} {o:Obj} (hk:v.ownBlock=some k) (ho:W.heap[k]?=some o):o.isCells=true:=by
 rcases h.2 with ⟨hn,_⟩ | ⟨g,cap,cur,e,hb,hgg,_⟩
 ·rw[hn] at hk;cases hk
 ·rw[e] at hk
  obtain rfl:g=k:=by simpa [Value.ownBlock] using hk
  rw[hgg] at ho
  cases ho
  rfl
theorem RdI.ext {wn:World} {bx bl:Nat} {s:Sta} {term vote:Int} {G:Nat→Prop} {pre:List (Int×Ent)} {W W':World} (h:RdI wn bx bl s term vote G pre W) (hE:Ext W W'):RdI wn bx bl s term vote G pre W':=by
 obtain ⟨⟨A,c,last,out,h1,h2,h3,h4,h5⟩,h6⟩:=h
 exact ⟨⟨A,c,last,out,h1,h2.ext hE,h3.ext hE,OwnE.ext h4 hE,h5⟩,Ext.trans h6 hE⟩
theorem zjI (fs:List Fil):∀ (l:List Sg4),(∀ s∈l,s.count≤4)→(zaQ fs l).1.length≤4*l.length
 | [],_=>Nat.zero_le _
 | s::l,h=>by
  have ih:=zjI fs l fun x hx=>h x (List.mem_cons_of_mem _ hx)
  rw[zaQ,List.length_cons]
  cases he:zaz fs s with
  | none=>simp
  | some x =>
   have h1:=zkD he;have h2:=h s List.mem_cons_self;dsimp only;rw[List.length_append,zhP]
   have:x.length≤4:=by
    by_cases hc:s.count = -1
    ·exact (h1.1 hc).2
    ·have:=h1.2 hc;omega
   omega
theorem zub (x:Int) (e:Sg4):∀ (l:List Sg4),l[0]?=some e→(match l with | []=>true | y::_=>decide (y.first≤x))=decide (e.first≤x)
 | [],h=>by cases h
 | y::l,h=>by cases h;rfl
theorem zv0 {fs:List Fil} {m:Mf} {i last:Int} {out:List Ent} (h2:(zaQ fs m.segs).2=true) (hf:(zaQ fs m.segs).1.foldl (zff i) (i+1,[])=(last,out)):zdG fs m i=(out,decide (i<last)&&(match m.segs with | []=>true | s::_=>decide (s.first≤i+1))):=by
 unfold zdG;rw[zgz,if_pos h2,hf];rfl
theorem zvZ {fs:List Fil} {m:Mf} {i:Int} (h2:(zaQ fs m.segs).2=false):zdG fs m i=([],false):=by
 unfold zdG
 rw[zgz,if_neg (by rw[h2];simp)]
theorem zk7 {F:Fence} {nf:Nat} {ops:Array Oper} {rest:List Oper} {o:Oper} {a:Act} {w:World} {Q:Exit→Act→World→Prop} (hgd:o.guard=none) (s x:Operand)
  (ho:o.op=.call { callee:=.builtin .append,args:=#[s,x],argTypes:=#[54,54] })
  (base:Nat) (v:Value) (bs:List Ent) (hs:a.eval s=v) (hown:OwnE w base v bs) (vx:Value) (cs:List Ent) (hx:a.eval x=vx) (hr:Es w vx cs) (hc0:0<cs.length)
  (hlen:bs.length+cs.length≤2000000) (hbase:base≤w.heap.size)
  (h:∀ A c w',OwnE w' base (.slice A (bs.length+cs.length) c) (bs++cs)→ze7 base w w'→w.grownBy w' v.ownBlock→((Value.slice A (bs.length+cs.length) c).ownBlock=v.ownBlock∨(Value.slice A (bs.length+cs.length) c).ownBlock=some w.heap.size)→wpListIn F nf Tryz.prog ops Q rest (a.put o.dst (.slice A (bs.length+cs.length) c)) w'):wpListIn F nf Tryz.prog ops Q (o::rest) a w:=by
 obtain ⟨i0,hi,hz0,hz1,hz2⟩:=info_parts zht;obtain ⟨v',w',hrun,h1,h2⟩:=za4 (P:=Tryz.prog) w base 54 o.type 79 i0 _ 3 24 Tryz.underlying54 hi hz0 hz1 hz2 rfl (by decide) v bs.length (zaq bs) hown vx cs.length (zaq cs) hr (zhI _) (by unfold maxLen;omega) (by omega) hbase
 have hblk:v'.ownBlock=v.ownBlock∨v'.ownBlock=some w.heap.size:=by
  obtain ⟨hl,A,c,rfl,_,_,hc⟩:=hr;obtain ⟨b,off,rfl,hcell⟩:=hc hc0
  have hadd:∀ j,(⟨b,off,none⟩:Addr).add j=⟨b,off+j,none⟩:=by intro j;unfold Addr.add;split <;> simp_all
  exact zdA (P:=Tryz.prog) w base 54 o.type 79 i0 _ 3 24 Tryz.underlying54 hi hz0 hz1 hz2 v bs.length (zaq bs) hown ⟨b,off,none⟩ cs.length c (zaq cs) hl hc0 (fun j u hu=>by rw[hadd];exact hcell j u hu) (zhI _) (by unfold maxLen;omega) (by omega) hrun
 refine wpListIn_plain hgd fun K hK=>?_
 have hsem:o.semAt F.round a.eval=execOp a.eval o:=by
  cases hr:F.round with
  | none=>rw[Oper.semAt_none]
  | some l=>exact Oper.semAt_some l _ o (by rw[ho];intro c hc;cases hc)
 unfold Oper.wpIn
 refine ⟨?_,?_⟩
 ·intro f hf
  simp[Oper.about,ho,resolve,Target.leads,go_sem] at hf
 rw[hsem];unfold execOp;simp only[ho,resolve,invoke,builtin,Sem.run_bind,Sem.run_pure,Result.andThen_ok,List.map_toArray,List.map_cons,List.map_nil,hs,hx,hrun]
 refine hK _ _ ?_
 obtain ⟨A,c,rfl,_,_⟩:=SlR.open_ (SlR.of_own h1)
 refine h A c w' ?_ (fun W0 hE hb=>Ext.grownOwn hE (zaj hown hb) h2) h2 hblk
 unfold OwnE
 rw[List.length_append,show zaq (bs++cs)=zaq bs++zaq cs from by simp[zaq]]
 exact h1
theorem znQ {F:Fence} {n:Nat} {P:Program} {x:Code} {a:Act} {w:World} {K:Act→World→Prop} {Q:Exit→Act→World→Prop} (G:Act→World→Prop) (h1:x.wpIn F n P (Exit.then G Q) a w) (h2:∀ a' w',G a' w'→K a' w'):x.wpIn F n P (Exit.then K Q) a w:=by
 refine wpIn_mono h1 ?_
 intro e a' w' h
 cases e <;> first | exact h2 _ _ h | exact h
attribute [local go_sem] Oper.semAt_some in
theorem zq1 (v:Value) (fs:List Fil) (pl bt bm:Nat) (w:World) (hS:StW w) (hF:Fs w v fs) (hl:fs.length≤4000000) (hbl:∀ f∈fs,f.2.length≤100000) (h0:w.cell? ⟨pl,0,none⟩=some v)
  (hT:Blk w bt 56 (zbV zem (.slice none 0 0))) (hM:Blk w bm 30 (mfC mf0 (.slice none 0 0))) (hne:bt≠bm) :
  Calls Tryz.prog 59 #[.pointer (some ⟨pl,0,none⟩),.pointer (some ⟨bt,0,none⟩),.pointer (some ⟨bm,0,none⟩)] w (R1P (zaI fs) bt bm w):=by
 obtain ⟨A,c,rfl,_,_⟩:=Fs.open_ hF;obtain ⟨R,hR⟩:∃ R,zaI fs=R:=⟨_,rfl⟩;rw[hR];unfold zaI at hR;have key:=zfD (.slice A fs.length c) fs 1 0 0 42 w hS hF hl
 have hmem:∀ b,zax fs (zak 1 0 0)=some b→b.length≤100000:=fun b h=>by
  obtain ⟨f,hf,rfl⟩:=zjf h;exact hbl f hf
 obtain ⟨rb,hrb⟩:∃ r,zax fs (zak 1 0 0)=r:=⟨_,rfl⟩;rw[hrb] at key hR hmem
 have hbl2:∀ f∈fs,f.2.length≤2000000:=fun f hf=>by have:=hbl f hf;omega
 have HS:=zhd hS;have HF:=zhd hF;have HT:=zhd hT;have HM:=zhd hM;have HNE:=zhd hne;have HBL:=zhd hbl2;have HR:=zhd hR;have Key:=zhd key;have Hmem:=zhd hmem;have HL:=zhd hl;have H0:=zhd h0;clear hS hF hT hM hne hbl hbl2 hR key hmem hrb hl
 refine (callsIn_wd (ro:=none) (n:=9)).1 ?_
 refine callsIn_of_wp_marks Tryz.func59 rfl trivial ?_ rfl
 simp only[Tryz.ntmps59,List.size_toArray,List.length_cons,List.length_nil,Nat.reduceAdd,Nat.reduceSub,Array.replicate_succ,Array.replicate_zero,List.push_toArray,List.append_toArray,List.nil_append,List.cons_append]
 gi_wp2
 refine ⟨trivial,(callsIn_wd.2 Key.out).mono ?_⟩
 rintro e w1 ⟨hr1,hE1⟩
 cases rb with
 | none =>
  obtain rfl:=hr1
  exact zfw HR.out.symm (by decide) rfl hE1
 | some b =>
  obtain ⟨v1,rfl,hB1⟩:=hr1;have hR:=HR.out;dsimp only at hR;have key:=zqY v1 b w1 (HS.out.ext hE1) hB1 (Hmem.out b rfl);obtain ⟨rm,hrm⟩:∃ r,zbB b=r:=⟨_,rfl⟩;rw[hrm] at key hR
  have hck:=fun m (h:rm=some m)=>zd4 (hrm.trans h)
  have Key2:=zhd key;have HR2:=zhd hR;have HE1:=zhd hE1;have HCK:=zhd hck;clear key hR hrm hE1 hB1 hck HR Hmem h0
  gi_wp2
  refine ⟨trivial,(callsIn_wd.2 Key2.out).mono ?_⟩
  rintro e w2 ⟨vs,rfl,hG2,hE2⟩;have HE2:=zhd (Ext.trans HE1.out hE2)
  cases rm with
  | none =>
   have hR:zbM 130=R:=HR2.out
   dsimp only[Option.isSome,Option.getD] at hG2 ⊢
   obtain ⟨B,d,rfl,_,_⟩:=(OwnS.sgs hG2).open_;clear hG2
   gi_wp2
   refine ⟨trivial,(callsIn_wd.2 (za0 _ _)).mono ?_⟩
   rintro e w3 ⟨rfl,rfl⟩
   exact zfw hR.symm (by decide) rfl (Ext.alloc HE2.out _)
  | some m =>
   obtain ⟨hchk,_⟩:=HCK.out m rfl
   dsimp only[Option.isSome,Option.getD] at hG2 ⊢
   have hR:=HR2.out;dsimp only at hR;have HR3:=zhd hR;have HCHK:=zhd hchk
   have hz2:w.heap.size≤w2.heap.size:=HE2.out.size
   obtain ⟨B,d,rfl,_,_⟩:=(OwnS.sgs hG2).open_;have hn:=Blk.new w2 30 (mfC m (.slice B m.segs.length d))
   have hEn:Ext w2 (w2.alloc (.cells (mfC m (.slice B m.segs.length d)) 30)):=Ext.alloc (Ext.refl _) _
   have HG2:=zhd hG2;have HEN:=zhd (Ext.trans HE2.out hEn);have HGN:=zhd (zag hG2 hEn);have HN:=zhd hn;have HW1:=zhd HE1.out.size;clear hR HR2 hchk HCK hG2 hn Key2 Key;unfold mfC at HEN HGN HN hEn
   gi_wp2
   refine ⟨trivial,(callsIn_wd.2 (zb6 _ _)).mono ?_⟩
   rintro e w3 ⟨rfl,rfl⟩
   gi_wp2
   have h0n:=HEN.out.cell H0.out;obtain ⟨q0,q1,q2,q3,q4,q5⟩:=zap HN.out
   have key:=fun W (h:Ext (w2.alloc (.cells #[.int .i64 m.next,.int .i64 m.term,.int .i64 m.vote,.int .i64 m.sq,.int .i64 m.sf,.slice B m.segs.length d] 30)) W)=>zpv (.slice A fs.length c) fs m W ((HS.out.ext HEN.out).ext h) ((HF.out.ext HEN.out).ext h) HL.out HBL.out
   have Key3:=zhd key;obtain ⟨wn,hwn⟩:∃ x,w2.alloc (.cells #[.int .i64 m.next,.int .i64 m.term,.int .i64 m.vote,.int .i64 m.sq,.int .i64 m.sf,.slice B m.segs.length d] 30)=x:=⟨_,rfl⟩
   have hwz:wn.heap.size=w2.heap.size+1:=by rw[←hwn,World.size_alloc]
   rw[hwn] at h0n q0 q1 q2 q3 q4 q5
   have HN:Hid (Blk wn w2.heap.size 30 (mfC m (.slice B m.segs.length d))):=by rw[←hwn];exact HN
   have HEN:Hid (Ext w wn):=by rw[←hwn];exact HEN
   have HGN:Hid (OwnS wn w1.heap.size (.slice B m.segs.length d) m.segs):=by rw[←hwn];exact HGN
   have Key3:Hid (∀ W,Ext wn W→Calls Tryz.prog 63 #[.slice A fs.length c,.agg #[.int .i64 m.sq,.int .i64 m.sf]] W (zvB W (zb3 fs m))):=by rw[←hwn];exact Key3
   rw[hwn];have HWZ:=zhd hwz;clear hEn key hwz hwn;obtain ⟨rs,hrs⟩:∃ r,zb3 fs m=r:=⟨_,rfl⟩
   have hix:∀ s,rs=some s→0≤s.idx∧s.idx≤1073741824:=fun s h=>(zqB (hrs.trans h)).2
   rw[hrs] at Key3 HR3;have HIX:=zhd hix;clear hrs hix
   refine znQ (fun a' w'=>a'.defers=[]∧a'.tmps.size=79∧a'.tmps.getD 0 undef=.pointer (some ⟨pl,0,none⟩)∧a'.tmps.getD 1 undef=.pointer (some ⟨bt,0,none⟩)∧a'.tmps.getD 2 undef=.pointer (some ⟨bm,0,none⟩)∧a'.tmps.getD 3 undef=.pointer (some ⟨w2.heap.size,0,none⟩)∧∃ (bx:Nat) (s:Sta),a'.tmps.getD 5 undef=.pointer (some ⟨bx,0,none⟩)∧rs=some s∧wn.heap.size≤bx∧Blk w' bx 56 #[.int .i64 s.idx,.int .i64 s.term,.int .i64 s.sum,.int .i64 s.lvl,.bool s.fin,.slice none 0 0,.int .i64 m.term,.int .i64 m.vote]∧Ext wn w') ?_ ?_
   ·refine zdn [] (fun c W=>c=zeg 130∧zbM 130=R∧Ext w W) ?_ (S:=fun W=>W.cell? ⟨pl,0,none⟩=some (.slice A fs.length c)∧W.cell? ⟨w2.heap.size,1,none⟩=some (.int .i64 m.term)∧W.cell? ⟨w2.heap.size,2,none⟩=some (.int .i64 m.vote)∧W.cell? ⟨w2.heap.size,3,none⟩=some (.int .i64 m.sq)∧W.cell? ⟨w2.heap.size,4,none⟩=some (.int .i64 m.sf)) (by kernel_rfl) ⟨h0n,q1,q2,q3,q4⟩ (fun _=>?_)
    ·rintro c' ⟨T,df⟩ W hd ⟨rfl,h1,h2⟩
     dsimp only at hd;subst hd
     exact zfw h1.symm (by decide) rfl h2
    have hold:∀ W,Ext wn W→W.cell? ⟨pl,0,none⟩=some (.slice A fs.length c)∧W.cell? ⟨w2.heap.size,1,none⟩=some (.int .i64 m.term)∧W.cell? ⟨w2.heap.size,2,none⟩=some (.int .i64 m.vote)∧W.cell? ⟨w2.heap.size,3,none⟩=some (.int .i64 m.sq)∧W.cell? ⟨w2.heap.size,4,none⟩=some (.int .i64 m.sf):=fun W h=>⟨h.cell h0n,h.cell q1,h.cell q2,h.cell q3,h.cell q4⟩
    have HOLD:=zhd hold;clear h0n q0 q1 q2 q3 q4 q5 hold;refine tkN 0 rfl ?_;refine tkN 1 rfl ?_;refine tkN 2 rfl ?_;refine tkN 4 rfl ?_;refine tkN 5 rfl ?_;refine tkN 6 rfl ?_;refine tkN 7 rfl ?_
    refine AllReadyH.two (i:=3) (j:=9) rfl rfl (by kernel_rfl) (by rfl) (by rfl) (fun K hK=>?_) (fun K hK=>?_)
    ·go_simp
     refine (Key3.out _ (Ext.drew (Ext.refl _))).mono ?_
     rintro e w4 ⟨h4,hE4'⟩;have hE4:=Ext.trans (Ext.drew (Ext.refl wn)) hE4'
     cases rs with
     | none =>
      obtain rfl:=h4
      exact ⟨rfl,rfl,HR3.out,Ext.trans HEN.out hE4⟩
     | some s =>
      obtain rfl:=h4
      refine shK hK _ _ (HOLD.out _ hE4) (fun _=>?_)
      refine tkN 8 rfl ?_
      refine ar1 9 rfl (fun K hK=>?_)
      go_simp
      have hz5:=Blk.new w4 56 #[.int .i64 0,.int .i64 0,.int .i64 0,.int .i64 0,.bool false,.slice none 0 0,.int .i64 0,.int .i64 0]
      refine shK hK _ _ (HOLD.out _ (Ext.alloc hE4 _)) (fun _=>?_)
      obtain ⟨f0,f1,f2,f3,f4,f5,f6,f7⟩:=zkp hz5
      refine ar1 10 rfl (fun K hK=>?_)
      go_simp
      have HBX:Hid (Blk (w4.alloc (.cells #[.int .i64 s.idx,.int .i64 s.term,.int .i64 s.sum,.int .i64 s.lvl,.bool s.fin,.slice none 0 0,.int .i64 m.term,.int .i64 m.vote] 56)) w4.heap.size 56 #[.int .i64 s.idx,.int .i64 s.term,.int .i64 s.sum,.int .i64 s.lvl,.bool s.fin,.slice none 0 0,.int .i64 m.term,.int .i64 m.vote]):=zhd (Blk.new w4 _ _)
      have HEX:=zhd (Ext.alloc hE4 (.cells #[.int .i64 s.idx,.int .i64 s.term,.int .i64 s.sum,.int .i64 s.lvl,.bool s.fin,.slice none 0 0,.int .i64 m.term,.int .i64 m.vote] 56))
      refine shK hK _ _ (HOLD.out _ HEX.out) (fun _=>?_)
      refine wpAnyH_done (by kernel_rfl) ?_ _
      refine zfM ⟨rfl,rfl,rfl,rfl,rfl,rfl,_,s,rfl,rfl,hE4.size,HBX.out,HEX.out⟩
    ·go_simp
     have hz5:=(Blk.new wn 56 #[.int .i64 0,.int .i64 0,.int .i64 0,.int .i64 0,.bool false,.slice none 0 0,.int .i64 0,.int .i64 0]).ext (Ext.drew (Ext.refl _))
     have hE5:Ext wn (wn.alloc (.cells #[.int .i64 0,.int .i64 0,.int .i64 0,.int .i64 0,.bool false,.slice none 0 0,.int .i64 0,.int .i64 0] 56)).drew:=Ext.drew (Ext.alloc (Ext.refl _) _)
     refine shK hK _ _ (HOLD.out _ hE5) (fun _=>?_)
     refine ar1 3 rfl (fun K hK=>?_)
     go_simp
     refine (Key3.out _ hE5).mono ?_
     rintro e w4 ⟨h4,hE4⟩;have E4:=Ext.trans hE5 hE4
     cases rs with
     | none =>
      obtain rfl:=h4
      exact ⟨rfl,rfl,HR3.out,Ext.trans HEN.out E4⟩
     | some s =>
      obtain rfl:=h4
      refine shK hK _ _ (HOLD.out _ E4) (fun _=>?_)
      refine tkN 8 rfl ?_;have hz6:=hz5.ext hE4;obtain ⟨f0,f1,f2,f3,f4,f5,f6,f7⟩:=zkp hz6;obtain ⟨g0,g1,g2,g3,g4,g5,g6,g7⟩:=zbU hz6
      refine ar1 10 rfl (fun K hK=>?_)
      go_simp
      have HBX:=zhd (zhb hz6 (.int .i64 s.idx) (.int .i64 s.term) (.int .i64 s.sum) (.int .i64 s.lvl) (.bool s.fin) (.slice none 0 0) (.int .i64 m.term) (.int .i64 m.vote));have HEX:=zhd (zho E4 (Nat.le_refl _) (.int .i64 s.idx) (.int .i64 s.term) (.int .i64 s.sum) (.int .i64 s.lvl) (.bool s.fin) (.slice none 0 0) (.int .i64 m.term) (.int .i64 m.vote))
      refine shK hK _ _ (HOLD.out _ HEX.out) (fun _=>?_)
      refine wpAnyH_done (by kernel_rfl) ?_ _
      refine zfM ⟨rfl,rfl,rfl,rfl,rfl,rfl,_,s,rfl,rfl,Nat.le_refl _,HBX.out,HEX.out⟩
   ·rintro ⟨T2,df⟩ W5 ⟨hd,hsz,t0,t1,t2,t3,bx,s,t5,rfl,hbx,HBX,HEX⟩
    dsimp only at hd hsz t0 t1 t2 t3 t5;subst hd;have hT:=zdi 79 T2 hsz
    generalize hU:(fun i=>T2.getD i undef)=U at hT
    have g0:U 0=.pointer (some ⟨pl,0,none⟩):=by rw[←hU];exact t0
    have g1:U 1=.pointer (some ⟨bt,0,none⟩):=by rw[←hU];exact t1
    have g2:U 2=.pointer (some ⟨bm,0,none⟩):=by rw[←hU];exact t2
    have g3:U 3=.pointer (some ⟨w2.heap.size,0,none⟩):=by rw[←hU];exact t3
    have g5:U 5=.pointer (some ⟨bx,0,none⟩):=by rw[←hU];exact t5
    have hT2:T2 = #[.pointer (some ⟨pl,0,none⟩),.pointer (some ⟨bt,0,none⟩),.pointer (some ⟨bm,0,none⟩),.pointer (some ⟨w2.heap.size,0,none⟩),U 4,.pointer (some ⟨bx,0,none⟩),U 6,U 7,U 8,U 9,U 10,U 11,U 12,U 13,U 14,U 15,U 16,U 17,U 18,U 19,U 20,U 21,U 22,U 23,U 24,U 25,U 26,U 27,U 28,U 29,U 30,U 31,U 32,U 33,U 34,U 35,U 36,U 37,U 38,U 39,U 40,U 41,U 42,U 43,U 44,U 45,U 46,U 47,U 48,U 49,U 50,U 51,U 52,U 53,U 54,U 55,U 56,U 57,U 58,U 59,U 60,U 61,U 62,U 63,U 64,U 65,U 66,U 67,U 68,U 69,U 70,U 71,U 72,U 73,U 74,U 75,U 76,U 77,U 78]:=by rw[hT];show (#[U 0,U 1,U 2,U 3,U 4,U 5,U 6,U 7,U 8,U 9,U 10,U 11,U 12,U 13,U 14,U 15,U 16,U 17,U 18,U 19,U 20,U 21,U 22,U 23,U 24,U 25,U 26,U 27,U 28,U 29,U 30,U 31,U 32,U 33,U 34,U 35,U 36,U 37,U 38,U 39,U 40,U 41,U 42,U 43,U 44,U 45,U 46,U 47,U 48,U 49,U 50,U 51,U 52,U 53,U 54,U 55,U 56,U 57,U 58,U 59,U 60,U 61,U 62,U 63,U 64,U 65,U 66,U 67,U 68,U 69,U 70,U 71,U 72,U 73,U 74,U 75,U 76,U 77,U 78]:Array Value)=_;rw[g0,g1,g2,g3,g5]
    clear hT hU hsz g0 t0 g1 t1 g2 t2 g3 t3 g5 t5;subst hT2;obtain ⟨ix0,ix1⟩:=HIX.out s rfl;have hseg:=zjh HCHK.out
    have hn60:m.segs.length≤60:=(zdg HCHK.out).2.2.2.1
    have hw1:wrap64 (s.idx+1)=s.idx+1:=by unfold wrap64;omega
    obtain ⟨p0,p1,p2,p3,p4,p5,p6,p7⟩:=zbU HBX;have l5:=HEX.cell (HEN.out.cell H0.out)
    have hm5:Blk W5 w2.heap.size 30 #[.int .i64 m.next,.int .i64 m.term,.int .i64 m.vote,.int .i64 m.sq,.int .i64 m.sf,.slice B m.segs.length d]:=Blk.ext HN.out HEX
    obtain ⟨q0,q1,q2,q3,q4,q5⟩:=zap hm5
    have hX6:Ext W5 (W5.alloc (.cells #[.int .i64 (s.idx+1)] 3)):=Ext.alloc (Ext.refl _) _
    have l6:=hX6.cell l5;obtain ⟨q0',q1',q2',q3',q4',q5'⟩:=zap (hm5.ext hX6);have hbl6:=Blk.new W5 3 #[.int .i64 (s.idx+1)];have hbx6:=HBX.ext hX6;have HLT:=zhd HBX.lt;have HX6:=zhd (Ext.trans HEX hX6);have HBL6:=zhd hbl6;have HBX6:=zhd hbx6;have HSEG:=zhd hseg;have HN60:=zhd hn60;have HBXN:=zhd hbx;have HI01:=zhd (And.intro ix0 ix1);have HR4:=HR3.out;dsimp only at HR4;have HR4:=zhd HR4;clear HIX hm5 hX6 hbl6 hbx6 hseg hn60 hbx Key3 HR3 ix0 ix1 HBX HEX
    gi_wp2
    refine ⟨trivial,(callsIn_wd.2 (zt7 _ _ _ _ m _)).mono ?_⟩
    rintro e w7 ⟨rfl,hw7⟩;unfold mfC at hw7
    have hX7:Ext (W5.alloc (.cells #[.int .i64 (s.idx+1)] 3)) w7:=by rw[←hw7];exact Ext.alloc (Ext.alloc (Ext.refl _) _) _
    have hB1:Blk w7 (W5.heap.size+1) 22 #[.slice A fs.length c]:=by
     rw[←hw7]
     have:=(Blk.new (W5.alloc (.cells #[.int .i64 (s.idx+1)] 3)) 22 #[.slice A fs.length c]).alloc (.cells #[.int .i64 m.next,.int .i64 m.term,.int .i64 m.vote,.int .i64 m.sq,.int .i64 m.sf,.slice B m.segs.length d] 30)
     rwa [World.size_alloc] at this
    have hB2:Blk w7 (W5.heap.size+1+1) 30 (mfC m (.slice B m.segs.length d)):=by
     rw[←hw7]
     have:=Blk.new ((W5.alloc (.cells #[.int .i64 (s.idx+1)] 3)).alloc (.cells #[.slice A fs.length c] 22)) 30 (mfC m (.slice B m.segs.length d))
     rwa [World.size_alloc,World.size_alloc] at this
    have hz7:w7.heap.size=W5.heap.size+1+1+1:=by rw[←hw7,World.size_alloc,World.size_alloc,World.size_alloc]
    have HX7:=zhd (Ext.trans HX6.out hX7);have HBX7:=zhd (HBX6.out.ext hX7);have HBL7:=zhd (HBL6.out.ext hX7);have HB1:=zhd hB1;have HB2:=zhd hB2
    have hwn7:wn.heap.size≤w7.heap.size:=HX7.out.size
    have HWN7:=zhd hwn7;have HZ7:=zhd hz7;have HS7:=zhd (HS.out.ext HEN.out);have HF7:=zhd (HF.out.ext HEN.out);have HG7:=zhd (OwnS.sgs HGN.out)
    have hbxl:bx≠W5.heap.size:=by have:=HLT.out;omega
    have HBXL:=zhd hbxl
    have h0I:RdI wn bx W5.heap.size s m.term m.vote (fun k=>k=bx∨k=W5.heap.size) [] w7:=⟨⟨none,0,s.idx+1,[],rfl,HBX7.out,HBL7.out,World.ownsRow_nil _ _ _ _,fun k=>by simp[Value.ownBlock]⟩,HX7.out⟩
    have hG0:∀ k,k=bx∨k=W5.heap.size→wn.heap.size≤k∧k<W5.heap.size+1:=fun k hk=>by
     have h1:=HLT.out;have h2:=HBXN.out
     rcases hk with rfl | rfl
     ·exact ⟨h2,by omega⟩
     ·exact ⟨by omega,by omega⟩
    clear hw7 p0 p1 p2 p3 p4 p5 p6 p7 l5 l6 q0 q1 q2 q3 q4 q5 q0' q1' q2' q3' q4' q5' hw1 hX7 hB1 hB2 hbxl HBX6 HBL6 HX6 HBX7 HBL7;clear hwn7 hz7
    gi_wp2
    refine zsT (a:=⟨_,_⟩) (n:=9) (Rp:=fun (x:Int×Ent) av _=>av = #[.int .i64 x.1,.agg #[.int .i64 x.2.t,.int .i64 x.2.k,.int .i64 x.2.v]]) (M:=fun _ _=>False) (xs:=(zaQ fs m.segs).1) (pn:=if (zaQ fs m.segs).2=true then none else some (zeg 130)) (Gok:=fun G=>∀ k,G k→wn.heap.size≤k∧k<W5.heap.size+1) (gf:=109) (lb:=#[.pointer (some ⟨W5.heap.size+1+1,0,none⟩),.pointer (some ⟨W5.heap.size+1,0,none⟩)]) ?hg ?eg ?hseq ?hMc ?hps (RdI wn bx W5.heap.size s m.term m.vote) ?hI ?hbd (fun k=>k=bx∨k=W5.heap.size) hG0 h0I
     (fun x a' W=>a'.defers=[]∧a'.tmps.size=79∧a'.tmps.getD 5 undef=.pointer (some ⟨bx,0,none⟩)∧a'.tmps.getD 6 undef=.pointer (some ⟨W5.heap.size,0,none⟩)∧a'.tmps.getD 7 undef=.int .i64 x.1∧∃ nb,a'.tmps.getD 8 undef=.pointer (some ⟨nb,0,none⟩)∧Blk W nb 79 #[.int .i64 x.2.t,.int .i64 x.2.k,.int .i64 x.2.v])
     ?hAx ?assign ?body ?done ?pan
    case hg=>exact rfl
    case eg=>exact enters_of Tryz.func109 (by kernel_rfl) rfl
    case hseq=>exact fun W1 hb hs=>zs9 wn W1 (.slice A fs.length c) (.slice B m.segs.length d) fs m HS7.out HF7.out HG7.out HL.out HBL.out HSEG.out HN60.out (Ext.trans HX7.out hb) _ _ _ (Nat.le_refl _) (HB1.out.ext hb) (HB2.out.ext hb)
    case hMc=>exact fun k o h=>h.elim
    case hps=>exact fun x av W h=>by rw[h];rfl
    case hI =>
     rintro G q X Y ⟨⟨A',c',last,out,h1,h2,h3,h4,h5⟩,h6⟩ hm
     exact ⟨⟨A',c',last,out,h1,hm.blkF h2,hm.blkF h3,hm.ownsRow h4 (by rintro k cur hk (h | ⟨_,h⟩);exact h;cases h),h5⟩,hm.belowF h6 HWN7.out⟩
    case hbd =>
     rintro G q X ⟨⟨A',c',last,out,h1,h2,h3,h4,h5⟩,h6⟩ k hk
     rcases (h5 k).1 hk with rfl | rfl | h
     ·exact h2.lt
     ·exact h3.lt
     ·exact (h4.lt k h).2
    case hAx =>
     rintro x a' X Y ⟨h1,h2,h3,h4,h5,nb,h6,h7⟩ hm
     exact ⟨h1,h2,h3,h4,h5,nb,h6,hm.blkF h7⟩
    case assign =>
     rintro G l' pre x post W av K' hx hi hsz rfl hK;clear hx
     gi_wp2
     exact hK _ _ (Kept.refl.alloc _) (hi.ext (Ext.alloc (Ext.refl _) _)) ⟨rfl,rfl,rfl,rfl,rfl,_,rfl,Blk.new W _ _⟩
    case body =>
     rintro G l' pre x post a' W hx hl' hr ⟨⟨A',c',last,out,hf,hbx,hbl,hown,hg⟩,hE⟩ hsz ⟨hd,hsz3,t5,t6,t7,nb,t8,hnb⟩;obtain ⟨T3,df⟩:=a';dsimp only at hd hsz3 t5 t6 t7 t8;subst hd;have hsz:=hsz3;clear hsz3;have hT:=zdi 79 T3 hsz
     generalize hU:(fun i=>T3.getD i undef)=U at hT
     have g5:U 5=.pointer (some ⟨bx,0,none⟩):=by rw[←hU];exact t5
     have g6:U 6=.pointer (some ⟨W5.heap.size,0,none⟩):=by rw[←hU];exact t6
     have g7:U 7=.int .i64 x.1:=by rw[←hU];exact t7
     have g8:U 8=.pointer (some ⟨nb,0,none⟩):=by rw[←hU];exact t8
     have hT2:T3 = #[U 0,U 1,U 2,U 3,U 4,.pointer (some ⟨bx,0,none⟩),.pointer (some ⟨W5.heap.size,0,none⟩),.int .i64 x.1,.pointer (some ⟨nb,0,none⟩),U 9,U 10,U 11,U 12,U 13,U 14,U 15,U 16,U 17,U 18,U 19,U 20,U 21,U 22,U 23,U 24,U 25,U 26,U 27,U 28,U 29,U 30,U 31,U 32,U 33,U 34,U 35,U 36,U 37,U 38,U 39,U 40,U 41,U 42,U 43,U 44,U 45,U 46,U 47,U 48,U 49,U 50,U 51,U 52,U 53,U 54,U 55,U 56,U 57,U 58,U 59,U 60,U 61,U 62,U 63,U 64,U 65,U 66,U 67,U 68,U 69,U 70,U 71,U 72,U 73,U 74,U 75,U 76,U 77,U 78]:=by rw[hT];show (#[U 0,U 1,U 2,U 3,U 4,U 5,U 6,U 7,U 8,U 9,U 10,U 11,U 12,U 13,U 14,U 15,U 16,U 17,U 18,U 19,U 20,U 21,U 22,U 23,U 24,U 25,U 26,U 27,U 28,U 29,U 30,U 31,U 32,U 33,U 34,U 35,U 36,U 37,U 38,U 39,U 40,U 41,U 42,U 43,U 44,U 45,U 46,U 47,U 48,U 49,U 50,U 51,U 52,U 53,U 54,U 55,U 56,U 57,U 58,U 59,U 60,U 61,U 62,U 63,U 64,U 65,U 66,U 67,U 68,U 69,U 70,U 71,U 72,U 73,U 74,U 75,U 76,U 77,U 78]:Array Value)=_;rw[g5,g6,g7,g8]
     clear hT hU hsz g5 t5 g6 t6 g7 t7 g8 t8;subst hT2
     have hnl:nb≠W5.heap.size:=by
      rintro rfl;have h1:=hnb.symm.trans hbl
      simp at h1
     have hnx:nb≠bx:=by
      rintro rfl;have h1:=hnb.symm.trans hbx
      simp[zbV] at h1
     have hbx1:=hbx.other HBXL.out 0 (.int .i64 x.1);have hnb1:=hnb.other hnl 0 (.int .i64 x.1)
     have hbl1:Blk (W.setCell ⟨W5.heap.size,0,none⟩ (.int .i64 x.1)) W5.heap.size 3 #[.int .i64 x.1]:=hbl.set 0 (.int .i64 x.1)
     have hown1:OwnE (W.setCell ⟨W5.heap.size,0,none⟩ (.int .i64 x.1)) (wn.heap.size+1) (.slice A' out.length c') out:=hown.kept (zaa _ W5.heap.size 0 _) (.inr (hbl.not_row (by decide) hown).symm)
     have hE1':Ext wn (W.setCell ⟨W5.heap.size,0,none⟩ (.int .i64 x.1)):=Below.setCell (p:=⟨W5.heap.size,0,none⟩) hE (by have h1:=HLT.out;have h2:=HBXN.out;show wn.heap.size≤W5.heap.size;omega) _
     have hk1:Kept (zab (KG G) w7.heap.size) W (W.setCell ⟨W5.heap.size,0,none⟩ (.int .i64 x.1)):=Kept.refl.setCell (fun o _ hc=>by
      rintro (h | h)
      ·exact h.2 ((hg _).2 (.inr (.inl rfl)))
      ·rw[hc] at h;exact absurd h.2 (by simp)) _
     have hst:(pre++[x]).foldl (zff s.idx) (s.idx+1,[])=(x.1,if s.idx<x.1 then out++[x.2] else out):=by
      rw[List.foldl_append,hf];rfl
     have hol:out.length≤240:=by
      have h1:=zjU s.idx pre (s.idx+1,[]);rw[hf] at h1
      have h2:=zjI fs m.segs fun s hs=>(HSEG.out s hs).2.2.2
      have h3:=congrArg List.length hx;rw[List.length_append,List.length_cons] at h3;have h4:=HN60.out
      simp at h1
      omega
     have hg1:∀ k,(k=bx∨k=W5.heap.size∨(Value.slice A' out.length c').ownBlock=some k)→G k:=fun k h=>(hg k).2 h
     have c0:=hbl.cell 0 rfl;have c0f:=hbl.frozen 0;have HBX1:=zhd hbx1;have HBL1:=zhd hbl1;have HO1:=zhd hown1;have HE1':=zhd hE1';have HK1:=zhd hk1;have HST:=zhd hst;have HOL:=zhd hol;have HGK:=zhd hg1;have HGI:=zhd hg;have HBXW:=zhd hbx;have HOW:=zhd hown
     have hz1:(W.setCell ⟨W5.heap.size,0,none⟩ (.int .i64 x.1)).heap.size=W.heap.size:=by simp
     have HZ1:=zhd hz1;obtain ⟨p0,p1,p2,p3,p4,p5,p6,p7⟩:=zbU hbx1;obtain ⟨y0,y1,y2⟩:=zds hnb1;clear hx hr hf hbx hbl hown hg hE hnb hbx1 hnb1 hbl1 hown1 hE1' hk1 hst hol hg1 hz1 hnl hnx
     by_cases hgt:s.idx<x.1
     ·have hX7:Ext (W.setCell ⟨W5.heap.size,0,none⟩ (.int .i64 x.1)) ((W.setCell ⟨W5.heap.size,0,none⟩ (.int .i64 x.1)).alloc (.cells #[.int .i64 x.2.t,.int .i64 x.2.k,.int .i64 x.2.v] 79)):=Ext.alloc (Ext.refl _) _
      have hes:=zrx (W.setCell ⟨W5.heap.size,0,none⟩ (.int .i64 x.1)) x.2;rw[HZ1.out] at hes;have HES:=zhd hes;have HO7:=zhd (OwnE.ext HO1.out hX7);have HX7':=zhd hX7;have hbx7:=HBX1.out.ext hX7;obtain ⟨g0,g1,g2,g3,g4,g5,g6,g7⟩:=zbU hbx7;have f5:=hbx7.frozen 5;have HBX7:=zhd hbx7;have HBL7:=zhd (HBL1.out.ext hX7);have HE7:=zhd (Ext.trans HE1'.out hX7)
      have hsw:wn.heap.size+1≤((W.setCell ⟨W5.heap.size,0,none⟩ (.int .i64 x.1)).alloc (.cells #[.int .i64 x.2.t,.int .i64 x.2.k,.int .i64 x.2.v] 79)).heap.size:=by
       have h1:=HLT.out;have h2:=HBXN.out;have h3:=HBL1.out.lt;have h4:=HX7'.out.size;omega
      have HSW:=zhd hsw;clear hX7 hes hbx7 hsw
      gi_wp2_with (gi_at_builtin;refine zk7 rfl (.tmp 44) (.tmp 46) rfl (wn.heap.size+1) _ out rfl HO7.out _ [x.2] rfl HES.out (by simp) (by have:=HOL.out;simp;omega) HSW.out ?_;intro A8 c8 w8 ho8 hG8 hgr8 hbk8;have HB8:=zhd (Blk.kept HBX7.out hgr8 (HBX7.out.not_row (by decide) HO7.out));have HL8:=zhd (Blk.kept HBL7.out hgr8 (HBL7.out.not_row (by decide) HO7.out));have HO8:=zhd ho8;have HE8:=zhd (hG8 _ HE7.out (by omega));have HGR8:=zhd hgr8;have HBK8:=zhd hbk8;clear ho8 hG8 hgr8 hbk8 g0 g1 g2 g3 g4 g5 g6 g7 f5;obtain ⟨g0,g1,g2,g3,g4,g5,g6,g7⟩:=zbU HB8.out;have f5:=HB8.out.frozen 5)
      have hkk:=(HK1.out.alloc (.cells #[.int .i64 x.2.t,.int .i64 x.2.k,.int .i64 x.2.v] 79)).grown HGR8.out (fun k o hk ho=>by
       rintro (h | h)
       ·exact h.2 (HGK.out k (.inr (.inr hk)))
       ·have:=zoB HOW.out hk ho
        rw[this] at h;exact absurd h.2 (by simp))
      have hbb:Blk (w8.setCell ⟨bx,5,none⟩ (.slice A8 (out.length+[x.2].length) c8)) bx 56 (zbV ⟨s,out++[x.2],m.term,m.vote⟩ (.slice A8 (out++[x.2]).length c8)):=by
       rw[List.length_append]
       exact HB8.out.set 5 _
      refine ⟨hkk.setCell (fun o _ hc=>?_) _,fun k=>k=bx∨k=W5.heap.size∨(Value.slice A8 (out++[x.2]).length c8).ownBlock=some k,fun k hk=>?_,⟨⟨A8,c8,x.1,out++[x.2],?_,hbb,HL8.out.other (Ne.symm HBXL.out) 5 _,?_,fun k=>Iff.rfl⟩,Below.setCell (p:=⟨bx,5,none⟩) HE8.out HBXN.out _⟩⟩
      ·rintro (h | h)
       ·exact h.2 (HGK.out _ (.inl rfl))
       ·rw[hc] at h;exact absurd h.2 (by simp)
      ·rw[List.length_append] at hk
       rcases hk with rfl | rfl | hk
       ·exact .inl (HGK.out _ (.inl rfl))
       ·exact .inl (HGK.out _ (.inr (.inl rfl)))
       ·rcases HBK8.out with hh | hh
        ·rw[hh] at hk;exact .inl (HGK.out _ (.inr (.inr hk)))
        ·rw[hh] at hk
         injection hk with hk
         have h1:=HX7'.out.size;have h2:=HZ1.out
         exact .inr (by omega)
      ·rw[HST.out,if_pos hgt]
      ·rw[List.length_append]
       exact HO8.out.kept (zaa _ bx 5 _) (.inr (HB8.out.not_row (by decide) HO8.out).symm)
     ·gi_wp2
      refine ⟨HK1.out,G,fun k h=>.inl h,⟨⟨A',c',x.1,out,?_,HBX1.out,HBL1.out,HO1.out,HGI.out⟩,HE1'.out⟩⟩
      rw[HST.out,if_neg (by omega)]
    case done =>
     rintro G D W hpn hD ⟨⟨A',c',last,out,hf,hbx,hbl,hown,_⟩,hE⟩ hK
     have h2:(zaQ fs m.segs).2=true:=by
      cases h:(zaQ fs m.segs).2 with
      | true=>rfl
      | false=>rw[h] at hpn;cases hpn
     have hR:=HR4.out;rw[zv0 h2 hf] at hR;dsimp only at hR;have hew:=Ext.trans HEN.out hE
     have hdw:w.heap.size≤D:=by have:=HEN.out.size;have:=HWN7.out;omega
     have hol:out.length≤240:=by
      have h1:=zjU s.idx (zaQ fs m.segs).1 (s.idx+1,[]);rw[hf] at h1
      have h2:=zjI fs m.segs fun s hs=>(HSEG.out s hs).2.2.2
      have h4:=HN60.out
      simp at h1
      omega
     have hkr:=fun X (hX:Ext W X)=>zpA ⟨s,out,m.term,m.vote⟩ (.slice A' out.length c') X (Es.ext (OwnE.es hown) hX) (show out.length≤4000000 by omega)
     have hnW:=HN.out.ext hE;have hgW:=HG7.out.ext hE;obtain ⟨ix0,ix1⟩:=HI01.out
     have hw1:wrap64 (s.idx+1)=s.idx+1:=by unfold wrap64;omega
     have hw2:IntKind.i64.wrap (s.idx+1)=s.idx+1:=by rw[IntKind.wrap_i64];omega
     have c0:=hbl.cell 0 rfl
     obtain ⟨p0,p1,p2,p3,p4,p5,p6,p7⟩:=zbU (show Blk W bx 56 #[.int .i64 s.idx,.int .i64 s.term,.int .i64 s.sum,.int .i64 s.lvl,.bool s.fin,.slice A' out.length c',.int .i64 m.term,.int .i64 m.vote] from hbx)
     obtain ⟨_,_,_,_,_,n5⟩:=zap (show Blk W w2.heap.size 30 #[.int .i64 m.next,.int .i64 m.term,.int .i64 m.vote,.int .i64 m.sq,.int .i64 m.sf,.slice B m.segs.length d] from hnW)
     have HKD:=zhd hK;have HR5':=zhd hR;have HEW:=zhd hew;have HDW:=zhd hdw;have HKR:=zhd hkr;have HNW:=zhd hnW;have HGW:=zhd hgW;have HBXW:=zhd hbx;have HOW:=zhd hown;have HEE:=zhd hE;clear hK hR hew hdw hkr hnW hgW hbx hown hE hf hbl hpn hol h2 ix0 ix1
     gi_wp2
     refine znQ (fun a' w'=>a'.defers=[{ target:=.collected D,args:=#[] }]∧a'.tmps.size=79∧a'.tmps.getD 1 undef=.pointer (some ⟨bt,0,none⟩)∧a'.tmps.getD 2 undef=.pointer (some ⟨bm,0,none⟩)∧a'.tmps.getD 3 undef=.pointer (some ⟨w2.heap.size,0,none⟩)∧a'.tmps.getD 5 undef=.pointer (some ⟨bx,0,none⟩)∧(⟨0,⟨s,out,m.term,m.vote⟩,m⟩:Rd)=R∧Ext W w') ?_ ?_
     ·by_cases hlast:s.idx<last
      case neg =>
       have HBAD:Hid (zbM 130=R):=by unfold Hid;rw[←HR5'.out];simp[hlast]
       refine zdn [{ target:=.collected D,args:=#[] }] (fun c W=>c=zeg 130∧zbM 130=R∧Ext w W∧W.heap[D]?=some (.deferred (some []))) ?_ (S:=fun W=>W.cell? ⟨W5.heap.size,0,none⟩=some (.int .i64 last)∧W.cell? ⟨bx,0,none⟩=some (.int .i64 s.idx)∧W.cell? ⟨bx,1,none⟩=some (.int .i64 s.term)∧W.cell? ⟨bx,2,none⟩=some (.int .i64 s.sum)∧W.cell? ⟨bx,3,none⟩=some (.int .i64 s.lvl)∧W.cell? ⟨bx,4,none⟩=some (.bool s.fin)∧W.cell? ⟨bx,5,none⟩=some (.slice A' out.length c')∧W.cell? ⟨bx,6,none⟩=some (.int .i64 m.term)∧W.cell? ⟨bx,7,none⟩=some (.int .i64 m.vote)∧W.cell? ⟨w2.heap.size,5,none⟩=some (.slice B m.segs.length d)) (by kernel_rfl) ⟨c0,p0,p1,p2,p3,p4,p5,p6,p7,n5⟩ (fun _=>?_)
       ·rintro c1 ⟨T,df⟩ W hd ⟨rfl,h1,h2,h3⟩
        dsimp only at hd;subst hd
        exact zeh (R:=R1P R bt bm w) (c:=zeg 130) h3 (zfw h1.symm (by decide) rfl (zar h2 HDW.out _))
       clear c0 p0 p1 p2 p3 p4 p5 p6 p7 n5;refine tkN 0 rfl ?_;refine tkN 1 rfl ?_;refine tkN 2 rfl ?_;refine tkN 3 rfl ?_;refine tkN 4 rfl ?_;refine tkN 5 rfl ?_;refine tkS 6 rfl ?_;refine tkS 7 rfl ?_;refine tkS 8 rfl ?_;refine tkS 9 rfl ?_;refine tkS 10 rfl ?_;refine tkS 11 rfl ?_;refine tkS 12 rfl ?_;refine tkS 13 rfl ?_;refine tkS 14 rfl ?_;refine tkS 15 rfl ?_;refine tkS 16 rfl ?_;refine tkS 17 rfl ?_;refine tkS 18 rfl ?_;refine tkS 19 rfl ?_;refine tkS 20 rfl ?_;refine tkS 21 rfl ?_;refine tkN 22 rfl ?_;refine tkN 23 rfl ?_;refine tkS 24 rfl ?_;refine tkS 25 rfl ?_;refine tkN 26 rfl ?_
       refine ar1 27 rfl (fun K hK=>?_)
       go_simp
       refine (za0 _ _).mono ?_
       rintro e w9 ⟨rfl,rfl⟩
       exact ⟨rfl,rfl,HBAD.out,Ext.drew HEW.out,HKD.out⟩
      by_cases hlen:m.segs.length=0
      ·have hnil:m.segs=[]:=List.length_eq_zero_iff.1 hlen
       have HR5:Hid ((if zbN ⟨s,out,m.term,m.vote⟩=true then (⟨0,⟨s,out,m.term,m.vote⟩,m⟩:Rd) else zbM 130)=R):=by
        have h:=HR5'.out;rw[hnil] at h;unfold Hid;rw[←h]
        simp[hlast]
       have hlb:((m.segs.length:Int)==0)=true:=by simpa using hlen
       clear hnil hlen
       refine zdn [{ target:=.collected D,args:=#[] }] (fun c W=>c=zeg 130∧zbM 130=R∧Ext w W∧W.heap[D]?=some (.deferred (some []))) ?_ (S:=fun W=>W.cell? ⟨W5.heap.size,0,none⟩=some (.int .i64 last)∧W.cell? ⟨bx,0,none⟩=some (.int .i64 s.idx)∧W.cell? ⟨bx,1,none⟩=some (.int .i64 s.term)∧W.cell? ⟨bx,2,none⟩=some (.int .i64 s.sum)∧W.cell? ⟨bx,3,none⟩=some (.int .i64 s.lvl)∧W.cell? ⟨bx,4,none⟩=some (.bool s.fin)∧W.cell? ⟨bx,5,none⟩=some (.slice A' out.length c')∧W.cell? ⟨bx,6,none⟩=some (.int .i64 m.term)∧W.cell? ⟨bx,7,none⟩=some (.int .i64 m.vote)∧W.cell? ⟨w2.heap.size,5,none⟩=some (.slice B m.segs.length d)) (by kernel_rfl) ⟨c0,p0,p1,p2,p3,p4,p5,p6,p7,n5⟩ (fun _=>?_)
       ·rintro c1 ⟨T,df⟩ W hd ⟨rfl,h1,h2,h3⟩
        dsimp only at hd;subst hd
        exact zeh (R:=R1P R bt bm w) (c:=zeg 130) h3 (zfw h1.symm (by decide) rfl (zar h2 HDW.out _))
       have hold:∀ X,Ext W X→(X.cell? ⟨W5.heap.size,0,none⟩=some (.int .i64 last)∧X.cell? ⟨bx,0,none⟩=some (.int .i64 s.idx)∧X.cell? ⟨bx,1,none⟩=some (.int .i64 s.term)∧X.cell? ⟨bx,2,none⟩=some (.int .i64 s.sum)∧X.cell? ⟨bx,3,none⟩=some (.int .i64 s.lvl)∧X.cell? ⟨bx,4,none⟩=some (.bool s.fin)∧X.cell? ⟨bx,5,none⟩=some (.slice A' out.length c')∧X.cell? ⟨bx,6,none⟩=some (.int .i64 m.term)∧X.cell? ⟨bx,7,none⟩=some (.int .i64 m.vote)∧X.cell? ⟨w2.heap.size,5,none⟩=some (.slice B m.segs.length d)):=fun X hX=>⟨hX.cell c0,hX.cell p0,hX.cell p1,hX.cell p2,hX.cell p3,hX.cell p4,hX.cell p5,hX.cell p6,hX.cell p7,hX.cell n5⟩
       have HOLD:=zhd hold;clear hold c0 p0 p1 p2 p3 p4 p5 p6 p7 n5;refine tkN 0 rfl ?_;refine tkN 1 rfl ?_;refine tkN 2 rfl ?_;refine tkN 3 rfl ?_;refine tkN 4 rfl ?_;refine tkN 5 rfl ?_;refine tkN 6 rfl ?_;refine tkN 7 rfl ?_;refine tkN 8 rfl ?_;refine tkN 9 rfl ?_;refine tkN 10 rfl ?_;refine tkS 11 rfl ?_;refine tkS 12 rfl ?_;refine tkS 13 rfl ?_;refine tkS 14 rfl ?_;refine tkS 15 rfl ?_;refine tkS 16 rfl ?_;refine tkS 17 rfl ?_;refine tkS 18 rfl ?_;refine tkS 19 rfl ?_;refine tkS 20 rfl ?_
       exact mcSReada0
      ·obtain ⟨_,b0,off0,rfl,hcell⟩:=Sgs.at_ HGW.out (by omega)
       obtain ⟨kk0,kk1,k2,kk3⟩:=hcell 0 (by omega);obtain ⟨s0,hs0⟩:∃ x,m.segs[0]'(by omega)=x:=⟨_,rfl⟩;rw[hs0] at k2;rw[Nat.zero_mul,Nat.add_zero] at k2
       have hlb:((m.segs.length:Int)==0)=false:=by simpa using hlen
       have hlp:0<m.segs.length:=by omega
       have hmt:(match m.segs with | []=>true | x::_=>decide (x.first≤s.idx+1))=decide (s0.first≤s.idx+1):=by
        exact zub _ _ _ (by rw[List.getElem?_eq_getElem hlp,hs0])
       have HMT:=zhd hmt;clear hcell kk0 kk1 kk3 hs0 hlen hmt
       by_cases hfi:s0.first≤s.idx+1
       case neg =>
        have HBAD:Hid (zbM 130=R):=by unfold Hid;rw[←HR5'.out,HMT.out];simp[hlast,hfi]
        refine zdn [{ target:=.collected D,args:=#[] }] (fun c W=>c=zeg 130∧zbM 130=R∧Ext w W∧W.heap[D]?=some (.deferred (some []))) ?_ (S:=fun W=>W.cell? ⟨W5.heap.size,0,none⟩=some (.int .i64 last)∧W.cell? ⟨bx,0,none⟩=some (.int .i64 s.idx)∧W.cell? ⟨bx,1,none⟩=some (.int .i64 s.term)∧W.cell? ⟨bx,2,none⟩=some (.int .i64 s.sum)∧W.cell? ⟨bx,3,none⟩=some (.int .i64 s.lvl)∧W.cell? ⟨bx,4,none⟩=some (.bool s.fin)∧W.cell? ⟨bx,5,none⟩=some (.slice A' out.length c')∧W.cell? ⟨bx,6,none⟩=some (.int .i64 m.term)∧W.cell? ⟨bx,7,none⟩=some (.int .i64 m.vote)∧W.cell? ⟨w2.heap.size,5,none⟩=some (.slice (some ⟨b0,off0,none⟩) m.segs.length d)∧W.cell? ⟨b0,off0+2,none⟩=some (.int .i64 s0.first)) (by kernel_rfl) ⟨c0,p0,p1,p2,p3,p4,p5,p6,p7,n5,k2⟩ (fun _=>?_)
        ·rintro c1 ⟨T,df⟩ W hd ⟨rfl,h1,h2,h3⟩
         dsimp only at hd;subst hd
         exact zeh (R:=R1P R bt bm w) (c:=zeg 130) h3 (zfw h1.symm (by decide) rfl (zar h2 HDW.out _))
        clear c0 p0 p1 p2 p3 p4 p5 p6 p7 n5 k2;refine tkN 0 rfl ?_;refine tkN 1 rfl ?_;refine tkN 2 rfl ?_;refine tkN 3 rfl ?_;refine tkN 4 rfl ?_;refine tkN 5 rfl ?_;refine tkN 6 rfl ?_;refine tkN 7 rfl ?_;refine tkN 8 rfl ?_;refine tkN 9 rfl ?_;refine tkN 10 rfl ?_;refine tkN 11 rfl ?_;refine tkN 12 rfl ?_;refine tkN 13 rfl ?_;refine tkN 14 rfl ?_;refine tkN 15 rfl ?_;refine tkN 16 rfl ?_;refine tkN 17 rfl ?_;refine tkN 18 rfl ?_;refine tkN 19 rfl ?_;refine tkN 20 rfl ?_;refine tkN 21 rfl ?_;refine tkN 22 rfl ?_;refine tkN 23 rfl ?_;refine tkS 24 rfl ?_;refine tkS 25 rfl ?_;refine tkN 26 rfl ?_
        refine ar1 27 rfl (fun K hK=>?_)
        go_simp
        refine (za0 _ _).mono ?_
        rintro e w9 ⟨rfl,rfl⟩
        exact ⟨rfl,rfl,HBAD.out,Ext.drew HEW.out,HKD.out⟩
       have HR5:Hid ((if zbN ⟨s,out,m.term,m.vote⟩=true then (⟨0,⟨s,out,m.term,m.vote⟩,m⟩:Rd) else zbM 130)=R):=by
        have h:=HR5'.out;rw[HMT.out] at h;unfold Hid;rw[←h]
        simp[hlast,hfi]
       refine zdn [{ target:=.collected D,args:=#[] }] (fun c W=>c=zeg 130∧zbM 130=R∧Ext w W∧W.heap[D]?=some (.deferred (some []))) ?_ (S:=fun W=>W.cell? ⟨W5.heap.size,0,none⟩=some (.int .i64 last)∧W.cell? ⟨bx,0,none⟩=some (.int .i64 s.idx)∧W.cell? ⟨bx,1,none⟩=some (.int .i64 s.term)∧W.cell? ⟨bx,2,none⟩=some (.int .i64 s.sum)∧W.cell? ⟨bx,3,none⟩=some (.int .i64 s.lvl)∧W.cell? ⟨bx,4,none⟩=some (.bool s.fin)∧W.cell? ⟨bx,5,none⟩=some (.slice A' out.length c')∧W.cell? ⟨bx,6,none⟩=some (.int .i64 m.term)∧W.cell? ⟨bx,7,none⟩=some (.int .i64 m.vote)∧W.cell? ⟨w2.heap.size,5,none⟩=some (.slice (some ⟨b0,off0,none⟩) m.segs.length d)∧W.cell? ⟨b0,off0+2,none⟩=some (.int .i64 s0.first)) (by kernel_rfl) ⟨c0,p0,p1,p2,p3,p4,p5,p6,p7,n5,k2⟩ (fun _=>?_)
       ·rintro c1 ⟨T,df⟩ W hd ⟨rfl,h1,h2,h3⟩
        dsimp only at hd;subst hd
        exact zeh (R:=R1P R bt bm w) (c:=zeg 130) h3 (zfw h1.symm (by decide) rfl (zar h2 HDW.out _))
       have hold:∀ X,Ext W X→(X.cell? ⟨W5.heap.size,0,none⟩=some (.int .i64 last)∧X.cell? ⟨bx,0,none⟩=some (.int .i64 s.idx)∧X.cell? ⟨bx,1,none⟩=some (.int .i64 s.term)∧X.cell? ⟨bx,2,none⟩=some (.int .i64 s.sum)∧X.cell? ⟨bx,3,none⟩=some (.int .i64 s.lvl)∧X.cell? ⟨bx,4,none⟩=some (.bool s.fin)∧X.cell? ⟨bx,5,none⟩=some (.slice A' out.length c')∧X.cell? ⟨bx,6,none⟩=some (.int .i64 m.term)∧X.cell? ⟨bx,7,none⟩=some (.int .i64 m.vote)∧X.cell? ⟨w2.heap.size,5,none⟩=some (.slice (some ⟨b0,off0,none⟩) m.segs.length d)∧X.cell? ⟨b0,off0+2,none⟩=some (.int .i64 s0.first)):=fun X hX=>⟨hX.cell c0,hX.cell p0,hX.cell p1,hX.cell p2,hX.cell p3,hX.cell p4,hX.cell p5,hX.cell p6,hX.cell p7,hX.cell n5,hX.cell k2⟩
       have HOLD:=zhd hold;clear hold c0 p0 p1 p2 p3 p4 p5 p6 p7 n5 k2;refine tkN 0 rfl ?_;refine tkN 1 rfl ?_;refine tkN 2 rfl ?_;refine tkN 3 rfl ?_;refine tkN 4 rfl ?_;refine tkN 5 rfl ?_;refine tkN 6 rfl ?_;refine tkN 7 rfl ?_;refine tkN 8 rfl ?_;refine tkN 9 rfl ?_;refine tkN 10 rfl ?_;refine tkN 11 rfl ?_;refine tkN 12 rfl ?_;refine tkN 13 rfl ?_;refine tkN 14 rfl ?_;refine tkN 15 rfl ?_;refine tkN 16 rfl ?_;refine tkN 17 rfl ?_;refine tkN 18 rfl ?_;refine tkN 19 rfl ?_;refine tkN 20 rfl ?_
       exact mcSReada0
     ·rintro ⟨T4,df⟩ W8 ⟨hd,hsz,t1,t2,t3,t5,hgood,hE8⟩
      dsimp only at hd hsz t1 t2 t3 t5;subst hd;have hT:=zdi 79 T4 hsz
      generalize hU:(fun i=>T4.getD i undef)=U at hT
      have g1:U 1=.pointer (some ⟨bt,0,none⟩):=by rw[←hU];exact t1
      have g2:U 2=.pointer (some ⟨bm,0,none⟩):=by rw[←hU];exact t2
      have g3:U 3=.pointer (some ⟨w2.heap.size,0,none⟩):=by rw[←hU];exact t3
      have g5:U 5=.pointer (some ⟨bx,0,none⟩):=by rw[←hU];exact t5
      have hT2:T4 = #[U 0,.pointer (some ⟨bt,0,none⟩),.pointer (some ⟨bm,0,none⟩),.pointer (some ⟨w2.heap.size,0,none⟩),U 4,.pointer (some ⟨bx,0,none⟩),U 6,U 7,U 8,U 9,U 10,U 11,U 12,U 13,U 14,U 15,U 16,U 17,U 18,U 19,U 20,U 21,U 22,U 23,U 24,U 25,U 26,U 27,U 28,U 29,U 30,U 31,U 32,U 33,U 34,U 35,U 36,U 37,U 38,U 39,U 40,U 41,U 42,U 43,U 44,U 45,U 46,U 47,U 48,U 49,U 50,U 51,U 52,U 53,U 54,U 55,U 56,U 57,U 58,U 59,U 60,U 61,U 62,U 63,U 64,U 65,U 66,U 67,U 68,U 69,U 70,U 71,U 72,U 73,U 74,U 75,U 76,U 77,U 78]:=by rw[hT];show (#[U 0,U 1,U 2,U 3,U 4,U 5,U 6,U 7,U 8,U 9,U 10,U 11,U 12,U 13,U 14,U 15,U 16,U 17,U 18,U 19,U 20,U 21,U 22,U 23,U 24,U 25,U 26,U 27,U 28,U 29,U 30,U 31,U 32,U 33,U 34,U 35,U 36,U 37,U 38,U 39,U 40,U 41,U 42,U 43,U 44,U 45,U 46,U 47,U 48,U 49,U 50,U 51,U 52,U 53,U 54,U 55,U 56,U 57,U 58,U 59,U 60,U 61,U 62,U 63,U 64,U 65,U 66,U 67,U 68,U 69,U 70,U 71,U 72,U 73,U 74,U 75,U 76,U 77,U 78]:Array Value)=_;rw[g1,g2,g3,g5]
      clear hT hU hsz g1 t1 g2 t2 g3 t3 g5 t5;subst hT2
      have hx8:Blk W8 bx 56 #[.int .i64 s.idx,.int .i64 s.term,.int .i64 s.sum,.int .i64 s.lvl,.bool s.fin,.slice A' out.length c',.int .i64 m.term,.int .i64 m.vote]:=HBXW.out.ext hE8
      have hn8:Blk W8 w2.heap.size 30 #[.int .i64 m.next,.int .i64 m.term,.int .i64 m.vote,.int .i64 m.sq,.int .i64 m.sf,.slice B m.segs.length d]:=HNW.out.ext hE8
      have E8:=Ext.trans HEW.out hE8;have ht8:=HT.out.ext E8;have hm8:=HM.out.ext E8
      have hk8:W8.heap[D]?=some (.deferred (some [])):=(hE8.block D (Array.getElem?_eq_some_iff.1 HKD.out).1).trans HKD.out
      have ho8:=OwnE.ext HOW.out hE8;have hs8:=zag HGN.out (Ext.trans HEE.out hE8)
      have hnt:bx≠bt:=by have h1:=HT.out.lt;have h2:=HBXN.out;have h3:=HEN.out.size;omega
      have hnm:bx≠bm:=by have h1:=HM.out.lt;have h2:=HBXN.out;have h3:=HEN.out.size;omega
      have hnt2:w2.heap.size≠bt:=by have h1:=HT.out.lt;have h3:=HE2.out.size;omega
      have hnm2:w2.heap.size≠bm:=by have h1:=HM.out.lt;have h3:=HE2.out.size;omega
      have hdt:bt≠D:=by have h1:=HT.out.lt;have h2:=HDW.out;omega
      have hdm:bm≠D:=by have h1:=HM.out.lt;have h2:=HDW.out;omega
      obtain ⟨p0,p1,p2,p3,p4,p5,p6,p7⟩:=zbU hx8;obtain ⟨q0,q1,q2,q3,q4,q5⟩:=zap hn8;have HGOOD:=zhd hgood;have HX8:=zhd hx8;have HN8:=zhd hn8;have HE8:=zhd E8;have HT8:=zhd ht8;have HM8:=zhd hm8;have HK8:=zhd hk8;have HO8:=zhd ho8;have HS8:=zhd hs8;have HNT:=zhd (And.intro hnt (And.intro hnm (And.intro hnt2 (And.intro hnm2 (And.intro hdt hdm)))));clear hgood hx8 hn8 E8 ht8 hm8 hk8 ho8 hs8 hnt hnm hnt2 hnm2 hdt hdm hE8
      gi_wp2
      refine zc9 (S:=fun W=>W.cell? ⟨bx,0,none⟩=some (.int .i64 s.idx)∧W.cell? ⟨bx,1,none⟩=some (.int .i64 s.term)∧W.cell? ⟨bx,2,none⟩=some (.int .i64 s.sum)∧W.cell? ⟨bx,3,none⟩=some (.int .i64 s.lvl)∧W.cell? ⟨bx,4,none⟩=some (.bool s.fin)∧W.cell? ⟨bx,5,none⟩=some (.slice A' out.length c')∧W.cell? ⟨bx,6,none⟩=some (.int .i64 m.term)∧W.cell? ⟨bx,7,none⟩=some (.int .i64 m.vote)∧W.cell? ⟨w2.heap.size,0,none⟩=some (.int .i64 m.next)∧W.cell? ⟨w2.heap.size,1,none⟩=some (.int .i64 m.term)∧W.cell? ⟨w2.heap.size,2,none⟩=some (.int .i64 m.vote)∧W.cell? ⟨w2.heap.size,3,none⟩=some (.int .i64 m.sq)∧W.cell? ⟨w2.heap.size,4,none⟩=some (.int .i64 m.sf)∧W.cell? ⟨w2.heap.size,5,none⟩=some (.slice B m.segs.length d)) (by kernel_rfl) ⟨p0,p1,p2,p3,p4,p5,p6,p7,q0,q1,q2,q3,q4,q5⟩ (fun _=>?_)
      clear p0 p1 p2 p3 p4 p5 p6 p7 q0 q1 q2 q3 q4 q5;refine tkN 0 rfl ?_;refine tkN 1 rfl ?_;obtain ⟨f0,f1,f2,f3,f4,f5,f6,f7⟩:=zkp HT8.out
      obtain ⟨g0,g1,g2,g3,g4,g5,g6,g7⟩:=zbU (show Blk W8 bt 56 #[.int .i64 0,.int .i64 0,.int .i64 0,.int .i64 0,.bool false,.slice none 0 0,.int .i64 0,.int .i64 0] from HT8.out)
      refine ar1 2 rfl (fun K hK=>?_)
      go_simp
      show K _ (World.drew (zdj W8 bt (.int .i64 s.idx) (.int .i64 s.term) (.int .i64 s.sum) (.int .i64 s.lvl) (.bool s.fin) (.slice A' out.length c') (.int .i64 m.term) (.int .i64 m.vote)))
      obtain ⟨n1,n2,n3,n4,n5,n6⟩:=HNT.out
      have hD9:Ext (zdj W8 bt (.int .i64 s.idx) (.int .i64 s.term) (.int .i64 s.sum) (.int .i64 s.lvl) (.bool s.fin) (.slice A' out.length c') (.int .i64 m.term) (.int .i64 m.vote)) (World.drew (zdj W8 bt (.int .i64 s.idx) (.int .i64 s.term) (.int .i64 s.sum) (.int .i64 s.lvl) (.bool s.fin) (.slice A' out.length c') (.int .i64 m.term) (.int .i64 m.vote))):=Ext.drew (Ext.refl _)
      have HX9:=zhd ((zeR HX8.out n1 (.int .i64 s.idx) (.int .i64 s.term) (.int .i64 s.sum) (.int .i64 s.lvl) (.bool s.fin) (.slice A' out.length c') (.int .i64 m.term) (.int .i64 m.vote)).ext hD9);have HN9:=zhd ((zeR HN8.out n3 (.int .i64 s.idx) (.int .i64 s.term) (.int .i64 s.sum) (.int .i64 s.lvl) (.bool s.fin) (.slice A' out.length c') (.int .i64 m.term) (.int .i64 m.vote)).ext hD9);have HM9:=zhd ((zeR HM8.out (Ne.symm HNE.out) (.int .i64 s.idx) (.int .i64 s.term) (.int .i64 s.sum) (.int .i64 s.lvl) (.bool s.fin) (.slice A' out.length c') (.int .i64 m.term) (.int .i64 m.vote)).ext hD9)
      have HT9:=zhd ((zhb (show Blk W8 bt 56 #[.int .i64 0,.int .i64 0,.int .i64 0,.int .i64 0,.bool false,.slice none 0 0,.int .i64 0,.int .i64 0] from HT8.out) (.int .i64 s.idx) (.int .i64 s.term) (.int .i64 s.sum) (.int .i64 s.lvl) (.bool s.fin) (.slice A' out.length c') (.int .i64 m.term) (.int .i64 m.vote)).ext hD9)
      have HO9:=zhd (OwnE.ext (zfW HT8.out (by decide) HO8.out (.int .i64 s.idx) (.int .i64 s.term) (.int .i64 s.sum) (.int .i64 s.lvl) (.bool s.fin) (.slice A' out.length c') (.int .i64 m.term) (.int .i64 m.vote)) hD9);have HS9:=zhd (zag (zfW HT8.out (by decide) HS8.out (.int .i64 s.idx) (.int .i64 s.term) (.int .i64 s.sum) (.int .i64 s.lvl) (.bool s.fin) (.slice A' out.length c') (.int .i64 m.term) (.int .i64 m.vote)) hD9)
      have HK9:Hid ((World.drew (zdj W8 bt (.int .i64 s.idx) (.int .i64 s.term) (.int .i64 s.sum) (.int .i64 s.lvl) (.bool s.fin) (.slice A' out.length c') (.int .i64 m.term) (.int .i64 m.vote))).heap[D]?=some (.deferred (some []))):=zhd ((zp2 (Ne.symm n5) (.int .i64 s.idx) (.int .i64 s.term) (.int .i64 s.sum) (.int .i64 s.lvl) (.bool s.fin) (.slice A' out.length c') (.int .i64 m.term) (.int .i64 m.vote)).trans HK8.out)
      have HE9:Hid (∀ W0,Ext W0 w→W0.heap.size≤bt→Ext W0 (World.drew (zdj W8 bt (.int .i64 s.idx) (.int .i64 s.term) (.int .i64 s.sum) (.int .i64 s.lvl) (.bool s.fin) (.slice A' out.length c') (.int .i64 m.term) (.int .i64 m.vote)))):=zhd fun W0 h hb=>Ext.drew (zho (Ext.trans h HE8.out) hb (.int .i64 s.idx) (.int .i64 s.term) (.int .i64 s.sum) (.int .i64 s.lvl) (.bool s.fin) (.slice A' out.length c') (.int .i64 m.term) (.int .i64 m.vote))
      have HB9:Hid (∀ b t cs,b≠bt→Blk w b t cs→Blk (World.drew (zdj W8 bt (.int .i64 s.idx) (.int .i64 s.term) (.int .i64 s.sum) (.int .i64 s.lvl) (.bool s.fin) (.slice A' out.length c') (.int .i64 m.term) (.int .i64 m.vote))) b t cs):=zhd fun b t cs h1 h2=>(zeR (h2.ext HE8.out) h1 (.int .i64 s.idx) (.int .i64 s.term) (.int .i64 s.sum) (.int .i64 s.lvl) (.bool s.fin) (.slice A' out.length c') (.int .i64 m.term) (.int .i64 m.vote)).ext hD9
      clear hD9 f0 f1 f2 f3 f4 f5 f6 f7 g0 g1 g2 g3 g4 g5 g6 g7
      generalize (World.drew (zdj W8 bt (.int .i64 s.idx) (.int .i64 s.term) (.int .i64 s.sum) (.int .i64 s.lvl) (.bool s.fin) (.slice A' out.length c') (.int .i64 m.term) (.int .i64 m.vote)))=W9 at *
      obtain ⟨p0,p1,p2,p3,p4,p5,p6,p7⟩:=zbU HX9.out;obtain ⟨q0,q1,q2,q3,q4,q5⟩:=zap HN9.out
      refine shK hK _ _ ⟨p0,p1,p2,p3,p4,p5,p6,p7,q0,q1,q2,q3,q4,q5⟩ (fun _=>?_)
      clear p0 p1 p2 p3 p4 p5 p6 p7 q0 q1 q2 q3 q4 q5;obtain ⟨f0,f1,f2,f3,f4,f5⟩:=zpH HM9.out
      obtain ⟨g0,g1,g2,g3,g4,g5⟩:=zap (show Blk W9 bm 30 #[.int .i64 0,.int .i64 0,.int .i64 0,.int .i64 0,.int .i64 0,.slice none 0 0] from HM9.out)
      refine ar1 3 rfl (fun K hK=>?_)
      go_simp
      show K _ (zb2 W9 bm (.int .i64 m.next) (.int .i64 m.term) (.int .i64 m.vote) (.int .i64 m.sq) (.int .i64 m.sf) (.slice B m.segs.length d))
      obtain ⟨p0,p1,p2,p3,p4,p5,p6,p7⟩:=zbU (zeQ HX9.out n2 (.int .i64 m.next) (.int .i64 m.term) (.int .i64 m.vote) (.int .i64 m.sq) (.int .i64 m.sf) (.slice B m.segs.length d));obtain ⟨q0,q1,q2,q3,q4,q5⟩:=zap (zeQ HN9.out n4 (.int .i64 m.next) (.int .i64 m.term) (.int .i64 m.vote) (.int .i64 m.sq) (.int .i64 m.sf) (.slice B m.segs.length d));have HT10:=zhd (zeQ HT9.out HNE.out (.int .i64 m.next) (.int .i64 m.term) (.int .i64 m.vote) (.int .i64 m.sq) (.int .i64 m.sf) (.slice B m.segs.length d))
      have HM10:Hid (Blk (zb2 W9 bm (.int .i64 m.next) (.int .i64 m.term) (.int .i64 m.vote) (.int .i64 m.sq) (.int .i64 m.sf) (.slice B m.segs.length d)) bm 30 (mfC m (.slice B m.segs.length d))):=zhd (zde (show Blk W9 bm 30 #[.int .i64 0,.int .i64 0,.int .i64 0,.int .i64 0,.int .i64 0,.slice none 0 0] from HM9.out) (.int .i64 m.next) (.int .i64 m.term) (.int .i64 m.vote) (.int .i64 m.sq) (.int .i64 m.sf) (.slice B m.segs.length d))
      have HO10:=zhd (zc6 HM9.out (by decide) HO9.out (.int .i64 m.next) (.int .i64 m.term) (.int .i64 m.vote) (.int .i64 m.sq) (.int .i64 m.sf) (.slice B m.segs.length d));have HS10:=zhd (zc6 HM9.out (by decide) HS9.out (.int .i64 m.next) (.int .i64 m.term) (.int .i64 m.vote) (.int .i64 m.sq) (.int .i64 m.sf) (.slice B m.segs.length d))
      have HK10:Hid ((zb2 W9 bm (.int .i64 m.next) (.int .i64 m.term) (.int .i64 m.vote) (.int .i64 m.sq) (.int .i64 m.sf) (.slice B m.segs.length d)).heap[D]?=some (.deferred (some []))):=zhd ((zrN (Ne.symm n6) (.int .i64 m.next) (.int .i64 m.term) (.int .i64 m.vote) (.int .i64 m.sq) (.int .i64 m.sf) (.slice B m.segs.length d)).trans HK9.out)
      have HE10:Hid (∀ W0,Ext W0 w→W0.heap.size≤bt→W0.heap.size≤bm→Ext W0 (zb2 W9 bm (.int .i64 m.next) (.int .i64 m.term) (.int .i64 m.vote) (.int .i64 m.sq) (.int .i64 m.sf) (.slice B m.segs.length d))):=zhd fun W0 h hb hc=>zeb (HE9.out W0 h hb) hc (.int .i64 m.next) (.int .i64 m.term) (.int .i64 m.vote) (.int .i64 m.sq) (.int .i64 m.sf) (.slice B m.segs.length d)
      have HB10:Hid (∀ b t cs,b≠bt→b≠bm→Blk w b t cs→Blk (zb2 W9 bm (.int .i64 m.next) (.int .i64 m.term) (.int .i64 m.vote) (.int .i64 m.sq) (.int .i64 m.sf) (.slice B m.segs.length d)) b t cs):=zhd fun b t cs h1 h2 h3=>zeQ (HB9.out b t cs h1 h3) h2 (.int .i64 m.next) (.int .i64 m.term) (.int .i64 m.vote) (.int .i64 m.sq) (.int .i64 m.sf) (.slice B m.segs.length d)
      refine shK hK _ _ ⟨p0,p1,p2,p3,p4,p5,p6,p7,q0,q1,q2,q3,q4,q5⟩ (fun _=>?_)
      clear p0 p1 p2 p3 p4 p5 p6 p7 q0 q1 q2 q3 q4 q5 f0 f1 f2 f3 f4 f5 g0 g1 g2 g3 g4 g5;refine wpAnyH_done (by kernel_rfl) ?_ _
      generalize zb2 W9 bm (.int .i64 m.next) (.int .i64 m.term) (.int .i64 m.vote) (.int .i64 m.sq) (.int .i64 m.sf) (.slice B m.segs.length d)=W10 at *
      gi_wp2
      refine zjQ HK10.out (.tuple #[]) (results_none rfl _ _ _) ?_
      rw[←HGOOD.out];unfold R1P;rw[if_pos rfl]
      refine ⟨rfl,⟨⟨.slice A' out.length c',.slice B m.segs.length d,zjL HT10.out n5 _,zjL HM10.out n6 _,zaj (ownsRow_putObj HO10.out (.deferred none) HK10.out rfl) (by have:=HEN.out.size;omega),zaj (ownsRow_putObj HS10.out (.deferred none) HK10.out rfl) HW1.out⟩,fun W0 h1 h2 h3=>zar (HE10.out W0 h1 h2 h3) (by have:=h1.size;have:=HDW.out;omega) _,fun b t cs h1 h2 h3=>zjL (HB10.out b t cs h1 h2 h3) (by have:=h3.lt;have:=HDW.out;omega) _⟩⟩
    case pan =>
     rintro G D c' W hpn hD hi hK
     have h2:(zaQ fs m.segs).2=false:=by
      cases h:(zaQ fs m.segs).2 with
      | false=>rfl
      | true=>rw[h] at hpn;cases hpn
     rw[h2] at hpn
     obtain rfl:zeg 130=c':=by injection hpn
     have hR:zbM 130=R:=by rw[←HR4.out,zvZ h2];rfl
     refine zeh (R:=R1P R bt bm w) (c:=zeg 130) hK ?_
     exact zfw hR.symm (by decide) rfl (zar (Ext.trans HEN.out hi.e) (by have:=HEN.out.size;have:=HWN7.out;omega) _)
end Go.Proofs.YtgonhdeochgkoaaGreatDoor
