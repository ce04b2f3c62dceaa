/- Merged -/
import Derived.Test.YtgonhdeochgkoaaGreatDoorZx34
import Derived.Test.YtgonhdeochgkoaaGreatDoorZx38
set_option linter.all false
set_option maxHeartbeats 8000000
set_option maxRecDepth 100000
open Go.RowKit.Below renaming heap_setCell→P0,setCell→P1
open Go.World renaming drew→P2
open Go.Value renaming slice→P3,ownBlock→P4
open Go.Mv.Blk renaming new→P5,kept→P6
open And renaming intro→P7
open Array renaming getElem?_eq_some_iff→P8
namespace Go.Proofs.YtgonhdeochgkoaaGreatDoor
open Go.RowKit Go.Mv
/-! What Read$1 lays into the boxes of t and m -/
theorem mcSReada0 {P:Prop} (h:P:=by
 refine tkN 21 rfl ?_;refine tkN 22 rfl ?_;refine tkN 23 rfl ?_;refine tkN 24 rfl ?_
 refine ar1 25 rfl (fun K hK=>?_)
 go_simp
 refine (G8.out _ (xD (xR _))).mono ?_
 rintro e w9 ⟨rfl,KW⟩;have K7:=xT (xD (xR W)) KW
 refine shK hK _ _ (H2.out _ K7) (fun _=>?_)
 cases hrr:zbF ⟨s,out,m.term,m.vote⟩ with
 | false =>
  have Hh:Hid (zbS 130=R):=by unfold Hid;rw[←KP.out,hrr];simp
  refine tkN 26 rfl ?_
  refine ar1 27 rfl (fun K hK=>?_)
  go_simp
  refine (zaY _ _).mono ?_
  rintro e GH ⟨rfl,rfl⟩
  exact ⟨rfl,rfl,Hh.out,xT KH.out K7,(K7.block D (P8.1 HX.out).1).trans HX.out⟩
 | true =>
  have Hd:Hid ((⟨0,⟨s,out,m.term,m.vote⟩,m⟩:Rd)=R):=by unfold Hid;rw[←KP.out,hrr];simp
  refine tkN 26 rfl ?_
  refine ar1 27 rfl (fun K hK=>?_)
  go_simp
  refine (zb1 _ _).mono ?_
  rintro e GH ⟨rfl,rfl⟩
  refine shK hK _ _ (H2.out _ K7) (fun _=>?_)
  refine wpAnyH_done (by kernel_rfl) ?_ _
  exact zfu ⟨rfl,rfl,rfl,rfl,rfl,rfl,Hd.out,K7⟩):P:=h
theorem mcSReada1 {P:Prop} (h:P:=by
 dsimp only at hd;subst hd
 exact zec (R:=R1P R bt bm w) (c:=zeb 130) h3 (zfb h1.symm (by decide) rfl (zaq h2 HP.out _))):P:=h
theorem mcSReada2 {P:Prop} (h:P:=by
 refine tkN 22 rfl ?_;refine tkN 23 rfl ?_;refine tkS 24 rfl ?_;refine tkS 25 rfl ?_;refine tkN 26 rfl ?_
 refine ar1 27 rfl (fun K hK=>?_)
 go_simp
 refine (zaY _ _).mono ?_
 rintro e w9 ⟨rfl,rfl⟩
 exact ⟨rfl,rfl,Hh.out,xD KH.out,HX.out⟩):P:=h
structure zuG (w:World) (bt bm:Nat) (r:Rd) (w':World):Prop where
 ok:∃ vl vs,Blk w' bt 56 (zbT r.t vl)∧Blk w' bm 30 (mfC r.m vs)∧OwnE w' w.heap.size vl r.t.log∧OwnS w' w.heap.size vs r.m.segs
 gr:∀ W0,Ext W0 w→W0.heap.size≤bt→W0.heap.size≤bm→Ext W0 w'
 bl:∀ b t cs,b≠bt→b≠bm→Blk w b t cs→Blk w' b t cs
def R1P (r:Rd) (bt bm:Nat) (w:World) (en:Ending) (w':World):Prop:=if r.err=0 then en=.returned (.tuple #[])∧zuG w bt bm r w' else en=pan r.err∧Ext w w'
theorem zfb {r:Rd} {bt bm:Nat} {w:World} {en:Ending} {w':World} {e:Int} (h:r=zbS e) (he:e≠0) (h1:en=pan e) (h2:Ext w w'):R1P r bt bm w en w':=by
 subst h;unfold R1P
 rw[if_neg (show ¬ (zbS e).err=0 from he)]
 exact ⟨h1,h2⟩
theorem zra {W:World} {b k:Nat} (h:k≠b) (a v u x y z p q:Value):(zdj W b a v u x y z p q).heap[k]?=W.heap[k]?:=by
 unfold zdj;rw[P0 _ _ _ _ h,P0 _ _ _ _ h,P0 _ _ _ _ h,P0 _ _ _ _ h,P0 _ _ _ _ h,P0 _ _ _ _ h,P0 _ _ _ _ h,P0 _ _ _ _ h]
theorem zps (X:World) (k:Nat):X.drew.heap[k]?=X.heap[k]?:=rfl
theorem zpt {W:World} {b k:Nat} (h:k≠b) (a v u x y z p q:Value):(P2 (zdj W b a v u x y z p q)).heap[k]?=W.heap[k]?:=(zps _ k).trans (zra h a v u x y z p q)
theorem zjs {W:World} {b D:Nat} {t:TypeId} {cs:Array Value} (h:Blk W b t cs) (hD:b≠D) (o:Obj):Blk (W.putObj D o) b t cs:=(World.putObj_heap_other hD).trans h
theorem zq9 {W:World} {b k:Nat} (h:k≠b) (a v u x y z:Value):(zbY W b a v u x y z).heap[k]?=W.heap[k]?:=by
 unfold zbY;rw[P0 _ _ _ _ h,P0 _ _ _ _ h,P0 _ _ _ _ h,P0 _ _ _ _ h,P0 _ _ _ _ h,P0 _ _ _ _ h]
structure RdI (wn:World) (bx bl:Nat) (s:Sta) (term vote:Int) (G:Nat→Prop) (Ht:List (Int×Ent)) (W:World):Prop where
 ex:∃ (A:Option Addr) (c:Nat) (last:Int) (out:List Ent),Ht.foldl (zeV s.idx) (s.idx+1,[])=(last,out)∧Blk W bx 56 (zbT ⟨s,out,term,vote⟩ (.slice A out.length c))∧Blk W bl 3 #[.int .i64 last]∧OwnE W (wn.heap.size+1) (.slice A out.length c) out∧(∀ k,G k↔k=bx∨k=bl∨(P3 A out.length c).ownBlock=some k)
 e:Ext wn W
theorem zn6 {W:World} {base:Nat} {v:Value} {l:List Ent} (h:OwnE W base v l) {k:Nat} {o:Obj} (hk:v.ownBlock=some k) (ho:W.heap[k]?=some o):o.isCells=true:=by
 rcases h.2 with ⟨hn,_⟩ | ⟨g,cap,Gn,e,hb,hgg,_⟩
 ·rw[hn] at hk;cases hk
 ·rw[e] at hk
  obtain rfl:g=k:=by simpa [P4] using hk
  rw[hgg] at ho
  cases ho
  rfl
theorem RdI.ext {wn:World} {bx bl:Nat} {s:Sta} {term vote:Int} {G:Nat→Prop} {Ht:List (Int×Ent)} {W W':World} (h:RdI wn bx bl s term vote G Ht W) (hE:Ext W W'):RdI wn bx bl s term vote G Ht W':=by
 obtain ⟨⟨A,c,last,out,h1,h2,h3,h4,h5⟩,h6⟩:=h
 exact ⟨⟨A,c,last,out,h1,h2.ext hE,h3.ext hE,OwnE.ext h4 hE,h5⟩,xT h6 hE⟩
theorem zjq (fs:List Fil):∀ (l:List Sg4),(∀ s∈l,s.count≤4)→(zaQ fs l).1.length≤4*l.length
 | [],_=>Nat.zero_le _
 | s::l,h=>by
  have ih:=zjq fs l fun x hx=>h x (List.mem_cons_of_mem _ hx)
  rw[zaQ,xC]
  cases he:zbo fs s with
  | none=>simp
  | some x =>
   have h1:=zkd he;have h2:=h s List.mem_cons_self;dsimp only;rw[xL,zhq]
   have:x.length≤4:=by
    by_cases hc:s.count = -1
    ·exact (h1.1 hc).2
    ·have:=h1.2 hc;omega
   omega
theorem ztm (x:Int) (e:Sg4):∀ (l:List Sg4),l[0]?=some e→(match l with | []=>true | y::_=>decide (y.first≤x))=decide (e.first≤x)
 | [],h=>by cases h
 | y::l,h=>by cases h;rfl
theorem zu5 {fs:List Fil} {m:Mf} {i last:Int} {out:List Ent} (h2:(zaQ fs m.segs).2=true) (hf:(zaQ fs m.segs).1.foldl (zeV i) (i+1,[])=(last,out)):zeH fs m i=(out,decide (i<last)&&(match m.segs with | []=>true | s::_=>decide (s.first≤i+1))):=by
 unfold zeH;rw[zgk,if_pos h2,hf];rfl
theorem zu4 {fs:List Fil} {m:Mf} {i:Int} (h2:(zaQ fs m.segs).2=false):zeH fs m i=([],false):=by
 unfold zeH
 rw[zgk,if_neg (by rw[h2];simp)]
theorem zkF {F:Fence} {nf:Nat} {ops:Array Oper} {rest:List Oper} {o:Oper} {a:Act} {w:World} {Q:Exit→Act→World→Prop} (Gt:o.guard=none) (s x:Operand)
  (ho:o.op=.call { callee:=.builtin .append,args:=#[s,x],argTypes:=#[54,54] })
  (base:Nat) (v:Value) (bs:List Ent) (hs:a.eval s=v) (H1:OwnE w base v bs) (vx:Value) (cs:List Ent) (hx:a.eval x=vx) (hr:Es w vx cs) (Ju:0<cs.length)
  (H8:bs.length+cs.length≤2000000) (Ka:base≤w.heap.size)
  (h:∀ A c w',OwnE w' base (.slice A (bs.length+cs.length) c) (bs++cs)→zgP base w w'→w.grownBy w' v.ownBlock→((P3 A (bs.length+cs.length) c).ownBlock=v.ownBlock∨(P3 A (bs.length+cs.length) c).ownBlock=some w.heap.size)→wpListIn F nf Tryz.prog ops Q rest (a.put o.dst (.slice A (bs.length+cs.length) c)) w'):wpListIn F nf Tryz.prog ops Q (o::rest) a w:=by
 obtain ⟨i0,hi,JU,Kr,J8⟩:=info_parts zg7;obtain ⟨v',w',Ko,h1,h2⟩:=za6 (P:=Tryz.prog) w base 54 o.type 79 i0 _ 3 24 Tryz.underlying54 hi JU Kr J8 rfl (by decide) v bs.length (zap bs) H1 vx cs.length (zap cs) hr (zhm _) (by unfold maxLen;omega) (by omega) Ka
 have KY:v'.ownBlock=v.ownBlock∨v'.ownBlock=some w.heap.size:=by
  obtain ⟨hl,A,c,rfl,_,_,hc⟩:=hr;obtain ⟨b,Jb,rfl,H4⟩:=hc Ju
  have KX:∀ j,(⟨b,Jb,none⟩:Addr).add j=⟨b,Jb+j,none⟩:=by intro j;unfold Addr.add;split <;> simp_all
  exact zel (P:=Tryz.prog) w base 54 o.type 79 i0 _ 3 24 Tryz.underlying54 hi JU Kr J8 v bs.length (zap bs) H1 ⟨b,Jb,none⟩ cs.length c (zap cs) hl Ju (fun j u hu=>by rw[KX];exact H4 j u hu) (zhm _) (by unfold maxLen;omega) (by omega) Ko
 refine wpListIn_plain Gt fun K hK=>?_
 have J6:o.semAt F.round a.eval=execOp a.eval o:=by
  cases hr:F.round with
  | none=>rw[Oper.semAt_none]
  | some l=>exact Oper.semAt_some l _ o (by rw[ho];intro c hc;cases hc)
 unfold Oper.wpIn
 refine ⟨?_,?_⟩
 ·intro f hf
  simp[Oper.about,ho,resolve,Target.leads,go_sem] at hf
 rw[J6];unfold execOp;simp only[ho,resolve,invoke,builtin,Sem.run_bind,Sem.run_pure,Result.andThen_ok,List.map_toArray,List.map_cons,List.map_nil,hs,hx,Ko]
 refine hK _ _ ?_
 obtain ⟨A,c,rfl,_,_⟩:=xO (xW h1)
 refine h A c w' ?_ (fun W0 hE hb=>Ext.grownOwn hE (zai H1 hb) h2) h2 KY
 unfold OwnE
 rw[xL,show zap (bs++cs)=zap bs++zap cs from by simp[zap]]
 exact h1
theorem znn {F:Fence} {n:Nat} {P:Program} {x:Code} {a:Act} {w:World} {K:Act→World→Prop} {Q:Exit→Act→World→Prop} (G:Act→World→Prop) (h1:x.wpIn F n P (Exit.then G Q) a w) (h2:∀ a' w',G a' w'→K a' w'):x.wpIn F n P (Exit.then K Q) a w:=by
 refine wpIn_mono h1 ?_
 intro e a' w' h
 cases e <;> first | exact h2 _ _ h | exact h
attribute [local go_sem] Oper.semAt_some in
theorem zqp (v:Value) (fs:List Fil) (pl bt bm:Nat) (w:World) (hS:StW w) (hF:Fs w v fs) (hl:fs.length≤4000000) (H7:∀ f∈fs,f.2.length≤100000) (h0:w.cell? ⟨pl,0,none⟩=some v)
  (hT:Blk w bt 56 (zbT zfi (.slice none 0 0))) (hM:Blk w bm 30 (mfC mf0 (.slice none 0 0))) (JI:bt≠bm) :
  Calls Tryz.prog 59 #[.pointer (some ⟨pl,0,none⟩),.pointer (some ⟨bt,0,none⟩),.pointer (some ⟨bm,0,none⟩)] w (R1P (zbB fs) bt bm w):=by
 obtain ⟨A,c,rfl,_,_⟩:=Fs.open_ hF;obtain ⟨R,hR⟩:∃ R,zbB fs=R:=⟨_,rfl⟩;rw[hR];unfold zbB at hR;have key:=zfj (.slice A fs.length c) fs 1 0 0 42 w hS hF hl
 have HB:∀ b,zao fs (zas 1 0 0)=some b→b.length≤100000:=fun b h=>by
  obtain ⟨f,hf,rfl⟩:=ziY h;exact H7 f hf
 obtain ⟨rb,JN⟩:∃ r,zao fs (zas 1 0 0)=r:=⟨_,rfl⟩;rw[JN] at key hR HB
 have Kd:∀ f∈fs,f.2.length≤2000000:=fun f hf=>by have:=H7 f hf;omega
 have HS:=zhd hS;have HF:=zhd hF;have HT:=zhd hT;have HM:=zhd hM;have Jl:=zhd JI;have Jd:=zhd Kd;have HR:=zhd hR;have Jr:=zhd key;have K3:=zhd HB;have HL:=zhd hl;have H0:=zhd h0;clear hS hF hT hM JI H7 Kd hR key HB JN hl
 refine (callsIn_wd (ro:=none) (n:=9)).1 ?_
 refine callsIn_of_wp_marks Tryz.func59 rfl trivial ?_ rfl
 simp only[Tryz.ntmps59,List.size_toArray,xC,List.length_nil,Nat.reduceAdd,Nat.reduceSub,Array.replicate_succ,Array.replicate_zero,List.push_toArray,List.append_toArray,xI,List.cons_append]
 gi_wp2
 refine ⟨trivial,(callsIn_wd.2 Jr.out).mono ?_⟩
 rintro e w1 ⟨JM,Kx⟩
 cases rb with
 | none =>
  obtain rfl:=JM
  exact zfb HR.out.symm (by decide) rfl Kx
 | some b =>
  obtain ⟨v1,rfl,K5⟩:=JM;have hR:=HR.out;dsimp only at hR;have key:=zql v1 b w1 (HS.out.ext Kx) K5 (K3.out b rfl);obtain ⟨rm,J3⟩:∃ r,zbe b=r:=⟨_,rfl⟩;rw[J3] at key hR
  have Jv:=fun m (h:rm=some m)=>zd1 (J3.trans h)
  have K4:=zhd key;have KO:=zhd hR;have Jf:=zhd Kx;have Je:=zhd Jv;clear key hR J3 Kx K5 Jv HR K3 h0
  gi_wp2
  refine ⟨trivial,(callsIn_wd.2 K4.out).mono ?_⟩
  rintro e w2 ⟨vs,rfl,Ho,Gq⟩;have HU:=zhd (xT Jf.out Gq)
  cases rm with
  | none =>
   have hR:zbS 130=R:=KO.out
   dsimp only[Option.isSome,Option.getD] at Ho ⊢
   obtain ⟨B,d,rfl,_,_⟩:=(OwnS.sgs Ho).open_;clear Ho
   gi_wp2
   refine ⟨trivial,(callsIn_wd.2 (zaY _ _)).mono ?_⟩
   rintro e w3 ⟨rfl,rfl⟩
   exact zfb hR.symm (by decide) rfl (xA HU.out _)
  | some m =>
   obtain ⟨Kh,_⟩:=Je.out m rfl
   dsimp only[Option.isSome,Option.getD] at Ho ⊢
   have hR:=KO.out;dsimp only at hR;have HZ:=zhd hR;have HO:=zhd Kh
   have J8:w.heap.size≤w2.heap.size:=HU.out.size
   obtain ⟨B,d,rfl,_,_⟩:=(OwnS.sgs Ho).open_;have hn:=P5 w2 30 (mfC m (.slice B m.segs.length d))
   have Ky:Ext w2 (w2.alloc (.cells (mfC m (.slice B m.segs.length d)) 30)):=xA (xR _) _
   have GI:=zhd Ho;have H3:=zhd (xT HU.out Ky);have HW:=zhd (zaf Ho Ky);have HN:=zhd hn;have Gl:=zhd Jf.out.size;clear hR KO Kh Je Ho hn K4 Jr;unfold mfC at H3 HW HN Ky
   gi_wp2
   refine ⟨trivial,(callsIn_wd.2 (zb1 _ _)).mono ?_⟩
   rintro e w3 ⟨rfl,rfl⟩
   gi_wp2
   have Kw:=H3.out.cell H0.out;obtain ⟨q0,q1,q2,q3,q4,q5⟩:=zan HN.out
   have key:=fun W (h:Ext (w2.alloc (.cells #[.int .i64 m.next,.int .i64 m.term,.int .i64 m.vote,.int .i64 m.sq,.int .i64 m.sf,.slice B m.segs.length d] 30)) W)=>zo2 (.slice A fs.length c) fs m W ((HS.out.ext H3.out).ext h) ((HF.out.ext H3.out).ext h) HL.out Jd.out
   have H6:=zhd key;obtain ⟨wn,Hs⟩:∃ x,w2.alloc (.cells #[.int .i64 m.next,.int .i64 m.term,.int .i64 m.vote,.int .i64 m.sq,.int .i64 m.sf,.slice B m.segs.length d] 30)=x:=⟨_,rfl⟩
   have JT:wn.heap.size=w2.heap.size+1:=by rw[←Hs,xS]
   rw[Hs] at Kw q0 q1 q2 q3 q4 q5
   have HN:Hid (Blk wn w2.heap.size 30 (mfC m (.slice B m.segs.length d))):=by rw[←Hs];exact HN
   have H3:Hid (Ext w wn):=by rw[←Hs];exact H3
   have HW:Hid (OwnS wn w1.heap.size (.slice B m.segs.length d) m.segs):=by rw[←Hs];exact HW
   have H6:Hid (∀ W,Ext wn W→Calls Tryz.prog 63 #[.slice A fs.length c,.agg #[.int .i64 m.sq,.int .i64 m.sf]] W (zuH W (zcS fs m))):=by rw[←Hs];exact H6
   rw[Hs];have GJ:=zhd JT;clear Ky key JT Hs;obtain ⟨rs,J4⟩:∃ r,zcS fs m=r:=⟨_,rfl⟩
   have JC:∀ s,rs=some s→0≤s.idx∧s.idx≤1073741824:=fun s h=>(zpX (J4.trans h)).2
   rw[J4] at H6 HZ;have Jh:=zhd JC;clear J4 JC
   refine znn (fun a' w'=>a'.defers=[]∧a'.tmps.size=79∧a'.tmps.getD 0 undef=.pointer (some ⟨pl,0,none⟩)∧a'.tmps.getD 1 undef=.pointer (some ⟨bt,0,none⟩)∧a'.tmps.getD 2 undef=.pointer (some ⟨bm,0,none⟩)∧a'.tmps.getD 3 undef=.pointer (some ⟨w2.heap.size,0,none⟩)∧∃ (bx:Nat) (s:Sta),a'.tmps.getD 5 undef=.pointer (some ⟨bx,0,none⟩)∧rs=some s∧wn.heap.size≤bx∧Blk w' bx 56 #[.int .i64 s.idx,.int .i64 s.term,.int .i64 s.sum,.int .i64 s.lvl,.bool s.fin,.slice none 0 0,.int .i64 m.term,.int .i64 m.vote]∧Ext wn w') ?_ ?_
   ·refine zdn [] (fun c W=>c=zeb 130∧zbS 130=R∧Ext w W) ?_ (S:=fun W=>W.cell? ⟨pl,0,none⟩=some (.slice A fs.length c)∧W.cell? ⟨w2.heap.size,1,none⟩=some (.int .i64 m.term)∧W.cell? ⟨w2.heap.size,2,none⟩=some (.int .i64 m.vote)∧W.cell? ⟨w2.heap.size,3,none⟩=some (.int .i64 m.sq)∧W.cell? ⟨w2.heap.size,4,none⟩=some (.int .i64 m.sf)) (by kernel_rfl) ⟨Kw,q1,q2,q3,q4⟩ (fun _=>?_)
    ·rintro c' ⟨T,df⟩ W hd ⟨rfl,h1,h2⟩
     dsimp only at hd;subst hd
     exact zfb h1.symm (by decide) rfl h2
    have hold:∀ W,Ext wn W→W.cell? ⟨pl,0,none⟩=some (.slice A fs.length c)∧W.cell? ⟨w2.heap.size,1,none⟩=some (.int .i64 m.term)∧W.cell? ⟨w2.heap.size,2,none⟩=some (.int .i64 m.vote)∧W.cell? ⟨w2.heap.size,3,none⟩=some (.int .i64 m.sq)∧W.cell? ⟨w2.heap.size,4,none⟩=some (.int .i64 m.sf):=fun W h=>⟨h.cell Kw,h.cell q1,h.cell q2,h.cell q3,h.cell q4⟩
    have H2:=zhd hold;clear Kw q0 q1 q2 q3 q4 q5 hold;refine tkN 0 rfl ?_;refine tkN 1 rfl ?_;refine tkN 2 rfl ?_;refine tkN 4 rfl ?_;refine tkN 5 rfl ?_;refine tkN 6 rfl ?_;refine tkN 7 rfl ?_
    refine AllReadyH.two (i:=3) (j:=9) rfl rfl (by kernel_rfl) (by rfl) (by rfl) (fun K hK=>?_) (fun K hK=>?_)
    ·go_simp
     refine (H6.out _ (xD (xR _))).mono ?_
     rintro e w4 ⟨h4,KU⟩;have Hn:=xT (xD (xR wn)) KU
     cases rs with
     | none =>
      obtain rfl:=h4
      exact ⟨rfl,rfl,HZ.out,xT H3.out Hn⟩
     | some s =>
      obtain rfl:=h4
      refine shK hK _ _ (H2.out _ Hn) (fun _=>?_)
      refine tkN 8 rfl ?_
      refine ar1 9 rfl (fun K hK=>?_)
      go_simp
      have J9:=P5 w4 56 #[.int .i64 0,.int .i64 0,.int .i64 0,.int .i64 0,.bool false,.slice none 0 0,.int .i64 0,.int .i64 0]
      refine shK hK _ _ (H2.out _ (xA Hn _)) (fun _=>?_)
      obtain ⟨f0,f1,f2,f3,f4,f5,f6,f7⟩:=zj2 J9
      refine ar1 10 rfl (fun K hK=>?_)
      go_simp
      have Hl:Hid (Blk (w4.alloc (.cells #[.int .i64 s.idx,.int .i64 s.term,.int .i64 s.sum,.int .i64 s.lvl,.bool s.fin,.slice none 0 0,.int .i64 m.term,.int .i64 m.vote] 56)) w4.heap.size 56 #[.int .i64 s.idx,.int .i64 s.term,.int .i64 s.sum,.int .i64 s.lvl,.bool s.fin,.slice none 0 0,.int .i64 m.term,.int .i64 m.vote]):=zhd (P5 w4 _ _)
      have Hg:=zhd (xA Hn (.cells #[.int .i64 s.idx,.int .i64 s.term,.int .i64 s.sum,.int .i64 s.lvl,.bool s.fin,.slice none 0 0,.int .i64 m.term,.int .i64 m.vote] 56))
      refine shK hK _ _ (H2.out _ Hg.out) (fun _=>?_)
      refine wpAnyH_done (by kernel_rfl) ?_ _
      refine zfu ⟨rfl,rfl,rfl,rfl,rfl,rfl,_,s,rfl,rfl,Hn.size,Hl.out,Hg.out⟩
    ·go_simp
     have J9:=(P5 wn 56 #[.int .i64 0,.int .i64 0,.int .i64 0,.int .i64 0,.bool false,.slice none 0 0,.int .i64 0,.int .i64 0]).ext (xD (xR _))
     have KV:Ext wn (wn.alloc (.cells #[.int .i64 0,.int .i64 0,.int .i64 0,.int .i64 0,.bool false,.slice none 0 0,.int .i64 0,.int .i64 0] 56)).drew:=xD (xA (xR _) _)
     refine shK hK _ _ (H2.out _ KV) (fun _=>?_)
     refine ar1 3 rfl (fun K hK=>?_)
     go_simp
     refine (H6.out _ KV).mono ?_
     rintro e w4 ⟨h4,Hn⟩;have E4:=xT KV Hn
     cases rs with
     | none =>
      obtain rfl:=h4
      exact ⟨rfl,rfl,HZ.out,xT H3.out E4⟩
     | some s =>
      obtain rfl:=h4
      refine shK hK _ _ (H2.out _ E4) (fun _=>?_)
      refine tkN 8 rfl ?_;have Ja:=J9.ext Hn;obtain ⟨f0,f1,f2,f3,f4,f5,f6,f7⟩:=zj2 Ja;obtain ⟨g0,g1,g2,g3,g4,g5,g6,g7⟩:=zbW Ja
      refine ar1 10 rfl (fun K hK=>?_)
      go_simp
      have Hl:=zhd (zgU Ja (.int .i64 s.idx) (.int .i64 s.term) (.int .i64 s.sum) (.int .i64 s.lvl) (.bool s.fin) (.slice none 0 0) (.int .i64 m.term) (.int .i64 m.vote));have Hg:=zhd (zg4 E4 (xN _) (.int .i64 s.idx) (.int .i64 s.term) (.int .i64 s.sum) (.int .i64 s.lvl) (.bool s.fin) (.slice none 0 0) (.int .i64 m.term) (.int .i64 m.vote))
      refine shK hK _ _ (H2.out _ Hg.out) (fun _=>?_)
      refine wpAnyH_done (by kernel_rfl) ?_ _
      refine zfu ⟨rfl,rfl,rfl,rfl,rfl,rfl,_,s,rfl,rfl,xN _,Hl.out,Hg.out⟩
   ·rintro ⟨T2,df⟩ W5 ⟨hd,Ha,t0,t1,t2,t3,bx,s,t5,rfl,Hf,Hl,Hg⟩
    dsimp only at hd Ha t0 t1 t2 t3 t5;subst hd;have hT:=zdf 79 T2 Ha
    generalize hU:(fun i=>T2.getD i undef)=U at hT
    have g0:U 0=.pointer (some ⟨pl,0,none⟩):=by rw[←hU];exact t0
    have g1:U 1=.pointer (some ⟨bt,0,none⟩):=by rw[←hU];exact t1
    have g2:U 2=.pointer (some ⟨bm,0,none⟩):=by rw[←hU];exact t2
    have g3:U 3=.pointer (some ⟨w2.heap.size,0,none⟩):=by rw[←hU];exact t3
    have g5:U 5=.pointer (some ⟨bx,0,none⟩):=by rw[←hU];exact t5
    have K8:T2 = #[.pointer (some ⟨pl,0,none⟩),.pointer (some ⟨bt,0,none⟩),.pointer (some ⟨bm,0,none⟩),.pointer (some ⟨w2.heap.size,0,none⟩),U 4,.pointer (some ⟨bx,0,none⟩),U 6,U 7,U 8,U 9,U 10,U 11,U 12,U 13,U 14,U 15,U 16,U 17,U 18,U 19,U 20,U 21,U 22,U 23,U 24,U 25,U 26,U 27,U 28,U 29,U 30,U 31,U 32,U 33,U 34,U 35,U 36,U 37,U 38,U 39,U 40,U 41,U 42,U 43,U 44,U 45,U 46,U 47,U 48,U 49,U 50,U 51,U 52,U 53,U 54,U 55,U 56,U 57,U 58,U 59,U 60,U 61,U 62,U 63,U 64,U 65,U 66,U 67,U 68,U 69,U 70,U 71,U 72,U 73,U 74,U 75,U 76,U 77,U 78]:=by rw[hT];show (#[U 0,U 1,U 2,U 3,U 4,U 5,U 6,U 7,U 8,U 9,U 10,U 11,U 12,U 13,U 14,U 15,U 16,U 17,U 18,U 19,U 20,U 21,U 22,U 23,U 24,U 25,U 26,U 27,U 28,U 29,U 30,U 31,U 32,U 33,U 34,U 35,U 36,U 37,U 38,U 39,U 40,U 41,U 42,U 43,U 44,U 45,U 46,U 47,U 48,U 49,U 50,U 51,U 52,U 53,U 54,U 55,U 56,U 57,U 58,U 59,U 60,U 61,U 62,U 63,U 64,U 65,U 66,U 67,U 68,U 69,U 70,U 71,U 72,U 73,U 74,U 75,U 76,U 77,U 78]:Array Value)=_;rw[g0,g1,g2,g3,g5]
    clear hT hU Ha g0 t0 g1 t1 g2 t2 g3 t3 g5 t5;subst K8;obtain ⟨KB,KC⟩:=Jh.out s rfl;have Kp:=zi1 HO.out
    have Ki:m.segs.length≤60:=(zd8 HO.out).2.2.2.1
    have JS:wrap64 (s.idx+1)=s.idx+1:=by unfold wrap64;omega
    obtain ⟨p0,p1,p2,p3,p4,p5,p6,p7⟩:=zbW Hl;have l5:=Hg.cell (H3.out.cell H0.out)
    have J0:Blk W5 w2.heap.size 30 #[.int .i64 m.next,.int .i64 m.term,.int .i64 m.vote,.int .i64 m.sq,.int .i64 m.sf,.slice B m.segs.length d]:=Blk.ext HN.out Hg
    obtain ⟨q0,q1,q2,q3,q4,q5⟩:=zan J0
    have K9:Ext W5 (W5.alloc (.cells #[.int .i64 (s.idx+1)] 3)):=xA (xR _) _
    have l6:=K9.cell l5;obtain ⟨GB,GC,GD,GE,GF,GG⟩:=zan (J0.ext K9);have Ke:=P5 W5 3 #[.int .i64 (s.idx+1)];have Kf:=Hl.ext K9;have Ku:=zhd Hl.lt;have Jo:=zhd (xT Hg K9);have HG:=zhd Ke;have HI:=zhd Kf;have Hx:=zhd Kp;have Hw:=zhd Ki;have H5:=zhd Hf;have KJ:=zhd (P7 KB KC);have K0:=HZ.out;dsimp only at K0;have K0:=zhd K0;clear Jh J0 K9 Ke Kf Kp Ki Hf H6 HZ KB KC Hl Hg
    gi_wp2
    refine ⟨trivial,(callsIn_wd.2 (ztk _ _ _ _ m _)).mono ?_⟩
    rintro e w7 ⟨rfl,HE⟩;unfold mfC at HE
    have He:Ext (W5.alloc (.cells #[.int .i64 (s.idx+1)] 3)) w7:=by rw[←HE];exact xA (xA (xR _) _) _
    have K5:Blk w7 (W5.heap.size+1) 22 #[.slice A fs.length c]:=by
     rw[←HE]
     have:=(P5 (W5.alloc (.cells #[.int .i64 (s.idx+1)] 3)) 22 #[.slice A fs.length c]).alloc (.cells #[.int .i64 m.next,.int .i64 m.term,.int .i64 m.vote,.int .i64 m.sq,.int .i64 m.sf,.slice B m.segs.length d] 30)
     rwa [xS] at this
    have Js:Blk w7 (W5.heap.size+1+1) 30 (mfC m (.slice B m.segs.length d)):=by
     rw[←HE]
     have:=P5 ((W5.alloc (.cells #[.int .i64 (s.idx+1)] 3)).alloc (.cells #[.slice A fs.length c] 22)) 30 (mfC m (.slice B m.segs.length d))
     rwa [xS,xS] at this
    have JV:w7.heap.size=W5.heap.size+1+1+1:=by rw[←HE,xS,xS,xS]
    have KT:=zhd (xT Jo.out He);have Hc:=zhd (HI.out.ext He);have Hb:=zhd (HG.out.ext He);have JW:=zhd K5;have JX:=zhd Js
    have Kq:wn.heap.size≤w7.heap.size:=KT.out.size
    have Hy:=zhd Kq;have GK:=zhd JV;have Gg:=zhd (HS.out.ext H3.out);have G3:=zhd (HF.out.ext H3.out);have Jg:=zhd (OwnS.sgs HW.out)
    have Kg:bx≠W5.heap.size:=by have:=Ku.out;omega
    have HJ:=zhd Kg
    have Gp:RdI wn bx W5.heap.size s m.term m.vote (fun k=>k=bx∨k=W5.heap.size) [] w7:=⟨⟨none,0,s.idx+1,[],rfl,Hc.out,Hb.out,World.ownsRow_nil _ _ _ _,fun k=>by simp[P4]⟩,KT.out⟩
    have Gr:∀ k,k=bx∨k=W5.heap.size→wn.heap.size≤k∧k<W5.heap.size+1:=fun k hk=>by
     have h1:=Ku.out;have h2:=H5.out
     rcases hk with rfl | rfl
     ·exact ⟨h2,by omega⟩
     ·exact ⟨by omega,by omega⟩
    clear HE p0 p1 p2 p3 p4 p5 p6 p7 l5 l6 q0 q1 q2 q3 q4 q5 GB GC GD GE GF GG JS He K5 Js Kg HI HG Jo Hc Hb;clear Kq JV
    gi_wp2
    refine zr9 (a:=⟨_,_⟩) (n:=9) (Rp:=fun (x:Int×Ent) av _=>av = #[.int .i64 x.1,.agg #[.int .i64 x.2.t,.int .i64 x.2.k,.int .i64 x.2.v]]) (M:=fun _ _=>False) (xs:=(zaQ fs m.segs).1) (pn:=if (zaQ fs m.segs).2=true then none else some (zeb 130)) (Gok:=fun G=>∀ k,G k→wn.heap.size≤k∧k<W5.heap.size+1) (gf:=109) (lb:=#[.pointer (some ⟨W5.heap.size+1+1,0,none⟩),.pointer (some ⟨W5.heap.size+1,0,none⟩)]) ?hg ?eg ?hseq ?hMc ?hps (RdI wn bx W5.heap.size s m.term m.vote) ?hI ?hbd (fun k=>k=bx∨k=W5.heap.size) Gr Gp
     (fun x a' W=>a'.defers=[]∧a'.tmps.size=79∧a'.tmps.getD 5 undef=.pointer (some ⟨bx,0,none⟩)∧a'.tmps.getD 6 undef=.pointer (some ⟨W5.heap.size,0,none⟩)∧a'.tmps.getD 7 undef=.int .i64 x.1∧∃ nb,a'.tmps.getD 8 undef=.pointer (some ⟨nb,0,none⟩)∧Blk W nb 79 #[.int .i64 x.2.t,.int .i64 x.2.k,.int .i64 x.2.v])
     ?hAx ?assign ?body ?done ?pan
    case hg=>exact rfl
    case eg=>exact enters_of Tryz.func109 (by kernel_rfl) rfl
    case hseq=>exact fun W1 hb hs=>zso wn W1 (.slice A fs.length c) (.slice B m.segs.length d) fs m Gg.out G3.out Jg.out HL.out Jd.out Hx.out Hw.out (xT KT.out hb) _ _ _ (xN _) (JW.out.ext hb) (JX.out.ext hb)
    case hMc=>exact fun k o h=>h.elim
    case hps=>exact fun x av W h=>by rw[h];rfl
    case hI =>
     rintro G q X Y ⟨⟨A',c',last,out,h1,h2,h3,h4,h5⟩,h6⟩ hm
     exact ⟨⟨A',c',last,out,h1,hm.blkF h2,hm.blkF h3,hm.ownsRow h4 (by rintro k Gn hk (h | ⟨_,h⟩);exact h;cases h),h5⟩,hm.belowF h6 Hy.out⟩
    case hbd =>
     rintro G q X ⟨⟨A',c',last,out,h1,h2,h3,h4,h5⟩,h6⟩ k hk
     rcases (h5 k).1 hk with rfl | rfl | h
     ·exact h2.lt
     ·exact h3.lt
     ·exact (h4.lt k h).2
    case hAx =>
     rintro x a' X Y ⟨h1,h2,h3,h4,h5,nb,h6,h7⟩ hm
     exact ⟨h1,h2,h3,h4,h5,nb,h6,hm.blkF h7⟩
    case assign =>
     rintro G l' Ht x Jc W av K' hx hi Ha rfl hK;clear hx
     gi_wp2
     exact hK _ _ (Kept.refl.alloc _) (hi.ext (xA (xR _) _)) ⟨rfl,rfl,rfl,rfl,rfl,_,rfl,P5 W _ _⟩
    case body =>
     rintro G l' Ht x Jc a' W hx GM hr ⟨⟨A',c',last,out,hf,Hf,H7,H1,hg⟩,hE⟩ Ha ⟨hd,HD,t5,t6,t7,nb,t8,Kz⟩;obtain ⟨T3,df⟩:=a';dsimp only at hd HD t5 t6 t7 t8;subst hd;have Ha:=HD;clear HD;have hT:=zdf 79 T3 Ha
     generalize hU:(fun i=>T3.getD i undef)=U at hT
     have g5:U 5=.pointer (some ⟨bx,0,none⟩):=by rw[←hU];exact t5
     have g6:U 6=.pointer (some ⟨W5.heap.size,0,none⟩):=by rw[←hU];exact t6
     have g7:U 7=.int .i64 x.1:=by rw[←hU];exact t7
     have g8:U 8=.pointer (some ⟨nb,0,none⟩):=by rw[←hU];exact t8
     have K8:T3 = #[U 0,U 1,U 2,U 3,U 4,.pointer (some ⟨bx,0,none⟩),.pointer (some ⟨W5.heap.size,0,none⟩),.int .i64 x.1,.pointer (some ⟨nb,0,none⟩),U 9,U 10,U 11,U 12,U 13,U 14,U 15,U 16,U 17,U 18,U 19,U 20,U 21,U 22,U 23,U 24,U 25,U 26,U 27,U 28,U 29,U 30,U 31,U 32,U 33,U 34,U 35,U 36,U 37,U 38,U 39,U 40,U 41,U 42,U 43,U 44,U 45,U 46,U 47,U 48,U 49,U 50,U 51,U 52,U 53,U 54,U 55,U 56,U 57,U 58,U 59,U 60,U 61,U 62,U 63,U 64,U 65,U 66,U 67,U 68,U 69,U 70,U 71,U 72,U 73,U 74,U 75,U 76,U 77,U 78]:=by rw[hT];show (#[U 0,U 1,U 2,U 3,U 4,U 5,U 6,U 7,U 8,U 9,U 10,U 11,U 12,U 13,U 14,U 15,U 16,U 17,U 18,U 19,U 20,U 21,U 22,U 23,U 24,U 25,U 26,U 27,U 28,U 29,U 30,U 31,U 32,U 33,U 34,U 35,U 36,U 37,U 38,U 39,U 40,U 41,U 42,U 43,U 44,U 45,U 46,U 47,U 48,U 49,U 50,U 51,U 52,U 53,U 54,U 55,U 56,U 57,U 58,U 59,U 60,U 61,U 62,U 63,U 64,U 65,U 66,U 67,U 68,U 69,U 70,U 71,U 72,U 73,U 74,U 75,U 76,U 77,U 78]:Array Value)=_;rw[g5,g6,g7,g8]
     clear hT hU Ha g5 t5 g6 t6 g7 t7 g8 t8;subst K8
     have JJ:nb≠W5.heap.size:=by
      rintro rfl;have h1:=Kz.symm.trans H7
      simp at h1
     have Gx:nb≠bx:=by
      rintro rfl;have h1:=Kz.symm.trans Hf
      simp[zbT] at h1
     have HA:=Hf.other HJ.out 0 (.int .i64 x.1);have Kj:=Kz.other JJ 0 (.int .i64 x.1)
     have Kc:Blk (W.setCell ⟨W5.heap.size,0,none⟩ (.int .i64 x.1)) W5.heap.size 3 #[.int .i64 x.1]:=H7.set 0 (.int .i64 x.1)
     have Hq:OwnE (W.setCell ⟨W5.heap.size,0,none⟩ (.int .i64 x.1)) (wn.heap.size+1) (.slice A' out.length c') out:=H1.kept (zab _ W5.heap.size 0 _) (.inr (H7.not_row (by decide) H1).symm)
     have K6:Ext wn (W.setCell ⟨W5.heap.size,0,none⟩ (.int .i64 x.1)):=P1 (p:=⟨W5.heap.size,0,none⟩) hE (by have h1:=Ku.out;have h2:=H5.out;show wn.heap.size≤W5.heap.size;omega) _
     have JD:Kept (zad (KG G) w7.heap.size) W (W.setCell ⟨W5.heap.size,0,none⟩ (.int .i64 x.1)):=Kept.refl.setCell (fun o _ hc=>by
      rintro (h | h)
      ·exact h.2 ((hg _).2 (.inr (.inl rfl)))
      ·rw[hc] at h;exact absurd h.2 (by simp)) _
     have JP:(Ht++[x]).foldl (zeV s.idx) (s.idx+1,[])=(x.1,if s.idx<x.1 then out++[x.2] else out):=by
      rw[List.foldl_append,hf];rfl
     have KA:out.length≤240:=by
      have h1:=zjA s.idx Ht (s.idx+1,[]);rw[hf] at h1
      have h2:=zjq fs m.segs fun s hs=>(Hx.out s hs).2.2.2
      have h3:=congrArg List.length hx;rw[xL,xC] at h3;have h4:=Hw.out
      simp at h1
      omega
     have JA:∀ k,(k=bx∨k=W5.heap.size∨(P3 A' out.length c').ownBlock=some k)→G k:=fun k h=>(hg k).2 h
     have c0:=H7.cell 0 rfl;have GL:=H7.frozen 0;have HH:=zhd HA;have Hu:=zhd Kc;have Jm:=zhd Hq;have HQ:=zhd K6;have Ji:=zhd JD;have Jn:=zhd JP;have Gf:=zhd KA;have HV:=zhd JA;have G4:=zhd hg;have HK:=zhd Hf;have KN:=zhd H1
     have Kr:(W.setCell ⟨W5.heap.size,0,none⟩ (.int .i64 x.1)).heap.size=W.heap.size:=by simp
     have Jq:=zhd Kr;obtain ⟨p0,p1,p2,p3,p4,p5,p6,p7⟩:=zbW HA;obtain ⟨y0,y1,y2⟩:=zds Kj;clear hx hr hf Hf H7 H1 hg hE Kz HA Kj Kc Hq K6 JD JP KA JA Kr JJ Gx
     by_cases hgt:s.idx<x.1
     ·have He:Ext (W.setCell ⟨W5.heap.size,0,none⟩ (.int .i64 x.1)) ((W.setCell ⟨W5.heap.size,0,none⟩ (.int .i64 x.1)).alloc (.cells #[.int .i64 x.2.t,.int .i64 x.2.k,.int .i64 x.2.v] 79)):=xA (xR _) _
      have KZ:=zqU (W.setCell ⟨W5.heap.size,0,none⟩ (.int .i64 x.1)) x.2;rw[Jq.out] at KZ;have G2:=zhd KZ;have KM:=zhd (OwnE.ext Jm.out He);have K2:=zhd He;have Hj:=HH.out.ext He;obtain ⟨g0,g1,g2,g3,g4,g5,g6,g7⟩:=zbW Hj;have f5:=Hj.frozen 5;have Hc:=zhd Hj;have Hb:=zhd (Hu.out.ext He);have JZ:=zhd (xT HQ.out He)
      have JQ:wn.heap.size+1≤((W.setCell ⟨W5.heap.size,0,none⟩ (.int .i64 x.1)).alloc (.cells #[.int .i64 x.2.t,.int .i64 x.2.k,.int .i64 x.2.v] 79)).heap.size:=by
       have h1:=Ku.out;have h2:=H5.out;have h3:=Hu.out.lt;have h4:=K2.out.size;omega
      have Gj:=zhd JQ;clear He KZ Hj JQ
      gi_wp2_with (gi_at_builtin;refine zkF rfl (.tmp 44) (.tmp 46) rfl (wn.heap.size+1) _ out rfl KM.out _ [x.2] rfl G2.out (by simp) (by have:=Gf.out;simp;omega) Gj.out ?_;intro A8 c8 w8 Kn Jt Hk Kb;have Ks:=zhd (P6 Hc.out Hk (Hc.out.not_row (by decide) KM.out));have G9:=zhd (P6 Hb.out Hk (Hb.out.not_row (by decide) KM.out));have Kv:=zhd Kn;have Kt:=zhd (Jt _ JZ.out (by omega));have KI:=zhd Hk;have KE:=zhd Kb;clear Kn Jt Hk Kb g0 g1 g2 g3 g4 g5 g6 g7 f5;obtain ⟨g0,g1,g2,g3,g4,g5,g6,g7⟩:=zbW Ks.out;have f5:=Ks.out.frozen 5)
      have Gu:=(Ji.out.alloc (.cells #[.int .i64 x.2.t,.int .i64 x.2.k,.int .i64 x.2.v] 79)).grown KI.out (fun k o hk ho=>by
       rintro (h | h)
       ·exact h.2 (HV.out k (.inr (.inr hk)))
       ·have:=zn6 KN.out hk ho
        rw[this] at h;exact absurd h.2 (by simp))
      have Gs:Blk (w8.setCell ⟨bx,5,none⟩ (.slice A8 (out.length+[x.2].length) c8)) bx 56 (zbT ⟨s,out++[x.2],m.term,m.vote⟩ (.slice A8 (out++[x.2]).length c8)):=by
       rw[xL]
       exact Ks.out.set 5 _
      refine ⟨Gu.setCell (fun o _ hc=>?_) _,fun k=>k=bx∨k=W5.heap.size∨(P3 A8 (out++[x.2]).length c8).ownBlock=some k,fun k hk=>?_,⟨⟨A8,c8,x.1,out++[x.2],?_,Gs,G9.out.other (Ne.symm HJ.out) 5 _,?_,fun k=>Iff.rfl⟩,P1 (p:=⟨bx,5,none⟩) Kt.out H5.out _⟩⟩
      ·rintro (h | h)
       ·exact h.2 (HV.out _ (.inl rfl))
       ·rw[hc] at h;exact absurd h.2 (by simp)
      ·rw[xL] at hk
       rcases hk with rfl | rfl | hk
       ·exact .inl (HV.out _ (.inl rfl))
       ·exact .inl (HV.out _ (.inr (.inl rfl)))
       ·rcases KE.out with hh | hh
        ·rw[hh] at hk;exact .inl (HV.out _ (.inr (.inr hk)))
        ·rw[hh] at hk
         injection hk with hk
         have h1:=K2.out.size;have h2:=Jq.out
         exact .inr (by omega)
      ·rw[Jn.out,if_pos hgt]
      ·rw[xL]
       exact Kv.out.kept (zab _ bx 5 _) (.inr (Ks.out.not_row (by decide) Kv.out).symm)
     ·gi_wp2
      refine ⟨Ji.out,G,fun k h=>.inl h,⟨⟨A',c',x.1,out,?_,HH.out,Hu.out,Jm.out,G4.out⟩,HQ.out⟩⟩
      rw[Jn.out,if_neg (by omega)]
    case done =>
     rintro G D W Hr hD ⟨⟨A',c',last,out,hf,Hf,H7,H1,_⟩,hE⟩ hK
     have h2:(zaQ fs m.segs).2=true:=by
      cases h:(zaQ fs m.segs).2 with
      | true=>rfl
      | false=>rw[h] at Hr;cases Hr
     have hR:=K0.out;rw[zu5 h2 hf] at hR;dsimp only at hR;have Jz:=xT H3.out hE
     have Jy:w.heap.size≤D:=by have:=H3.out.size;have:=Hy.out;omega
     have KA:out.length≤240:=by
      have h1:=zjA s.idx (zaQ fs m.segs).1 (s.idx+1,[]);rw[hf] at h1
      have h2:=zjq fs m.segs fun s hs=>(Hx.out s hs).2.2.2
      have h4:=Hw.out
      simp at h1
      omega
     have JF:=fun X (hX:Ext W X)=>zo5 ⟨s,out,m.term,m.vote⟩ (.slice A' out.length c') X (Es.ext (OwnE.es H1) hX) (show out.length≤4000000 by omega)
     have J2:=HN.out.ext hE;have JB:=Jg.out.ext hE;obtain ⟨KB,KC⟩:=KJ.out
     have JS:wrap64 (s.idx+1)=s.idx+1:=by unfold wrap64;omega
     have GN:IntKind.i64.wrap (s.idx+1)=s.idx+1:=by rw[IntKind.wrap_i64];omega
     have c0:=H7.cell 0 rfl
     obtain ⟨p0,p1,p2,p3,p4,p5,p6,p7⟩:=zbW (show Blk W bx 56 #[.int .i64 s.idx,.int .i64 s.term,.int .i64 s.sum,.int .i64 s.lvl,.bool s.fin,.slice A' out.length c',.int .i64 m.term,.int .i64 m.vote] from Hf)
     obtain ⟨_,_,_,_,_,n5⟩:=zan (show Blk W w2.heap.size 30 #[.int .i64 m.next,.int .i64 m.term,.int .i64 m.vote,.int .i64 m.sq,.int .i64 m.sf,.slice B m.segs.length d] from J2)
     have HX:=zhd hK;have Hi:=zhd hR;have KH:=zhd Jz;have HP:=zhd Jy;have G8:=zhd JF;have Gd:=zhd J2;have G5:=zhd JB;have HK:=zhd Hf;have KN:=zhd H1;have G1:=zhd hE;clear hK hR Jz Jy JF J2 JB Hf H1 hE hf H7 Hr KA h2 KB KC
     gi_wp2
     refine znn (fun a' w'=>a'.defers=[{ target:=.collected D,args:=#[] }]∧a'.tmps.size=79∧a'.tmps.getD 1 undef=.pointer (some ⟨bt,0,none⟩)∧a'.tmps.getD 2 undef=.pointer (some ⟨bm,0,none⟩)∧a'.tmps.getD 3 undef=.pointer (some ⟨w2.heap.size,0,none⟩)∧a'.tmps.getD 5 undef=.pointer (some ⟨bx,0,none⟩)∧(⟨0,⟨s,out,m.term,m.vote⟩,m⟩:Rd)=R∧Ext W w') ?_ ?_
     ·by_cases hlast:s.idx<last
      case neg =>
       have Hh:Hid (zbS 130=R):=by unfold Hid;rw[←Hi.out];simp[hlast]
       refine zdn [{ target:=.collected D,args:=#[] }] (fun c W=>c=zeb 130∧zbS 130=R∧Ext w W∧W.heap[D]?=some (.deferred (some []))) ?_ (S:=fun W=>W.cell? ⟨W5.heap.size,0,none⟩=some (.int .i64 last)∧W.cell? ⟨bx,0,none⟩=some (.int .i64 s.idx)∧W.cell? ⟨bx,1,none⟩=some (.int .i64 s.term)∧W.cell? ⟨bx,2,none⟩=some (.int .i64 s.sum)∧W.cell? ⟨bx,3,none⟩=some (.int .i64 s.lvl)∧W.cell? ⟨bx,4,none⟩=some (.bool s.fin)∧W.cell? ⟨bx,5,none⟩=some (.slice A' out.length c')∧W.cell? ⟨bx,6,none⟩=some (.int .i64 m.term)∧W.cell? ⟨bx,7,none⟩=some (.int .i64 m.vote)∧W.cell? ⟨w2.heap.size,5,none⟩=some (.slice B m.segs.length d)) (by kernel_rfl) ⟨c0,p0,p1,p2,p3,p4,p5,p6,p7,n5⟩ (fun _=>?_)
       ·rintro c1 ⟨T,df⟩ W hd ⟨rfl,h1,h2,h3⟩
        exact mcSReada1
       clear c0 p0 p1 p2 p3 p4 p5 p6 p7 n5;refine tkN 0 rfl ?_;refine tkN 1 rfl ?_;refine tkN 2 rfl ?_;refine tkN 3 rfl ?_;refine tkN 4 rfl ?_;refine tkN 5 rfl ?_;refine tkS 6 rfl ?_;refine tkS 7 rfl ?_;refine tkS 8 rfl ?_;refine tkS 9 rfl ?_;refine tkS 10 rfl ?_;refine tkS 11 rfl ?_;refine tkS 12 rfl ?_;refine tkS 13 rfl ?_;refine tkS 14 rfl ?_;refine tkS 15 rfl ?_;refine tkS 16 rfl ?_;refine tkS 17 rfl ?_;refine tkS 18 rfl ?_;refine tkS 19 rfl ?_;refine tkS 20 rfl ?_;refine tkS 21 rfl ?_
       exact mcSReada2
      by_cases H8:m.segs.length=0
      ·have Kk:m.segs=[]:=List.length_eq_zero_iff.1 H8
       have KP:Hid ((if zbF ⟨s,out,m.term,m.vote⟩=true then (⟨0,⟨s,out,m.term,m.vote⟩,m⟩:Rd) else zbS 130)=R):=by
        have h:=Hi.out;rw[Kk] at h;unfold Hid;rw[←h]
        simp[hlast]
       have Gv:((m.segs.length:Int)==0)=true:=by simpa using H8
       clear Kk H8
       refine zdn [{ target:=.collected D,args:=#[] }] (fun c W=>c=zeb 130∧zbS 130=R∧Ext w W∧W.heap[D]?=some (.deferred (some []))) ?_ (S:=fun W=>W.cell? ⟨W5.heap.size,0,none⟩=some (.int .i64 last)∧W.cell? ⟨bx,0,none⟩=some (.int .i64 s.idx)∧W.cell? ⟨bx,1,none⟩=some (.int .i64 s.term)∧W.cell? ⟨bx,2,none⟩=some (.int .i64 s.sum)∧W.cell? ⟨bx,3,none⟩=some (.int .i64 s.lvl)∧W.cell? ⟨bx,4,none⟩=some (.bool s.fin)∧W.cell? ⟨bx,5,none⟩=some (.slice A' out.length c')∧W.cell? ⟨bx,6,none⟩=some (.int .i64 m.term)∧W.cell? ⟨bx,7,none⟩=some (.int .i64 m.vote)∧W.cell? ⟨w2.heap.size,5,none⟩=some (.slice B m.segs.length d)) (by kernel_rfl) ⟨c0,p0,p1,p2,p3,p4,p5,p6,p7,n5⟩ (fun _=>?_)
       ·rintro c1 ⟨T,df⟩ W hd ⟨rfl,h1,h2,h3⟩
        exact mcSReada1
       have hold:∀ X,Ext W X→(X.cell? ⟨W5.heap.size,0,none⟩=some (.int .i64 last)∧X.cell? ⟨bx,0,none⟩=some (.int .i64 s.idx)∧X.cell? ⟨bx,1,none⟩=some (.int .i64 s.term)∧X.cell? ⟨bx,2,none⟩=some (.int .i64 s.sum)∧X.cell? ⟨bx,3,none⟩=some (.int .i64 s.lvl)∧X.cell? ⟨bx,4,none⟩=some (.bool s.fin)∧X.cell? ⟨bx,5,none⟩=some (.slice A' out.length c')∧X.cell? ⟨bx,6,none⟩=some (.int .i64 m.term)∧X.cell? ⟨bx,7,none⟩=some (.int .i64 m.vote)∧X.cell? ⟨w2.heap.size,5,none⟩=some (.slice B m.segs.length d)):=fun X hX=>⟨hX.cell c0,hX.cell p0,hX.cell p1,hX.cell p2,hX.cell p3,hX.cell p4,hX.cell p5,hX.cell p6,hX.cell p7,hX.cell n5⟩
       have H2:=zhd hold;clear hold c0 p0 p1 p2 p3 p4 p5 p6 p7 n5;refine tkN 0 rfl ?_;refine tkN 1 rfl ?_;refine tkN 2 rfl ?_;refine tkN 3 rfl ?_;refine tkN 4 rfl ?_;refine tkN 5 rfl ?_;refine tkN 6 rfl ?_;refine tkN 7 rfl ?_;refine tkN 8 rfl ?_;refine tkN 9 rfl ?_;refine tkN 10 rfl ?_;refine tkS 11 rfl ?_;refine tkS 12 rfl ?_;refine tkS 13 rfl ?_;refine tkS 14 rfl ?_;refine tkS 15 rfl ?_;refine tkS 16 rfl ?_;refine tkS 17 rfl ?_;refine tkS 18 rfl ?_;refine tkS 19 rfl ?_;refine tkS 20 rfl ?_
       exact mcSReada0
      ·obtain ⟨_,b0,H9,rfl,H4⟩:=Sgs.at_ G5.out (by omega)
       obtain ⟨Gy,Gz,k2,GA⟩:=H4 0 (by omega);obtain ⟨s0,J5⟩:∃ x,m.segs[0]'(by omega)=x:=⟨_,rfl⟩;rw[J5] at k2;rw[Nat.zero_mul,Nat.add_zero] at k2
       have Gv:((m.segs.length:Int)==0)=false:=by simpa using H8
       have Gw:0<m.segs.length:=by omega
       have JH:(match m.segs with | []=>true | x::_=>decide (x.first≤s.idx+1))=decide (s0.first≤s.idx+1):=by
        exact ztm _ _ _ (by rw[List.getElem?_eq_getElem Gw,J5])
       have Jj:=zhd JH;clear H4 Gy Gz GA J5 H8 JH
       by_cases hfi:s0.first≤s.idx+1
       case neg =>
        have Hh:Hid (zbS 130=R):=by unfold Hid;rw[←Hi.out,Jj.out];simp[hlast,hfi]
        refine zdn [{ target:=.collected D,args:=#[] }] (fun c W=>c=zeb 130∧zbS 130=R∧Ext w W∧W.heap[D]?=some (.deferred (some []))) ?_ (S:=fun W=>W.cell? ⟨W5.heap.size,0,none⟩=some (.int .i64 last)∧W.cell? ⟨bx,0,none⟩=some (.int .i64 s.idx)∧W.cell? ⟨bx,1,none⟩=some (.int .i64 s.term)∧W.cell? ⟨bx,2,none⟩=some (.int .i64 s.sum)∧W.cell? ⟨bx,3,none⟩=some (.int .i64 s.lvl)∧W.cell? ⟨bx,4,none⟩=some (.bool s.fin)∧W.cell? ⟨bx,5,none⟩=some (.slice A' out.length c')∧W.cell? ⟨bx,6,none⟩=some (.int .i64 m.term)∧W.cell? ⟨bx,7,none⟩=some (.int .i64 m.vote)∧W.cell? ⟨w2.heap.size,5,none⟩=some (.slice (some ⟨b0,H9,none⟩) m.segs.length d)∧W.cell? ⟨b0,H9+2,none⟩=some (.int .i64 s0.first)) (by kernel_rfl) ⟨c0,p0,p1,p2,p3,p4,p5,p6,p7,n5,k2⟩ (fun _=>?_)
        ·rintro c1 ⟨T,df⟩ W hd ⟨rfl,h1,h2,h3⟩
         exact mcSReada1
        clear c0 p0 p1 p2 p3 p4 p5 p6 p7 n5 k2;refine tkN 0 rfl ?_;refine tkN 1 rfl ?_;refine tkN 2 rfl ?_;refine tkN 3 rfl ?_;refine tkN 4 rfl ?_;refine tkN 5 rfl ?_;refine tkN 6 rfl ?_;refine tkN 7 rfl ?_;refine tkN 8 rfl ?_;refine tkN 9 rfl ?_;refine tkN 10 rfl ?_;refine tkN 11 rfl ?_;refine tkN 12 rfl ?_;refine tkN 13 rfl ?_;refine tkN 14 rfl ?_;refine tkN 15 rfl ?_;refine tkN 16 rfl ?_;refine tkN 17 rfl ?_;refine tkN 18 rfl ?_;refine tkN 19 rfl ?_;refine tkN 20 rfl ?_;refine tkN 21 rfl ?_
        exact mcSReada2
       have KP:Hid ((if zbF ⟨s,out,m.term,m.vote⟩=true then (⟨0,⟨s,out,m.term,m.vote⟩,m⟩:Rd) else zbS 130)=R):=by
        have h:=Hi.out;rw[Jj.out] at h;unfold Hid;rw[←h]
        simp[hlast,hfi]
       refine zdn [{ target:=.collected D,args:=#[] }] (fun c W=>c=zeb 130∧zbS 130=R∧Ext w W∧W.heap[D]?=some (.deferred (some []))) ?_ (S:=fun W=>W.cell? ⟨W5.heap.size,0,none⟩=some (.int .i64 last)∧W.cell? ⟨bx,0,none⟩=some (.int .i64 s.idx)∧W.cell? ⟨bx,1,none⟩=some (.int .i64 s.term)∧W.cell? ⟨bx,2,none⟩=some (.int .i64 s.sum)∧W.cell? ⟨bx,3,none⟩=some (.int .i64 s.lvl)∧W.cell? ⟨bx,4,none⟩=some (.bool s.fin)∧W.cell? ⟨bx,5,none⟩=some (.slice A' out.length c')∧W.cell? ⟨bx,6,none⟩=some (.int .i64 m.term)∧W.cell? ⟨bx,7,none⟩=some (.int .i64 m.vote)∧W.cell? ⟨w2.heap.size,5,none⟩=some (.slice (some ⟨b0,H9,none⟩) m.segs.length d)∧W.cell? ⟨b0,H9+2,none⟩=some (.int .i64 s0.first)) (by kernel_rfl) ⟨c0,p0,p1,p2,p3,p4,p5,p6,p7,n5,k2⟩ (fun _=>?_)
       ·rintro c1 ⟨T,df⟩ W hd ⟨rfl,h1,h2,h3⟩
        exact mcSReada1
       have hold:∀ X,Ext W X→(X.cell? ⟨W5.heap.size,0,none⟩=some (.int .i64 last)∧X.cell? ⟨bx,0,none⟩=some (.int .i64 s.idx)∧X.cell? ⟨bx,1,none⟩=some (.int .i64 s.term)∧X.cell? ⟨bx,2,none⟩=some (.int .i64 s.sum)∧X.cell? ⟨bx,3,none⟩=some (.int .i64 s.lvl)∧X.cell? ⟨bx,4,none⟩=some (.bool s.fin)∧X.cell? ⟨bx,5,none⟩=some (.slice A' out.length c')∧X.cell? ⟨bx,6,none⟩=some (.int .i64 m.term)∧X.cell? ⟨bx,7,none⟩=some (.int .i64 m.vote)∧X.cell? ⟨w2.heap.size,5,none⟩=some (.slice (some ⟨b0,H9,none⟩) m.segs.length d)∧X.cell? ⟨b0,H9+2,none⟩=some (.int .i64 s0.first)):=fun X hX=>⟨hX.cell c0,hX.cell p0,hX.cell p1,hX.cell p2,hX.cell p3,hX.cell p4,hX.cell p5,hX.cell p6,hX.cell p7,hX.cell n5,hX.cell k2⟩
       have H2:=zhd hold;clear hold c0 p0 p1 p2 p3 p4 p5 p6 p7 n5 k2;refine tkN 0 rfl ?_;refine tkN 1 rfl ?_;refine tkN 2 rfl ?_;refine tkN 3 rfl ?_;refine tkN 4 rfl ?_;refine tkN 5 rfl ?_;refine tkN 6 rfl ?_;refine tkN 7 rfl ?_;refine tkN 8 rfl ?_;refine tkN 9 rfl ?_;refine tkN 10 rfl ?_;refine tkN 11 rfl ?_;refine tkN 12 rfl ?_;refine tkN 13 rfl ?_;refine tkN 14 rfl ?_;refine tkN 15 rfl ?_;refine tkN 16 rfl ?_;refine tkN 17 rfl ?_;refine tkN 18 rfl ?_;refine tkN 19 rfl ?_;refine tkN 20 rfl ?_
       exact mcSReada0
     ·rintro ⟨T4,df⟩ W8 ⟨hd,Ha,t1,t2,t3,t5,Hp,Hz⟩
      dsimp only at hd Ha t1 t2 t3 t5;subst hd;have hT:=zdf 79 T4 Ha
      generalize hU:(fun i=>T4.getD i undef)=U at hT
      have g1:U 1=.pointer (some ⟨bt,0,none⟩):=by rw[←hU];exact t1
      have g2:U 2=.pointer (some ⟨bm,0,none⟩):=by rw[←hU];exact t2
      have g3:U 3=.pointer (some ⟨w2.heap.size,0,none⟩):=by rw[←hU];exact t3
      have g5:U 5=.pointer (some ⟨bx,0,none⟩):=by rw[←hU];exact t5
      have K8:T4 = #[U 0,.pointer (some ⟨bt,0,none⟩),.pointer (some ⟨bm,0,none⟩),.pointer (some ⟨w2.heap.size,0,none⟩),U 4,.pointer (some ⟨bx,0,none⟩),U 6,U 7,U 8,U 9,U 10,U 11,U 12,U 13,U 14,U 15,U 16,U 17,U 18,U 19,U 20,U 21,U 22,U 23,U 24,U 25,U 26,U 27,U 28,U 29,U 30,U 31,U 32,U 33,U 34,U 35,U 36,U 37,U 38,U 39,U 40,U 41,U 42,U 43,U 44,U 45,U 46,U 47,U 48,U 49,U 50,U 51,U 52,U 53,U 54,U 55,U 56,U 57,U 58,U 59,U 60,U 61,U 62,U 63,U 64,U 65,U 66,U 67,U 68,U 69,U 70,U 71,U 72,U 73,U 74,U 75,U 76,U 77,U 78]:=by rw[hT];show (#[U 0,U 1,U 2,U 3,U 4,U 5,U 6,U 7,U 8,U 9,U 10,U 11,U 12,U 13,U 14,U 15,U 16,U 17,U 18,U 19,U 20,U 21,U 22,U 23,U 24,U 25,U 26,U 27,U 28,U 29,U 30,U 31,U 32,U 33,U 34,U 35,U 36,U 37,U 38,U 39,U 40,U 41,U 42,U 43,U 44,U 45,U 46,U 47,U 48,U 49,U 50,U 51,U 52,U 53,U 54,U 55,U 56,U 57,U 58,U 59,U 60,U 61,U 62,U 63,U 64,U 65,U 66,U 67,U 68,U 69,U 70,U 71,U 72,U 73,U 74,U 75,U 76,U 77,U 78]:Array Value)=_;rw[g1,g2,g3,g5]
      clear hT hU Ha g1 t1 g2 t2 g3 t3 g5 t5;subst K8
      have J7:Blk W8 bx 56 #[.int .i64 s.idx,.int .i64 s.term,.int .i64 s.sum,.int .i64 s.lvl,.bool s.fin,.slice A' out.length c',.int .i64 m.term,.int .i64 m.vote]:=HK.out.ext Hz
      have J1:Blk W8 w2.heap.size 30 #[.int .i64 m.next,.int .i64 m.term,.int .i64 m.vote,.int .i64 m.sq,.int .i64 m.sf,.slice B m.segs.length d]:=Gd.out.ext Hz
      have E8:=xT KH.out Hz;have JR:=HT.out.ext E8;have JG:=HM.out.ext E8
      have JE:W8.heap[D]?=some (.deferred (some [])):=(Hz.block D (P8.1 HX.out).1).trans HX.out
      have Kn:=OwnE.ext KN.out Hz;have JO:=zaf HW.out (xT G1.out Hz)
      have JL:bx≠bt:=by have h1:=HT.out.lt;have h2:=H5.out;have h3:=H3.out.size;omega
      have JK:bx≠bm:=by have h1:=HM.out.lt;have h2:=H5.out;have h3:=H3.out.size;omega
      have Km:w2.heap.size≠bt:=by have h1:=HT.out.lt;have h3:=HU.out.size;omega
      have Kl:w2.heap.size≠bm:=by have h1:=HM.out.lt;have h3:=HU.out.size;omega
      have Jx:bt≠D:=by have h1:=HT.out.lt;have h2:=HP.out;omega
      have Jw:bm≠D:=by have h1:=HM.out.lt;have h2:=HP.out;omega
      obtain ⟨p0,p1,p2,p3,p4,p5,p6,p7⟩:=zbW J7;obtain ⟨q0,q1,q2,q3,q4,q5⟩:=zan J1;have Hd:=zhd Hp;have Gm:=zhd J7;have Gb:=zhd J1;have Kt:=zhd E8;have K1:=zhd JR;have Ga:=zhd JG;have G6:=zhd JE;have Kv:=zhd Kn;have Gh:=zhd JO;have Gc:=zhd (P7 JL (P7 JK (P7 Km (P7 Kl (P7 Jx Jw)))));clear Hp J7 J1 E8 JR JG JE Kn JO JL JK Km Kl Jx Jw Hz
      gi_wp2
      refine zc8 (S:=fun W=>W.cell? ⟨bx,0,none⟩=some (.int .i64 s.idx)∧W.cell? ⟨bx,1,none⟩=some (.int .i64 s.term)∧W.cell? ⟨bx,2,none⟩=some (.int .i64 s.sum)∧W.cell? ⟨bx,3,none⟩=some (.int .i64 s.lvl)∧W.cell? ⟨bx,4,none⟩=some (.bool s.fin)∧W.cell? ⟨bx,5,none⟩=some (.slice A' out.length c')∧W.cell? ⟨bx,6,none⟩=some (.int .i64 m.term)∧W.cell? ⟨bx,7,none⟩=some (.int .i64 m.vote)∧W.cell? ⟨w2.heap.size,0,none⟩=some (.int .i64 m.next)∧W.cell? ⟨w2.heap.size,1,none⟩=some (.int .i64 m.term)∧W.cell? ⟨w2.heap.size,2,none⟩=some (.int .i64 m.vote)∧W.cell? ⟨w2.heap.size,3,none⟩=some (.int .i64 m.sq)∧W.cell? ⟨w2.heap.size,4,none⟩=some (.int .i64 m.sf)∧W.cell? ⟨w2.heap.size,5,none⟩=some (.slice B m.segs.length d)) (by kernel_rfl) ⟨p0,p1,p2,p3,p4,p5,p6,p7,q0,q1,q2,q3,q4,q5⟩ (fun _=>?_)
      clear p0 p1 p2 p3 p4 p5 p6 p7 q0 q1 q2 q3 q4 q5;refine tkN 0 rfl ?_;refine tkN 1 rfl ?_;obtain ⟨f0,f1,f2,f3,f4,f5,f6,f7⟩:=zj2 K1.out
      obtain ⟨g0,g1,g2,g3,g4,g5,g6,g7⟩:=zbW (show Blk W8 bt 56 #[.int .i64 0,.int .i64 0,.int .i64 0,.int .i64 0,.bool false,.slice none 0 0,.int .i64 0,.int .i64 0] from K1.out)
      refine ar1 2 rfl (fun K hK=>?_)
      go_simp
      show K _ (P2 (zdj W8 bt (.int .i64 s.idx) (.int .i64 s.term) (.int .i64 s.sum) (.int .i64 s.lvl) (.bool s.fin) (.slice A' out.length c') (.int .i64 m.term) (.int .i64 m.vote)))
      obtain ⟨n1,n2,n3,n4,n5,n6⟩:=Gc.out
      have Hm:Ext (zdj W8 bt (.int .i64 s.idx) (.int .i64 s.term) (.int .i64 s.sum) (.int .i64 s.lvl) (.bool s.fin) (.slice A' out.length c') (.int .i64 m.term) (.int .i64 m.vote)) (P2 (zdj W8 bt (.int .i64 s.idx) (.int .i64 s.term) (.int .i64 s.sum) (.int .i64 s.lvl) (.bool s.fin) (.slice A' out.length c') (.int .i64 m.term) (.int .i64 m.vote))):=xD (xR _)
      have Jp:=zhd ((zeE Gm.out n1 (.int .i64 s.idx) (.int .i64 s.term) (.int .i64 s.sum) (.int .i64 s.lvl) (.bool s.fin) (.slice A' out.length c') (.int .i64 m.term) (.int .i64 m.vote)).ext Hm);have Jk:=zhd ((zeE Gb.out n3 (.int .i64 s.idx) (.int .i64 s.term) (.int .i64 s.sum) (.int .i64 s.lvl) (.bool s.fin) (.slice A' out.length c') (.int .i64 m.term) (.int .i64 m.vote)).ext Hm);have HY:=zhd ((zeE Ga.out (Ne.symm Jl.out) (.int .i64 s.idx) (.int .i64 s.term) (.int .i64 s.sum) (.int .i64 s.lvl) (.bool s.fin) (.slice A' out.length c') (.int .i64 m.term) (.int .i64 m.vote)).ext Hm)
      have Gk:=zhd ((zgU (show Blk W8 bt 56 #[.int .i64 0,.int .i64 0,.int .i64 0,.int .i64 0,.bool false,.slice none 0 0,.int .i64 0,.int .i64 0] from K1.out) (.int .i64 s.idx) (.int .i64 s.term) (.int .i64 s.sum) (.int .i64 s.lvl) (.bool s.fin) (.slice A' out.length c') (.int .i64 m.term) (.int .i64 m.vote)).ext Hm)
      have Ge:=zhd (OwnE.ext (zfD K1.out (by decide) Kv.out (.int .i64 s.idx) (.int .i64 s.term) (.int .i64 s.sum) (.int .i64 s.lvl) (.bool s.fin) (.slice A' out.length c') (.int .i64 m.term) (.int .i64 m.vote)) Hm);have Gi:=zhd (zaf (zfD K1.out (by decide) Gh.out (.int .i64 s.idx) (.int .i64 s.term) (.int .i64 s.sum) (.int .i64 s.lvl) (.bool s.fin) (.slice A' out.length c') (.int .i64 m.term) (.int .i64 m.vote)) Hm)
      have G7:Hid ((P2 (zdj W8 bt (.int .i64 s.idx) (.int .i64 s.term) (.int .i64 s.sum) (.int .i64 s.lvl) (.bool s.fin) (.slice A' out.length c') (.int .i64 m.term) (.int .i64 m.vote))).heap[D]?=some (.deferred (some []))):=zhd ((zpt (Ne.symm n5) (.int .i64 s.idx) (.int .i64 s.term) (.int .i64 s.sum) (.int .i64 s.lvl) (.bool s.fin) (.slice A' out.length c') (.int .i64 m.term) (.int .i64 m.vote)).trans G6.out)
      have G0:Hid (∀ W0,Ext W0 w→W0.heap.size≤bt→Ext W0 (P2 (zdj W8 bt (.int .i64 s.idx) (.int .i64 s.term) (.int .i64 s.sum) (.int .i64 s.lvl) (.bool s.fin) (.slice A' out.length c') (.int .i64 m.term) (.int .i64 m.vote)))):=zhd fun W0 h hb=>xD (zg4 (xT h Kt.out) hb (.int .i64 s.idx) (.int .i64 s.term) (.int .i64 s.sum) (.int .i64 s.lvl) (.bool s.fin) (.slice A' out.length c') (.int .i64 m.term) (.int .i64 m.vote))
      have JY:Hid (∀ b t cs,b≠bt→Blk w b t cs→Blk (P2 (zdj W8 bt (.int .i64 s.idx) (.int .i64 s.term) (.int .i64 s.sum) (.int .i64 s.lvl) (.bool s.fin) (.slice A' out.length c') (.int .i64 m.term) (.int .i64 m.vote))) b t cs):=zhd fun b t cs h1 h2=>(zeE (h2.ext Kt.out) h1 (.int .i64 s.idx) (.int .i64 s.term) (.int .i64 s.sum) (.int .i64 s.lvl) (.bool s.fin) (.slice A' out.length c') (.int .i64 m.term) (.int .i64 m.vote)).ext Hm
      clear Hm f0 f1 f2 f3 f4 f5 f6 f7 g0 g1 g2 g3 g4 g5 g6 g7
      generalize (P2 (zdj W8 bt (.int .i64 s.idx) (.int .i64 s.term) (.int .i64 s.sum) (.int .i64 s.lvl) (.bool s.fin) (.slice A' out.length c') (.int .i64 m.term) (.int .i64 m.vote)))=W9 at *
      obtain ⟨p0,p1,p2,p3,p4,p5,p6,p7⟩:=zbW Jp.out;obtain ⟨q0,q1,q2,q3,q4,q5⟩:=zan Jk.out
      refine shK hK _ _ ⟨p0,p1,p2,p3,p4,p5,p6,p7,q0,q1,q2,q3,q4,q5⟩ (fun _=>?_)
      clear p0 p1 p2 p3 p4 p5 p6 p7 q0 q1 q2 q3 q4 q5;obtain ⟨f0,f1,f2,f3,f4,f5⟩:=zeQ HY.out
      obtain ⟨g0,g1,g2,g3,g4,g5⟩:=zan (show Blk W9 bm 30 #[.int .i64 0,.int .i64 0,.int .i64 0,.int .i64 0,.int .i64 0,.slice none 0 0] from HY.out)
      refine ar1 3 rfl (fun K hK=>?_)
      go_simp
      show K _ (zbY W9 bm (.int .i64 m.next) (.int .i64 m.term) (.int .i64 m.vote) (.int .i64 m.sq) (.int .i64 m.sf) (.slice B m.segs.length d))
      obtain ⟨p0,p1,p2,p3,p4,p5,p6,p7⟩:=zbW (zeD Jp.out n2 (.int .i64 m.next) (.int .i64 m.term) (.int .i64 m.vote) (.int .i64 m.sq) (.int .i64 m.sf) (.slice B m.segs.length d));obtain ⟨q0,q1,q2,q3,q4,q5⟩:=zan (zeD Jk.out n4 (.int .i64 m.next) (.int .i64 m.term) (.int .i64 m.vote) (.int .i64 m.sq) (.int .i64 m.sf) (.slice B m.segs.length d));have KR:=zhd (zeD Gk.out Jl.out (.int .i64 m.next) (.int .i64 m.term) (.int .i64 m.vote) (.int .i64 m.sq) (.int .i64 m.sf) (.slice B m.segs.length d))
      have KK:Hid (Blk (zbY W9 bm (.int .i64 m.next) (.int .i64 m.term) (.int .i64 m.vote) (.int .i64 m.sq) (.int .i64 m.sf) (.slice B m.segs.length d)) bm 30 (mfC m (.slice B m.segs.length d))):=zhd (zby (show Blk W9 bm 30 #[.int .i64 0,.int .i64 0,.int .i64 0,.int .i64 0,.int .i64 0,.slice none 0 0] from HY.out) (.int .i64 m.next) (.int .i64 m.term) (.int .i64 m.vote) (.int .i64 m.sq) (.int .i64 m.sf) (.slice B m.segs.length d))
      have KL:=zhd (zc6 HY.out (by decide) Ge.out (.int .i64 m.next) (.int .i64 m.term) (.int .i64 m.vote) (.int .i64 m.sq) (.int .i64 m.sf) (.slice B m.segs.length d));have KQ:=zhd (zc6 HY.out (by decide) Gi.out (.int .i64 m.next) (.int .i64 m.term) (.int .i64 m.vote) (.int .i64 m.sq) (.int .i64 m.sf) (.slice B m.segs.length d))
      have Hv:Hid ((zbY W9 bm (.int .i64 m.next) (.int .i64 m.term) (.int .i64 m.vote) (.int .i64 m.sq) (.int .i64 m.sf) (.slice B m.segs.length d)).heap[D]?=some (.deferred (some []))):=zhd ((zq9 (Ne.symm n6) (.int .i64 m.next) (.int .i64 m.term) (.int .i64 m.vote) (.int .i64 m.sq) (.int .i64 m.sf) (.slice B m.segs.length d)).trans G7.out)
      have KF:Hid (∀ W0,Ext W0 w→W0.heap.size≤bt→W0.heap.size≤bm→Ext W0 (zbY W9 bm (.int .i64 m.next) (.int .i64 m.term) (.int .i64 m.vote) (.int .i64 m.sq) (.int .i64 m.sf) (.slice B m.segs.length d))):=zhd fun W0 h hb hc=>zbM (G0.out W0 h hb) hc (.int .i64 m.next) (.int .i64 m.term) (.int .i64 m.vote) (.int .i64 m.sq) (.int .i64 m.sf) (.slice B m.segs.length d)
      have KD:Hid (∀ b t cs,b≠bt→b≠bm→Blk w b t cs→Blk (zbY W9 bm (.int .i64 m.next) (.int .i64 m.term) (.int .i64 m.vote) (.int .i64 m.sq) (.int .i64 m.sf) (.slice B m.segs.length d)) b t cs):=zhd fun b t cs h1 h2 h3=>zeD (JY.out b t cs h1 h3) h2 (.int .i64 m.next) (.int .i64 m.term) (.int .i64 m.vote) (.int .i64 m.sq) (.int .i64 m.sf) (.slice B m.segs.length d)
      refine shK hK _ _ ⟨p0,p1,p2,p3,p4,p5,p6,p7,q0,q1,q2,q3,q4,q5⟩ (fun _=>?_)
      clear p0 p1 p2 p3 p4 p5 p6 p7 q0 q1 q2 q3 q4 q5 f0 f1 f2 f3 f4 f5 g0 g1 g2 g3 g4 g5;refine wpAnyH_done (by kernel_rfl) ?_ _
      generalize zbY W9 bm (.int .i64 m.next) (.int .i64 m.term) (.int .i64 m.vote) (.int .i64 m.sq) (.int .i64 m.sf) (.slice B m.segs.length d)=W10 at *
      gi_wp2
      refine zjw Hv.out (.tuple #[]) (results_none rfl _ _ _) ?_
      rw[←Hd.out];unfold R1P;rw[if_pos rfl]
      refine ⟨rfl,⟨⟨.slice A' out.length c',.slice B m.segs.length d,zjs KR.out n5 _,zjs KK.out n6 _,zai (ownsRow_putObj KL.out (.deferred none) Hv.out rfl) (by have:=H3.out.size;omega),zai (ownsRow_putObj KQ.out (.deferred none) Hv.out rfl) Gl.out⟩,fun W0 h1 h2 h3=>zaq (KF.out W0 h1 h2 h3) (by have:=h1.size;have:=HP.out;omega) _,fun b t cs h1 h2 h3=>zjs (KD.out b t cs h1 h2 h3) (by have:=h3.lt;have:=HP.out;omega) _⟩⟩
    case pan =>
     rintro G D c' W Hr hD hi hK
     have h2:(zaQ fs m.segs).2=false:=by
      cases h:(zaQ fs m.segs).2 with
      | false=>rfl
      | true=>rw[h] at Hr;cases Hr
     rw[h2] at Hr
     obtain rfl:zeb 130=c':=by injection Hr
     have hR:zbS 130=R:=by rw[←K0.out,zu4 h2];rfl
     refine zec (R:=R1P R bt bm w) (c:=zeb 130) hK ?_
     exact zfb hR.symm (by decide) rfl (zaq (xT H3.out hi.e) (by have:=H3.out.size;have:=Hy.out;omega) _)
end Go.Proofs.YtgonhdeochgkoaaGreatDoor
