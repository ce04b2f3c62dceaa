/- Merged: DNow SRead2 SRead3 DSync -/
import Derived.Test.YtgonhdeochgkoaaGreatDoorStoreReads29
set_option linter.all false
set_option maxHeartbeats 8000000
set_option maxRecDepth 100000
namespace Go.Proofs.YtgonhdeochgkoaaGreatDoor
open Go.RowKit Go.Mv Go.Shelf
theorem zke {α:Type} {sz:Nat} {E:World→(Nat→Option Value)→α→Prop} (hE:zdu sz E) {F:Fence} {nf:Nat} {ops:Array Oper} {rest:List Oper} {o:Oper} {a:Act} {w:World} {Q:Exit→Act→World→Prop} (hgd:o.guard=none) (s x:Operand) (T:TypeId)
  (ho:o.op=.call { callee:=.builtin .append,args:=#[s,x],argTypes:=#[T,T] }) (t:TypeId) (i0:TypeInfo) (z:Value) (bytes:Nat) (hT:Tryz.prog.underlying T=some (.slice t)) (hi:Tryz.prog.info? t=some i0) (hz0:i0.zero=some z) (hz1:i0.size=sz) (hz2:i0.bytes=bytes) (hzs:z.cells.size=sz) (hsz:0<sz) (hby:bytes≤1000)
  (base:Nat) (v:Value) (l:List α) (hs:a.eval s=v) (hown:OwnX sz E t w base v l) (vx:Value) (m:List α) (ys:List Value) (hx:a.eval x=vx) (hr:SlR w sz vx m.length ys) (hry:RowOf sz E w ys m) (hc0:0<m.length)
  (hay:∀ g,v.ownBlock=some g→∀ u∈ys,zbf g u) (hlen:l.length+m.length≤4000000) (hbase:base≤w.heap.size)
  (h:∀ A c w',OwnX sz E t w' base (.slice A (l.length+m.length) c) (l++m)→zey base w w'→w.grownBy w' v.ownBlock→wpListIn F nf Tryz.prog ops Q rest (a.put o.dst (.slice A (l.length+m.length) c)) w'):wpListIn F nf Tryz.prog ops Q (o::rest) a w:=by
 obtain ⟨xs,h1,h2,h3⟩:=hown
 have hbb:(l.length+m.length)*bytes≤140737488355328:=Nat.le_trans (Nat.mul_le_mul hlen hby) (by decide)
 obtain ⟨v',w',hrun,g1,g2⟩:=zaT (P:=Tryz.prog) w base T o.type t i0 _ sz bytes hT hi hz0 hz1 hz2 hzs hsz v l.length xs h1 vx m.length ys hr (hry.one hE) (by unfold maxLen;omega) hbb hbase
 have hblk:v'.ownBlock=v.ownBlock∨v'.ownBlock=some w.heap.size:=by
  obtain ⟨hl,A,c,rfl,_,_,hc⟩:=hr
  obtain ⟨b,off,rfl,hcell⟩:=hc hc0
  have hadd:∀ j,(⟨b,off,none⟩:Addr).add j=⟨b,off+j,none⟩:=by intro j;unfold Addr.add;split <;> simp_all
  exact zdf (P:=Tryz.prog) w base T o.type t i0 _ sz bytes hT hi hz0 hz1 hz2 v l.length xs h1 ⟨b,off,none⟩ m.length c ys hl hc0 (fun j u hu=>by rw[hadd];exact hcell j u hu) (hry.one hE) (by unfold maxLen;omega) hbb hrun
 have hkeep:∀ {zs:List Value} {k:List α},RowOf sz E w zs k→(∀ g,v.ownBlock=some g→∀ u∈zs,zbf g u)→RowOf sz E w' zs k:=by
  intro zs k hzk haz
  cases hg:v.ownBlock with
  | none =>
   refine hzk.keep hE (hzk.fresh hE) fun p y hc _=>?_
   exact (World.cell?_of_block (g2.block _ (World.block_lt_of_cell? _ _ hc) (by rw[hg];simp))).trans hc
  | some g =>
   refine hzk.keep hE (haz g hg) fun p y hc hne=>?_
   exact (World.cell?_of_block (g2.block _ (World.block_lt_of_cell? _ _ hc) (by rw[hg];simpa using hne))).trans hc
 refine wpListIn_plain hgd fun K hK=>?_
 have hsem:o.semAt F.round a.eval=execOp a.eval o:=by
  cases hr:F.round with
  | none=>rw[Oper.semAt_none]
  | some l=>exact Oper.semAt_some l _ o (by rw[ho];intro c hc;cases hc)
 unfold Oper.wpIn
 refine ⟨?_,?_⟩
 ·intro f hf
  simp[Oper.about,ho,resolve,Target.leads,go_sem] at hf
 rw[hsem]
 unfold execOp
 simp only[ho,resolve,invoke,builtin,Sem.run_bind,Sem.run_pure,Result.andThen_ok,List.map_toArray,List.map_cons,List.map_nil,hs,hx,hrun]
 refine hK _ _ ?_
 obtain ⟨A,c,rfl,_,_⟩:=SlR.open_ (SlR.of_own g1)
 refine h A c w' ⟨xs++ys,?_,(hkeep h2 h3).append (hkeep hry hay),fun g hg u hu=>?_⟩ (fun W0 hX hb=>Ext.grownOwn hX (zah h1 hb) g2) g2
 ·rw[List.length_append]
  exact g1
 ·rcases hblk with hb | hb
  ·rw[hb] at hg
   rcases List.mem_append.1 hu with hu | hu
   ·exact h3 g hg u hu
   ·exact hay g hg u hu
  ·rw[hb] at hg
   cases hg
   rcases List.mem_append.1 hu with hu | hu
   ·exact h2.fresh hE u hu
   ·exact hry.fresh hE u hu
theorem zoQ (r:Nat) (w:World):Calls Tryz.prog 116 #[.map (some r)] w fun e w'=>e=.returned (.func (.func 150) #[] #[.pointer (some ⟨w.heap.size,0,none⟩)])∧w.alloc (.cells #[.map (some r)] 160)=w':=by
 go_enter Tryz.func116,Tryz.ntmps116
 go_wp2
 go_ret
 exact ⟨rfl,rfl⟩
theorem zge (n b:List UInt8):∀ l:List Fil,(zbe n b l).length≤l.length+1
 | []=>by simp[zbe]
 | p::l=>by
  have:=zge n b l
  rw[zbe]
  split <;> simp <;> omega
theorem zj3 (n:List UInt8):∀ l:List Fil,(za7 n l).length≤l.length
 | []=>by simp[za7]
 | p::l=>by
  have:=zj3 n l
  rw[za7]
  split <;> simp <;> omega
theorem zrO (m:List Fil) (o:Oq):(zbk m o).length≤m.length+1:=by
 unfold zbk
 split
 ·exact zge _ _ _
 ·split
  ·split
   ·omega
   ·exact zge _ _ _
  ·split
   ·split
    ·omega
    ·rename_i b _
     have h1:=zge o.t b (za7 o.n m)
     have h2:=zj3 o.n m
     omega
   ·split
    ·have:=zj3 o.n m;omega
    ·omega
theorem zkp:∀ (q:List Oq) (m:List Fil),(q.foldl zbk m).length≤m.length+q.length
 | [],m=>by simp
 | o::q,m=>by
  have h1:=zrO m o
  have h2:=zkp q (zbk m o)
  rw[List.foldl_cons,List.length_cons]
  omega
theorem zlL:∀ l:List Fil,(zcq l).length≤l.length
 | []=>by simp[zcq]
 | p::l=>by
  have h1:=zlL l
  have h2:=zge p.1 p.2 (zcq l)
  rw[zcq,List.length_cons]
  omega
theorem zlK (fs:List Fil) (q:List Oq):(zbE fs q).length≤fs.length+q.length:=by
 have h1:=zkp q (zcq fs)
 have h2:=zlL fs
 unfold zbE
 omega
theorem zfj {p:Fil}:∀ {l:List Fil},p∈l→p.2.length≤tot l
 | q::l,h=>by
  rw[zcG]
  rcases List.mem_cons.1 h with rfl | h
  ·omega
  ·have:=zfj h;omega
theorem OwnB.awayT {W:World} {base g:Nat} {u:Value} {b:List UInt8} (h:OwnB W base u b) {t:TypeId} {cs:Array Value} {fr:Nat×Nat} (hg:W.heap[g]?=some (.cells cs t fr)) (ht:t≠5):zbf g u:=by
 intro b' off n c _ hu he
 subst hu
 subst he
 rcases h.2 with ⟨hn,_⟩ | ⟨g',cap,cur,e,_,hh,_⟩
 ·cases hn
 ·cases e
  rw[hh] at hg
  cases hg
  exact ht rfl
theorem OwnX.moves {α:Type} {sz:Nat} {E:World→(Nat→Option Value)→α→Prop} (hE:zdu sz E) {t:TypeId} {A B:World} {base n:Nat} {v:Value} {l:List α} (h:OwnX sz E t A base v l) (hm:Moves (zab (fun _ _=>False) n) A B):OwnX sz E t B base v l:=by
 obtain ⟨xs,h1,h2,h3⟩:=h
 refine ⟨xs,hm.ownsRow h1 ?_,h2.keep hE (h2.fresh hE) fun p x hc _=>hm.cell hc fun o ho hcs=>?_,h3⟩
 ·intro k cur hk
  rintro (h | ⟨_,h⟩)
  ·exact h
  ·cases h
 ·rintro (h | ⟨_,h⟩)
  ·exact h
  ·rw[hcs] at h;cases h
theorem OwnX.putObj {α:Type} {sz:Nat} {E:World→(Nat→Option Value)→α→Prop} (hE:zdu sz E) {t:TypeId} {A:World} {base:Nat} {v:Value} {l:List α} (h:OwnX sz E t A base v l) {D:Nat} {o:Obj} (hK:A.heap[D]?=some o) (hc:o.isCells=false) (o':Obj):OwnX sz E t (A.putObj D o') base v l:=by
 obtain ⟨xs,h1,h2,h3⟩:=h
 refine ⟨xs,⟨h1.1,?_⟩,h2.keep hE (h2.fresh hE) fun p x hcc _=>zbV hcc hK hc o',h3⟩
 rcases h1.2 with hn | ⟨g,cap,cur,rfl,hb,hgg,rest⟩
 ·exact .inl hn
 ·exact .inr ⟨g,cap,cur,rfl,hb,(World.putObj_heap_other (fun e=>by subst e;rw[hK] at hgg;cases hgg;cases hc)).trans hgg,rest⟩
theorem no1 {A:Option Addr} {n c:Nat}:∀ (k:Nat) (z:Int),(#[.slice A n c]:Array Value)[k]?≠some (.int .u8 z):=by
 intro k z h
 match k,h with
 | 0,h=>cases h
 | k+1,h=>simp at h
theorem zs7 (tmps:Array Value) (W:World) (b:Nat) (A:Option Addr) (n c:Nat) (h4:tmps.getD 2 undef=.pointer (some ⟨b,0,none⟩)) (hc:W.cell? ⟨b,0,none⟩=some (.slice A n c)):(results Tryz.f70 tmps).run Tryz.prog W=.ok (.slice A n c) W:=by
 have h4':tmps[2]?.getD undef=.pointer (some ⟨b,0,none⟩):=by simpa using h4
 simp[results,Tryz.results70,h4',hc,go_sem]
structure NwI (w:World) (base bo:Nat) (pre:List Fil) (X:World):Prop where
 bx:∃ v,Boxed X bo 22 v∧OwnF X base v pre
 e:Ext w X
attribute [local go_sem] Oper.semAt_some in
theorem zsy (v:Value) (d:Dk) (w:World) (hD:DkV w v d) (hl1:d.fs.length≤1000000) (hl2:d.q.length≤1000000) (hb:tot d.fs+za8 d.q≤2000000) :
  Calls Tryz.prog 70 #[v] w fun e w'=>∃ A c,e=.returned (.slice A d.now.length c)∧OwnF w' w.heap.size (.slice A d.now.length c) d.now∧Ext w w':=by
 obtain ⟨vf,vq,rfl,hF,hQ⟩:=hD
 obtain ⟨A,c,rfl,_,_⟩:=Fs.open_ hF
 obtain ⟨B,e2,rfl,_,_⟩:=Qs.open_ hQ
 have hE0:Ext w ((w.alloc (.cells #[.slice A d.fs.length c,.slice B d.q.length e2,.int .i64 d.quota,.int .i64 d.fuse,.bool d.dead] 25)).alloc (.cells #[.slice none 0 0] 22)):=Ext.alloc (Ext.alloc (Ext.refl _) _) _
 have hb0:=(Blk.new w 25 #[.slice A d.fs.length c,.slice B d.q.length e2,.int .i64 d.quota,.int .i64 d.fuse,.bool d.dead]).alloc (.cells #[.slice none 0 0] 22)
 have hb1:=Blk.new (w.alloc (.cells #[.slice A d.fs.length c,.slice B d.q.length e2,.int .i64 d.quota,.int .i64 d.fuse,.bool d.dead] 25)) 22 #[.slice none 0 0]
 rw[World.size_alloc] at hb1
 have HC:=zhd (ziO _ d _ (show DkV _ _ d from ⟨_,_,rfl,hF.ext hE0,hQ.ext hE0⟩) (by omega) (by omega) (by omega))
 have HE0:=zhd hE0
 have HB1:=zhd hb1
 have htn:=zg8 d.fs d.q
 have hln:=zlK d.fs d.q
 have hnow:zbl (zbE d.fs d.q)=d.now:=zmd d.fs d.q
 have HN:=zhd hnow
 have HT:=zhd (show tot (zbE d.fs d.q)≤2000000 by omega)
 have HL:=zhd (show (zbE d.fs d.q).length≤2000000 by omega)
 clear hF hQ hE0 htn hln hnow hb hb1
 obtain ⟨g0,g1,g2,g3,g4⟩:=zad hb0
 clear hb0
 generalize zbE d.fs d.q=M at *
 refine (callsIn_wd (ro:=none) (n:=9)).1 ?_
 refine callsIn_of_wp_marks Tryz.func70 rfl trivial ?_ rfl
 simp only[Tryz.ntmps70,List.size_toArray,List.length_cons,List.length_nil,Nat.reduceAdd,Nat.reduceSub,Array.replicate_succ,Array.replicate_zero,List.push_toArray,List.append_toArray,List.nil_append,List.cons_append]
 gi_wp2_with (first
  | (refine ⟨trivial,?_⟩;gi_at_call 115;refine (callsIn_wd.2 HC.out).mono ?_;rintro e w1 ⟨r,rfl,hm1,hr1,hE1⟩)
  | (refine ⟨trivial,?_⟩;gi_at_call 116;refine (callsIn_wd.2 (zoQ r w1)).mono ?_;rintro e w2 ⟨rfl,hw2⟩))
 have hE12:Ext w1 w2:=by rw[←hw2];exact Ext.alloc (Ext.refl _) _
 have hbm:Boxed w2 w1.heap.size 160 (.map (some r)):=by rw[←hw2];exact Boxed.new w1 _ _
 clear hw2
 have hm2:=hm1.ext hE12
 have hE2:=Ext.trans HE0.out (Ext.trans hE1 hE12)
 have hbo:Blk w2 (w.heap.size+1) 22 #[.slice none 0 0]:=HB1.out.ext (Ext.trans hE1 hE12)
 have hlt1:w.heap.size+1<w1.heap.size:=by have:=hE1.size;simp only[World.size_alloc] at this;omega
 have hlt2:w1.heap.size<w2.heap.size:=hbm.lt
 have h0:NwI w w2.heap.size (w.heap.size+1) [] w2:=⟨⟨_,hbo,OwnX.nil _ _ _⟩,hE2⟩
 obtain ⟨i0,hi,hz0,hz1,hz2⟩:=info_parts zjY
 have hbl:∀ p∈M,p.2.length≤2000000:=fun p hp=>Nat.le_trans (zfj hp) HT.out
 have HBL:=zhd hbl
 have hsl:(zbl M).length≤2000000:=by unfold zbl;rw[List.length_map,List.length_mergeSort,List.length_map];exact HL.out
 have HSL:=zhd hsl
 clear hm1 hr1 hE1 hE12 hE2 g0 g1 g2 g3 g4 HC HB1 HE0 hbl hsl
 refine zh1 (a:=⟨_,_⟩) rfl (enters_of Tryz.func150 (by kernel_rfl) rfl)
  (fun W1 hb hs=>znf w2 W1 hb r w1.heap.size (w.heap.size+1) M hm2 hbm (by omega) hbo no1 HL.out HBL.out)
  (fun k o h=>h.elim) (fun k o h r e=>h.1 r e) (fun x av W h=>by obtain ⟨C,dd,rfl,_⟩:=h;rfl)
  (NwI w w2.heap.size (w.heap.size+1)) (fun _ _ _=>False) ?hI (fun _ _ _ _ h _=>h) h0
  (fun x a' W=>∃ nb C dd,a'=⟨#[.agg #[.slice A d.fs.length c,.slice B d.q.length e2,.int .i64 d.quota,.int .i64 d.fuse,.bool d.dead],.pointer (some ⟨w.heap.size,0,none⟩),.pointer (some ⟨w.heap.size+1,0,none⟩),.pointer (some ⟨nb,0,none⟩),.agg #[.slice A d.fs.length c,.slice B d.q.length e2,.int .i64 d.quota,.int .i64 d.fuse,.bool d.dead],.map (some r),.func (.func 150) #[] #[.pointer (some ⟨w1.heap.size,0,none⟩)],.agg #[sv x.1,.slice C x.2.length dd],undef,undef,undef,undef,undef],[]⟩∧Blk W nb 51 #[sv x.1,.slice C x.2.length dd]∧OwnB W 0 (.slice C x.2.length dd) x.2)
  ?hAx ?assign ?body ?done ?stop
 case hI =>
  rintro s X Y ⟨⟨u,hb,ho⟩,hE⟩ hm
  refine ⟨⟨u,hm.boxed hb ?_,OwnX.moves zbw ho hm⟩,hm.belowOf hE ?_ (Nat.le_refl _)⟩
  ·rintro (h | h)
   ·exact h
   ·cases h.2
  ·rintro k o hk (h | h)
   ·exact h
   ·have:=h.1;omega
 case hAx =>
  rintro x a' X Y ⟨nb,C,dd,rfl,hb,ho⟩ hm
  refine ⟨nb,C,dd,rfl,hm.same _ _ hb ?_,hm.ownsRow ho ?_⟩
  ·rintro (h | h)
   ·exact h
   ·cases h.2
  ·intro k cur _
   rintro (h | h)
   ·exact h
   ·cases h.2
 case assign =>
  rintro l' pre x post W av K' hx ⟨⟨u,hb,ho⟩,hE⟩ hsz ⟨C,dd,rfl,hbs⟩ hK
  simp only[sv] at *
  gi_wp2
  exact hK _ _ (Kept.refl.alloc _) ⟨⟨u,hb.alloc _,OwnX.ext zbw ho (Ext.alloc (Ext.refl _) _)⟩,Ext.alloc hE _⟩ ⟨_,C,dd,rfl,Blk.new _ _ _,zae hbs (Ext.alloc (Ext.refl _) _)⟩
 case body =>
  rintro l' pre ⟨n,b⟩ post a' W hx hl' hr ⟨⟨u,hb,ho⟩,hE⟩ hsz ⟨nb,C,dd,rfl,hx1,hbs⟩
  dsimp only at *
  obtain ⟨A1,c1,rfl⟩:=ho.open_
  obtain ⟨y0,y1⟩:=zhu hx1
  have cb:=hb.cell
  have fb:=hb.frozen
  have hpl:pre.length+1≤2000000:=by have h9:=congrArg List.length hx;rw[List.length_append,List.length_cons] at h9;have:=HSL.out;omega
  have hX:Ext W (W.alloc (.cells #[sv n,.slice C b.length dd] 51)):=Ext.alloc (Ext.refl _) _
  have haw:∀ g,(Value.slice A1 pre.length c1).ownBlock=some g→∀ y∈[sv n,.slice C b.length dd],zbf g y:=by
   intro g hg y hy
   obtain ⟨_,cs,hcs⟩:=zcy ho hg
   simp only[List.mem_cons,List.not_mem_nil,or_false] at hy
   rcases hy with rfl | rfl
   ·exact zaR _ n
   ·exact OwnB.awayT hbs hcs (by decide)
  have HAW:=zhd haw
  have HO:=zhd ho
  have HBX:=zhd hb
  have HBS:=zhd hbs
  have HE:=zhd hE
  clear haw ho hb hbs hE
  simp only[sv] at *
  gi_wp2_with (gi_at_builtin;refine zke zbw rfl (.tmp 8) (.tmp 10) 22 rfl 51 i0 _ 40 Tryz.underlying22 hi hz0 hz1 hz2 rfl (by decide) (by decide) w2.heap.size _ pre rfl (OwnX.ext zbw HO.out hX) _ [(n,b)] [.string ⟨n.toArray⟩,.slice C b.length dd] rfl (zeW W [.string ⟨n.toArray⟩,.slice C b.length dd] 51 2 rfl rfl) (zi4 (n:=n) (Bs.ext HBS.out.bs hX)) (by simp) HAW.out (by simp;omega) (Nat.le_trans hsz hX.size) ?_;intro A3 c3 W3 ho3 hG3 hg3;simp only[List.length_cons,List.length_nil,Nat.zero_add] at ho3 ⊢;have b3:=((HBX.out.alloc (.cells #[.string ⟨n.toArray⟩,.slice C b.length dd] 51)).kept hg3 (fun e=>by have:=(zcy HO.out e.symm).1;omega));have cb3:=b3.cell;have fb3:=b3.frozen)
  have ho4:=OwnF.setD (u:=.slice A3 (pre.length+1) c3) (j:=0) ho3 (by decide) b3 no1
  refine ⟨((Kept.refl.alloc _).grown hg3 (fun k o ek hk=>?_)).setCell (fun o hk _=>?_) _,⟨_,b3.set _,by simpa using ho4⟩,Below.setCell (hG3 w (Ext.trans HE.out hX) (by omega)) (Nat.le_succ _) _⟩
  ·obtain ⟨hge,cs,hcs⟩:=zcy HO.out ek
   rw[hk] at hcs
   cases hcs
   rintro (⟨_,⟨h1,_⟩ | ⟨_,h1⟩⟩ | ⟨_,h1⟩)
   ·omega
   ·exact absurd (Option.some.inj h1) (by decide)
   ·cases h1
  ·rintro (⟨_,⟨_,h1⟩ | ⟨h1,_⟩⟩ | ⟨h1,_⟩)
   ·exact h1 rfl
   ·dsimp only at h1;omega
   ·dsimp only at h1;omega
 case done =>
  rintro D W hD ⟨⟨u,hb,ho⟩,hE⟩ hK
  obtain ⟨A1,c1,rfl⟩:=ho.open_
  have hc:=hb.cell
  have hf:=hb.frozen
  gi_wp2
  have hK2:=zaw hK rfl ⟨w.heap.size+1,0,none⟩ (.slice A1 (zbl M).length c1)
  have hcd:=zbV (hb.set (.slice A1 (zbl M).length c1)).cell hK2 rfl (.deferred none)
  have ho2:=OwnF.setD (u:=.slice A1 (zbl M).length c1) (j:=0) ho (by decide) hb no1
  have ho3:=(OwnX.putObj zbw ho2 hK2 rfl (.deferred none)).base (base':=w.heap.size) (by omega)
  refine za0 hK2 (.slice A1 (zbl M).length c1) (zs7 _ _ _ A1 _ c1 rfl hcd) ⟨A1,c1,by rw[←HN.out],by rw[←HN.out];exact ho3,?_⟩
  exact zan (Below.setCell hE (Nat.le_succ _) _) (by omega) _
 case stop =>
  rintro D cd pre W _ _ h _
  exact h.elim
open Go.RowKit Go.Mv
def zn1 (r:Rd) (bt bm:Nat) (w:World) (en:Ending) (w':World):Prop:=if r.err=0 then en=.returned (.int .i64 0)∧ztu w bt bm r w' else en=.returned (.int .i64 r.err)∧Ext w w'
theorem zkL (fs:List Fil):(zaK fs).err=0∨(∃ e,zaK fs=zbs e∧e≠0):=by
 unfold zaK
 split
 ·exact .inr ⟨42,rfl,by decide⟩
 ·split
  ·exact .inr ⟨130,rfl,by decide⟩
  ·split
   ·exact .inr ⟨130,rfl,by decide⟩
   ·split
    ·exact .inl rfl
    ·exact .inr ⟨130,rfl,by decide⟩
theorem zqR (v:Value) (fs:List Fil) (pl bt bm:Nat) (w:World) (hS:StW w) (hF:Fs w v fs) (hl:fs.length≤4000000) (hbl:∀ f∈fs,f.2.length≤100000) (h0:w.cell? ⟨pl,0,none⟩=some v)
  (hT:Blk w bt 56 (zbA zdV (.slice none 0 0))) (hM:Blk w bm 30 (mfC mf0 (.slice none 0 0))) (hne:bt≠bm) :
  Calls Tryz.prog 58 #[.func (.func 59) #[] #[.pointer (some ⟨pl,0,none⟩),.pointer (some ⟨bt,0,none⟩),.pointer (some ⟨bm,0,none⟩)]] w (zn1 (zaK fs) bt bm w):=by
 have hmf:∀ (fn:Fn) (first cap:Array Value) (w:World),(Instr.makeFunc fn first cap).run Tryz.prog w=.ok (.func fn first cap) w:=fun _ _ _ _=>rfl
 have hX:Ext w (w.alloc (.cells #[.int .i64 0] 32)):=Ext.alloc (Ext.refl _) _
 have he:=Blk.new w 32 #[.int .i64 0]
 have key:=zpi v fs pl bt bm _ (hS.ext hX) (hF.ext hX) hl hbl (hX.cell h0) (hT.ext hX) (hM.ext hX) hne
 unfold zn1
 unfold R1P at key
 have herr:=zkL fs
 obtain ⟨R,hR⟩:∃ R,zaK fs=R:=⟨_,rfl⟩
 rw[hR] at key herr ⊢
 have hbt:=hT.lt
 have hbm:=hM.lt
 have Key:=zhd key
 have HX:=zhd hX
 have He:=zhd he
 have HLT:=zhd (And.intro hbt hbm)
 clear key hR hS hF hbl hT hM h0 hX he hbt hbm
 go_enter_defers Tryz.func58,Tryz.ntmps58
 go_wp2_with fail
 refine Key.out.mono ?_
 rintro e w1 hr
 by_cases hz:R.err=0
 case neg =>
  rw[if_neg hz] at hr
  obtain ⟨rfl,hE1⟩:=hr
  have he1:=He.out.ext hE1
  refine leaves_cons (f:=101) (args:=#[.pointer (some ⟨w.heap.size,0,none⟩)]) (by simp) (by simp[go_sem]) ?_
  refine (zkM ⟨w.heap.size,0,none⟩ _ R.err [] _ (he1.cell 0 rfl) (he1.frozen 0)).mono ?_
  rintro e u' w2 ⟨rfl,rfl,rfl⟩
  have hs:=he1.set 0 (.int .i64 R.err)
  have hc:=hs.cell 0 rfl
  simp[Leaves,settle,results,Tryz.results58,go_sem,hc]
  rw[if_neg hz]
  exact Below.setCell (p:=⟨w.heap.size,0,none⟩) (Ext.trans HX.out hE1) (Nat.le_refl _) _
 case pos =>
  rw[if_pos hz] at hr
  obtain ⟨rfl,⟨vl,vs,hbt,hbm,hol,hos⟩,hgr,hbl⟩:=hr
  obtain ⟨l1,l2⟩:=HLT.out
  have he2:=hbl _ _ _ (by omega) (by omega) He.out
  have f0:=he2.frozen 0
  have g0:=he2.cell 0 rfl
  have HE2:=zhd he2
  have HGR:=zhd hgr
  have HBL:=zhd hbl
  have HBT:=zhd hbt
  have HBM:=zhd hbm
  have HOL:=zhd hol
  have HOS:=zhd hos
  have HZ:=zhd hz
  clear he2 hgr hbl hbt hbm hol hos hz herr l1 l2
  go_wp2_with fail
  refine leaves_cons (f:=101) (args:=#[.pointer (some ⟨w.heap.size,0,none⟩)]) (by simp) (by simp[go_sem]) ?_
  refine (zjL ⟨w.heap.size,0,none⟩ _).mono ?_
  rintro e u' w4 ⟨rfl,rfl,rfl⟩
  have hs:=HE2.out.set 0 (.int .i64 0)
  have hc:(w1.setCell ⟨w.heap.size,0,none⟩ (.int .i64 0)).cell? ⟨w.heap.size,0,none⟩=some (.int .i64 0):=hs.cell 0 rfl
  obtain ⟨l1,l2⟩:=HLT.out
  have b1:=HBT.out.other (show bt≠w.heap.size by omega) 0 (.int .i64 0)
  have b2:=HBM.out.other (show bm≠w.heap.size by omega) 0 (.int .i64 0)
  have o1:OwnE _ _ _ _:=zah (HOL.out.kept (zaa _ w.heap.size 0 (.int .i64 0)) (.inr (HE2.out.not_row (by decide) HOL.out).symm)) HX.out.size
  have o2:OwnS _ _ _ _:=zah (HOS.out.kept (zaa _ w.heap.size 0 (.int .i64 0)) (.inr (HE2.out.not_row (by decide) HOS.out).symm)) HX.out.size
  have g1:∀ W0,Ext W0 w→W0.heap.size≤bt→W0.heap.size≤bm→Ext W0 (w1.setCell ⟨w.heap.size,0,none⟩ (.int .i64 0)):=fun W0 h h1 h2=>Below.setCell (p:=⟨w.heap.size,0,none⟩) (HGR.out W0 (Ext.trans h HX.out) h1 h2) h.size _
  have k1:∀ b t cs,b≠bt→b≠bm→Blk w b t cs→Blk (w1.setCell ⟨w.heap.size,0,none⟩ (.int .i64 0)) b t cs:=fun b t cs h1 h2 h3=>(HBL.out b t cs h1 h2 (h3.ext HX.out)).other (by have:=h3.lt;omega) 0 _
  generalize w1.setCell ⟨w.heap.size,0,none⟩ (.int .i64 0)=w5 at *
  simp[Leaves,settle,results,Tryz.results58,go_sem,hc]
  exact ⟨⟨vl,vs,b1,b2,o1,o2⟩,g1,k1⟩
theorem zqJ (tmps:Array Value) (W:World) (b c:Nat) (cs ds:Array Value) (u:Value) (h2:tmps.getD 2 undef=.pointer (some ⟨b,0,none⟩)) (h3:tmps.getD 3 undef=.pointer (some ⟨c,0,none⟩)) (h4:tmps.getD 4 undef=u) (hb:Blk W b 56 cs) (hc:Blk W c 30 ds) (hs:cs.size=8) (hd:ds.size=6):(results Tryz.f19 tmps).run Tryz.prog W=.ok (.tuple #[.agg cs,.agg ds,u]) W:=by
 have hl:=hb.load (P:=Tryz.prog) zmm rfl (by rw[hs];kernel_rfl)
 have hm:=hc.load (P:=Tryz.prog) zj5 rfl (by rw[hd];kernel_rfl)
 have h2':tmps[2]?.getD undef=.pointer (some ⟨b,0,none⟩):=by simpa using h2
 have h3':tmps[3]?.getD undef=.pointer (some ⟨c,0,none⟩):=by simpa using h3
 have h4':tmps[4]?.getD undef=u:=by simpa using h4
 simp[results,Tryz.results19,h2',h3',h4',asAddr,hl,hm]
def TellO (w:World) (r:Rd) (e:Ending) (w':World):Prop:=∃ vl vs,e=.returned (.tuple #[.agg #[.int .i64 r.t.s.idx,.int .i64 r.t.s.term,.int .i64 r.t.s.sum,.int .i64 r.t.s.lvl,.bool r.t.s.fin,vl,.int .i64 r.t.term,.int .i64 r.t.vote],.agg #[.int .i64 r.m.next,.int .i64 r.m.term,.int .i64 r.m.vote,.int .i64 r.m.sq,.int .i64 r.m.sf,vs],.int .i64 r.err])∧OwnE w' w.heap.size vl r.t.log∧OwnS w' w.heap.size vs r.m.segs∧Ext w w'
theorem TellO.tell {w:World} {r:Rd} {e:Ending} {w':World} (h:TellO w r e w'):znZ w r e w':=by
 obtain ⟨vl,vs,h1,h2,h3,h4⟩:=h
 exact ⟨vl,vs,h1,OwnE.es h2,OwnS.sgs h3,h4⟩
def RdW (w:World) (r:Rd) (e:Ending) (W:World):Prop:=e=.returned (.int .i64 r.err)∧∃ vl vs,Blk W (w.heap.size+1) 56 (zbA r.t vl)∧Blk W (w.heap.size+1+1) 30 (mfC r.m vs)∧OwnE W w.heap.size vl r.t.log∧OwnS W w.heap.size vs r.m.segs∧Ext w W
theorem ztR (v:Value) (fs:List Fil) (w:World) (hS:StW w) (hF:Fs w v fs) (hl:fs.length≤4000000) (hbl:∀ f∈fs,f.2.length≤100000) {z1 z2:Array Value} (hz1:z1=zbA zdV (.slice none 0 0)) (hz2:z2=mfC mf0 (.slice none 0 0)) :
  Calls Tryz.prog 58 #[.func (.func 59) #[] #[.pointer (some ⟨w.heap.size,0,none⟩),.pointer (some ⟨w.heap.size+1,0,none⟩),.pointer (some ⟨w.heap.size+1+1,0,none⟩)]] (((w.alloc (.cells #[v] 22)).alloc (.cells z1 56)).alloc (.cells z2 30)) (RdW w (zaK fs)):=by
 subst hz1 hz2
 have hX:Ext w (((w.alloc (.cells #[v] 22)).alloc (.cells (zbA zdV (.slice none 0 0)) 56)).alloc (.cells (mfC mf0 (.slice none 0 0)) 30)):=Ext.alloc (Ext.alloc (Ext.alloc (Ext.refl _) _) _) _
 have b0:=((Blk.new w 22 #[v]).alloc (.cells (zbA zdV (.slice none 0 0)) 56)).alloc (.cells (mfC mf0 (.slice none 0 0)) 30)
 have b1:=(Blk.new (w.alloc (.cells #[v] 22)) 56 (zbA zdV (.slice none 0 0))).alloc (.cells (mfC mf0 (.slice none 0 0)) 30)
 have b2:=Blk.new ((w.alloc (.cells #[v] 22)).alloc (.cells (zbA zdV (.slice none 0 0)) 56)) 30 (mfC mf0 (.slice none 0 0))
 rw[World.size_alloc] at b1
 rw[World.size_alloc,World.size_alloc] at b2
 have hsz:w.heap.size+1+1+1=(((w.alloc (.cells #[v] 22)).alloc (.cells (zbA zdV (.slice none 0 0)) 56)).alloc (.cells (mfC mf0 (.slice none 0 0)) 30)).heap.size:=by rw[World.size_alloc,World.size_alloc,World.size_alloc]
 refine (zqR v fs w.heap.size (w.heap.size+1) (w.heap.size+1+1) _ (hS.ext hX) (hF.ext hX) hl hbl (b0.cell 0 rfl) b1 b2 (by omega)).mono ?_
 generalize (((w.alloc (.cells #[v] 22)).alloc (.cells (zbA zdV (.slice none 0 0)) 56)).alloc (.cells (mfC mf0 (.slice none 0 0)) 30))=w3 at *
 rintro e W h
 unfold zn1 at h
 rcases zkL fs with hz | ⟨e1,hz,hne⟩
 ·rw[if_pos hz] at h
  obtain ⟨rfl,⟨vl,vs,h1,h2,h3,h4⟩,hg,_⟩:=h
  exact ⟨by rw[hz],vl,vs,h1,h2,zah h3 (by omega),zah h4 (by omega),hg w hX (by omega) (by omega)⟩
 ·rw[hz] at h ⊢
  rw[if_neg (show ¬ (zbs e1).err=0 from hne)] at h
  obtain ⟨rfl,hE⟩:=h
  exact ⟨rfl,.slice none 0 0,.slice none 0 0,b1.ext hE,b2.ext hE,World.ownsRow_nil _ _ _ _,World.ownsRow_nil _ _ _ _,Ext.trans hX hE⟩
theorem zki (v:Value) (fs:List Fil) (w:World) (hS:StW w) (hF:Fs w v fs) (hl:fs.length≤4000000) (hbl:∀ f∈fs,f.2.length≤100000):Calls Tryz.prog 19 #[v] w (TellO w (zaK fs)):=by
 have hmf:∀ (fn:Fn) (first cap:Array Value) (w:World),(Instr.makeFunc fn first cap).run Tryz.prog w=.ok (.func fn first cap) w:=fun _ _ _ _=>rfl
 obtain ⟨A,c,rfl,_,_⟩:=Fs.open_ hF
 have key:=ztR (.slice A fs.length c) fs w hS hF hl hbl (z1:=#[.int .i64 0,.int .i64 0,.int .i64 0,.int .i64 0,.bool false,.slice none 0 0,.int .i64 0,.int .i64 0]) (z2:=#[.int .i64 0,.int .i64 0,.int .i64 0,.int .i64 0,.int .i64 0,.slice none 0 0]) rfl rfl
 obtain ⟨R,hR⟩:∃ R,zaK fs=R:=⟨_,rfl⟩
 rw[hR] at key ⊢
 have Key:=zhd key
 clear key hS hF hbl hR
 go_enter Tryz.func19,Tryz.ntmps19
 go_wp2_with fail
 refine Key.out.mono ?_
 obtain ⟨er,t,m⟩:=R
 rintro e w4 ⟨rfl,vl,vs,hb,hc,hes,hss,hE⟩
 dsimp only at hb hc hes hss ⊢
 obtain ⟨Al,cl,rfl,_,_⟩:=SlR.open_ (OwnE.es hes)
 obtain ⟨As,cs,rfl,_,_⟩:=Sgs.open_ (OwnS.sgs hss)
 obtain ⟨nl,hnl⟩:∃ n,t.log.length=n:=⟨_,rfl⟩
 obtain ⟨ns,hns⟩:∃ n,m.segs.length=n:=⟨_,rfl⟩
 rw[hnl] at hb hes
 rw[hns] at hc hss
 have HB:=zhd (show Blk w4 (w.heap.size+1) 56 #[.int .i64 t.s.idx,.int .i64 t.s.term,.int .i64 t.s.sum,.int .i64 t.s.lvl,.bool t.s.fin,.slice Al nl cl,.int .i64 t.term,.int .i64 t.vote] from hb)
 have HC:=zhd (show Blk w4 (w.heap.size+1+1) 30 #[.int .i64 m.next,.int .i64 m.term,.int .i64 m.vote,.int .i64 m.sq,.int .i64 m.sf,.slice As ns cs] from hc)
 have HES:=zhd hes
 have HSS:=zhd hss
 have HE:=zhd hE
 clear hb hc hes hss hE hnl hns
 obtain ⟨p0,p1,p2,p3,p4,p5,p6,p7⟩:=zbQ HB.out
 obtain ⟨q0,q1,q2,q3,q4,q5⟩:=zao HC.out
 go_wp2_with fail
 refine wp_region_held_drew (S:=fun W=>W.cell? ⟨w.heap.size+1,0,none⟩=some (.int .i64 t.s.idx)∧W.cell? ⟨w.heap.size+1,1,none⟩=some (.int .i64 t.s.term)∧W.cell? ⟨w.heap.size+1,2,none⟩=some (.int .i64 t.s.sum)∧W.cell? ⟨w.heap.size+1,3,none⟩=some (.int .i64 t.s.lvl)∧W.cell? ⟨w.heap.size+1,4,none⟩=some (.bool t.s.fin)∧W.cell? ⟨w.heap.size+1,5,none⟩=some (.slice Al nl cl)∧W.cell? ⟨w.heap.size+1,6,none⟩=some (.int .i64 t.term)∧W.cell? ⟨w.heap.size+1,7,none⟩=some (.int .i64 t.vote)∧W.cell? ⟨w.heap.size+1+1,0,none⟩=some (.int .i64 m.next)∧W.cell? ⟨w.heap.size+1+1,1,none⟩=some (.int .i64 m.term)∧W.cell? ⟨w.heap.size+1+1,2,none⟩=some (.int .i64 m.vote)∧W.cell? ⟨w.heap.size+1+1,3,none⟩=some (.int .i64 m.sq)∧W.cell? ⟨w.heap.size+1+1,4,none⟩=some (.int .i64 m.sf)∧W.cell? ⟨w.heap.size+1+1,5,none⟩=some (.slice As ns cs)) (by kernel_rfl) ⟨p0,p1,p2,p3,p4,p5,p6,p7,q0,q1,q2,q3,q4,q5⟩ (fun _=>?_)
 clear p0 p1 p2 p3 p4 p5 p6 p7 q0 q1 q2 q3 q4 q5
 refine tkN 0 rfl ?_
 refine tkN 1 rfl ?_
 refine tkN 2 rfl ?_
 obtain ⟨f0,f1,f2,f3,f4,f5,f6,f7⟩:=zjh HB.out
 obtain ⟨g0,g1,g2,g3,g4,g5,g6,g7⟩:=zbQ HB.out
 refine ar1 3 rfl (fun K hK=>?_)
 go_simp
 show K _ (World.drew (zcY w4 (w.heap.size+1) (.int .i64 t.s.idx) (.int .i64 t.s.term) (.int .i64 t.s.sum) (.int .i64 t.s.lvl) (.bool t.s.fin) (.slice Al nl cl) (.int .i64 t.term) (.int .i64 t.vote)))
 have hD9:Ext (zcY w4 (w.heap.size+1) (.int .i64 t.s.idx) (.int .i64 t.s.term) (.int .i64 t.s.sum) (.int .i64 t.s.lvl) (.bool t.s.fin) (.slice Al nl cl) (.int .i64 t.term) (.int .i64 t.vote)) (World.drew (zcY w4 (w.heap.size+1) (.int .i64 t.s.idx) (.int .i64 t.s.term) (.int .i64 t.s.sum) (.int .i64 t.s.lvl) (.bool t.s.fin) (.slice Al nl cl) (.int .i64 t.term) (.int .i64 t.vote))):=Ext.drew (Ext.refl _)
 have HB9:=zhd ((zgw HB.out (.int .i64 t.s.idx) (.int .i64 t.s.term) (.int .i64 t.s.sum) (.int .i64 t.s.lvl) (.bool t.s.fin) (.slice Al nl cl) (.int .i64 t.term) (.int .i64 t.vote)).ext hD9)
 have HC9:=zhd ((zel HC.out (by omega:w.heap.size+1+1≠w.heap.size+1) (.int .i64 t.s.idx) (.int .i64 t.s.term) (.int .i64 t.s.sum) (.int .i64 t.s.lvl) (.bool t.s.fin) (.slice Al nl cl) (.int .i64 t.term) (.int .i64 t.vote)).ext hD9)
 have HES9:=zhd (OwnE.ext (zfk HB.out (by decide) HES.out (.int .i64 t.s.idx) (.int .i64 t.s.term) (.int .i64 t.s.sum) (.int .i64 t.s.lvl) (.bool t.s.fin) (.slice Al nl cl) (.int .i64 t.term) (.int .i64 t.vote)) hD9)
 have HSS9:=zhd (zae (zfk HB.out (by decide) HSS.out (.int .i64 t.s.idx) (.int .i64 t.s.term) (.int .i64 t.s.sum) (.int .i64 t.s.lvl) (.bool t.s.fin) (.slice Al nl cl) (.int .i64 t.term) (.int .i64 t.vote)) hD9)
 have HE9:=zhd (Ext.trans (zgC HE.out (by omega:w.heap.size≤w.heap.size+1) (.int .i64 t.s.idx) (.int .i64 t.s.term) (.int .i64 t.s.sum) (.int .i64 t.s.lvl) (.bool t.s.fin) (.slice Al nl cl) (.int .i64 t.term) (.int .i64 t.vote)) hD9)
 clear hD9 f0 f1 f2 f3 f4 f5 f6 f7 g0 g1 g2 g3 g4 g5 g6 g7
 generalize (World.drew (zcY w4 (w.heap.size+1) (.int .i64 t.s.idx) (.int .i64 t.s.term) (.int .i64 t.s.sum) (.int .i64 t.s.lvl) (.bool t.s.fin) (.slice Al nl cl) (.int .i64 t.term) (.int .i64 t.vote)))=w9 at *
 obtain ⟨p0,p1,p2,p3,p4,p5,p6,p7⟩:=zbQ HB9.out
 obtain ⟨q0,q1,q2,q3,q4,q5⟩:=zao HC9.out
 refine shK hK _ _ ⟨p0,p1,p2,p3,p4,p5,p6,p7,q0,q1,q2,q3,q4,q5⟩ (fun _=>?_)
 clear p0 p1 p2 p3 p4 p5 p6 p7 q0 q1 q2 q3 q4 q5
 obtain ⟨f0,f1,f2,f3,f4,f5⟩:=zn4 HC9.out
 obtain ⟨g0,g1,g2,g3,g4,g5⟩:=zao HC9.out
 refine ar1 4 rfl (fun K hK=>?_)
 go_simp
 show K _ (zbF w9 (w.heap.size+1+1) (.int .i64 m.next) (.int .i64 m.term) (.int .i64 m.vote) (.int .i64 m.sq) (.int .i64 m.sf) (.slice As ns cs))
 have HB10:=zhd (zek HB9.out (by omega:w.heap.size+1≠w.heap.size+1+1) (.int .i64 m.next) (.int .i64 m.term) (.int .i64 m.vote) (.int .i64 m.sq) (.int .i64 m.sf) (.slice As ns cs))
 have HC10:Hid (Blk (zbF w9 (w.heap.size+1+1) (.int .i64 m.next) (.int .i64 m.term) (.int .i64 m.vote) (.int .i64 m.sq) (.int .i64 m.sf) (.slice As ns cs)) (w.heap.size+1+1) 30 #[.int .i64 m.next,.int .i64 m.term,.int .i64 m.vote,.int .i64 m.sq,.int .i64 m.sf,.slice As ns cs]):=zhd (zcU HC9.out (.int .i64 m.next) (.int .i64 m.term) (.int .i64 m.vote) (.int .i64 m.sq) (.int .i64 m.sf) (.slice As ns cs))
 have HES10:Hid (OwnE (zbF w9 (w.heap.size+1+1) (.int .i64 m.next) (.int .i64 m.term) (.int .i64 m.vote) (.int .i64 m.sq) (.int .i64 m.sf) (.slice As ns cs)) _ _ t.log):=zhd (zcM HC9.out (by decide) HES9.out (.int .i64 m.next) (.int .i64 m.term) (.int .i64 m.vote) (.int .i64 m.sq) (.int .i64 m.sf) (.slice As ns cs))
 have HSS10:Hid (OwnS (zbF w9 (w.heap.size+1+1) (.int .i64 m.next) (.int .i64 m.term) (.int .i64 m.vote) (.int .i64 m.sq) (.int .i64 m.sf) (.slice As ns cs)) _ _ m.segs):=zhd (zcM HC9.out (by decide) HSS9.out (.int .i64 m.next) (.int .i64 m.term) (.int .i64 m.vote) (.int .i64 m.sq) (.int .i64 m.sf) (.slice As ns cs))
 have HE10:Hid (Ext w (zbF w9 (w.heap.size+1+1) (.int .i64 m.next) (.int .i64 m.term) (.int .i64 m.vote) (.int .i64 m.sq) (.int .i64 m.sf) (.slice As ns cs))):=zhd (zdP HE9.out (by omega:w.heap.size≤w.heap.size+1+1) (.int .i64 m.next) (.int .i64 m.term) (.int .i64 m.vote) (.int .i64 m.sq) (.int .i64 m.sf) (.slice As ns cs))
 clear f0 f1 f2 f3 f4 f5 g0 g1 g2 g3 g4 g5
 generalize zbF w9 (w.heap.size+1+1) (.int .i64 m.next) (.int .i64 m.term) (.int .i64 m.vote) (.int .i64 m.sq) (.int .i64 m.sf) (.slice As ns cs)=w10 at *
 obtain ⟨p0,p1,p2,p3,p4,p5,p6,p7⟩:=zbQ HB10.out
 obtain ⟨q0,q1,q2,q3,q4,q5⟩:=zao HC10.out
 refine shK hK _ _ ⟨p0,p1,p2,p3,p4,p5,p6,p7,q0,q1,q2,q3,q4,q5⟩ (fun _=>?_)
 clear p0 p1 p2 p3 p4 p5 p6 p7 q0 q1 q2 q3 q4 q5
 refine tkN 5 rfl ?_
 refine wpAnyH_done (by kernel_rfl) ?_ _
 go_wp2_with fail
 refine bodyPost_ret (zqJ _ _ (w.heap.size+1) (w.heap.size+1+1) _ _ _ rfl rfl rfl HB10.out HC10.out rfl rfl) rfl ?_
 exact ⟨_,_,rfl,HES10.out,HSS10.out,HE10.out⟩
theorem zeI (v:Value) (fs:List Fil) (w:World) (hS:StW w) (hF:Fs w v fs) (hl:fs.length≤4000000) (hbl:∀ f∈fs,f.2.length≤100000):Calls Tryz.prog 19 #[v] w (znZ w (zaK fs)):=(zki v fs w hS hF hl hbl).mono fun _ _ h=>h.tell
structure Sz (n:Nat) (d:Dk):Prop where
 l:d.fs.length+d.q.length≤n
 t:tot d.fs+za8 d.q≤n
 f:d.fuse≤9223372036854775807
theorem zkt (d:Dk):d.may=0∨d.may=2∨d.may=40:=by
 unfold Dk.may
 split
 ·exact .inr (.inl rfl)
 ·split
  ·exact .inr (.inr rfl)
  ·exact .inl rfl
theorem ziV {o:Oq}:∀ {l:List Oq},o∈l→o.b.length≤za8 l
 | q::l,h=>by
  rw[zcb]
  rcases List.mem_cons.1 h with rfl | h
  ·omega
  ·have:=ziV h;omega
theorem zho (v:Value) (d:Dk) (n:Nat) (w:World) (hD:DkV w v d) (hn:n≤1000000) (hs:Sz n d) :
  Calls Tryz.prog 47 #[v] w fun e w'=>∃ u,e=.returned u∧zsp w' w.heap.size u d∧Ext w w':=by
 obtain ⟨h1,h2,_⟩:=hs
 exact zq7 v d w hD (by omega) (by omega) (fun f hf=>by have:=zfj hf;omega) (fun o ho=>by have:=ziV ho;omega)
theorem zqc (v:Value) (d:Dk) (n:Nat) (w:World) (hD:DkV w v d) (hn:n≤1000000) (hs:Sz n d) :
  Calls Tryz.prog 133 #[v] w fun e w'=>e=.returned (.int .i64 d.may)∧Ext w w':=by
 obtain ⟨h1,h2,_⟩:=hs
 exact zrw v d w hD (by omega) (by omega) (by omega)
theorem zlk (v:Value) (d:Dk) (n:Nat) (w:World) (hD:DkV w v d) (hn:n≤1000000) (hs:Sz n d) :
  Calls Tryz.prog 70 #[v] w fun e w'=>∃ A c,e=.returned (.slice A d.now.length c)∧OwnF w' w.heap.size (.slice A d.now.length c) d.now∧Ext w w':=by
 obtain ⟨h1,h2,_⟩:=hs
 exact zsy v d w hD (by omega) (by omega) (by omega)
theorem zj4 (d:Dk):d.now.length≤d.fs.length+d.q.length:=by
 have h:=zlK d.fs d.q
 have e:d.now.length=(zbE d.fs d.q).length:=by
  rw[←show zbl (zbE d.fs d.q)=d.now from zmd d.fs d.q]
  unfold zbl
  rw[List.length_map,List.length_mergeSort,List.length_map]
 omega
theorem zqS (d:Dk):tot d.now≤tot d.fs+za8 d.q:=by
 have h1:tot d.now=tot (zbE d.fs d.q):=zka d.fs d.q
 have h2:=zg8 d.fs d.q
 omega
theorem Sz.burn {n:Nat} {d:Dk} (h:Sz n d):Sz n d.burn:=by
 obtain ⟨h1,h2,h3⟩:=h
 unfold Dk.burn
 split
 ·exact ⟨h1,h2,by dsimp only;omega⟩
 ·exact ⟨h1,h2,h3⟩
theorem Sz.mono {n m:Nat} {d:Dk} (h:Sz n d) (hm:n≤m):Sz m d:=⟨Nat.le_trans h.l hm,Nat.le_trans h.t hm,h.f⟩
theorem Sz.sync {n:Nat} {d:Dk} (h:Sz n d):Sz n d.syncS.1:=by
 unfold Dk.syncS
 split
 ·exact h
 ·refine Sz.burn ⟨?_,?_,h.f⟩
  ·have:=zj4 d;have:=h.l;simp only[List.length_nil];omega
  ·have:=zqS d;have:=h.t;show tot d.now+0≤n;omega
theorem Sz.doS {n:Nat} {d:Dk} (h:Sz n d) (o:Oq):Sz (n+1+o.b.length) (d.doS o).1:=by
 have hm:=h.mono (m:=n+1+o.b.length) (by omega)
 unfold Dk.doS
 split
 ·exact hm
 ·split
  ·exact hm
  ·split
   ·exact hm
   ·split
    ·exact hm
    ·refine Sz.burn ⟨?_,?_,h.f⟩
     ·have:=h.l;show d.fs.length+(d.q++[o]).length≤_;simp;omega
     ·have:=h.t;show tot d.fs+za8 (d.q++[o])≤_;rw[zeD,zcb];show _+(za8 d.q+(o.b.length+0))≤_;omega
theorem zls {W:World} {base b:Nat} {A B:Option Addr} {c e:Nat} {d:Dk} (hB:Blk W b 25 (zaA A d.fs.length c B d.q.length e d.quota d.fuse d.dead)) (hf:OwnF W base (.slice A d.fs.length c) d.fs) (hq:OwnQ W base (.slice B d.q.length e) d.q) :
  Blk (zfK W b d.fuse) b 25 (zaA A d.burn.fs.length c B d.burn.q.length e d.burn.quota d.burn.fuse d.burn.dead)∧OwnF (zfK W b d.fuse) base (.slice A d.burn.fs.length c) d.burn.fs∧OwnQ (zfK W b d.fuse) base (.slice B d.burn.q.length e) d.burn.q
   ∧ (∀ (b':Nat) (t:TypeId) (cs:Array Value),b'≠b→Blk W b' t cs→Blk (zfK W b d.fuse) b' t cs)∧(∀ w,Ext w W→w.heap.size≤b→Ext w (zfK W b d.fuse)):=by
 unfold zfK Dk.burn
 by_cases h:0<d.fuse
 ·rw[if_pos h,if_pos h]
  have b1:Blk _ b 25 (zaA A d.fs.length c B d.q.length e d.quota (d.fuse-1) d.dead):=hB.set 3 (.int .i64 (d.fuse-1))
  have b2:Blk _ b 25 (zaA A d.fs.length c B d.q.length e d.quota (d.fuse-1) (d.fuse-1==0)):=b1.set 4 (.bool (d.fuse-1==0))
  refine ⟨b2,OwnF.setD (OwnF.setD hf (by decide) hB zaB) (by decide) b1 zaB,OwnQ.setD (OwnQ.setD hq (by decide) hB zaB) (by decide) b1 zaB,fun b' t cs hne hb'=>?_,fun w hX hb'=>?_⟩
  ·exact (hb'.other hne 3 _).other hne 4 _
  ·exact Below.setCell (p:=⟨b,4,none⟩) (Below.setCell (p:=⟨b,3,none⟩) hX hb' _) hb' _
 ·rw[if_neg h,if_neg h]
  exact ⟨hB,hf,hq,fun _ _ _ _ h=>h,fun _ h _=>h⟩
theorem zi7 (tmps:Array Value) (W:World) (b:Nat) (cs:Array Value) (e:Value) (h4:tmps.getD 2 undef=.pointer (some ⟨b,0,none⟩)) (h3:tmps.getD 3 undef=e) (hb:Blk W b 25 cs) (hs:cs.size=5):(results Tryz.f93 tmps).run Tryz.prog W=.ok (.tuple #[.agg cs,e]) W:=by
 have h4':tmps[2]?.getD undef=.pointer (some ⟨b,0,none⟩):=by simpa using h4
 have h3':tmps[3]?.getD undef=e:=by simpa using h3
 have hl:=hb.load (P:=Tryz.prog) zhz rfl (by rw[hs];kernel_rfl)
 simp[results,Tryz.results93,h4',h3',asAddr,hl,Sem.run_bind,Sem.run_pure,Result.andThen_ok]
theorem zrd (v:Value) (d:Dk) (n:Nat) (w:World) (hD:DkV w v d) (hn:n≤1000000) (hs:Sz n d) :
  Calls Tryz.prog 93 #[v] w fun e w'=>∃ u,e=.returned (.tuple #[u,.int .i64 d.syncS.2])∧ziI w' w.heap.size u d.syncS.1∧Ext w w':=by
 obtain ⟨vf,vq,rfl,hF,hQ⟩:=hD
 obtain ⟨A,c,rfl,_,_⟩:=Fs.open_ hF
 obtain ⟨B,e2,rfl,_,_⟩:=Qs.open_ hQ
 have HE0:=zhd (show Ext w ((w.alloc (.cells #[.slice A d.fs.length c,.slice B d.q.length e2,.int .i64 d.quota,.int .i64 d.fuse,.bool d.dead] 25)).alloc (.cells #[.slice none 0 0,.slice none 0 0,.int .i64 0,.int .i64 0,.bool false] 25)) from Ext.alloc (Ext.alloc (Ext.refl _) _) _)
 have H0:=zhd (show Blk ((w.alloc (.cells #[.slice A d.fs.length c,.slice B d.q.length e2,.int .i64 d.quota,.int .i64 d.fuse,.bool d.dead] 25)).alloc (.cells #[.slice none 0 0,.slice none 0 0,.int .i64 0,.int .i64 0,.bool false] 25)) w.heap.size 25 (zaA A d.fs.length c B d.q.length e2 d.quota d.fuse d.dead) from (Blk.new w _ _).alloc _)
 have h1:Blk ((w.alloc (.cells #[.slice A d.fs.length c,.slice B d.q.length e2,.int .i64 d.quota,.int .i64 d.fuse,.bool d.dead] 25)).alloc (.cells #[.slice none 0 0,.slice none 0 0,.int .i64 0,.int .i64 0,.bool false] 25)) (w.heap.size+1) 25 (zaA none 0 0 none 0 0 0 0 false):=by
  have:=Blk.new (w.alloc (.cells #[.slice A d.fs.length c,.slice B d.q.length e2,.int .i64 d.quota,.int .i64 d.fuse,.bool d.dead] 25)) 25 #[.slice none 0 0,.slice none 0 0,.int .i64 0,.int .i64 0,.bool false]
  rwa [World.size_alloc] at this
 have H1:=zhd h1
 have HC:=zhd (zho _ d n _ (show DkV _ _ d from ⟨_,_,rfl,hF.ext HE0.out,hQ.ext HE0.out⟩) hn hs)
 clear h1 hF hQ
 obtain ⟨g0,g1,g2,g3,g4⟩:=zad H0.out
 have HZ:=zhd hs
 obtain ⟨S,hS⟩:∃ S,d.syncS=S:=⟨_,rfl⟩
 rw[hS]
 have HS:=zhd hS
 clear hs hS
 go_enter Tryz.func93,Tryz.ntmps93
 go_wp2_with fail
 refine HC.out.mono ?_
 rintro e w1 ⟨u,rfl,⟨A3,c3,B3,e3,rfl,of,oq⟩,hE1⟩
 have hb1:=H0.out.ext hE1
 have hb2:=H1.out.ext hE1
 have HE1:=zhd (Ext.trans HE0.out hE1)
 have hof:OwnF w1 w.heap.size (.slice A3 d.fs.length c3) d.fs:=OwnX.base of.f HE0.out.size
 have hoq:OwnQ w1 w.heap.size (.slice B3 d.q.length e3) d.q:=OwnX.base oq HE0.out.size
 clear g0 g1 g2 g3 g4 HC H0 H1 HE0 of oq hE1
 have hb1':Blk (zeb w1 w.heap.size (.slice A3 d.fs.length c3) (.slice B3 d.q.length e3) (.int .i64 d.quota) (.int .i64 d.fuse) (.bool d.dead)) w.heap.size 25 (zaA A3 d.fs.length c3 B3 d.q.length e3 d.quota d.fuse d.dead):=zaJ hb1 _ _ _ _ _
 have hne:w.heap.size+1≠w.heap.size:=by omega
 have hb2':Blk (zeb w1 w.heap.size (.slice A3 d.fs.length c3) (.slice B3 d.q.length e3) (.int .i64 d.quota) (.int .i64 d.fuse) (.bool d.dead)) (w.heap.size+1) 25 (zaA none 0 0 none 0 0 0 0 false):=((((hb2.other hne 0 _).other hne 1 _).other hne 2 _).other hne 3 _).other hne 4 _
 have hof':=OwnF.box1 (A':=A3) (n':=d.fs.length) (c':=c3) (B':=B3) (m':=d.q.length) (e':=e3) (q':=d.quota) (f':=d.fuse) (d':=d.dead) hof hb1
 have hoq':=OwnQ.box1 (A':=A3) (n':=d.fs.length) (c':=c3) (B':=B3) (m':=d.q.length) (e':=e3) (q':=d.quota) (f':=d.fuse) (d':=d.dead) hoq hb1
 have HX1:=zhd (zaE HE1.out (Nat.le_refl _) (.slice A3 d.fs.length c3) (.slice B3 d.q.length e3) (.int .i64 d.quota) (.int .i64 d.fuse) (.bool d.dead))
 have HC:=zhd (zqc _ d n _ (show DkV _ _ d from ⟨_,_,rfl,hof'.fs,hoq'.qs⟩) hn HZ.out)
 have HB1:=zhd hb1'
 have HB2:=zhd hb2'
 have HOF:=zhd hof'
 have HOQ:=zhd hoq'
 clear hof hoq hof' hoq' hb2 hb2' HE1
 obtain ⟨f0,f1,f2,f3,f4⟩:=zbg hb1
 obtain ⟨g0,g1,g2,g3,g4⟩:=zad hb1
 clear hb1 hb1'
 go_wp2_with fail
 clear f0 f1 f2 f3 f4 g0 g1 g2 g3 g4
 refine HC.out.mono ?_
 rintro e w2 ⟨rfl,hE2⟩
 have hb1:=HB1.out.ext hE2
 have hb2:=HB2.out.ext hE2
 have hof:OwnF w2 w.heap.size (.slice A3 d.fs.length c3) d.fs:=OwnX.ext zbw HOF.out hE2
 have hoq:OwnQ w2 w.heap.size (.slice B3 d.q.length e3) d.q:=OwnX.ext zcx HOQ.out hE2
 have HX2:=zhd (Ext.trans HX1.out hE2)
 clear HC HB1 HB2 HOF HOQ HX1 hE2
 have HC:=zhd (zlk _ d n _ (show DkV w2 (.agg #[.slice A3 d.fs.length c3,.slice B3 d.q.length e3,.int .i64 d.quota,.int .i64 d.fuse,.bool d.dead]) d from ⟨_,_,rfl,hof.fs,hoq.qs⟩) hn HZ.out)
 obtain ⟨g0,g1,g2,g3,g4⟩:=zad hb1
 rcases zkt d with hm | hm | hm
 ·have e1:S=({ d with fs:=d.now,q:=[] }.burn,0):=by rw[←HS.out];unfold Dk.syncS;rw[if_neg (by simp[hm])]
  subst e1
  rw[hm]
  have HB1:=zhd hb1
  have HB2:=zhd hb2
  clear hof hoq hb1 hb2 HS
  go_wp2_with fail
  clear g0 g1 g2 g3 g4
  refine HC.out.mono ?_
  rintro e w3 ⟨A4,c4,rfl,ho4,hE3⟩
  have hb1:=HB1.out.ext hE3
  have hb2:=HB2.out.ext hE3
  have ho5:OwnF w3 w.heap.size (.slice A4 d.now.length c4) d.now:=OwnX.base ho4 HX2.out.size
  have HX3:=zhd (Ext.trans HX2.out hE3)
  clear HC HB1 HB2 HX2 hE3 ho4
  have f0:=hb1.frozen 0
  have k0:Blk _ w.heap.size 25 (zaA A4 d.now.length c4 B3 d.q.length e3 d.quota d.fuse d.dead):=hb1.set 0 (.slice A4 d.now.length c4)
  have f1:=k0.frozen 1
  have k1:Blk _ w.heap.size 25 (zaA A4 d.now.length c4 none 0 0 d.quota d.fuse d.dead):=k0.set 1 (.slice none 0 0)
  have of1:=OwnF.setD (j:=1) (u:=.slice none 0 0) (OwnF.setD (j:=0) (u:=.slice A4 d.now.length c4) ho5 (by decide) hb1 zaB) (by decide) k0 zaB
  have K1:=zhd k1
  have OF1:=zhd of1
  have HB:=zhd (hb2.other (show w.heap.size+1≠w.heap.size by omega) 0 (.slice A4 d.now.length c4))
  have HB2:=zhd (HB.out.other (show w.heap.size+1≠w.heap.size by omega) 1 (.slice none 0 0))
  have HX4:=zhd (Below.setCell (p:=⟨w.heap.size,1,none⟩) (Below.setCell (p:=⟨w.heap.size,0,none⟩) HX3.out (Nat.le_refl _) (.slice A4 d.now.length c4)) (Nat.le_refl _) (.slice none 0 0))
  obtain ⟨g0,g1,_,_,_⟩:=zad hb1
  clear hb1 hb2 ho5 k0 k1 of1 HB HX3
  go_wp2_with fail
  clear f0 f1 g0 g1
  refine (zlr w.heap.size _ _ d.quota d.fuse d.dead _ K1.out HZ.out.f).mono ?_
  rintro e w4 ⟨rfl,hw4⟩
  obtain ⟨hb1,hof,hoq,hoth,hext⟩:=zls (d:={ d with fs:=d.now,q:=[] }) K1.out OF1.out (OwnX.nil _ _ _)
  rw[hw4] at hb1 hof hoq hoth hext
  have hb2:=hoth _ _ _ (by omega) HB2.out
  have hE4:=hext _ HX4.out (Nat.le_refl _)
  obtain ⟨d5,hd5⟩:∃ x,({ d with fs:=d.now,q:=[] }:Dk).burn=x:=⟨_,rfl⟩
  rw[hd5] at hb1 hof hoq
  have H5:=zhd hd5
  clear hd5
  obtain ⟨g0,g1,g2,g3,g4⟩:=zad hb1
  obtain ⟨f0,f1,f2,f3,f4⟩:=zbg hb2
  obtain ⟨d0,d1,d2,d3,d4⟩:=zad hb2
  have Q1:=zhd hb2
  have Q2:=zhd hof
  have Q3:=zhd hoq
  have Q4:=zhd hE4
  clear hb1 hb2 hof hoq hoth hext hE4 K1 OF1 HB2 HX4 hw4
  go_wp2_with fail
  refine bodyPost_ret (zi7 _ _ _ _ (.int .i64 0) rfl rfl (zaJ Q1.out _ _ _ _ _) rfl) rfl ?_
  have hd5:=H5.out
  subst hd5
  exact ⟨_,rfl,⟨_,_,_,_,rfl,OwnF.box1 Q2.out Q1.out,OwnQ.box1 Q3.out Q1.out⟩,zaE Q4.out (Nat.le_succ _) _ _ _ _ _⟩
 ·have e1:S=(d,2):=by rw[←HS.out];unfold Dk.syncS;rw[if_pos (by simp[hm]),hm]
  subst e1
  rw[hm]
  clear HC HS
  obtain ⟨f0,f1,f2,f3,f4⟩:=zbg hb2
  obtain ⟨d0,d1,d2,d3,d4⟩:=zad hb2
  have Q1:=zhd hb2
  have Q2:=zhd hof
  have Q3:=zhd hoq
  clear hb1 hb2 hof hoq
  go_wp2_with fail
  refine bodyPost_ret (zi7 _ _ _ _ (.int .i64 2) rfl rfl (zaJ Q1.out _ _ _ _ _) rfl) rfl ?_
  exact ⟨_,rfl,⟨_,_,_,_,rfl,OwnF.box1 Q2.out Q1.out,OwnQ.box1 Q3.out Q1.out⟩,zaE HX2.out (Nat.le_succ _) _ _ _ _ _⟩
 ·have e1:S=(d,40):=by rw[←HS.out];unfold Dk.syncS;rw[if_pos (by simp[hm]),hm]
  subst e1
  rw[hm]
  clear HC HS
  obtain ⟨f0,f1,f2,f3,f4⟩:=zbg hb2
  obtain ⟨d0,d1,d2,d3,d4⟩:=zad hb2
  have Q1:=zhd hb2
  have Q2:=zhd hof
  have Q3:=zhd hoq
  clear hb1 hb2 hof hoq
  go_wp2_with fail
  refine bodyPost_ret (zi7 _ _ _ _ (.int .i64 40) rfl rfl (zaJ Q1.out _ _ _ _ _) rfl) rfl ?_
  exact ⟨_,rfl,⟨_,_,_,_,rfl,OwnF.box1 Q2.out Q1.out,OwnQ.box1 Q3.out Q1.out⟩,zaE HX2.out (Nat.le_succ _) _ _ _ _ _⟩
end Go.Proofs.YtgonhdeochgkoaaGreatDoor
