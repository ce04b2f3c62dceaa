/- Merged: TRight TRight2 -/
import Derived.Test.YtgonhdeochgkoaaGreatDoorZt20
set_option linter.all false
set_option maxHeartbeats 8000000
set_option maxRecDepth 100000
namespace Go.Proofs.YtgonhdeochgkoaaGreatDoor
open Go.RowKit Go.Mv
theorem zhY (w:World):Calls Tryz.prog 144 #[.bool true] w fun en w'=>en=.returned (.tuple #[])∧w=w':=by
 go_enter Tryz.func144,Tryz.ntmps144
 go_wp2
 go_end0
 exact ⟨rfl,rfl⟩
theorem zcz (w:World):Calls Tryz.prog 144 #[.bool false] w fun en w'=>en=pan 2∧w=w':=by
 go_enter Tryz.func144,Tryz.ntmps144
 go_wp2
 exact ⟨rfl,rfl,rfl⟩
theorem zfz {p:Prop} {inst:Decidable p} (h:¬ p) (w:World):Calls Tryz.prog 144 #[.bool (@decide p inst)] w fun en w'=>en=pan 2∧w=w':=by
 rw[decide_eq_false h]
 exact zcz w
theorem zqM (p:Addr) (y:Value) (e:Int) (older:List PanicEntry) (w:World) (hc:w.cell? p=some y) (hz:w.frozen? p=false) :
  CallsD Tryz.prog 143 #[.pointer (some p)] (.panicking ({ v:=.iface 32 (.int .i64 e),recovered:=false }::older)) w fun en u' w' =>
   en=.returned (.tuple #[])∧u'=.panicking ({ v:=.iface 32 (.int .i64 e),recovered:=true }::older)∧w'=w.setCell p (.int .i64 e):=by
 refine callsD_of_wpS Tryz.func143 rfl fun c₀ cs hu=>?_
 have h1:=znG e
 apply wpS_seq
 apply wpS_region
 simp[wpOpsS,go_sem,recoverD,hu,Tryz.ntmps143,Exit.thenS,h1]
 apply wpS_seq
 apply wpS_region
 simp[wpOpsS,go_sem,Exit.thenS,Array.replicate]
 refine wpS_cond (t:=true) (by simp[Act.eval,Array.replicate]) ?_
 simp only[if_true]
 apply wpS_region
 simp[wpOpsS,go_sem,hc,hz,bodyPostS,results,Tryz.results143,Array.replicate]
theorem zoX (p:Addr) (w:World) :
  CallsD Tryz.prog 143 #[.pointer (some p)] .returning w fun en u' w'=>en=.returned (.tuple #[])∧u'=.returning∧w'=w:=by
 refine callsD_of_wpS Tryz.func143 rfl fun c₀ cs hu=>?_
 have h1:=zsJ
 apply wpS_seq
 apply wpS_region
 simp[wpOpsS,go_sem,recoverD,hu,Tryz.ntmps143,Exit.thenS,h1]
 apply wpS_seq
 apply wpS_region
 simp[wpOpsS,go_sem,Exit.thenS,Array.replicate]
 refine wpS_cond (t:=false) (by simp[Act.eval,Array.replicate]) ?_
 simp only[Bool.false_eq_true,if_false]
 refine wpS_of_wp ?_
 cases c₀
 simp_all [wp_skip,bodyPostS,results,Tryz.results143]
theorem znI (cs:Array Value) (hs:cs.size=8) (w:World):Calls Tryz.prog 146 #[.agg cs] w fun e w'=>e=.returned (.func (.func 171) #[] #[.pointer (some ⟨w.heap.size,0,none⟩)])∧w.alloc (.cells cs 56)=w':=by
 obtain ⟨a0,a1,a2,a3,a4,a5,a6,a7,rfl⟩:∃ a0 a1 a2 a3 a4 a5 a6 a7,cs = #[a0,a1,a2,a3,a4,a5,a6,a7]:=by
  obtain ⟨l⟩:=cs
  match l,hs with
  | [a0,a1,a2,a3,a4,a5,a6,a7],_=>exact ⟨_,_,_,_,_,_,_,_,rfl⟩
 go_enter Tryz.func146,Tryz.ntmps146
 go_wp2
 go_ret
 exact ⟨rfl,rfl⟩
attribute [local go_sem] Oper.semAt_some in
theorem zmk (wo W0:World) (t:Tup) (v:Value) (hE:Es wo v t.log) (hlen:t.log.length≤4000000) (hH:Hold wo W0) (B bo:Nat) (hB:Blk W0 B 56 (zbV t v)) (hBo:B≠bo) (h1:wo.heap.size≤bo) :
  zpx Tryz.prog 171 #[.pointer (some ⟨B,0,none⟩)] (fun (x:Ent) av _=>∃ n,av = #[.int .i64 n,x.val]) (fun k o=>k≠bo∧o.isCells=true) (fun _ _=>False) t.log none W0:=by
 intro l J Jx Jp hJ hJx hJp hY h0;obtain ⟨A,c,rfl,hb1,hb2⟩:=SlR.open_ hE
 refine (callsIn_wd (ro:=none) (n:=9)).1 ?_
 refine callsIn_of_wp Tryz.func171 rfl trivial ?_ rfl
 simp only[Tryz.ntmps171,List.size_toArray,List.length_cons,List.length_nil,Nat.reduceAdd,Nat.reduceSub,Array.replicate_succ,Array.replicate_zero,List.push_toArray,List.append_toArray,List.nil_append,List.cons_append];have Hes:=zhd hE;clear hE;obtain ⟨s,all,tm,vt⟩:=t
 dsimp only at *
 have c5:W0.cell? ⟨B,5,none⟩=some (.slice A all.length c):=hB.cell 5 rfl
 have HB:=zhd hB;clear hB
 gi_wp2
 clear c5
 gi_loopw [8] (fun j W=>∃ k:Nat,j=.int .i64 k∧k≤all.length∧Hid (J (all.take k) W)∧Hold wo W∧Hid (Blk W B 56 (zbV ⟨s,all,tm,vt⟩ (.slice A all.length c)))∧W0.heap.size≤W.heap.size) (fun j _=>all.length+1-(intOf j).toNat)
 case atStart=>exact ⟨0,rfl,by omega,h0,hH,HB,Nat.le_refl _⟩
 case round =>
  clear HB;obtain ⟨k,rfl,hkl,HJ,HH,HB,hsz⟩:=hrel
  by_cases hlt:k<all.length
  ·obtain ⟨_,b,off,rfl,hc⟩:=Es.at_ (Hes.out.keep HH) (by omega)
   obtain ⟨k0,k1,k2⟩:=hc k hlt
   have htk:all.take (k+1)=all.take k++[all[k]]:=List.take_succ_eq_append_getElem hlt
   have hsp:all=all.take k++all[k]::all.drop (k+1):=by rw[←List.drop_eq_getElem_cons hlt,List.take_append_drop]
   have Hno:=zhd hY;have HTK:=zhd htk;have HSP:=zhd hsp;clear hc hY htk hsp
   generalize all[k]=x at *
   have hX1:Ext wr (wr.alloc (.cells #[.int .i64 x.t,.int .i64 x.k,.int .i64 x.v] 79)):=Ext.alloc (Ext.refl _) _
   have hJ1:=hJ _ wr (wr.alloc (.cells #[.int .i64 x.t,.int .i64 x.k,.int .i64 x.v] 79)) HJ.out (Moves.refl.alloc _);have hsz1:=Nat.le_trans hsz hX1.size;have hB1:=HB.out.ext hX1
   have hH1:Hold wo (wr.alloc (.cells #[.int .i64 x.t,.int .i64 x.k,.int .i64 x.v] 79)):=fun q u hq=>Ext.cell hX1 (HH q u hq)
   have hy:=fun n=>Hno.out _ x _ HSP.out _ #[.int .i64 n,x.val] hJ1 hsz1 ⟨n,rfl⟩
   have Hy:=zhd hy;have HH1:=zhd hH1;have hbx:=Blk.new wr 79 #[.int .i64 x.t,.int .i64 x.k,.int .i64 x.v];obtain ⟨g0,g1,g2⟩:=zds hbx
   have c0:(wr.alloc (.cells #[.int .i64 x.t,.int .i64 x.k,.int .i64 x.v] 79)).cell? ⟨B,0,none⟩=some (.int .i64 s.idx):=hB1.cell 0 rfl
   have HB1:=zhd hB1;clear hy hJ1 hH1 hX1 hbx hB1
   gi_wp2
   refine zmm (Hy.out _) ?_
   rintro e W' (⟨hk',⟨rfl,hj⟩ | ⟨rfl,hj⟩⟩ | ⟨cc,rfl,hj⟩)
   ·refine .inl ⟨true,rfl,?_⟩
    have d1:Blk W' B 56 (zbV ⟨s,all,tm,vt⟩ (.slice (some ⟨b,off,none⟩) all.length c)):=hk'.same _ _ HB1.out (.inl ⟨hBo,rfl⟩)
    have hs':W0.heap.size≤W'.heap.size:=Nat.le_trans hsz1 hk'.size
    have HH2:=zhd (Hold.keptK HH1.out (fun _ _ hk ho=>⟨by omega,ho⟩) hk')
    have HJ3:=zhd hj;have HD1:=zhd d1;clear hj hk' g0 g1 g2 c0 k0 k1 k2 d1
    gi_wp2
    exact ⟨⟨k+1,by go_num,by omega,by rw[HTK.out];exact HJ3.out,HH2.out,HD1,hs'⟩,by simp[intOf];omega⟩
   ·refine .inl ⟨false,rfl,?_⟩
    have HJ3:=zhd hj;clear hj hk' g0 g1 g2 c0 k0 k1 k2
    gi_wp2
    refine bodyPost_ret (results_none rfl _ _ _) rfl ?_
    refine .inr (.inr (.inl ⟨⟨_,rfl⟩,all.take k++[x],⟨all.drop (k+1),?_⟩,HJ3.out⟩))
    rw[List.append_assoc]
    exact HSP.out.symm
   ·refine .inr ⟨cc,rfl,?_⟩
    exact ⟨rfl,.inr (.inr (.inr ⟨cc,rfl,hj⟩))⟩
  ·obtain rfl:k=all.length:=by omega
   have hj:=HJ.out;rw[List.take_length] at hj;have HJ:=zhd hj;clear hY hj
   gi_wp2
   refine bodyPost_end (results_none rfl _ _ _) rfl ?_
   exact .inl ⟨trivial,⟨_,rfl⟩,HJ.out⟩
def zhk (t:Tup):Ending:=if zbN t then .returned (.tuple #[]) else pan 2
theorem ziQ {W:World} {b:Nat} {ty:TypeId} {t:Tup} {v:Value} (h:Blk W b ty (zbV t v)):W.cell? ⟨b,0,none⟩=some (.int .i64 t.s.idx)∧W.cell? ⟨b,1,none⟩=some (.int .i64 t.s.term)∧W.cell? ⟨b,2,none⟩=some (.int .i64 t.s.sum)∧W.cell? ⟨b,3,none⟩=some (.int .i64 t.s.lvl)∧W.cell? ⟨b,4,none⟩=some (.bool t.s.fin)∧W.cell? ⟨b,5,none⟩=some v∧W.cell? ⟨b,6,none⟩=some (.int .i64 t.term)∧W.cell? ⟨b,7,none⟩=some (.int .i64 t.vote):=zbU h
structure CkI (w:World) (bl:Nat) (t:Tup) (v:Value) (pre:List Ent) (W:World):Prop where
 bx:Blk W w.heap.size 56 (zbV t v)
 la:∃ c,Boxed W bl 3 (.int .i64 c)∧goT t.s.term t.log=goT c (t.log.drop pre.length)
 e:Ext w W
theorem zrG:∀ (l:List Ent) (c x:Int),goT c l=some x→c≤x
 | [],c,x,h=>by unfold goT at h;cases h;exact Int.le_refl _
 | e::l,c,x,h=>by
  unfold goT at h
  split at h
  ·rename_i hc
   have:=zrG l _ _ h
   simp at hc
   omega
  ·cases h
theorem zeh {P:Program} {n:Nat} {fn:Func} {tmps:Array Value} {R:Ending→World→Prop} {D:Nat} {W:World} {c:List PanicEntry} (hK:W.heap[D]?=some (.deferred (some []))) (hR:R (.panicked c) (W.putObj D (.deferred none))) :
  bodyPostM (Wd none) n P fn R (.panic c) ⟨tmps,[{ target:=.collected D,args:=#[] }]⟩ W :=
 ⟨by simp,.inl ⟨_,_,rfl,run_takeDeferred hK,hR⟩⟩
def zeA (e:Int):List PanicEntry:=[{ v:=.iface 32 (.int .i64 e),recovered:=false }]
theorem zf1 {t:Tup} (h:zbN t=false):zhk t=pan 2:=by unfold zhk;rw[h];rfl
theorem zlf {t:Tup} (h:zbN t=true):zhk t=.returned (.tuple #[]):=by unfold zhk;rw[h];rfl
attribute [local go_sem] Oper.semAt_some in
theorem zrg (t:Tup) (v:Value) (w:World) (hE:Es w v t.log) (hlen:t.log.length≤4000000) :
  Calls Tryz.prog 112 #[.agg (zbV t v)] w fun en w'=>en=zhk t∧Ext w w':=by
 obtain ⟨A,c,rfl,hb1,hb2⟩:=SlR.open_ hE;obtain ⟨E,hEE⟩:∃ E,zhk t=E:=⟨_,rfl⟩;rw[hEE];have HEE:=zhd hEE;have HE:=zhd hE;clear hEE hE
 refine (callsIn_wd (ro:=none) (n:=9)).1 ?_
 refine zkt Tryz.func112 rfl ?_
 simp only[Tryz.ntmps112,List.size_toArray,List.length_cons,List.length_nil,Nat.reduceAdd,Nat.reduceSub,Array.replicate_succ,Array.replicate_zero,List.push_toArray,List.append_toArray,List.nil_append,List.cons_append]
 have hb0:Blk _ w.heap.size 56 (zbV t (.slice A t.log.length c)):=Blk.new w 56 (zbV t (.slice A t.log.length c))
 have hX:Ext w (w.alloc (.cells (zbV t (.slice A t.log.length c)) 56)):=Ext.alloc (Ext.refl _) _
 obtain ⟨m0,m1,m2,m3,m4,m5,m6,m7⟩:=ziQ hb0;have HX:=zhd hX;have HB:=zhd hb0;clear hb0 hX
 have hbad:zcn t=false→pan 2=E:=fun h=>by rw[←HEE.out];exact (zf1 (by unfold zbN;rw[h];rfl)).symm
 have HBAD:=zhd hbad;clear hbad
 unfold zbV at *
 refine ze6 (zfZ (n:=9) ?_)
 gi_wp2
 refine ze6 (zfZ (n:=9) ?_)
 by_cases h1:t.s.ok=true
 case neg =>
  obtain rfl:=HBAD.out (by unfold zcn;simp[h1])
  have h1:t.s.ok=false:=by simpa using h1
  gi_wp2_with (first | (refine ⟨trivial,?_⟩;gi_at_call 145;refine (callsIn_wd.2 (zcX t.s _)).mono ?_;rintro e w1 ⟨rfl,hE1⟩;have hb1:=HB.out.ext hE1;obtain ⟨p0,p1,p2,p3,p4,p5,p6,p7⟩:=ziQ hb1) | (refine ⟨trivial,?_⟩;gi_at_call 144;(first | refine (callsIn_wd.2 (zcz _)).mono ?_ | refine (callsIn_wd.2 (zfz (by omega) _)).mono ?_);rintro e w2 ⟨he,rfl⟩;obtain rfl:e=.panicked (zeA 2):=he) | (refine ⟨trivial,?_⟩))
  exact ⟨rfl,Ext.trans HX.out hE1⟩
 by_cases h2:t.s.idx≤1073740824
 case neg =>
  obtain rfl:=HBAD.out (by unfold zcn;simp[h2])
  gi_wp2_with (first | (refine ⟨trivial,?_⟩;gi_at_call 145;refine (callsIn_wd.2 (zcX t.s _)).mono ?_;rintro e w1 ⟨rfl,hE1⟩;have hb1:=HB.out.ext hE1;obtain ⟨p0,p1,p2,p3,p4,p5,p6,p7⟩:=ziQ hb1) | (refine ⟨trivial,?_⟩;gi_at_call 144;(first | refine (callsIn_wd.2 (zcz _)).mono ?_ | refine (callsIn_wd.2 (zfz (by omega) _)).mono ?_);rintro e w2 ⟨he,rfl⟩;obtain rfl:e=.panicked (zeA 2):=he) | (refine ⟨trivial,?_⟩))
  exact ⟨rfl,Ext.trans HX.out hE1⟩
 by_cases h3:(t.log.length:Int)≤200
 case neg =>
  obtain rfl:=HBAD.out (by unfold zcn;simp;omega)
  have h3':¬ (t.log.length≤200):=by omega
  gi_wp2_with (first | (refine ⟨trivial,?_⟩;gi_at_call 145;refine (callsIn_wd.2 (zcX t.s _)).mono ?_;rintro e w1 ⟨rfl,hE1⟩;have hb1:=HB.out.ext hE1;obtain ⟨p0,p1,p2,p3,p4,p5,p6,p7⟩:=ziQ hb1) | (refine ⟨trivial,?_⟩;gi_at_call 144;(first | refine (callsIn_wd.2 (zcz _)).mono ?_ | refine (callsIn_wd.2 (zfz (by omega) _)).mono ?_);rintro e w2 ⟨he,rfl⟩;obtain rfl:e=.panicked (zeA 2):=he) | (refine ⟨trivial,?_⟩))
  exact ⟨rfl,Ext.trans HX.out hE1⟩
 gi_wp2_with (first | (refine ⟨trivial,?_⟩;gi_at_call 145;refine (callsIn_wd.2 (zcX t.s _)).mono ?_;rintro e w1 ⟨rfl,hE1⟩;have hb1:=HB.out.ext hE1;obtain ⟨p0,p1,p2,p3,p4,p5,p6,p7⟩:=ziQ hb1) | (refine ⟨trivial,?_⟩;gi_at_call 144;refine (callsIn_wd.2 (zhY _)).mono ?_;rintro e w2 ⟨rfl,rfl⟩))
 have hXX:=Ext.trans HX.out hE1;have HX1:=zhd hXX;have HB1:=zhd hb1;have HL:=zhd h3;clear m0 m1 m2 m3 m4 m5 m6 m7 hE1 hb1 HX HB hXX
 refine ze6 (zfZ (n:=9) ?_)
 by_cases h4:0≤t.vote
 case neg =>
  obtain rfl:=HBAD.out (by unfold zcn;simp[h4])
  gi_wp2_with (first | (refine ⟨trivial,?_⟩;gi_at_call 144;refine (callsIn_wd.2 (zcz _)).mono ?_;rintro e w2 ⟨he,rfl⟩;obtain rfl:e=.panicked (zeA 2):=he))
  exact ⟨rfl,HX1.out⟩
 by_cases h5:t.vote≤5
 case neg =>
  obtain rfl:=HBAD.out (by unfold zcn;simp[h5])
  gi_wp2_with (first | (refine ⟨trivial,?_⟩;gi_at_call 144;refine (callsIn_wd.2 (zcz _)).mono ?_;rintro e w2 ⟨he,rfl⟩;obtain rfl:e=.panicked (zeA 2):=he))
  exact ⟨rfl,HX1.out⟩
 have hhead:zcn t=true:=by unfold zcn;simp[h1,h2,h4,h5];omega
 have hrt:zbN t=(match goT t.s.term t.log with | none=>false | some x=>decide (x≤t.term)&&decide (0≤t.term)&&decide (t.term≤1073741824)):=by unfold zbN;rw[hhead,Bool.true_and];cases goT t.s.term t.log <;> rfl
 have hst:0≤t.s.term:=by have:=(Sta.okP h1).2.1;unfold zaJ at this;simp at this;exact this.1
 by_cases h6:t.term≤1073741824
 case neg =>
  obtain rfl:pan 2=E:=by
   rw[←HEE.out]
   refine (zf1 ?_).symm
   rw[hrt]
   cases goT t.s.term t.log <;> simp[h6]
  gi_wp2_with (first | (refine ⟨trivial,?_⟩;gi_at_call 144;refine (callsIn_wd.2 (zcz _)).mono ?_;rintro e w2 ⟨he,rfl⟩;obtain rfl:e=.panicked (zeA 2):=he))
  exact ⟨rfl,HX1.out⟩
 gi_wp2_with (first | (refine ⟨trivial,?_⟩;gi_at_call 144;refine (callsIn_wd.2 (zhY _)).mono ?_;rintro e w2 ⟨rfl,rfl⟩))
 have HRT:=zhd hrt;have HST:=zhd hst;have H6:=zhd h6;clear h1 h2 h3 h4 h5 h6 hhead HBAD hrt hst
 refine ze6 (zfZ (n:=9) ?_)
 gi_wp2
 have hX3:Ext w1 (w1.alloc (.cells #[.int .i64 t.s.term] 3)):=Ext.alloc (Ext.refl _) _
 have hbl:=Boxed.new w1 3 (.int .i64 t.s.term)
 have hlt1:w.heap.size<w1.heap.size:=HB1.out.lt
 have HBL:=zhd hbl;have HX3:=zhd (Ext.trans HX1.out hX3);have HB3:=zhd (HB1.out.ext hX3)
 have hsz3:w1.heap.size<(w1.alloc (.cells #[.int .i64 t.s.term] 3)).heap.size:=by simp
 clear p0 p1 p2 p3 p4 p5 p6 p7 hX3 hbl HX1 HB1;obtain ⟨p0,p1,p2,p3,p4,p5,p6,p7⟩:=ziQ HB3.out
 refine ze6 (ze6 (zfZ (n:=9) ?_))
 generalize w1.alloc (.cells #[.int .i64 t.s.term] 3)=w3 at *
 gi_wp2_with (refine ⟨trivial,?_⟩;gi_at_call 146;refine (callsIn_wd.2 (znI _ rfl _)).mono ?_;rintro e w4 ⟨rfl,hw4⟩)
 have hE4:Ext w3 w4:=by rw[←hw4];exact Ext.alloc (Ext.refl _) _
 have hB4:Blk w4 w3.heap.size 56 (zbV t (.slice A t.log.length c)):=by rw[←hw4];exact Blk.new w3 _ _
 have h0:CkI w w1.heap.size t (.slice A t.log.length c) [] w4:=⟨HB3.out.ext hE4,⟨t.s.term,HBL.out.kept (row:=none) (Ext.grown hE4 none) (by simp),rfl⟩,Ext.trans HX3.out hE4⟩
 have hlt4:w3.heap.size<w4.heap.size:=hB4.lt
 have hwl:w.heap.size≤w4.heap.size:=h0.e.size
 have HB4:=zhd hB4;clear hw4 hB4 p0 p1 p2 p3 p4 p5 p6 p7
 have hsq:Hid (∀ W1,Below w4.heap.size w4 W1→zpx Tryz.prog 171 #[.pointer (some ⟨w3.heap.size,0,none⟩)] (fun (x:Ent) av _=>∃ n,av = #[.int .i64 n,x.val]) (fun k o=>k≠w1.heap.size∧o.isCells=true) (fun _ _=>False) t.log none W1):=fun W1 hb=>zmk w W1 t (.slice A t.log.length c) HE.out hlen (fun q u hq=>Ext.cell (Ext.trans h0.e hb) hq) w3.heap.size w1.heap.size (HB4.out.ext hb) (by omega) (by omega)
 refine zqP ?_
 refine zsU (n:=9) (Rp:=fun (x:Ent) av _=>∃ n,av = #[.int .i64 n,x.val]) (K:=fun k o=>k≠w1.heap.size∧o.isCells=true) (M:=fun _ _=>False) (xs:=t.log) (pn:=none) (gf:=171) (lb:=#[.pointer (some ⟨w3.heap.size,0,none⟩)]) ?hf0 (a:=⟨_,_⟩) ?hg ?eg ?hseq ?h1 ?h2 ?h3 (CkI w w1.heap.size t (.slice A t.log.length c)) (fun _ _ _=>False) (fun c W=>c=zeA 2∧pan 2=E∧Ext w W) ?hI (fun _ _ _ _ h _=>h) ?hIp h0
  (fun x a' W=>∃ (nb:Nat) (u0 u3 u5 u6 u7 u8 u9 u10 u11 u12 u13 u14 u15 u16 u17 u18 u19 u20 u21 u22 u23 u24 u25 u26 u27 u28 u29 u30 u31 u32 u33 u34 u35 u36 u37 u38 u39 u40 u41 u42 u43 u44 u45 u46 u47 u48 u49 u50 u51 u52 u53 u54 u55 u56 u57:Value),a'=⟨#[u0,.pointer (some ⟨w.heap.size,0,none⟩),.pointer (some ⟨w1.heap.size,0,none⟩),u3,.pointer (some ⟨nb,0,none⟩),u5,u6,u7,u8,u9,u10,u11,u12,u13,u14,u15,u16,u17,u18,u19,u20,u21,u22,u23,u24,u25,u26,u27,u28,u29,u30,u31,u32,u33,u34,u35,u36,u37,u38,u39,u40,u41,u42,u43,u44,u45,u46,u47,u48,u49,u50,u51,u52,u53,u54,u55,u56,u57],[]⟩∧Blk W nb 79 #[.int .i64 x.t,.int .i64 x.k,.int .i64 x.v])
  ?hAx ?assign ?body ?done ?pan ?pan2 ?stop
 case hf0=>exact ⟨_,Tryz.func112⟩
 case hg=>exact rfl
 case eg=>exact enters_of Tryz.func171 (by kernel_rfl) rfl
 case hseq=>exact fun W1 hb hs=>hsq.out W1 hb
 case h1=>exact fun k o h=>h.elim
 case h2=>exact fun k o h r e=>by rw[e] at h;cases h.2
 case h3=>exact fun x av W h=>by obtain ⟨n,rfl⟩:=h;rfl
 case hI =>
  rintro s X Y ⟨hbx,⟨cc,hb,hg⟩,hE⟩ hm
  refine ⟨hm.same _ _ hbx ?_,⟨cc,hm.boxed hb ?_,hg⟩,hm.belowOf hE ?_ (Nat.le_refl _)⟩
  ·rintro (h | h)
   ·exact h
   ·cases h.2
  ·rintro (h | h)
   ·exact h
   ·cases h.2
  ·rintro k o hk (h | h)
   ·exact h
   ·have:=h.1;omega
 case hIp =>
  rintro cc X Y ⟨rfl,h1,hE⟩ hm
  refine ⟨rfl,h1,hm.belowOf hE ?_ (Nat.le_refl _)⟩
  rintro k o hk (h | h)
  ·exact h
  ·have:=h.1;omega
 case hAx =>
  rintro x a' X Y ⟨nb,u0,u3,u5,u6,u7,u8,u9,u10,u11,u12,u13,u14,u15,u16,u17,u18,u19,u20,u21,u22,u23,u24,u25,u26,u27,u28,u29,u30,u31,u32,u33,u34,u35,u36,u37,u38,u39,u40,u41,u42,u43,u44,u45,u46,u47,u48,u49,u50,u51,u52,u53,u54,u55,u56,u57,rfl,hb⟩ hm
  refine ⟨nb,_,_,_,_,_,_,_,_,_,_,_,_,_,_,_,_,_,_,_,_,_,_,_,_,_,_,_,_,_,_,_,_,_,_,_,_,_,_,_,_,_,_,_,_,_,_,_,_,_,_,_,_,_,_,_,rfl,hm.same _ _ hb ?_⟩
  rintro (h | h)
  ·exact h
  ·cases h.2
 case assign =>
  rintro l' pre x post W av K' hx ⟨hbx,⟨cc,hb,hg⟩,hE⟩ hsz ⟨n,rfl⟩ hK;clear hx
  unfold Ent.val at *
  gi_wp2
  have hX1:Ext W (W.alloc (.cells #[.int .i64 x.t,.int .i64 x.k,.int .i64 x.v] 79)):=Ext.alloc (Ext.refl _) _
  exact hK _ _ (Kept.refl.alloc _) ⟨hbx.ext hX1,⟨cc,hb.kept (row:=none) (Ext.grown hX1 none) (by simp),hg⟩,Ext.trans hE hX1⟩ ⟨_,_,_,_,_,_,_,_,_,_,_,_,_,_,_,_,_,_,_,_,_,_,_,_,_,_,_,_,_,_,_,_,_,_,_,_,_,_,_,_,_,_,_,_,_,_,_,_,_,_,_,_,_,_,_,_,rfl,Blk.new _ _ _⟩
 case body =>
  rintro l' pre x post a' W hx hl' hr ⟨hbx,⟨cc,hb,hg⟩,hE⟩ hsz ⟨nb,u0,u3,u5,u6,u7,u8,u9,u10,u11,u12,u13,u14,u15,u16,u17,u18,u19,u20,u21,u22,u23,u24,u25,u26,u27,u28,u29,u30,u31,u32,u33,u34,u35,u36,u37,u38,u39,u40,u41,u42,u43,u44,u45,u46,u47,u48,u49,u50,u51,u52,u53,u54,u55,u56,u57,rfl,hx1⟩
  have hdr:t.log.drop pre.length=x::post:=by rw[hx,List.drop_left]
  have hdr2:t.log.drop (pre++[x]).length=post:=by rw[hx,show pre++x::post=(pre++[x])++post from by simp,List.drop_left]
  rw[hdr,goT] at hg;have HG:=zhd hg;have HD2:=zhd hdr2;obtain ⟨x0,x1,x2⟩:=zds hx1;have cl:=hb.cell
  have hne:nb≠w1.heap.size:=by
   rintro rfl
   have h1:W.heap[w1.heap.size]?=some (Obj.cells #[.int .i64 x.t,.int .i64 x.k,.int .i64 x.v] 79 (0,0)):=hx1
   have h2:W.heap[w1.heap.size]?=some (Obj.cells #[.int .i64 cc] 3 (0,0)):=hb
   rw[h2] at h1
   simp at h1
  clear hg hdr hdr2 hx hr
  cases ho:okB x.t x.k x.v with
  | false =>
   obtain rfl:pan 2=E:=by
    rw[←HEE.out]
    refine (zf1 ?_).symm
    rw[HRT.out,HG.out,ho];rfl
   gi_wp2_with (first | (refine ⟨trivial,?_⟩;gi_at_call 147;refine (callsIn_wd.2 (zfj x.t x.k x.v _)).mono ?_;rintro e w5 ⟨rfl,hE5⟩;have hE5:Ext W w5:=hE5;have q5:=hx1.ext hE5;have b5:=hb.kept (row:=none) (Ext.grown hE5 none) (by simp);obtain ⟨y0,y1,y2⟩:=zds q5;have cl5:=b5.cell;have fl5:=b5.frozen) | (refine ⟨trivial,?_⟩;gi_at_call 144;refine (callsIn_wd.2 (zcz _)).mono ?_;rintro e w2 ⟨he,rfl⟩;obtain rfl:e=.panicked (zeA 2):=he))
   (refine ⟨rfl,Kept.refl.below hE5 (Nat.le_refl _),?_⟩;first | exact ⟨rfl,rfl,Ext.trans hE hE5⟩ | exact ⟨rfl,Ext.trans hE hE5⟩)
  | true =>
   by_cases hle:cc≤x.t
   ·gi_wp2_with (first | (refine ⟨trivial,?_⟩;gi_at_call 147;refine (callsIn_wd.2 (zfj x.t x.k x.v _)).mono ?_;rintro e w5 ⟨rfl,hE5⟩;have hE5:Ext W w5:=hE5;have q5:=hx1.ext hE5;have b5:=hb.kept (row:=none) (Ext.grown hE5 none) (by simp);obtain ⟨y0,y1,y2⟩:=zds q5;have cl5:=b5.cell;have fl5:=b5.frozen) | (refine ⟨trivial,?_⟩;gi_at_call 144;refine (callsIn_wd.2 (zhY _)).mono ?_;rintro e w2 ⟨rfl,rfl⟩))
    have hk5:Kept (zab (fun k o=>k≠w1.heap.size∧o.isCells=true) w4.heap.size) W w5:=Kept.refl.below hE5 (Nat.le_refl _)
    refine ⟨hk5.setCell (fun o _ _=>?_) _,?_⟩
    ·rintro (⟨h,_⟩ | ⟨h,_⟩)
     ·exact h rfl
     ·dsimp only at h;omega
    ·refine ⟨(hbx.ext hE5).other (by omega) 0 _,⟨x.t,b5.set _,?_⟩,Below.setCell (p:=⟨w1.heap.size,0,none⟩) (Ext.trans hE hE5) (by show w.heap.size≤w1.heap.size;omega) _⟩
     rw[HG.out,HD2.out,ho]
     simp[hle]
   ·obtain rfl:pan 2=E:=by
     rw[←HEE.out]
     refine (zf1 ?_).symm
     rw[HRT.out,HG.out,ho]
     simp[hle]
    gi_wp2_with (first | (refine ⟨trivial,?_⟩;gi_at_call 147;refine (callsIn_wd.2 (zfj x.t x.k x.v _)).mono ?_;rintro e w5 ⟨rfl,hE5⟩;have hE5:Ext W w5:=hE5;have q5:=hx1.ext hE5;have b5:=hb.kept (row:=none) (Ext.grown hE5 none) (by simp);obtain ⟨y0,y1,y2⟩:=zds q5;have cl5:=b5.cell;have fl5:=b5.frozen) | (refine ⟨trivial,?_⟩;gi_at_call 144;refine (callsIn_wd.2 (zfz (by omega) _)).mono ?_;rintro e w2 ⟨he,rfl⟩;obtain rfl:e=.panicked (zeA 2):=he) | (refine ⟨trivial,?_⟩;gi_at_call 144;refine (callsIn_wd.2 (zcz _)).mono ?_;rintro e w2 ⟨he,rfl⟩;obtain rfl:e=.panicked (zeA 2):=he))
    (refine ⟨rfl,Kept.refl.below hE5 (Nat.le_refl _),?_⟩;first | exact ⟨rfl,rfl,Ext.trans hE hE5⟩ | exact ⟨rfl,Ext.trans hE hE5⟩)
 case done =>
  rintro D W _ hD ⟨hbx,⟨cc,hb,hg⟩,hE⟩ hK;rw[List.drop_length,goT] at hg;have cl:=hb.cell;obtain ⟨p0,p1,p2,p3,p4,p5,p6,p7⟩:=ziQ hbx
  have hcc:t.s.term≤cc:=zrG _ _ _ hg
  have hwb:w.heap.size≤D:=by omega
  have HG:=zhd hg
  refine zfZ (n:=9) ?_
  by_cases hle:cc≤t.term
  ·obtain rfl:Ending.returned (.tuple #[])=E:=by
    rw[←HEE.out]
    refine (zlf ?_).symm
    rw[HRT.out,HG.out]
    have:=H6.out
    have:=HST.out
    simp
    omega
   gi_wp2_with (first | (refine ⟨trivial,?_⟩;gi_at_call 144;refine (callsIn_wd.2 (zhY _)).mono ?_;rintro e w2 ⟨rfl,rfl⟩))
   exact zjQ hK (.tuple #[]) (results_none rfl _ _ _) ⟨rfl,zar hE hwb _⟩
  ·obtain rfl:pan 2=E:=by
    rw[←HEE.out]
    refine (zf1 ?_).symm
    rw[HRT.out,HG.out]
    simp[hle]
   have HLE:=zhd hle;clear hle
   gi_wp2_with (first | (refine ⟨trivial,?_⟩;gi_at_call 144;refine (callsIn_wd.2 (zfz HLE.out _)).mono ?_;rintro e w2 ⟨he,rfl⟩;obtain rfl:e=.panicked (zeA 2):=he) | (refine ⟨trivial,?_⟩;gi_at_call 144;refine (callsIn_wd.2 (zcz _)).mono ?_;rintro e w2 ⟨he,rfl⟩;obtain rfl:e=.panicked (zeA 2):=he))
   refine zeh (R:=fun en w'=>en=pan 2∧Ext w w') (c:=zeA 2) hK ?_
   exact ⟨rfl,zar hE hwb _⟩
 case pan =>
  rintro D c' W h
  cases h
 case pan2 =>
  rintro D c' W hD ⟨rfl,rfl,hE⟩ hK
  refine zeh (R:=fun en w'=>en=pan 2∧Ext w w') (c:=zeA 2) hK ?_
  exact ⟨rfl,zar hE (by omega) _⟩
 case stop =>
  rintro D cd pre W _ _ h _
  exact h.elim
theorem znZ (t:Tup) (v:Value) (p:Nat) (w:World) (hE:Es w v t.log) (hlen:t.log.length≤4000000) (hB:Blk w p 56 (zbV t v)) :
  Calls Tryz.prog 111 #[.pointer (some ⟨p,0,none⟩)] w fun en w'=>en=zhk t∧Ext w w':=by
 obtain ⟨A,c,rfl,_,_⟩:=SlR.open_ hE;obtain ⟨m0,m1,m2,m3,m4,m5,m6,m7⟩:=ziQ hB;have key:=zrg t _ w hE hlen;unfold zbV at key;have Key:=zhd key;clear key
 cases hr:zbN t with
 | true =>
  rw[zlf hr] at Key ⊢
  go_enter Tryz.func111,Tryz.ntmps111
  go_wp2_with fail
  refine Key.out.mono ?_
  rintro e w1 ⟨rfl,hE1⟩;clear m0 m1 m2 m3 m4 m5 m6 m7;go_wp2_with fail
  go_end0
  exact ⟨rfl,hE1⟩
 | false =>
  rw[zf1 hr] at Key ⊢
  go_enter Tryz.func111,Tryz.ntmps111
  go_wp2_with fail
  refine Key.out.mono ?_
  rintro e w1 ⟨rfl,hE1⟩
  exact ⟨rfl,rfl,hE1⟩
theorem zsR (t:Tup) (v:Value) (p:Nat) (w:World) (hE:Es w v t.log) (hlen:t.log.length≤4000000) (hB:Blk w p 56 (zbV t v)) :
  Calls Tryz.prog 110 #[.func (.func 111) #[] #[.pointer (some ⟨p,0,none⟩)]] w fun en w'=>en=.returned (.int .i64 (if zbN t then 0 else 2))∧Ext w w':=by
 have hmf:∀ (fn:Fn) (first cap:Array Value) (w:World),(Instr.makeFunc fn first cap).run Tryz.prog w=.ok (.func fn first cap) w:=fun _ _ _ _=>rfl
 have hX:Ext w (w.alloc (.cells #[.int .i64 0] 32)):=Ext.alloc (Ext.refl _) _
 have he:=Blk.new w 32 #[.int .i64 0];have key:=znZ t v p _ (SlR.ext hE hX) hlen (hB.ext hX);have HX:=zhd hX;have He:=zhd he;clear hB hX he hE
 cases hr:zbN t with
 | false =>
  rw[zf1 hr] at key;have Key:=zhd key;clear key hr
  go_enter_defers Tryz.func110,Tryz.ntmps110
  go_wp2_with fail
  refine Key.out.mono ?_
  rintro e w1 ⟨rfl,hE1⟩;have he1:=He.out.ext hE1
  refine leaves_cons (f:=143) (args:=#[.pointer (some ⟨w.heap.size,0,none⟩)]) (by simp) (by simp[go_sem]) ?_
  refine (zqM ⟨w.heap.size,0,none⟩ _ 2 [] _ (he1.cell 0 rfl) (he1.frozen 0)).mono ?_
  rintro e u' w2 ⟨rfl,rfl,rfl⟩;have hs:=he1.set 0 (.int .i64 2);have hc:=hs.cell 0 rfl
  simp[Leaves,settle,results,Tryz.results110,go_sem,hc]
  exact Below.setCell (p:=⟨w.heap.size,0,none⟩) (Ext.trans HX.out hE1) (Nat.le_refl _) _
 | true =>
  rw[zlf hr] at key;have Key:=zhd key;clear key hr
  go_enter_defers Tryz.func110,Tryz.ntmps110
  go_wp2_with fail
  refine Key.out.mono ?_
  rintro e w1 ⟨rfl,hE1⟩;have he1:=He.out.ext hE1;have f0:=he1.frozen 0;have g0:=he1.cell 0 rfl;have HE:=zhd (Ext.trans HX.out hE1);have He1:=zhd he1;clear hE1 he1;go_wp2_with fail
  refine leaves_cons (f:=143) (args:=#[.pointer (some ⟨w.heap.size,0,none⟩)]) (by simp) (by simp[go_sem]) ?_
  refine (zoX ⟨w.heap.size,0,none⟩ _).mono ?_
  rintro e u' w4 ⟨rfl,rfl,rfl⟩;have hs:=He1.out.set 0 (.int .i64 0)
  have hc:(w1.setCell ⟨w.heap.size,0,none⟩ (.int .i64 0)).cell? ⟨w.heap.size,0,none⟩=some (.int .i64 0):=hs.cell 0 rfl
  simp[Leaves,settle,results,Tryz.results110,go_sem,hc]
  exact Below.setCell (p:=⟨w.heap.size,0,none⟩) HE.out (Nat.le_refl _) _
theorem zpA (t:Tup) (v:Value) (w:World) (hE:Es w v t.log) (hlen:t.log.length≤4000000) :
  Calls Tryz.prog 65 #[.agg #[.int .i64 t.s.idx,.int .i64 t.s.term,.int .i64 t.s.sum,.int .i64 t.s.lvl,.bool t.s.fin,v,.int .i64 t.term,.int .i64 t.vote]] w fun en w'=>en=.returned (.bool (zbN t))∧Ext w w':=by
 have hmf:∀ (fn:Fn) (first cap:Array Value) (w:World),(Instr.makeFunc fn first cap).run Tryz.prog w=.ok (.func fn first cap) w:=fun _ _ _ _=>rfl
 obtain ⟨A,c,rfl,_,_⟩:=SlR.open_ hE
 have hX:Ext w (w.alloc (.cells (zbV t (.slice A t.log.length c)) 56)):=Ext.alloc (Ext.refl _) _
 have key:=zsR t _ w.heap.size _ (SlR.ext hE hX) hlen (Blk.new w 56 (zbV t (.slice A t.log.length c)))
 unfold zbV at *
 have HX:=zhd hX;clear hX hE
 cases hr:zbN t with
 | false =>
  rw[hr] at key;have Key:=zhd key;clear key hr
  go_enter Tryz.func65,Tryz.ntmps65
  go_wp2_with fail
  refine Key.out.mono ?_
  rintro e w1 ⟨rfl,hE1⟩;simp only[Bool.false_eq_true,if_false];go_wp2_with fail;go_ret
  exact ⟨rfl,Ext.trans HX.out hE1⟩
 | true =>
  rw[hr] at key;have Key:=zhd key;clear key hr
  go_enter Tryz.func65,Tryz.ntmps65
  go_wp2_with fail
  refine Key.out.mono ?_
  rintro e w1 ⟨rfl,hE1⟩;simp only[if_true];go_wp2_with fail;go_ret
  exact ⟨rfl,Ext.trans HX.out hE1⟩
end Go.Proofs.YtgonhdeochgkoaaGreatDoor
