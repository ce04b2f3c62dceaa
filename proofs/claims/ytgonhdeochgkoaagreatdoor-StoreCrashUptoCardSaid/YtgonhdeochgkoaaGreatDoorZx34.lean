/- Merged -/
import Derived.Test.YtgonhdeochgkoaaGreatDoorZx19
import Derived.Test.YtgonhdeochgkoaaGreatDoorZx33
set_option linter.all false
set_option maxHeartbeats 8000000
set_option maxRecDepth 100000
open Array renaming replicate→P0,replicate_zero→P1,replicate_succ→P2
open Go.Mv.Ext renaming grown→P3,cell→P4
open List renaming append_toArray→P5,size_toArray→P6,push_toArray→P7,cons_append→P8,length_nil→P9,drop_left→Pa
open Nat renaming reduceSub→Pb,reduceAdd→Pc,le_trans→Pd
namespace Go.Proofs.YtgonhdeochgkoaaGreatDoor
open Go.RowKit Go.Mv
theorem mcTRighta0 {P:Prop} (h:P:=by
 gi_wp2_with (first | (refine ⟨trivial,?_⟩;gi_at_call 145;refine (callsIn_wd.2 (zcU t.s _)).mono ?_;rintro e w1 ⟨rfl,H1⟩;have Hc:=HB.out.ext H1;obtain ⟨p0,p1,p2,p3,p4,p5,p6,p7⟩:=ziv Hc) | (refine ⟨trivial,?_⟩;gi_at_call 144;(first | refine (callsIn_wd.2 (zcx _)).mono ?_ | refine (callsIn_wd.2 (zff (by omega) _)).mono ?_);rintro e w2 ⟨he,rfl⟩;obtain rfl:e=.panicked (zer 2):=he) | (refine ⟨trivial,?_⟩))
 exact ⟨rfl,xT HX.out H1⟩):P:=h
theorem mcTRighta1 {P:Prop} (h:P:=by
 gi_wp2_with (first | (refine ⟨trivial,?_⟩;gi_at_call 144;refine (callsIn_wd.2 (zcx _)).mono ?_;rintro e w2 ⟨he,rfl⟩;obtain rfl:e=.panicked (zer 2):=he))
 exact ⟨rfl,Hm.out⟩):P:=h
theorem zhy (w:World):Calls Tryz.prog 144 #[.bool true] w fun en w'=>en=.returned (.tuple #[])∧w=w':=by
 go_enter Tryz.func144,Tryz.ntmps144
 go_wp2
 go_end0
 exact ⟨rfl,rfl⟩
theorem zcx (w:World):Calls Tryz.prog 144 #[.bool false] w fun en w'=>en=pan 2∧w=w':=by
 go_enter Tryz.func144,Tryz.ntmps144
 go_wp2
 exact ⟨rfl,rfl,rfl⟩
theorem zff {p:Prop} {inst:Decidable p} (h:¬ p) (w:World):Calls Tryz.prog 144 #[.bool (@decide p inst)] w fun en w'=>en=pan 2∧w=w':=by
 rw[decide_eq_false h]
 exact zcx w
theorem zp9 (p:Addr) (y:Value) (e:Int) (older:List PanicEntry) (w:World) (hc:w.cell? p=some y) (hz:w.frozen? p=false) :
  CallsD Tryz.prog 143 #[.pointer (some p)] (.panicking ({ v:=.iface 32 (.int .i64 e),recovered:=false }::older)) w fun en u' w' =>
   en=.returned (.tuple #[])∧u'=.panicking ({ v:=.iface 32 (.int .i64 e),recovered:=true }::older)∧w'=w.setCell p (.int .i64 e):=by
 refine callsD_of_wpS Tryz.func143 rfl fun c₀ cs hu=>?_
 have h1:=znd e
 apply wpS_seq
 apply wpS_region
 simp[wpOpsS,go_sem,recoverD,hu,Tryz.ntmps143,Exit.thenS,h1]
 apply wpS_seq
 apply wpS_region
 simp[wpOpsS,go_sem,Exit.thenS,P0]
 refine wpS_cond (t:=true) (by simp[Act.eval,P0]) ?_
 simp only[if_true]
 apply wpS_region
 simp[wpOpsS,go_sem,hc,hz,bodyPostS,results,Tryz.results143,P0]
theorem zoq (p:Addr) (w:World) :
  CallsD Tryz.prog 143 #[.pointer (some p)] .returning w fun en u' w'=>en=.returned (.tuple #[])∧u'=.returning∧w'=w:=by
 refine callsD_of_wpS Tryz.func143 rfl fun c₀ cs hu=>?_
 have h1:=zrW
 apply wpS_seq
 apply wpS_region
 simp[wpOpsS,go_sem,recoverD,hu,Tryz.ntmps143,Exit.thenS,h1]
 apply wpS_seq
 apply wpS_region
 simp[wpOpsS,go_sem,Exit.thenS,P0]
 refine wpS_cond (t:=false) (by simp[Act.eval,P0]) ?_
 simp only[Bool.false_eq_true,if_false]
 refine wpS_of_wp ?_
 cases c₀
 simp_all [wp_skip,bodyPostS,results,Tryz.results143]
theorem znf (cs:Array Value) (hs:cs.size=8) (w:World):Calls Tryz.prog 146 #[.agg cs] w fun e w'=>e=.returned (.func (.func 171) #[] #[.pointer (some ⟨w.heap.size,0,none⟩)])∧w.alloc (.cells cs 56)=w':=by
 obtain ⟨a0,a1,a2,a3,a4,a5,a6,a7,rfl⟩:∃ a0 a1 a2 a3 a4 a5 a6 a7,cs = #[a0,a1,a2,a3,a4,a5,a6,a7]:=by
  obtain ⟨l⟩:=cs
  match l,hs with
  | [a0,a1,a2,a3,a4,a5,a6,a7],_=>exact ⟨_,_,_,_,_,_,_,_,rfl⟩
 go_enter Tryz.func146,Tryz.ntmps146
 go_wp2
 go_ret
 exact ⟨rfl,rfl⟩
attribute [local go_sem] Oper.semAt_some in
theorem zlN (wo W0:World) (t:Tup) (v:Value) (hE:Es wo v t.log) (H2:t.log.length≤4000000) (hH:Hold wo W0) (B bo:Nat) (hB:Blk W0 B 56 (zbT t v)) (KT:B≠bo) (h1:wo.heap.size≤bo) :
  zo3 Tryz.prog 171 #[.pointer (some ⟨B,0,none⟩)] (fun (x:Ent) av _=>∃ n,av = #[.int .i64 n,x.val]) (fun k o=>k≠bo∧o.isCells=true) (fun _ _=>False) t.log none W0:=by
 intro l J Jx Jp hJ J5 J4 hY h0;obtain ⟨A,c,rfl,Hc,KU⟩:=xO hE
 refine (callsIn_wd (ro:=none) (n:=9)).1 ?_
 refine callsIn_of_wp Tryz.func171 rfl trivial ?_ rfl
 simp only[Tryz.ntmps171,P6,xC,P9,Pc,Pb,P2,P1,P7,P5,xI,P8];have KQ:=zhd hE;clear hE;obtain ⟨s,all,tm,vt⟩:=t
 dsimp only at *
 have c5:W0.cell? ⟨B,5,none⟩=some (.slice A all.length c):=hB.cell 5 rfl
 have HB:=zhd hB;clear hB
 gi_wp2
 clear c5
 gi_loopw [8] (fun j W=>∃ k:Nat,j=.int .i64 k∧k≤all.length∧Hid (J (all.take k) W)∧Hold wo W∧Hid (Blk W B 56 (zbT ⟨s,all,tm,vt⟩ (.slice A all.length c)))∧W0.heap.size≤W.heap.size) (fun j _=>all.length+1-(intOf j).toNat)
 case atStart=>exact ⟨0,rfl,by omega,h0,hH,HB,xN _⟩
 case round =>
  clear HB;obtain ⟨k,rfl,J7,HJ,HH,HB,Hu⟩:=hrel
  by_cases hlt:k<all.length
  ·obtain ⟨_,b,J2,rfl,hc⟩:=Es.at_ (KQ.out.keep HH) (by omega)
   obtain ⟨k0,k1,k2⟩:=hc k hlt
   have KC:all.take (k+1)=all.take k++[all[k]]:=List.take_succ_eq_append_getElem hlt
   have KA:all=all.take k++all[k]::all.drop (k+1):=by rw[←List.drop_eq_getElem_cons hlt,List.take_append_drop]
   have KR:=zhd hY;have KN:=zhd KC;have Ks:=zhd KA;clear hc hY KC KA
   generalize all[k]=x at *
   have H8:Ext wr (wr.alloc (.cells #[.int .i64 x.t,.int .i64 x.k,.int .i64 x.v] 79)):=xA (xR _) _
   have Kw:=hJ _ wr (wr.alloc (.cells #[.int .i64 x.t,.int .i64 x.k,.int .i64 x.v] 79)) HJ.out (Moves.refl.alloc _);have Hi:=Pd Hu H8.size;have Hn:=HB.out.ext H8
   have Kv:Hold wo (wr.alloc (.cells #[.int .i64 x.t,.int .i64 x.k,.int .i64 x.v] 79)):=fun q u hq=>P4 H8 (HH q u hq)
   have hy:=fun n=>KR.out _ x _ Ks.out _ #[.int .i64 n,x.val] Kw Hi ⟨n,rfl⟩
   have Hy:=zhd hy;have KJ:=zhd Kv;have H7:=Blk.new wr 79 #[.int .i64 x.t,.int .i64 x.k,.int .i64 x.v];obtain ⟨g0,g1,g2⟩:=zds H7
   have c0:(wr.alloc (.cells #[.int .i64 x.t,.int .i64 x.k,.int .i64 x.v] 79)).cell? ⟨B,0,none⟩=some (.int .i64 s.idx):=Hn.cell 0 rfl
   have Hf:=zhd Hn;clear hy Kw Kv H8 H7 Hn
   gi_wp2
   refine zlP (Hy.out _) ?_
   rintro e W' (⟨hk',⟨rfl,hj⟩ | ⟨rfl,hj⟩⟩ | ⟨cc,rfl,hj⟩)
   ·refine .inl ⟨true,rfl,?_⟩
    have d1:Blk W' B 56 (zbT ⟨s,all,tm,vt⟩ (.slice (some ⟨b,J2,none⟩) all.length c)):=hk'.same _ _ Hf.out (.inl ⟨KT,rfl⟩)
    have KZ:W0.heap.size≤W'.heap.size:=Pd Hi hk'.size
    have KK:=zhd (Hold.keptK KJ.out (fun _ _ hk ho=>⟨by omega,ho⟩) hk')
    have Hl:=zhd hj;have KH:=zhd d1;clear hj hk' g0 g1 g2 c0 k0 k1 k2 d1
    gi_wp2
    exact ⟨⟨k+1,by go_num,by omega,by rw[KN.out];exact Hl.out,KK.out,KH,KZ⟩,by simp[intOf];omega⟩
   ·refine .inl ⟨false,rfl,?_⟩
    have Hl:=zhd hj;clear hj hk' g0 g1 g2 c0 k0 k1 k2
    gi_wp2
    refine bodyPost_ret (results_none rfl _ _ _) rfl ?_
    refine .inr (.inr (.inl ⟨⟨_,rfl⟩,all.take k++[x],⟨all.drop (k+1),?_⟩,Hl.out⟩))
    rw[List.append_assoc]
    exact Ks.out.symm
   ·refine .inr ⟨cc,rfl,?_⟩
    exact ⟨rfl,.inr (.inr (.inr ⟨cc,rfl,hj⟩))⟩
  ·obtain rfl:k=all.length:=by omega
   have hj:=HJ.out;rw[List.take_length] at hj;have HJ:=zhd hj;clear hY hj
   gi_wp2
   refine bodyPost_end (results_none rfl _ _ _) rfl ?_
   exact .inl ⟨trivial,⟨_,rfl⟩,HJ.out⟩
def zg0 (t:Tup):Ending:=if zbF t then .returned (.tuple #[]) else pan 2
theorem ziv {W:World} {b:Nat} {ty:TypeId} {t:Tup} {v:Value} (h:Blk W b ty (zbT t v)):W.cell? ⟨b,0,none⟩=some (.int .i64 t.s.idx)∧W.cell? ⟨b,1,none⟩=some (.int .i64 t.s.term)∧W.cell? ⟨b,2,none⟩=some (.int .i64 t.s.sum)∧W.cell? ⟨b,3,none⟩=some (.int .i64 t.s.lvl)∧W.cell? ⟨b,4,none⟩=some (.bool t.s.fin)∧W.cell? ⟨b,5,none⟩=some v∧W.cell? ⟨b,6,none⟩=some (.int .i64 t.term)∧W.cell? ⟨b,7,none⟩=some (.int .i64 t.vote):=zbW h
structure CkI (w:World) (bl:Nat) (t:Tup) (v:Value) (Hb:List Ent) (W:World):Prop where
 bx:Blk W w.heap.size 56 (zbT t v)
 la:∃ c,Boxed W bl 3 (.int .i64 c)∧goT t.s.term t.log=goT c (t.log.drop Hb.length)
 e:Ext w W
theorem zq3:∀ (l:List Ent) (c x:Int),goT c l=some x→c≤x
 | [],c,x,h=>by unfold goT at h;cases h;exact Int.le_refl _
 | e::l,c,x,h=>by
  unfold goT at h
  split at h
  ·rename_i hc
   have:=zq3 l _ _ h
   simp at hc
   omega
  ·cases h
theorem zec {P:Program} {n:Nat} {fn:Func} {tmps:Array Value} {R:Ending→World→Prop} {D:Nat} {W:World} {c:List PanicEntry} (hK:W.heap[D]?=some (.deferred (some []))) (hR:R (.panicked c) (W.putObj D (.deferred none))) :
  bodyPostM (Wd none) n P fn R (.panic c) ⟨tmps,[{ target:=.collected D,args:=#[] }]⟩ W :=
 ⟨by simp,.inl ⟨_,_,rfl,run_takeDeferred hK,hR⟩⟩
def zer (e:Int):List PanicEntry:=[{ v:=.iface 32 (.int .i64 e),recovered:=false }]
theorem zfJ {t:Tup} (h:zbF t=false):zg0 t=pan 2:=by unfold zg0;rw[h];rfl
theorem zkM {t:Tup} (h:zbF t=true):zg0 t=.returned (.tuple #[]):=by unfold zg0;rw[h];rfl
attribute [local go_sem] Oper.semAt_some in
theorem zqD (t:Tup) (v:Value) (w:World) (hE:Es w v t.log) (H2:t.log.length≤4000000) :
  Calls Tryz.prog 112 #[.agg (zbT t v)] w fun en w'=>en=zg0 t∧Ext w w':=by
 obtain ⟨A,c,rfl,Hc,KU⟩:=xO hE;obtain ⟨E,Hq⟩:∃ E,zg0 t=E:=⟨_,rfl⟩;rw[Hq];have Hd:=zhd Hq;have HE:=zhd hE;clear Hq hE
 refine (callsIn_wd (ro:=none) (n:=9)).1 ?_
 refine zj6 Tryz.func112 rfl ?_
 simp only[Tryz.ntmps112,P6,xC,P9,Pc,Pb,P2,P1,P7,P5,xI,P8]
 have Hs:Blk _ w.heap.size 56 (zbT t (.slice A t.log.length c)):=Blk.new w 56 (zbT t (.slice A t.log.length c))
 have hX:Ext w (w.alloc (.cells (zbT t (.slice A t.log.length c)) 56)):=xA (xR _) _
 obtain ⟨m0,m1,m2,m3,m4,m5,m6,m7⟩:=ziv Hs;have HX:=zhd hX;have HB:=zhd Hs;clear Hs hX
 have Hg:zci t=false→pan 2=E:=fun h=>by rw[←Hd.out];exact (zfJ (by unfold zbF;rw[h];rfl)).symm
 have H3:=zhd Hg;clear Hg
 unfold zbT at *
 refine zeO (zfG (n:=9) ?_)
 gi_wp2
 refine zeO (zfG (n:=9) ?_)
 by_cases h1:t.s.ok=true
 case neg =>
  obtain rfl:=H3.out (by unfold zci;simp[h1])
  have h1:t.s.ok=false:=by simpa using h1
  exact mcTRighta0
 by_cases h2:t.s.idx≤1073740824
 case neg =>
  obtain rfl:=H3.out (by unfold zci;simp[h2])
  exact mcTRighta0
 by_cases h3:(t.log.length:Int)≤200
 case neg =>
  obtain rfl:=H3.out (by unfold zci;simp;omega)
  have J3:¬ (t.log.length≤200):=by omega
  exact mcTRighta0
 gi_wp2_with (first | (refine ⟨trivial,?_⟩;gi_at_call 145;refine (callsIn_wd.2 (zcU t.s _)).mono ?_;rintro e w1 ⟨rfl,H1⟩;have Hc:=HB.out.ext H1;obtain ⟨p0,p1,p2,p3,p4,p5,p6,p7⟩:=ziv Hc) | (refine ⟨trivial,?_⟩;gi_at_call 144;refine (callsIn_wd.2 (zhy _)).mono ?_;rintro e w2 ⟨rfl,rfl⟩))
 have Kx:=xT HX.out H1;have Hm:=zhd Kx;have Hf:=zhd Hc;have HL:=zhd h3;clear m0 m1 m2 m3 m4 m5 m6 m7 H1 Hc HX HB Kx
 refine zeO (zfG (n:=9) ?_)
 by_cases h4:0≤t.vote
 case neg =>
  obtain rfl:=H3.out (by unfold zci;simp[h4])
  exact mcTRighta1
 by_cases h5:t.vote≤5
 case neg =>
  obtain rfl:=H3.out (by unfold zci;simp[h5])
  exact mcTRighta1
 have Ha:zci t=true:=by unfold zci;simp[h1,h2,h4,h5];omega
 have Ht:zbF t=(match goT t.s.term t.log with | none=>false | some x=>decide (x≤t.term)&&decide (0≤t.term)&&decide (t.term≤1073741824)):=by unfold zbF;rw[Ha,Bool.true_and];cases goT t.s.term t.log <;> rfl
 have KB:0≤t.s.term:=by have:=(Sta.okP h1).2.1;unfold zaE at this;simp at this;exact this.1
 by_cases h6:t.term≤1073741824
 case neg =>
  obtain rfl:pan 2=E:=by
   rw[←Hd.out]
   refine (zfJ ?_).symm
   rw[Ht]
   cases goT t.s.term t.log <;> simp[h6]
  exact mcTRighta1
 gi_wp2_with (first | (refine ⟨trivial,?_⟩;gi_at_call 144;refine (callsIn_wd.2 (zhy _)).mono ?_;rintro e w2 ⟨rfl,rfl⟩))
 have Hk:=zhd Ht;have KM:=zhd KB;have H6:=zhd h6;clear h1 h2 h3 h4 h5 h6 Ha H3 Ht KB
 refine zeO (zfG (n:=9) ?_)
 gi_wp2
 have Hr:Ext w1 (w1.alloc (.cells #[.int .i64 t.s.term] 3)):=xA (xR _) _
 have Ky:=Boxed.new w1 3 (.int .i64 t.s.term)
 have KW:w.heap.size<w1.heap.size:=Hf.out.lt
 have KF:=zhd Ky;have KO:=zhd (xT Hm.out Hr);have Kr:=zhd (Hf.out.ext Hr)
 have J1:w1.heap.size<(w1.alloc (.cells #[.int .i64 t.s.term] 3)).heap.size:=by simp
 clear p0 p1 p2 p3 p4 p5 p6 p7 Hr Ky Hm Hf;obtain ⟨p0,p1,p2,p3,p4,p5,p6,p7⟩:=ziv Kr.out
 refine zeO (zeO (zfG (n:=9) ?_))
 generalize w1.alloc (.cells #[.int .i64 t.s.term] 3)=w3 at *
 gi_wp2_with (refine ⟨trivial,?_⟩;gi_at_call 146;refine (callsIn_wd.2 (znf _ rfl _)).mono ?_;rintro e w4 ⟨rfl,Hv⟩)
 have Hp:Ext w3 w4:=by rw[←Hv];exact xA (xR _) _
 have Ho:Blk w4 w3.heap.size 56 (zbT t (.slice A t.log.length c)):=by rw[←Hv];exact Blk.new w3 _ _
 have h0:CkI w w1.heap.size t (.slice A t.log.length c) [] w4:=⟨Kr.out.ext Hp,⟨t.s.term,KF.out.kept (row:=none) (P3 Hp none) (by simp),rfl⟩,xT KO.out Hp⟩
 have KX:w3.heap.size<w4.heap.size:=Ho.lt
 have Ja:w.heap.size≤w4.heap.size:=h0.e.size
 have KE:=zhd Ho;clear Hv Ho p0 p1 p2 p3 p4 p5 p6 p7
 have J0:Hid (∀ W1,Below w4.heap.size w4 W1→zo3 Tryz.prog 171 #[.pointer (some ⟨w3.heap.size,0,none⟩)] (fun (x:Ent) av _=>∃ n,av = #[.int .i64 n,x.val]) (fun k o=>k≠w1.heap.size∧o.isCells=true) (fun _ _=>False) t.log none W1):=fun W1 hb=>zlN w W1 t (.slice A t.log.length c) HE.out H2 (fun q u hq=>P4 (xT h0.e hb) hq) w3.heap.size w1.heap.size (KE.out.ext hb) (by omega) (by omega)
 refine zqc ?_
 refine zsa (n:=9) (Rp:=fun (x:Ent) av _=>∃ n,av = #[.int .i64 n,x.val]) (K:=fun k o=>k≠w1.heap.size∧o.isCells=true) (M:=fun _ _=>False) (xs:=t.log) (pn:=none) (gf:=171) (lb:=#[.pointer (some ⟨w3.heap.size,0,none⟩)]) ?hf0 (a:=⟨_,_⟩) ?hg ?eg ?hseq ?h1 ?h2 ?h3 (CkI w w1.heap.size t (.slice A t.log.length c)) (fun _ _ _=>False) (fun c W=>c=zer 2∧pan 2=E∧Ext w W) ?hI (fun _ _ _ _ h _=>h) ?hIp h0
  (fun x a' W=>∃ (nb:Nat) (u0 u3 u5 u6 u7 u8 u9 Hw Hx Hz HA HD HF HI HK HM HN HO HP HQ HR HS HT HU HV HW HY HZ K0 K1 K2 K3 K4 K5 K6 K7 K8 K9 Ka Kb Kc Kd Ke Kf Kg Kh Ki Kj Kk Kl Km Kn Ko Kp Kq:Value),a'=⟨#[u0,.pointer (some ⟨w.heap.size,0,none⟩),.pointer (some ⟨w1.heap.size,0,none⟩),u3,.pointer (some ⟨nb,0,none⟩),u5,u6,u7,u8,u9,Hw,Hx,Hz,HA,HD,HF,HI,HK,HM,HN,HO,HP,HQ,HR,HS,HT,HU,HV,HW,HY,HZ,K0,K1,K2,K3,K4,K5,K6,K7,K8,K9,Ka,Kb,Kc,Kd,Ke,Kf,Kg,Kh,Ki,Kj,Kk,Kl,Km,Kn,Ko,Kp,Kq],[]⟩∧Blk W nb 79 #[.int .i64 x.t,.int .i64 x.k,.int .i64 x.v])
  ?hAx ?assign ?body ?done ?pan ?pan2 ?stop
 case hf0=>exact ⟨_,Tryz.func112⟩
 case hg=>exact rfl
 case eg=>exact enters_of Tryz.func171 (by kernel_rfl) rfl
 case hseq=>exact fun W1 hb hs=>J0.out W1 hb
 case h1=>exact fun k o h=>h.elim
 case h2=>exact fun k o h r e=>by rw[e] at h;cases h.2
 case h3=>exact fun x av W h=>by obtain ⟨n,rfl⟩:=h;rfl
 case hI =>
  rintro s X Y ⟨H7,⟨cc,hb,hg⟩,hE⟩ hm
  refine ⟨hm.same _ _ H7 ?_,⟨cc,hm.boxed hb ?_,hg⟩,hm.belowOf hE ?_ (xN _)⟩
  ·rintro (h | h)
   ·exact h
   ·cases h.2
  ·rintro (h | h)
   ·exact h
   ·cases h.2
  ·rintro k o hk (h | h)
   ·exact h
   ·have:=h.1;omega
 case hIp =>
  rintro cc X Y ⟨rfl,h1,hE⟩ hm
  refine ⟨rfl,h1,hm.belowOf hE ?_ (xN _)⟩
  rintro k o hk (h | h)
  ·exact h
  ·have:=h.1;omega
 case hAx =>
  rintro x a' X Y ⟨nb,u0,u3,u5,u6,u7,u8,u9,Hw,Hx,Hz,HA,HD,HF,HI,HK,HM,HN,HO,HP,HQ,HR,HS,HT,HU,HV,HW,HY,HZ,K0,K1,K2,K3,K4,K5,K6,K7,K8,K9,Ka,Kb,Kc,Kd,Ke,Kf,Kg,Kh,Ki,Kj,Kk,Kl,Km,Kn,Ko,Kp,Kq,rfl,hb⟩ hm
  refine ⟨nb,_,_,_,_,_,_,_,_,_,_,_,_,_,_,_,_,_,_,_,_,_,_,_,_,_,_,_,_,_,_,_,_,_,_,_,_,_,_,_,_,_,_,_,_,_,_,_,_,_,_,_,_,_,_,_,rfl,hm.same _ _ hb ?_⟩
  rintro (h | h)
  ·exact h
  ·cases h.2
 case assign =>
  rintro l' Hb x H5 W av K' hx ⟨H7,⟨cc,hb,hg⟩,hE⟩ Hu ⟨n,rfl⟩ hK;clear hx
  unfold Ent.val at *
  gi_wp2
  have H8:Ext W (W.alloc (.cells #[.int .i64 x.t,.int .i64 x.k,.int .i64 x.v] 79)):=xA (xR _) _
  exact hK _ _ (Kept.refl.alloc _) ⟨H7.ext H8,⟨cc,hb.kept (row:=none) (P3 H8 none) (by simp),hg⟩,xT hE H8⟩ ⟨_,_,_,_,_,_,_,_,_,_,_,_,_,_,_,_,_,_,_,_,_,_,_,_,_,_,_,_,_,_,_,_,_,_,_,_,_,_,_,_,_,_,_,_,_,_,_,_,_,_,_,_,_,_,_,_,rfl,Blk.new _ _ _⟩
 case body =>
  rintro l' Hb x H5 a' W hx J8 hr ⟨H7,⟨cc,hb,hg⟩,hE⟩ Hu ⟨nb,u0,u3,u5,u6,u7,u8,u9,Hw,Hx,Hz,HA,HD,HF,HI,HK,HM,HN,HO,HP,HQ,HR,HS,HT,HU,HV,HW,HY,HZ,K0,K1,K2,K3,K4,K5,K6,K7,K8,K9,Ka,Kb,Kc,Kd,Ke,Kf,Kg,Kh,Ki,Kj,Kk,Kl,Km,Kn,Ko,Kp,Kq,rfl,Hj⟩
  have Kz:t.log.drop Hb.length=x::H5:=by rw[hx,Pa]
  have Hh:t.log.drop (Hb++[x]).length=H5:=by rw[hx,show Hb++x::H5=(Hb++[x])++H5 from by simp,Pa]
  rw[Kz,goT] at hg;have HG:=zhd hg;have KI:=zhd Hh;obtain ⟨x0,x1,x2⟩:=zds Hj;have cl:=hb.cell
  have J9:nb≠w1.heap.size:=by
   rintro rfl
   have h1:W.heap[w1.heap.size]?=some (Obj.cells #[.int .i64 x.t,.int .i64 x.k,.int .i64 x.v] 79 (0,0)):=Hj
   have h2:W.heap[w1.heap.size]?=some (Obj.cells #[.int .i64 cc] 3 (0,0)):=hb
   rw[h2] at h1
   simp at h1
  clear hg Kz Hh hx hr
  cases ho:okB x.t x.k x.v with
  | false =>
   obtain rfl:pan 2=E:=by
    rw[←Hd.out]
    refine (zfJ ?_).symm
    rw[Hk.out,HG.out,ho];rfl
   gi_wp2_with (first | (refine ⟨trivial,?_⟩;gi_at_call 147;refine (callsIn_wd.2 (zeZ x.t x.k x.v _)).mono ?_;rintro e w5 ⟨rfl,H0⟩;have H0:Ext W w5:=H0;have q5:=Hj.ext H0;have b5:=hb.kept (row:=none) (P3 H0 none) (by simp);obtain ⟨y0,y1,y2⟩:=zds q5;have Kt:=b5.cell;have Ku:=b5.frozen) | (refine ⟨trivial,?_⟩;gi_at_call 144;refine (callsIn_wd.2 (zcx _)).mono ?_;rintro e w2 ⟨he,rfl⟩;obtain rfl:e=.panicked (zer 2):=he))
   (refine ⟨rfl,Kept.refl.below H0 (xN _),?_⟩;first | exact ⟨rfl,rfl,xT hE H0⟩ | exact ⟨rfl,xT hE H0⟩)
  | true =>
   by_cases hle:cc≤x.t
   ·gi_wp2_with (first | (refine ⟨trivial,?_⟩;gi_at_call 147;refine (callsIn_wd.2 (zeZ x.t x.k x.v _)).mono ?_;rintro e w5 ⟨rfl,H0⟩;have H0:Ext W w5:=H0;have q5:=Hj.ext H0;have b5:=hb.kept (row:=none) (P3 H0 none) (by simp);obtain ⟨y0,y1,y2⟩:=zds q5;have Kt:=b5.cell;have Ku:=b5.frozen) | (refine ⟨trivial,?_⟩;gi_at_call 144;refine (callsIn_wd.2 (zhy _)).mono ?_;rintro e w2 ⟨rfl,rfl⟩))
    have KV:Kept (zad (fun k o=>k≠w1.heap.size∧o.isCells=true) w4.heap.size) W w5:=Kept.refl.below H0 (xN _)
    refine ⟨KV.setCell (fun o _ _=>?_) _,?_⟩
    ·rintro (⟨h,_⟩ | ⟨h,_⟩)
     ·exact h rfl
     ·dsimp only at h;omega
    ·refine ⟨(H7.ext H0).other (by omega) 0 _,⟨x.t,b5.set _,?_⟩,Below.setCell (p:=⟨w1.heap.size,0,none⟩) (xT hE H0) (by show w.heap.size≤w1.heap.size;omega) _⟩
     rw[HG.out,KI.out,ho]
     simp[hle]
   ·obtain rfl:pan 2=E:=by
     rw[←Hd.out]
     refine (zfJ ?_).symm
     rw[Hk.out,HG.out,ho]
     simp[hle]
    gi_wp2_with (first | (refine ⟨trivial,?_⟩;gi_at_call 147;refine (callsIn_wd.2 (zeZ x.t x.k x.v _)).mono ?_;rintro e w5 ⟨rfl,H0⟩;have H0:Ext W w5:=H0;have q5:=Hj.ext H0;have b5:=hb.kept (row:=none) (P3 H0 none) (by simp);obtain ⟨y0,y1,y2⟩:=zds q5;have Kt:=b5.cell;have Ku:=b5.frozen) | (refine ⟨trivial,?_⟩;gi_at_call 144;refine (callsIn_wd.2 (zff (by omega) _)).mono ?_;rintro e w2 ⟨he,rfl⟩;obtain rfl:e=.panicked (zer 2):=he) | (refine ⟨trivial,?_⟩;gi_at_call 144;refine (callsIn_wd.2 (zcx _)).mono ?_;rintro e w2 ⟨he,rfl⟩;obtain rfl:e=.panicked (zer 2):=he))
    (refine ⟨rfl,Kept.refl.below H0 (xN _),?_⟩;first | exact ⟨rfl,rfl,xT hE H0⟩ | exact ⟨rfl,xT hE H0⟩)
 case done =>
  rintro D W _ hD ⟨H7,⟨cc,hb,hg⟩,hE⟩ hK;rw[List.drop_length,goT] at hg;have cl:=hb.cell;obtain ⟨p0,p1,p2,p3,p4,p5,p6,p7⟩:=ziv H7
  have J6:t.s.term≤cc:=zq3 _ _ _ hg
  have KD:w.heap.size≤D:=by omega
  have HG:=zhd hg
  refine zfG (n:=9) ?_
  by_cases hle:cc≤t.term
  ·obtain rfl:Ending.returned (.tuple #[])=E:=by
    rw[←Hd.out]
    refine (zkM ?_).symm
    rw[Hk.out,HG.out]
    have:=H6.out
    have:=KM.out
    simp
    omega
   gi_wp2_with (first | (refine ⟨trivial,?_⟩;gi_at_call 144;refine (callsIn_wd.2 (zhy _)).mono ?_;rintro e w2 ⟨rfl,rfl⟩))
   exact zjw hK (.tuple #[]) (results_none rfl _ _ _) ⟨rfl,zaq hE KD _⟩
  ·obtain rfl:pan 2=E:=by
    rw[←Hd.out]
    refine (zfJ ?_).symm
    rw[Hk.out,HG.out]
    simp[hle]
   have KL:=zhd hle;clear hle
   gi_wp2_with (first | (refine ⟨trivial,?_⟩;gi_at_call 144;refine (callsIn_wd.2 (zff KL.out _)).mono ?_;rintro e w2 ⟨he,rfl⟩;obtain rfl:e=.panicked (zer 2):=he) | (refine ⟨trivial,?_⟩;gi_at_call 144;refine (callsIn_wd.2 (zcx _)).mono ?_;rintro e w2 ⟨he,rfl⟩;obtain rfl:e=.panicked (zer 2):=he))
   refine zec (R:=fun en w'=>en=pan 2∧Ext w w') (c:=zer 2) hK ?_
   exact ⟨rfl,zaq hE KD _⟩
 case pan =>
  rintro D c' W h
  cases h
 case pan2 =>
  rintro D c' W hD ⟨rfl,rfl,hE⟩ hK
  refine zec (R:=fun en w'=>en=pan 2∧Ext w w') (c:=zer 2) hK ?_
  exact ⟨rfl,zaq hE (by omega) _⟩
 case stop =>
  rintro D cd Hb W _ _ h _
  exact h.elim
theorem znt (t:Tup) (v:Value) (p:Nat) (w:World) (hE:Es w v t.log) (H2:t.log.length≤4000000) (hB:Blk w p 56 (zbT t v)) :
  Calls Tryz.prog 111 #[.pointer (some ⟨p,0,none⟩)] w fun en w'=>en=zg0 t∧Ext w w':=by
 obtain ⟨A,c,rfl,_,_⟩:=xO hE;obtain ⟨m0,m1,m2,m3,m4,m5,m6,m7⟩:=ziv hB;have key:=zqD t _ w hE H2;unfold zbT at key;have H4:=zhd key;clear key
 cases hr:zbF t with
 | true =>
  rw[zkM hr] at H4 ⊢
  go_enter Tryz.func111,Tryz.ntmps111
  go_wp2_with fail
  refine H4.out.mono ?_
  rintro e w1 ⟨rfl,H1⟩;clear m0 m1 m2 m3 m4 m5 m6 m7;go_wp2_with fail
  go_end0
  exact ⟨rfl,H1⟩
 | false =>
  rw[zfJ hr] at H4 ⊢
  go_enter Tryz.func111,Tryz.ntmps111
  go_wp2_with fail
  refine H4.out.mono ?_
  rintro e w1 ⟨rfl,H1⟩
  exact ⟨rfl,rfl,H1⟩
theorem zr7 (t:Tup) (v:Value) (p:Nat) (w:World) (hE:Es w v t.log) (H2:t.log.length≤4000000) (hB:Blk w p 56 (zbT t v)) :
  Calls Tryz.prog 110 #[.func (.func 111) #[] #[.pointer (some ⟨p,0,none⟩)]] w fun en w'=>en=.returned (.int .i64 (if zbF t then 0 else 2))∧Ext w w':=by
 have KY:∀ (fn:Fn) (first cap:Array Value) (w:World),(Instr.makeFunc fn first cap).run Tryz.prog w=.ok (.func fn first cap) w:=fun _ _ _ _=>rfl
 have hX:Ext w (w.alloc (.cells #[.int .i64 0] 32)):=xA (xR _) _
 have he:=Blk.new w 32 #[.int .i64 0];have key:=znt t v p _ (SlR.ext hE hX) H2 (hB.ext hX);have HX:=zhd hX;have He:=zhd he;clear hB hX he hE
 cases hr:zbF t with
 | false =>
  rw[zfJ hr] at key;have H4:=zhd key;clear key hr
  go_enter_defers Tryz.func110,Tryz.ntmps110
  go_wp2_with fail
  refine H4.out.mono ?_
  rintro e w1 ⟨rfl,H1⟩;have H9:=He.out.ext H1
  refine leaves_cons (f:=143) (args:=#[.pointer (some ⟨w.heap.size,0,none⟩)]) (by simp) (by simp[go_sem]) ?_
  refine (zp9 ⟨w.heap.size,0,none⟩ _ 2 [] _ (H9.cell 0 rfl) (H9.frozen 0)).mono ?_
  rintro e u' w2 ⟨rfl,rfl,rfl⟩;have hs:=H9.set 0 (.int .i64 2);have hc:=hs.cell 0 rfl
  simp[Leaves,settle,results,Tryz.results110,go_sem,hc]
  exact Below.setCell (p:=⟨w.heap.size,0,none⟩) (xT HX.out H1) (xN _) _
 | true =>
  rw[zkM hr] at key;have H4:=zhd key;clear key hr
  go_enter_defers Tryz.func110,Tryz.ntmps110
  go_wp2_with fail
  refine H4.out.mono ?_
  rintro e w1 ⟨rfl,H1⟩;have H9:=He.out.ext H1;have f0:=H9.frozen 0;have g0:=H9.cell 0 rfl;have HE:=zhd (xT HX.out H1);have KP:=zhd H9;clear H1 H9;go_wp2_with fail
  refine leaves_cons (f:=143) (args:=#[.pointer (some ⟨w.heap.size,0,none⟩)]) (by simp) (by simp[go_sem]) ?_
  refine (zoq ⟨w.heap.size,0,none⟩ _).mono ?_
  rintro e u' w4 ⟨rfl,rfl,rfl⟩;have hs:=KP.out.set 0 (.int .i64 0)
  have hc:(w1.setCell ⟨w.heap.size,0,none⟩ (.int .i64 0)).cell? ⟨w.heap.size,0,none⟩=some (.int .i64 0):=hs.cell 0 rfl
  simp[Leaves,settle,results,Tryz.results110,go_sem,hc]
  exact Below.setCell (p:=⟨w.heap.size,0,none⟩) HE.out (xN _) _
theorem zo5 (t:Tup) (v:Value) (w:World) (hE:Es w v t.log) (H2:t.log.length≤4000000) :
  Calls Tryz.prog 65 #[.agg #[.int .i64 t.s.idx,.int .i64 t.s.term,.int .i64 t.s.sum,.int .i64 t.s.lvl,.bool t.s.fin,v,.int .i64 t.term,.int .i64 t.vote]] w fun en w'=>en=.returned (.bool (zbF t))∧Ext w w':=by
 have KY:∀ (fn:Fn) (first cap:Array Value) (w:World),(Instr.makeFunc fn first cap).run Tryz.prog w=.ok (.func fn first cap) w:=fun _ _ _ _=>rfl
 obtain ⟨A,c,rfl,_,_⟩:=xO hE
 have hX:Ext w (w.alloc (.cells (zbT t (.slice A t.log.length c)) 56)):=xA (xR _) _
 have key:=zr7 t _ w.heap.size _ (SlR.ext hE hX) H2 (Blk.new w 56 (zbT t (.slice A t.log.length c)))
 unfold zbT at *
 have HX:=zhd hX;clear hX hE
 cases hr:zbF t with
 | false =>
  rw[hr] at key;have H4:=zhd key;clear key hr
  go_enter Tryz.func65,Tryz.ntmps65
  go_wp2_with fail
  refine H4.out.mono ?_
  rintro e w1 ⟨rfl,H1⟩;simp only[Bool.false_eq_true,if_false];go_wp2_with fail;go_ret
  exact ⟨rfl,xT HX.out H1⟩
 | true =>
  rw[hr] at key;have H4:=zhd key;clear key hr
  go_enter Tryz.func65,Tryz.ntmps65
  go_wp2_with fail
  refine H4.out.mono ?_
  rintro e w1 ⟨rfl,H1⟩;simp only[if_true];go_wp2_with fail;go_ret
  exact ⟨rfl,xT HX.out H1⟩
end Go.Proofs.YtgonhdeochgkoaaGreatDoor
