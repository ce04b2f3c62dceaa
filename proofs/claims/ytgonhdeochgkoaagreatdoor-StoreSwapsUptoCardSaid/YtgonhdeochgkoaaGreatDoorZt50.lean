/- Merged -/
import Derived.Test.YtgonhdeochgkoaaGreatDoorZt42
import Derived.Test.YtgonhdeochgkoaaGreatDoorZt44
set_option linter.all false
set_option maxHeartbeats 8000000
set_option maxRecDepth 100000
namespace Go.Proofs.YtgonhdeochgkoaaGreatDoor
open Go.RowKit Go.Mv
theorem ztv:Tryz.prog.underlying 79=some (.struct (Tryz.prog.fieldsOf 79)):=by kernel_rfl
theorem zuQ:Tryz.prog.stoodInHeld 79=false:=by kernel_rfl
theorem ztu:Tryz.prog.eqGuardType Tryz.prog.depth 79=false:=by kernel_rfl
theorem zrw (a b:Ent) (W:World):(Op.equalIn 10000 79 (.agg #[.int .i64 a.t,.int .i64 a.k,.int .i64 a.v]) (.agg #[.int .i64 b.t,.int .i64 b.k,.int .i64 b.v])).run Tryz.prog W=.ok (decide (a=b)) W:=by
 have e:decide (a=b)=(a.t==b.t&&a.k==b.k&&a.v==b.v):=by
  rw[Bool.eq_iff_iff]
  cases a;cases b
  simp[and_assoc]
 rw[run_equalIn_struct W 9999 79 _ _ ztv zuQ,e]
 cases h0:(a.t==b.t) <;> cases h1:(a.k==b.k) <;> cases h2:(a.v==b.v) <;> simp[go_sem,h0,h1,h2]
set_option maxRecDepth 100000 in
theorem zs3 (va vb:Value) (a b:List Ent) (w:World) (ha:Es w va a) (hb:Es w vb b) :
  Calls Tryz.prog 66 #[va,vb] w fun e w'=>e=.returned (.bool (decide (a=b)))∧Below w.heap.size w w':=by
 obtain ⟨A,ca,rfl,h1,h2⟩:=SlR.open_ ha;obtain ⟨B,cb,rfl,h3,h4⟩:=SlR.open_ hb;have HP:=SlR.len_le ha;have HS:=SlR.len_le hb;unfold maxLen at HP HS
 by_cases hl:a.length=b.length
 case neg =>
  go_enter Tryz.func66,Tryz.ntmps66
  have H4:((a.length:Int) != (b.length:Int))=true:=by simp;omega
  have Hn:=zhd hl;clear hl
  go_wp2
  go_ret
  refine ⟨ret_bool ?_,Below.refl _ _⟩
  simp;intro e;exact Hn.out (by rw[e])
 case pos =>
  have H4:((a.length:Int) != (b.length:Int))=false:=by simp;omega
  have Hl:=zhd hl
  have Ka:b.length≤a.length:=by omega
  have hle':a.length≤b.length:=by omega
  clear hl
  go_enter Tryz.func66,Tryz.ntmps66
  go_wp2_with fail
  go_loopw [5] (fun i wr=>∃ k:Nat,k≤a.length∧i=.int .i64 k∧Hid (a.take k=b.take k)∧Below w.heap.size w wr) (fun i _=>a.length-(intOf i).toNat)
  case atStart=>exact ⟨0,Nat.zero_le _,rfl,rfl,Below.refl _ _⟩
  case round =>
   obtain ⟨k,hk,rfl,Hb,hB⟩:=hrel
   by_cases H5:k<a.length
   ·obtain ⟨_,ba,offa,rfl,HG⟩:=Es.at_ (ha.ext hB) (by omega)
    obtain ⟨_,bb,offb,rfl,HH⟩:=Es.at_ (hb.ext hB) (by omega);obtain ⟨Kb,Kc,Kd⟩:=HG k H5;obtain ⟨H7,H1,H8⟩:=HH k (by omega);clear HG HH
    have Ke:(0:Int)≤(k:Int):=by omega
    have Kf:(k:Int)<(a.length:Int):=by omega
    have Kg:(k:Int)<(b.length:Int):=by omega
    have Hq:=zrw a[k] b[k];have Hr:=ztu
    have Hf:∃ d,decide (a[k]=b[k])=d:=⟨_,rfl⟩
    obtain ⟨d,hd⟩:=Hf;have Hd:=zhd hd;rw[hd] at Hq;clear hd;go_wp2_with fail
    go_quiet (fail)
    clear Hq Hr
    cases d
    ·go_wp2_with fail
     go_ret
     refine ⟨ret_bool ?_,zmI hB _⟩
     have hd:=Hd.out
     symm
     simp only[decide_eq_false_iff_not] at hd ⊢
     intro e;subst e;exact hd rfl
    ·go_wp2_with fail
     go_roundw
     case rel =>
      have hd:a[k]=b[k]:=by simpa using Hd.out
      refine ⟨k+1,by omega,by go_num,?_,zmI hB _⟩
      show List.take (k+1) a=List.take (k+1) b
      rw[List.take_succ_eq_append_getElem H5,List.take_succ_eq_append_getElem (by omega),Hb.out,hd]
     case measure=>simp[intOf];omega
   ·go_wp2_with fail
    go_ret
    refine ⟨ret_bool ?_,hB⟩
    have:=Hb.out
    rw[List.take_of_length_le (by omega),List.take_of_length_le (by omega)] at this
    simpa using this
variable {T:Tab}
theorem zkv (b:List UInt8):(zaK T b).length=b.length+4:=by unfold zaK;rw[List.length_append,zgm]
variable {T:Tab}
theorem zob (x:List UInt8):zbs T (zaK T x)=some x:=by
 have hl:(zaK T x).length-4=x.length:=by rw[zkv];omega
 unfold zbs;rw[hl]
 have e1:(zaK T x).take x.length=x:=by unfold zaK;exact List.take_left
 have e2:(zaK T x).drop x.length=zdh (zcq T 0 x):=by unfold zaK;exact List.drop_left
 rw[e1,e2,if_pos rfl]
def zkR (a b:Tup):Bool:=zeI a.s b.s&&decide (a.term=b.term)&&decide (a.vote=b.vote)&&decide (a.log=b.log)
theorem zq3 (a b:Tup) (va vb:Value) (w:World) (hA:Es w va a.log) (hB:Es w vb b.log) :
  Calls Tryz.prog 20 #[.agg #[.int .i64 a.s.idx,.int .i64 a.s.term,.int .i64 a.s.sum,.int .i64 a.s.lvl,.bool a.s.fin,va,.int .i64 a.term,.int .i64 a.vote],.agg #[.int .i64 b.s.idx,.int .i64 b.s.term,.int .i64 b.s.sum,.int .i64 b.s.lvl,.bool b.s.fin,vb,.int .i64 b.term,.int .i64 b.vote]] w fun e w'=>e=.returned (.bool (zkR a b))∧Ext w w':=by
 obtain ⟨A,c,rfl,_,_⟩:=SlR.open_ hA;obtain ⟨B,d,rfl,_,_⟩:=SlR.open_ hB;obtain ⟨s1,l1,t1,v1⟩:=a;obtain ⟨s2,l2,t2,v2⟩:=b
 dsimp only at *
 obtain ⟨x1,HT⟩:∃ x:Array Value,#[.int .i64 s1.idx,.int .i64 s1.term,.int .i64 s1.sum,.int .i64 s1.lvl,.bool s1.fin,.slice A l1.length c,.int .i64 t1,.int .i64 v1]=x:=⟨_,rfl⟩;obtain ⟨x2,HU⟩:∃ x:Array Value,#[.int .i64 s2.idx,.int .i64 s2.term,.int .i64 s2.sum,.int .i64 s2.lvl,.bool s2.fin,.slice B l2.length d,.int .i64 t2,.int .i64 v2]=x:=⟨_,rfl⟩;have H7:=Blk.new w 56 x1;have H1:=H7.alloc (.cells x2 56);have H8:=Blk.new (w.alloc (.cells x1 56)) 56 x2;rw[World.size_alloc] at H8
 have hX:Ext w ((w.alloc (.cells x1 56)).alloc (.cells x2 56)):=Ext.alloc (Ext.alloc (Ext.refl _) _) _
 subst HT HU;obtain ⟨m0,m1,m2,m3,m4,m5,m6,m7⟩:=zbU H1;obtain ⟨p0,p1,p2,p3,p4,p5,p6,p7⟩:=zbU H8;have Hq:=ziN s1 s2;obtain ⟨R,hR⟩:∃ R,zkR ⟨s1,l1,t1,v1⟩ ⟨s2,l2,t2,v2⟩=R:=⟨_,rfl⟩;rw[hR];unfold zkR at hR;dsimp only at hR;have key:=zs3 (.slice A l1.length c) (.slice B l2.length d) l1 l2 _ (hA.ext hX) (hB.ext hX);obtain ⟨q,hq⟩:∃ q,zeI s1 s2=q:=⟨_,rfl⟩;rw[hq] at hR Hq;have HR:=zhd hR;have Key:=zhd key;have HX:=zhd hX;have Hr:=zkc;clear hR key hX H7 H1 H8 hA hB hq
 go_enter Tryz.func20,Tryz.ntmps20
 cases q with
 | false =>
  have:R=false:=by rw[←HR.out];rfl
  subst this;go_wp2_with fail;go_ret
  exact ⟨rfl,Ext.alloc (Ext.alloc (Ext.refl _) _) _⟩
 | true =>
  by_cases h2:t1=t2
  case neg =>
   have:R=false:=by rw[←HR.out];simp[h2]
   subst this;go_wp2_with fail;go_ret
   exact ⟨rfl,Ext.alloc (Ext.alloc (Ext.refl _) _) _⟩
  by_cases h3:v1=v2
  case neg =>
   have:R=false:=by rw[←HR.out];simp[h3]
   subst this;go_wp2_with fail;go_ret
   exact ⟨rfl,Ext.alloc (Ext.alloc (Ext.refl _) _) _⟩
  have:R=decide (l1=l2):=by rw[←HR.out];simp[h2,h3]
  subst this h2 h3;clear HR;go_wp2_with fail
  refine Key.out.mono ?_
  rintro e w1 ⟨rfl,H9⟩
  have H9:Ext _ w1:=H9
  go_wp2_with fail;go_ret
  exact ⟨rfl,Ext.trans HX.out H9⟩
/-! Names -/
/-! Files -/
/-! Manifests -/
theorem zkU:∀ (l:List Sg4) (acc:List Sg4),zaA (zaY l)=true→zcV l.length acc (zal (zaY l))=some (acc++l)
 | [],acc,_=>by simp[zcV]
 | s::l,acc,h=>by
  have e:zaY (s::l)=[s.seq,s.fmt,s.first,s.count+1]++zaY l:=rfl
  rw[e] at h ⊢
  unfold zaA at h;rw[List.all_append,Bool.and_eq_true] at h;have ht:=zgK [s.seq,s.fmt,s.first,s.count+1] h.1 [] (zal (zaY l));rw[List.nil_append] at ht
  have ht:zad 4 [] (zal [s.seq,s.fmt,s.first,s.count+1]++zal (zaY l))=(0,[s.seq,s.fmt,s.first,s.count+1],zal (zaY l)):=ht
  have hs:zal ([s.seq,s.fmt,s.first,s.count+1]++zaY l)=zal [s.seq,s.fmt,s.first,s.count+1]++zal (zaY l):=by unfold zal;rw[List.flatMap_append]
  rw[List.length_cons,zcV,hs,ht];simp only[if_true];rw[zkU l _ h.2,List.append_assoc];obtain ⟨a,b,c,d⟩:=s
  simp
theorem zsi {m:Mf} (h:zav m=true):zfP (77::zal (zbE m))=some m:=by
 have hn:=zhh h;obtain ⟨_,_,_,hl,_,_⟩:=zdg h;unfold zfP;rw[if_neg (by simp)]
 have e:zbE m=[m.next,m.term,m.vote,m.sq,m.sf,(m.segs.length:Int)]++zaY m.segs:=rfl
 rw[e] at hn ⊢
 unfold zaA at hn;rw[List.all_append,Bool.and_eq_true] at hn;have ht:=zgK [m.next,m.term,m.vote,m.sq,m.sf,(m.segs.length:Int)] hn.1 [] (zal (zaY m.segs));rw[List.nil_append] at ht
 have ht:zad 6 [] (zal [m.next,m.term,m.vote,m.sq,m.sf,(m.segs.length:Int)]++zal (zaY m.segs))=(0,[m.next,m.term,m.vote,m.sq,m.sf,(m.segs.length:Int)],zal (zaY m.segs)):=ht
 have hs:zal ([m.next,m.term,m.vote,m.sq,m.sf,(m.segs.length:Int)]++zaY m.segs)=zal [m.next,m.term,m.vote,m.sq,m.sf,(m.segs.length:Int)]++zal (zaY m.segs):=by unfold zal;rw[List.flatMap_append]
 rw[hs,List.drop_succ_cons,List.drop_zero,ht];unfold zhL;have hg:=zkU m.segs [] hn.2;rw[List.nil_append] at hg;simp only[List.getD_cons_zero,List.getD_cons_succ,ne_eq,not_true_eq_false,if_false,Int.toNat_natCast,hg,Option.map_some];rw[if_neg (by omega)]
theorem zsN {m:Mf} {c:List UInt8} (h:zbm m=some c):zbB c=some m:=by
 have hc:zav m=true:=by
  unfold zbm at h
  split at h
  ·assumption
  ·cases h
 have h0:=h;unfold zbm at h0;rw[if_pos hc] at h0
 cases h0
 unfold zbB;rw[zob];simp only[zsi hc];rw[if_pos h]
/-! Segments -/
/-! A step -/
/-! What a shadow says -/
open Go.RowKit Go.Mv Go.Shelf
theorem znR {ops:Array Oper} {rest:List Oper} {o:Oper} {a:Act} {w:World} {Q:Exit→Act→World→Prop} (Hr:o.guard=none) (s x:Operand)
  (ho:o.op=.call { callee:=.builtin .append,args:=#[s,x],argTypes:=#[22,22] })
  (W0:World) (H0:Ext W0 w) (v:Value) (fs:List Fil) (xs:List Value) (hs:a.eval s=v) (Hg:w.ownsRow W0.heap.size 51 2 v fs.length xs) (hr:FRow W0 xs fs)
  (vx:Value) (gs:List Fil) (hx:a.eval x=vx) (hF:Fs W0 vx gs) (HV:fs.length+gs.length≤2000000)
  (h:∀ A c w',Fs w' (.slice A (fs.length+gs.length) c) (fs++gs)→Ext W0 w'→wpList Tryz.prog ops Q rest (a.put o.dst (.slice A (fs.length+gs.length) c)) w'):wpList Tryz.prog ops Q (o::rest) a w:=by
 obtain ⟨ys,hy,Hs⟩:=hF
 have Hs:FRow W0 ys gs:=⟨hy.1,Hs⟩
 obtain ⟨i0,hi,HW,HY,HZ⟩:=info_parts zjW
 refine zbJ _ Hr s x 22 ho W0.heap.size 51 i0 _ 2 40 Tryz.underlying22 hi HW HY HZ rfl (by decide) v fs.length xs hs Hg vx gs.length ys hx (hy.ext H0) Hs.one (by unfold maxLen;omega) (by omega) H0.size ?_
 intro v' w' h1 h2
 have hE:Ext W0 w':=Ext.grownOwn H0 (zaj Hg (Nat.le_refl _)) h2
 have hS:=SlR.of_own h1;obtain ⟨A,c,rfl,_,_⟩:=SlR.open_ hS
 refine h A c w' ⟨xs++ys,?_,((hr.append Hs).ext hE).2⟩ hE
 rw[List.length_append]
 exact hS
/-! A manifest laid into an old box -/
theorem zjl {ks:List (List UInt8)} (x:List UInt8):∀ l:List Fil,zae x (l.filter fun p=>decide (p.1∈ks))=if x∈ks then zae x l else none
 | []=>by simp[zae]
 | p::l=>by
  have ih:=zjl (ks:=ks) x l;rw[List.filter_cons,zae]
  by_cases hp:p.1∈ks
  ·rw[if_pos (by simpa using hp),zae,ih]
   by_cases he:p.1=x
   ·rw[if_pos he,if_pos he,if_pos (he ▸ hp)]
   ·rw[if_neg he,if_neg he]
  ·rw[if_neg (by simpa using hp),ih]
   by_cases he:p.1=x
   ·rw[if_neg (he ▸ hp),if_neg (he ▸ hp)]
   ·rw[if_neg he]
theorem zoi {l:List Fil} {n t c:List UInt8} (H4:t≠n) (h:zae n l=some c):zbt l (zaZ n t)=withS (za8 n l) (t,c):=by
 unfold zbt zaZ;rw[if_neg (by simp)];dsimp only;rw[h];dsimp only;rw[if_neg (by simp),if_pos ⟨rfl,H4⟩]
theorem zjq {d:Dk} (hs:Srt d.fs) (hq:d.q=[]):d.now=d.fs:=by
 unfold Dk.now;rw[hq]
 exact zne hs
theorem zvi {d:Dk} (h:Rt d) {n t b:List UInt8} (hn:n≠[]) (ht:t≠[]) (H4:t≠n) (hg:zae n d.now=some b) :
  ((zaF true d [zaZ n t]).2=0→Rt (zaF true d [zaZ n t]).1∧(zaF true d [zaZ n t]).1.q=[]∧∀ x,zae x (zaF true d [zaZ n t]).1.now=if x=t then some b else if x=n then none else zae x d.now) ∧
  ((zaF true d [zaZ n t]).2=0∨(zaF true d [zaZ n t]).2=40∨(zaF true d [zaZ n t]).2=41):=by
 have HI:Srt d.now:=(zco h).1
 unfold zaF
 have K0:zbi (zaZ n t)=true:=(zcE _).2 ⟨.inr (.inr (.inl rfl)),hn,fun _=>ht⟩
 by_cases h1:(d.doS (zaZ n t)).2=0
 ·rw[if_pos h1]
  have Hv:=h.doS h1;have HJ:=zkC h1;rw[zoi H4 hg] at HJ
  generalize (d.doS (zaZ n t)).1=d1 at *
  unfold zaF;rw[if_pos rfl]
  refine ⟨fun h3=>?_,?_⟩
  ·obtain ⟨K1,HL,HM⟩:=Hv.sync h3
   refine ⟨K1,HM,fun x=>?_⟩
   rw[zjq (by rw[HL];exact (zco Hv).1) HM,HL,HJ,zep HI.del]
   dsimp only;rw[zec HI.apart]
  ·rcases znF Hv with h | h
   ·exact .inl h
   ·exact .inr (.inl h)
 ·rw[if_neg h1]
  exact ⟨fun h=>absurd h h1,zkB h K0 (.inl (by show zae n d.now≠none;rw[hg];simp))⟩
theorem zhV {d:Dk} (h:Rt d) (b:List UInt8) {ks:List (List UInt8)} (hM:zcg∈ks) (hN:zbd ∉ ks) :
  ((zck d b ks).2=0→Rt (zck d b ks).1∧∀ x,zae x (zck d b ks).1.now=if x=zcg then some b else if x∈ks then zae x d.now else none) ∧
  ((zck d b ks).2=0∨(zck d b ks).2=40∨(zck d b ks).2=41):=by
 unfold zck;obtain ⟨h1,h2⟩:=zi2 h (n:=zbd) b (by simp[zbd])
 rw[show zaF true d [za3 zbd,za6 zbd b]=zdL d zbd b from rfl] at h1 h2
 by_cases hp:(zdL d zbd b).2=0
 ·rw[if_neg (by simpa using hp)]
  obtain ⟨g1,g2,g3,g4⟩:=h1 hp;have K2:=zjq g2 g1;rw[←K2] at g4
  generalize (zdL d zbd b).1=d1 at *
  obtain ⟨h3,h4⟩:=zvi g3 (n:=zbd) (t:=zcg) (b:=b) (by simp[zbd]) (by simp[zcg]) (by decide) (by rw[g4,if_pos rfl])
  by_cases hr:(zaF true d1 [zaZ zbd zcg]).2=0
  ·rw[if_neg (by simpa using hr)]
   obtain ⟨k1,k2,k3⟩:=h3 hr
   generalize (zaF true d1 [zaZ zbd zcg]).1=d2 at *
   obtain ⟨h5,h6⟩:=zhm k1 ks
   refine ⟨fun hd=>?_,h6⟩
   obtain ⟨m1,m2⟩:=h5 hd
   refine ⟨m1,fun x=>?_⟩
   rw[m2,zjl,k3]
   by_cases hx:x=zcg
   ·rw[if_pos hx,if_pos hx,if_pos (hx ▸ hM)]
   ·rw[if_neg hx,if_neg hx]
    by_cases Hh:x=zbd
    ·rw[if_pos Hh,if_neg (Hh ▸ hN),if_neg (Hh ▸ hN)]
    ·rw[if_neg Hh,g4,if_neg Hh]
  ·rw[if_pos (by simpa using hr)]
   exact ⟨fun h=>absurd h hr,h4⟩
 ·rw[if_pos (by simpa using hp)]
  exact ⟨fun h=>absurd h hp,h2⟩
theorem zsF {d:Dk} (h:Rt d) (hd:d.dead=true) (b:List UInt8) (ks:List (List UInt8)):zck d b ks=(d,40):=by
 have hm:d.may=40:=by rw[ziC h,if_pos hd]
 have h1:d.doS (za3 zbd)=(d,40):=by
  unfold Dk.doS;rw[hm,if_pos (by decide)]
 have h2:zdL d zbd b=(d,40):=by
  unfold zdL zaF
  rw[h1,if_neg (show ¬ (40:Int)=0 by decide)]
 unfold zck
 rw[h2,if_pos (show (40:Int)≠0 by decide)]
theorem zfa (fs:List Fil):zax fs none=none:=by
 unfold zax
 rw[if_pos (show zbS fs none<0 from by show (-1:Int)<0;decide)]
open Go.ChangeShapes Go.WideShapes Go.ChangeAt Go.RowKit Go.Deep Go.Mv Go.WideElems
theorem ztn:Tryz.prog.cellsOf 74=4:=by kernel_rfl
theorem ztm:Tryz.prog.cellsOf 27=2:=by kernel_rfl
theorem ztl:Tryz.prog.cellsOf 30=6:=by kernel_rfl
theorem zto:Tryz.prog.cellsOf 28=1:=by kernel_rfl
section
variable {H:Type} {enc:TypeId×Value→H} {W:World} {base:Nat} {v:Value} {d:DataW H} {p:List MemPlace}
def SgE (_:World) (c:Nat→Option Value) (x:Sg4):Prop:=c 0=some (.int .i64 x.seq)∧c 1=some (.int .i64 x.fmt)∧c 2=some (.int .i64 x.first)∧c 3=some (.int .i64 x.count)
theorem zv1 (n:Nat) (cs:List Value) (x:DataW H×List MemPlace) (hl:cs.length=4) (hf:DataW.trod enc Tryz.prog W 0 (fun _=>true) true n 74 cs=some x):∃ a:Sg4,SgE W (fun i=>if i<4 then cs[i]? else none) a∧0≤Rows.uptoBulk x.1:=by
 match cs,hl with
 | [c0,c1,c2,c3],_ =>
  obtain ⟨xs,n',_,Hw,_,Hi,hg⟩:=DataW.trod_struct Tryz.underlying74 hf;have g0:=hg 0 _ rfl;have g1:=hg 1 _ rfl;have g2:=hg 2 _ rfl;have g3:=hg 3 _ rfl
  have hxl':xs.length=4:=Hi
  match xs,hxl' with
  | [x0,x1,x2,x3],_ =>
   obtain ⟨n0,e0,_,wf0⟩:=DataW.trod_int Tryz.underlying3 g0
   have k0:c0=.int .i64 n0:=by have h:List.take (Tryz.prog.cellsOf 3) [c0,c1,c2,c3]=[Value.int .i64 n0]:=e0;rw[zbC] at h;simpa using h
   obtain ⟨n1,e1,_,wf1⟩:=DataW.trod_int Tryz.underlying3 g1
   have k1:c1=.int .i64 n1:=by have h:List.take (Tryz.prog.cellsOf 3) [c1,c2,c3]=[Value.int .i64 n1]:=e1;rw[zbC] at h;simpa using h
   obtain ⟨n2,e2,_,wf2⟩:=DataW.trod_int Tryz.underlying3 g2
   have k2:c2=.int .i64 n2:=by have h:List.take (Tryz.prog.cellsOf 3) [c2,c3]=[Value.int .i64 n2]:=e2;rw[zbC] at h;simpa using h
   obtain ⟨n3,e3,_,wf3⟩:=DataW.trod_int Tryz.underlying3 g3
   have k3:c3=.int .i64 n3:=by have h:List.take (Tryz.prog.cellsOf 3) [c3]=[Value.int .i64 n3]:=e3;rw[zbC] at h;simpa using h
   subst k0 k1 k2 k3
   exact ⟨⟨n0,n1,n2,n3⟩,⟨rfl,rfl,rfl,rfl⟩,Nat.zero_le _⟩
theorem znB {n:Nat} {c:Value} {x:DataW H×List MemPlace} (hf:DataW.trod enc Tryz.prog W 0 (fun _=>true) true n 28 [c]=some x):∃ l,Sgs W c l∧l.length≤Rows.uptoBulk x.1:=by
 obtain ⟨l,xs,h1,h2,h3,_⟩:=zeC Tryz.underlying28 ztn (by decide) SgE (fun _=>0) zv1 hf
 have he:xs=zaW l:=by
  have HN:=zjy l
  refine List.ext_getElem? fun j=>?_
  by_cases hj:j<l.length*4
  ·have g:=zeG l (j / 4) (by omega)
   obtain ⟨f0,f1,f2,f3⟩:=h2.2 (j / 4) (by omega)
   have f0:xs[j / 4*4+0]?=_:=f0
   have f1:xs[j / 4*4+1]?=_:=f1
   have f2:xs[j / 4*4+2]?=_:=f2
   have f3:xs[j / 4*4+3]?=_:=f3
   have hc:j=j / 4*4+0∨j=j / 4*4+1∨j=j / 4*4+2∨j=j / 4*4+3:=by omega
   rcases hc with h | h | h | h
   ·rw[h,f0];exact (g 0 (by decide)).symm
   ·rw[h,f1];exact (g 1 (by decide)).symm
   ·rw[h,f2];exact (g 2 (by decide)).symm
   ·rw[h,f3];exact (g 3 (by decide)).symm
  ·rw[List.getElem?_eq_none (by rw[h2.1];omega),List.getElem?_eq_none (by rw[HN];omega)]
 refine ⟨l,?_,h3⟩
 unfold Sgs;rw[←he]
 exact h1
theorem znv {n:Nat} {c0 c1:Value} {x:DataW H×List MemPlace} (hf:DataW.trod enc Tryz.prog W 0 (fun _=>true) true n 27 [c0,c1]=some x):∃ s f:Int,c0=.int .i64 s∧c1=.int .i64 f:=by
 obtain ⟨xs,n',_,Hw,_,Hi,hg⟩:=DataW.trod_struct Tryz.underlying27 hf;have g0:=hg 0 _ rfl;have g1:=hg 1 _ rfl
 have hxl':xs.length=2:=Hi
 match xs,hxl' with
 | [x0,x1],_ =>
  obtain ⟨n0,e0,_,wf0⟩:=DataW.trod_int Tryz.underlying3 g0
  have k0:c0=.int .i64 n0:=by have h:List.take (Tryz.prog.cellsOf 3) [c0,c1]=[Value.int .i64 n0]:=e0;rw[zbC] at h;simpa using h
  obtain ⟨n1,e1,_,wf1⟩:=DataW.trod_int Tryz.underlying3 g1
  have k1:c1=.int .i64 n1:=by have h:List.take (Tryz.prog.cellsOf 3) [c1]=[Value.int .i64 n1]:=e1;rw[zbC] at h;simpa using h
  exact ⟨n0,n1,k0,k1⟩
theorem zos (hv:Value.okWide Tryz.prog W .any base 30 v) (h:DataW.Trod enc Tryz.prog W 0 (fun _=>true) true 30 v d p):∃ (m:Mf) (u:Value),v=.agg #[.int .i64 m.next,.int .i64 m.term,.int .i64 m.vote,.int .i64 m.sq,.int .i64 m.sf,u]∧Sgs W u m.segs∧m.segs.length≤Rows.uptoBulk d:=by
 obtain ⟨cs,rfl,HO⟩:=okWide_struct Tryz.underlying30 hv;rw[ztl] at HO;obtain ⟨l⟩:=cs;obtain ⟨fuel,hf⟩:=h
 match l,HO with
 | [c0,c1,c2,c3,c4,c5],_ =>
  obtain ⟨xs,n',_,Hw,_,Hi,hg⟩:=DataW.trod_struct Tryz.underlying30 hf;have g0:=hg 0 _ rfl;have g1:=hg 1 _ rfl;have g2:=hg 2 _ rfl;have g3:=hg 3 _ rfl;have g4:=hg 4 _ rfl
  have hxl':xs.length=5:=Hi
  match xs,hxl' with
  | [x0,x1,x2,x3,x4],_ =>
   obtain ⟨n0,e0,_,wf0⟩:=DataW.trod_int Tryz.underlying3 g0
   have k0:c0=.int .i64 n0:=by have h:List.take (Tryz.prog.cellsOf 3) [c0,c1,c2,c3,c4,c5]=[Value.int .i64 n0]:=e0;rw[zbC] at h;simpa using h
   obtain ⟨n1,e1,_,wf1⟩:=DataW.trod_int Tryz.underlying3 g1
   have k1:c1=.int .i64 n1:=by have h:List.take (Tryz.prog.cellsOf 3) [c1,c2,c3,c4,c5]=[Value.int .i64 n1]:=e1;rw[zbC] at h;simpa using h
   obtain ⟨n2,e2,_,wf2⟩:=DataW.trod_int Tryz.underlying3 g2
   have k2:c2=.int .i64 n2:=by have h:List.take (Tryz.prog.cellsOf 3) [c2,c3,c4,c5]=[Value.int .i64 n2]:=e2;rw[zbC] at h;simpa using h
   have k3:DataW.trod enc Tryz.prog W 0 (fun _=>true) true n' 27 [c3,c4]=some x3:=by have h:DataW.trod enc Tryz.prog W 0 (fun _=>true) true n' 27 (List.take (Tryz.prog.cellsOf 27) [c3,c4,c5])=some x3:=g3;rw[ztm] at h;exact h
   have k4:DataW.trod enc Tryz.prog W 0 (fun _=>true) true n' 28 [c5]=some x4:=by have h:DataW.trod enc Tryz.prog W 0 (fun _=>true) true n' 28 (List.take (Tryz.prog.cellsOf 28) [c5])=some x4:=g4;rw[zto] at h;exact h
   subst k0 k1 k2;obtain ⟨sq,sf,rfl,rfl⟩:=znv k3;obtain ⟨sg,h1,h2⟩:=znB k4
   have hD:d=.agg [x0.1,x1.1,x2.1,x3.1,x4.1]:=by have:=congrArg (·.1) Hw;simpa using this
   refine ⟨⟨n0,n1,n2,sq,sf,sg⟩,c5,rfl,h1,?_⟩
   rw[hD];simp only[Rows.uptoBulk,Rows.uptoBulkAll];show sg.length≤_;omega
end
open Go.RowKit Go.Mv Go.Shelf
theorem mcR6af0 {P:Prop} (h:P:=by
 have H2:=zaM (P:=Tryz.prog) _ 38 9 5 Tryz.underlying38 Tryz.underlying5 Tryz.underlying9 (SlR.ext HB1'.out Hj);have H3:=zaM (P:=Tryz.prog) _ 38 9 5 Tryz.underlying38 Tryz.underlying5 Tryz.underlying9 (SlR.ext HB2'.out Hj);have K3:=zhd Hj;clear Ht Ha Hk Hj;go_wp2_with fail
 go_roundw
 case rel=>exact ⟨k+1,by omega,by go_num,Ext.trans HX.out K3.out⟩
 case measure=>simp[intOf];omega):P:=h
theorem znW (va vb:Value) (fs:List Fil) (w:World) (hA:Fs w va fs) (hB:Fs w vb fs) (hl:fs.length≤4000000) :
  Calls Tryz.prog 69 #[va,vb] w fun e w'=>e=.returned (.bool true)∧Ext w w':=by
 obtain ⟨A,c,rfl,_,_⟩:=Fs.open_ hA;obtain ⟨B,e2,rfl,_,_⟩:=Fs.open_ hB;have HA:=zhd hA;have HB:=zhd hB;clear hA hB
 go_enter Tryz.func69,Tryz.ntmps69
 go_wp2_with fail
 go_loopw [5] (fun i wr=>∃ k:Nat,k≤fs.length∧i=.int .i64 k∧Hid (Ext w wr)) (fun i _=>fs.length-(intOf i).toNat)
 case atStart=>exact ⟨0,Nat.zero_le _,rfl,Ext.refl _⟩
 case round =>
  obtain ⟨k,hk,rfl,HX⟩:=hrel
  by_cases H5:k<fs.length
  ·have Hx:(k:Int)<(fs.length:Int):=by omega
   obtain ⟨_,b1,o1,Hy,Hm⟩:=(HA.out.ext HX.out).at_ (by omega);subst Hy;obtain ⟨_,b2,o2,Hz,Ho⟩:=(HB.out.ext HX.out).at_ (by omega);subst Hz;obtain ⟨c0,B1,d1,c1,Hc⟩:=Hm k H5;obtain ⟨e0,B2,d2,e1,He⟩:=Ho k H5;have H2:=zaM (P:=Tryz.prog) wr.drew 38 9 5 Tryz.underlying38 Tryz.underlying5 Tryz.underlying9 (SlR.ext Hc (Ext.drew (Ext.refl _)));have H3:=zaM (P:=Tryz.prog) wr.drew 38 9 5 Tryz.underlying38 Tryz.underlying5 Tryz.underlying9 (SlR.ext He (Ext.drew (Ext.refl _)));unfold sv at c0 e0;clear Hm Ho Hc He
   generalize fs[k]=x at *
   obtain ⟨xn,xb⟩:=x;dsimp only at c0 c1 e0 e1 H2 H3;go_wp2_with fail
   refine wp_region_held_drew (S:=fun W=>W.cell? ⟨b1,o1+k*2,none⟩=some (.string ⟨xn.toArray⟩)∧W.cell? ⟨b1,o1+k*2+1,none⟩=some (.slice B1 xb.length d1)∧W.cell? ⟨b2,o2+k*2,none⟩=some (.string ⟨xn.toArray⟩)∧W.cell? ⟨b2,o2+k*2+1,none⟩=some (.slice B2 xb.length d2)∧(convert 38 9 (.slice B1 xb.length d1)).run Tryz.prog W=.ok (.string ⟨xb.toArray⟩) W∧(convert 38 9 (.slice B2 xb.length d2)).run Tryz.prog W=.ok (.string ⟨xb.toArray⟩) W) (by kernel_rfl) ⟨c0,c1,e0,e1,H2,H3⟩ (fun _=>?_)
   clear c0 c1 e0 e1 H2 H3;refine tkN 0 rfl ?_;refine tkN 1 rfl ?_;refine tkN 2 rfl ?_;refine tkN 3 rfl ?_;refine tkN 4 rfl ?_;refine tkN 5 rfl ?_;refine tkN 6 rfl ?_;refine tkN 7 rfl ?_;refine tkN 8 rfl ?_;refine tkN 9 rfl ?_;refine tkN 10 rfl ?_;refine tkN 11 rfl ?_;refine tkN 12 rfl ?_;refine tkN 13 rfl ?_;refine tkN 14 rfl ?_;refine tkN 15 rfl ?_;refine tkN 16 rfl ?_;refine tkN 17 rfl ?_;refine tkN 18 rfl ?_;refine tkN 19 rfl ?_;refine tkN 20 rfl ?_;refine tkN 21 rfl ?_;refine tkN 22 rfl ?_;refine tkN 23 rfl ?_;refine tkN 24 rfl ?_;refine tkN 25 rfl ?_;refine wpAnyH_done (by kernel_rfl) ?_ _;go_wp2_with fail
   go_roundw
   case rel=>exact ⟨k+1,by omega,by go_num,Ext.drew HX.out⟩
   case measure=>simp[intOf];omega
  ·obtain rfl:k=fs.length:=by omega
   go_wp2_with fail;go_ret
   exact ⟨rfl,HX.out⟩
theorem zpw (va vb:Value) (d:Dk) (w:World) (hA:DkV w va d) (hB:DkV w vb d) (hl:d.fs.length≤4000000) (HN:d.q.length≤4000000) :
  Calls Tryz.prog 22 #[va,vb] w fun e w'=>e=.returned (.bool true)∧Ext w w':=by
 obtain ⟨vf,vq,rfl,hF,hQ⟩:=hA;obtain ⟨vf',vq',rfl,hF',hQ'⟩:=hB;obtain ⟨A,c,rfl,_,_⟩:=Fs.open_ hF;obtain ⟨B,e2,rfl,_,_⟩:=Qs.open_ hQ;obtain ⟨A',c',rfl,_,_⟩:=Fs.open_ hF';obtain ⟨B',e2',rfl,_,_⟩:=Qs.open_ hQ';obtain ⟨W0,Hu⟩:∃ W0,(w.alloc (.cells #[.slice A d.fs.length c,.slice B d.q.length e2,.int .i64 d.quota,.int .i64 d.fuse,.bool d.dead] 25)).alloc (.cells #[.slice A' d.fs.length c',.slice B' d.q.length e2',.int .i64 d.quota,.int .i64 d.fuse,.bool d.dead] 25)=W0:=⟨_,rfl⟩
 have H0:Ext w W0:=by rw[←Hu];exact Ext.alloc (Ext.alloc (Ext.refl _) _) _
 have H7:Blk W0 w.heap.size 25 #[.slice A d.fs.length c,.slice B d.q.length e2,.int .i64 d.quota,.int .i64 d.fuse,.bool d.dead]:=by rw[←Hu];exact (Blk.new w _ _).alloc _
 have H1:Blk W0 (w.heap.size+1) 25 #[.slice A' d.fs.length c',.slice B' d.q.length e2',.int .i64 d.quota,.int .i64 d.fuse,.bool d.dead]:=by
  rw[←Hu]
  have:=Blk.new (w.alloc (.cells #[.slice A d.fs.length c,.slice B d.q.length e2,.int .i64 d.quota,.int .i64 d.fuse,.bool d.dead] 25)) 25 #[.slice A' d.fs.length c',.slice B' d.q.length e2',.int .i64 d.quota,.int .i64 d.fuse,.bool d.dead]
  rw[World.size_alloc] at this
  exact this
 have HF:=zhd (hF.ext H0);have HF':=zhd (hF'.ext H0);have HQ:=zhd (hQ.ext H0);have HQ':=zhd (hQ'.ext H0);have K4:=zhd H7;have K5:=zhd H1;have HE:=zhd H0;obtain ⟨g0,g1,g2,g3,g4⟩:=zac H7;obtain ⟨j0,j1,j2,j3,j4⟩:=zac H1;clear hF hF' hQ hQ' H0 H7 H1
 go_enter Tryz.func22,Tryz.ntmps22
 go_wp2_with fail;clear Hu
 refine (znW _ _ d.fs _ HF.out HF'.out hl).mono ?_
 rintro e w1 ⟨rfl,H9⟩;have K6:=zhd H9;clear H9 g0 g1 g2 g3 g4 j0 j1 j2 j3 j4;go_wp2_with fail
 go_loopw [5] (fun i wr=>∃ k:Nat,k≤d.q.length∧i=.int .i64 k∧Hid (Ext w1 wr)) (fun i _=>d.q.length-(intOf i).toNat)
 case atStart=>exact ⟨0,Nat.zero_le _,rfl,Ext.refl _⟩
 case round =>
  obtain ⟨k,hk,rfl,HX⟩:=hrel;have Hp:=zhd (Ext.trans K6.out HX.out);obtain ⟨g0,g1,g2,g3,g4⟩:=zac (K4.out.ext Hp.out);obtain ⟨j0,j1,j2,j3,j4⟩:=zac (K5.out.ext Hp.out)
  by_cases H5:k<d.q.length
  ·have Hx:(k:Int)<(d.q.length:Int):=by omega
   obtain ⟨_,b1,o1,Hy,Hm⟩:=(HQ.out.ext Hp.out).at_ (by omega);subst Hy;obtain ⟨_,b2,o2,Hz,Ho⟩:=(HQ'.out.ext Hp.out).at_ (by omega);subst Hz;obtain ⟨c0,c1,c2,B1,d1,c3,Hc⟩:=Hm k H5;obtain ⟨e0,e1,e3,B2,d2,e4,He⟩:=Ho k H5;unfold sv at c1 c2 e1 e3;clear Hm Ho;have HK:=zhd hk
   generalize d.q[k]=x at *
   obtain ⟨xk,xn,xt,xb⟩:=x;dsimp only at c0 c1 c2 c3 e0 e1 e3 e4 Hc He;have HB1':=zhd Hc;have HB2':=zhd He
   have HC:=zhd (show wr.cell? ⟨w.heap.size,1,none⟩=some (.slice (some ⟨b1,o1,none⟩) d.q.length e2)∧wr.cell? ⟨w.heap.size+1,1,none⟩=some (.slice (some ⟨b2,o2,none⟩) d.q.length e2')∧wr.cell? ⟨b1,o1+k*4,none⟩=some (.int .u8 xk)∧wr.cell? ⟨b1,o1+k*4+1,none⟩=some (.string ⟨xn.toArray⟩)∧wr.cell? ⟨b1,o1+k*4+2,none⟩=some (.string ⟨xt.toArray⟩)∧wr.cell? ⟨b1,o1+k*4+3,none⟩=some (.slice B1 xb.length d1)∧wr.cell? ⟨b2,o2+k*4,none⟩=some (.int .u8 xk)∧wr.cell? ⟨b2,o2+k*4+1,none⟩=some (.string ⟨xn.toArray⟩)∧wr.cell? ⟨b2,o2+k*4+2,none⟩=some (.string ⟨xt.toArray⟩)∧wr.cell? ⟨b2,o2+k*4+3,none⟩=some (.slice B2 xb.length d2) from ⟨g1,j1,c0,c1,c2,c3,e0,e1,e3,e4⟩)
   clear Hc He c0 c1 c2 c3 e0 e1 e3 e4 HK;go_wp2_with fail;clear g0 g1 g2 g3 g4 j0 j1 j2 j3 j4
   refine wp_region_held_drew (S:=fun W=>W.cell? ⟨w.heap.size,1,none⟩=some (.slice (some ⟨b1,o1,none⟩) d.q.length e2)∧W.cell? ⟨w.heap.size+1,1,none⟩=some (.slice (some ⟨b2,o2,none⟩) d.q.length e2')∧W.cell? ⟨b1,o1+k*4,none⟩=some (.int .u8 xk)∧W.cell? ⟨b1,o1+k*4+1,none⟩=some (.string ⟨xn.toArray⟩)∧W.cell? ⟨b1,o1+k*4+2,none⟩=some (.string ⟨xt.toArray⟩)∧W.cell? ⟨b1,o1+k*4+3,none⟩=some (.slice B1 xb.length d1)∧W.cell? ⟨b2,o2+k*4,none⟩=some (.int .u8 xk)∧W.cell? ⟨b2,o2+k*4+1,none⟩=some (.string ⟨xn.toArray⟩)∧W.cell? ⟨b2,o2+k*4+2,none⟩=some (.string ⟨xt.toArray⟩)∧W.cell? ⟨b2,o2+k*4+3,none⟩=some (.slice B2 xb.length d2)) (by kernel_rfl) HC.out (fun _=>?_)
   refine tkN 0 rfl ?_;refine tkN 1 rfl ?_;refine tkN 2 rfl ?_;refine tkN 3 rfl ?_;refine tkN 4 rfl ?_;refine tkN 5 rfl ?_;refine tkN 6 rfl ?_;refine tkN 7 rfl ?_;refine tkN 8 rfl ?_;refine tkN 9 rfl ?_
   have H6:=zhd (fun W (h:Ext wr W)=>show W.cell? ⟨w.heap.size,1,none⟩=some (.slice (some ⟨b1,o1,none⟩) d.q.length e2)∧W.cell? ⟨w.heap.size+1,1,none⟩=some (.slice (some ⟨b2,o2,none⟩) d.q.length e2')∧W.cell? ⟨b1,o1+k*4,none⟩=some (.int .u8 xk)∧W.cell? ⟨b1,o1+k*4+1,none⟩=some (.string ⟨xn.toArray⟩)∧W.cell? ⟨b1,o1+k*4+2,none⟩=some (.string ⟨xt.toArray⟩)∧W.cell? ⟨b1,o1+k*4+3,none⟩=some (.slice B1 xb.length d1)∧W.cell? ⟨b2,o2+k*4,none⟩=some (.int .u8 xk)∧W.cell? ⟨b2,o2+k*4+1,none⟩=some (.string ⟨xn.toArray⟩)∧W.cell? ⟨b2,o2+k*4+2,none⟩=some (.string ⟨xt.toArray⟩)∧W.cell? ⟨b2,o2+k*4+3,none⟩=some (.slice B2 xb.length d2) from by obtain ⟨p0,p1,p2,p3,p4,p5,p6,p7,p8,p9⟩:=HC.out;exact ⟨h.cell p0,h.cell p1,h.cell p2,h.cell p3,h.cell p4,h.cell p5,h.cell p6,h.cell p7,h.cell p8,h.cell p9⟩)
   have Hk:Ext wr wr.drew:=Ext.drew (Ext.refl _)
   clear HC
   refine AllReadyH.two (i:=10) (j:=11) rfl rfl (by kernel_rfl) (by rfl) (by rfl) (fun K hK=>?_) (fun K hK=>?_)
   ·go_simp
    refine shK hK _ _ (H6.out _ (Ext.alloc Hk _)) (fun _=>?_)
    refine ar1 11 rfl (fun K hK=>?_)
    go_simp
    refine shK hK _ _ (H6.out _ (Ext.alloc (Ext.alloc Hk _) _)) (fun _=>?_)
    refine ar1 12 rfl (fun K hK=>?_)
    go_simp
    refine shK hK _ _ (H6.out _ (Ext.drew (Ext.alloc (Ext.alloc (Ext.refl _) _) _))) (fun _=>?_)
    refine ar1 13 rfl (fun K hK=>?_)
    go_simp
    refine shK hK _ _ (H6.out _ (Ext.drew (Ext.alloc (Ext.alloc (Ext.refl _) _) _))) (fun _=>?_)
    refine wpAnyH_done (by kernel_rfl) ?_ _
    have Hj:Ext wr ((wr.alloc (.cells #[.int .u8 xk,.string ⟨xn.toArray⟩,.string ⟨xt.toArray⟩,.slice B1 xb.length d1] 86)).alloc (.cells #[.int .u8 xk,.string ⟨xn.toArray⟩,.string ⟨xt.toArray⟩,.slice B2 xb.length d2] 86)).drew:=Ext.drew (Ext.alloc (Ext.alloc (Ext.refl _) _) _)
    have Ht:=((Blk.new wr 86 #[.int .u8 xk,.string ⟨xn.toArray⟩,.string ⟨xt.toArray⟩,.slice B1 xb.length d1]).alloc (.cells #[.int .u8 xk,.string ⟨xn.toArray⟩,.string ⟨xt.toArray⟩,.slice B2 xb.length d2] 86)).ext (Ext.drew (Ext.refl _));have Ha:=(Blk.new (wr.alloc (.cells #[.int .u8 xk,.string ⟨xn.toArray⟩,.string ⟨xt.toArray⟩,.slice B1 xb.length d1] 86)) 86 #[.int .u8 xk,.string ⟨xn.toArray⟩,.string ⟨xt.toArray⟩,.slice B2 xb.length d2]).ext (Ext.drew (Ext.refl _));rw[World.size_alloc] at Ha;obtain ⟨x0,x1,x2,x3⟩:=blk4 Ht;obtain ⟨y0,y1,y2,y3⟩:=blk4 Ha
    exact mcR6af0
   ·go_simp
    refine shK hK _ _ (H6.out _ (Ext.alloc Hk _)) (fun _=>?_)
    refine ar1 10 rfl (fun K hK=>?_)
    go_simp
    refine shK hK _ _ (H6.out _ (Ext.alloc (Ext.alloc Hk _) _)) (fun _=>?_)
    refine ar1 12 rfl (fun K hK=>?_)
    go_simp
    refine shK hK _ _ (H6.out _ (Ext.drew (Ext.alloc (Ext.alloc (Ext.refl _) _) _))) (fun _=>?_)
    refine ar1 13 rfl (fun K hK=>?_)
    go_simp
    refine shK hK _ _ (H6.out _ (Ext.drew (Ext.alloc (Ext.alloc (Ext.refl _) _) _))) (fun _=>?_)
    refine wpAnyH_done (by kernel_rfl) ?_ _
    have Hj:Ext wr ((wr.alloc (.cells #[.int .u8 xk,.string ⟨xn.toArray⟩,.string ⟨xt.toArray⟩,.slice B2 xb.length d2] 86)).alloc (.cells #[.int .u8 xk,.string ⟨xn.toArray⟩,.string ⟨xt.toArray⟩,.slice B1 xb.length d1] 86)).drew:=Ext.drew (Ext.alloc (Ext.alloc (Ext.refl _) _) _)
    have Ht:=((Blk.new wr 86 #[.int .u8 xk,.string ⟨xn.toArray⟩,.string ⟨xt.toArray⟩,.slice B2 xb.length d2]).alloc (.cells #[.int .u8 xk,.string ⟨xn.toArray⟩,.string ⟨xt.toArray⟩,.slice B1 xb.length d1] 86)).ext (Ext.drew (Ext.refl _));have Ha:=(Blk.new (wr.alloc (.cells #[.int .u8 xk,.string ⟨xn.toArray⟩,.string ⟨xt.toArray⟩,.slice B2 xb.length d2] 86)) 86 #[.int .u8 xk,.string ⟨xn.toArray⟩,.string ⟨xt.toArray⟩,.slice B1 xb.length d1]).ext (Ext.drew (Ext.refl _));rw[World.size_alloc] at Ha;obtain ⟨x0,x1,x2,x3⟩:=blk4 Ha;obtain ⟨y0,y1,y2,y3⟩:=blk4 Ht
    exact mcR6af0
  ·obtain rfl:k=d.q.length:=by omega
   go_wp2_with fail;go_ret
   exact ⟨rfl,Ext.trans HE.out Hp.out⟩
open Go.RowKit Go.Mv
theorem zqK {fs gs:List Fil} {b:List UInt8} {m:Mf} (hm:zbB b=some m) (H1:zax fs (some [77])=some b) (H8:zax gs (some [77])=some b)
  (h:∀ k s f,zjE m k s f→zax fs (zak k s f)=zax gs (zak k s f)):zaI fs=zaI gs:=by
 have K7:zb3 fs m=zb3 gs m:=by
  unfold zb3
  by_cases hq:m.sq=0
  ·rw[if_pos hq,if_pos hq]
  ·rw[if_neg hq,if_neg hq,h 4 m.sq m.sf (.snap hq)]
 have K8:∀ s∈m.segs,zaz fs s=zaz gs s:=by
  intro s hs;obtain ⟨j,hj,rfl⟩:=List.mem_iff_getElem.1 hs;unfold zaz;rw[h 3 _ _ (.seg j hj)]
 have K9:∀ (index:Int) (l:List Sg4) (last:Int) (out:List Ent),(∀ s∈l,s∈m.segs)→zc2 fs index l last out=zc2 gs index l last out:=by
  intro index l
  induction l with
  | nil=>intros;rfl
  | cons s l ih =>
   intro last out hl;rw[zc2,zc2,K8 s (hl s List.mem_cons_self)]
   cases zaz gs s with
   | none=>rfl
   | some x=>exact ih _ _ fun y hy=>hl y (List.mem_cons_of_mem _ hy)
 unfold zaI;rw[zfu,H1,H8];dsimp only;rw[hm];dsimp only;rw[K7]
 cases zb3 gs m with
 | none=>rfl
 | some s =>
  have HD:zdG fs m s.idx=zdG gs m s.idx:=by
   unfold zdG
   rw[K9 _ _ _ _ fun _ h=>h]
  dsimp only;rw[HD]
theorem zeB {m:Mf} {b:List UInt8} (hb:zbm m=some b):zav m=true:=by
 unfold zbm at hb
 split at hb
 ·assumption
 ·cases hb
theorem zm5 {m:Mf} {k s f:Int} (h:zjE m k s f):(k,s,f)∈zau m:=by
 unfold zau zfc
 cases h with
 | snap hq=>rw[if_neg hq];simp
 | seg j hj=>exact List.mem_append_right _ (List.mem_map.2 ⟨m.segs[j],List.getElem_mem hj,rfl⟩)
theorem zf4 (m:Mf):zcg∈zaf (zau m):=by
 unfold zaf
 refine List.mem_filterMap.2 ⟨(1,0,0),?_,zfu⟩
 unfold zau zfc
 simp
theorem zhv {m:Mf} (hc:zav m=true):zbd ∉ zaf (zau m):=by
 intro h;obtain ⟨⟨k,s,f⟩,h1,h2⟩:=List.mem_filterMap.1 h;obtain ⟨j,hj,h3⟩:=List.mem_iff_getElem.1 h1
 rcases zex (j:=j) (by rw[List.getElem?_eq_getElem hj,h3]) with ⟨_,h4⟩ | ⟨_,h4⟩
 ·cases h4
  rw[zfu] at h2
  cases h2
 ·obtain ⟨h5,h6,h7⟩:=zfV hc h4
  unfold zak at h2
  split at h2
  ·have h2:=Option.some.inj h2
   unfold zfd at h2;rw[if_neg (by dsimp only;omega),if_neg (by dsimp only;omega)] at h2;unfold zbd at h2
   injection h2 with h2 _
   rcases h5 with rfl | rfl <;> simp at h2
  ·cases h2
theorem zqD {d:Dk} (h:Rt d) {m:Mf} {b:List UInt8} (hb:zbm m=some b) (he:(zck d b (zaf (zau m))).2=0) :
  zaI (([77],b)::d.now)=zaI (zck d b (zaf (zau m))).1.now:=by
 have hc:zav m=true:=zeB hb
 obtain ⟨h1,_⟩:=zhV h b (zf4 m) (zhv hc);obtain ⟨_,h2⟩:=h1 he;have hM:=h2 zcg;rw[if_pos rfl] at hM
 refine zqK (zsN hb) ?_ ?_ ?_
 ·rw[zaN,zae,if_pos rfl]
 ·rw[zaN];exact hM
 ·intro k s f hi
  obtain ⟨g1,g2,g3⟩:=zfV hc hi
  cases hn:zak k s f with
  | none=>rw[zfa,zfa]
  | some n =>
   rw[zaN,zaN,h2 n,zae];have H4:=zgp g1 hn
   rw[if_neg (fun e=>H4 e.symm),if_neg (show ¬ n=zcg from H4),if_pos (show n∈zaf (zau m) from List.mem_filterMap.2 ⟨(k,s,f),zm5 hi,hn⟩)]
theorem zsH {d:Dk} (h:Rt d) {m:Mf} {b:List UInt8} (hb:zbm m=some b) (he:(zck d b (zaf (zau m))).2=0):zaH (zck d b (zaf (zau m))).1.now (zaf (zau m))=[]:=by
 have hc:zav m=true:=zeB hb
 obtain ⟨h1,_⟩:=zhV h b (zf4 m) (zhv hc);obtain ⟨hr,h2⟩:=h1 he;unfold zaH;rw[List.filter_eq_nil_iff];intro n hn;obtain ⟨p,hp,rfl⟩:=List.mem_map.1 hn;have h3:=h2 p.1
 rw[zbZ (zco hr).1.apart (show (p.1,p.2)∈_ from hp)] at h3
 by_cases hm:p.1∈zaf (zau m)
 ·simpa using hm
 ·rw[if_neg (show ¬ p.1=zcg from fun e=>hm (by rw[e];exact zf4 m)),if_neg hm] at h3
  cases h3
theorem zsG {d:Dk} (h:Rt d) {m:Mf} {b:List UInt8} (hb:zbm m=some b) (he:(zck d b (zaf (zau m))).2=0) {j:Nat} (hj:0<j) {k s f:Int} (hx:(zau m)[j]?=some (k,s,f)) :
  zax (zck d b (zaf (zau m))).1.now (zak k s f)=zax d.now (zak k s f):=by
 have hc:zav m=true:=zeB hb
 obtain ⟨h1,_⟩:=zhV h b (zf4 m) (zhv hc);obtain ⟨hr,h2⟩:=h1 he
 rcases zex hx with ⟨h0,_⟩ | ⟨_,hi⟩
 ·omega
 ·obtain ⟨g1,g2,g3⟩:=zfV hc hi
  cases hn:zak k s f with
  | none=>rw[zfa,zfa]
  | some n =>
   rw[zaN,zaN,h2 n,if_neg (show ¬ n=zcg from zgp g1 hn),if_pos (show n∈zaf (zau m) from List.mem_filterMap.2 ⟨(k,s,f),zm5 hi,hn⟩)]
structure Sy (a t:Nat) (d:Dk):Prop where
 l:d.fs.length+d.q.length≤a
 t:tot d.fs+zaT d.q≤t
 f:d.fuse≤9223372036854775807
theorem Sy.mono {a t a' t':Nat} {d:Dk} (h:Sy a t d) (h1:a≤a') (h2:t≤t'):Sy a' t' d:=⟨Nat.le_trans h.l h1,Nat.le_trans h.t h2,h.f⟩
theorem Sy.sz {a t n:Nat} {d:Dk} (h:Sy a t d) (h1:a≤n) (h2:t≤n):Sz n d:=⟨Nat.le_trans h.l h1,Nat.le_trans h.t h2,h.f⟩
theorem Sy.burn {a t:Nat} {d:Dk} (h:Sy a t d):Sy a t d.burn:=by
 obtain ⟨h1,h2,h3⟩:=h;unfold Dk.burn
 split
 ·exact ⟨h1,h2,by dsimp only;omega⟩
 ·exact ⟨h1,h2,h3⟩
theorem Sy.sync {a t:Nat} {d:Dk} (h:Sy a t d):Sy a t d.syncS.1:=by
 unfold Dk.syncS
 split
 ·exact h
 ·refine Sy.burn ⟨?_,?_,h.f⟩
  ·have:=zeW d;have:=h.l;simp only[List.length_nil];omega
  ·have:=zk4 d;have:=h.t;show tot d.now+0≤t;omega
theorem Sy.doS {a t:Nat} {d:Dk} (h:Sy a t d) (o:Oq):Sy (a+1) (t+o.b.length) (d.doS o).1:=by
 have hm:=h.mono (a':=a+1) (t':=t+o.b.length) (by omega) (by omega);unfold Dk.doS
 split
 ·exact hm
 ·split
  ·exact hm
  ·split
   ·exact hm
   ·split
    ·exact hm
    ·refine Sy.burn ⟨?_,?_,h.f⟩
     ·have:=h.l;show d.fs.length+(d.q++[o]).length≤_;simp;omega
     ·have:=h.t;show tot d.fs+zaT (d.q++[o])≤_;rw[zd6,zb9];show _+(zaT d.q+(o.b.length+0))≤_;omega
theorem Sy.does:∀ (q:List Oq) {a t:Nat} {d:Dk} (sync:Bool),Sy a t d→Sy (a+q.length) (t+zaT q) (zaF sync d q).1
 | [],a,t,d,sync,h=>by
  rw[zaF]
  split
  ·exact h.sync.mono (by omega) (by omega)
  ·exact h.mono (by omega) (by omega)
 | o::q,a,t,d,sync,h=>by
  rw[zaF,zb9,List.length_cons]
  split
  ·exact (Sy.does q sync (h.doS o)).mono (by omega) (by omega)
  ·exact (h.doS o).mono (by omega) (by omega)
theorem Sy.put {a t:Nat} {d:Dk} (h:Sy a t d) (n b:List UInt8):Sy (a+2) (t+b.length) (zdL d n b).1 :=
 (Sy.does [za3 n,za6 n b] true h).mono (by simp) (by simp[zaT,za3,za6])
theorem Sy.drop {a t:Nat} {d:Dk} (h:Sy a t d) (ks:List (List UInt8)):Sy (a+a) t (zb1 d ks).1:=by
 refine (Sy.does ((zaH d.now ks).map zbb) false h).mono ?_ ?_
 ·rw[List.length_map]
  have:=zei d.now ks
  have:=zeW d
  have:=h.l
  omega
 ·rw[zgL];omega
theorem Sy.swap {a t:Nat} {d:Dk} (h:Sy a t d) (b:List UInt8) (ks:List (List UInt8)):Sy (a+a+6) (t+b.length) (zck d b ks).1:=by
 have h1:=h.put zbd b;have h2:=Sy.does [zaZ zbd zcg] true h1
 have e:zaT [zaZ zbd zcg]=0:=rfl
 rw[e] at h2;unfold zck
 split
 ·exact h1.mono (by omega) (by omega)
 ·split
  ·exact h2.mono (by simp only[List.length_cons,List.length_nil];omega) (by omega)
  ·exact (h2.drop ks).mono (by simp only[List.length_cons,List.length_nil];omega) (by omega)
theorem zhi {m:Mf} (hc:zav m=true):m.segs.length≤60:=by
 unfold zav zct at hc;simp only[Bool.and_eq_true,decide_eq_true_eq] at hc
 exact hc.1.1.2
theorem zkP {m:Mf} {b:List UInt8} (hb:zbm m=some b):b.length≤1300:=by
 have hc:=zeB hb;have hs:=zhi hc;unfold zbm at hb;rw[if_pos hc] at hb;have hb:=Option.some.inj hb;have h1:=zcx (zbE m)
 have h2:(zbE m).length=6+4*m.segs.length:=by
  unfold zbE;rw[List.length_append,zdZ];rfl
 rw[←hb,zkv,List.length_cons];omega
theorem zej {d:Dk} {m:Mf} {b:List UInt8} (hb:zbm m=some b):zb5 d m=zck d b (zaf (zau m)):=by unfold zb5;rw[hb]
theorem zsa {m:Mf} (hc:zav m=true):∃ b,zbm m=some b:=by
 unfold zbm;rw[if_pos hc]
 exact ⟨_,rfl⟩
theorem zrR {m:Mf} (hc:zav m=true):(zau m).length≤62:=by
 have:=zhi hc
 have:=zlG m
 unfold zau;rw[List.length_append,List.length_map];omega
theorem zhp (fs:List Fil) (nm:Option (List UInt8)):(zbS fs nm = -1∧zax fs nm=none)∨∃ (k:Nat) (h:k<fs.length),zbS fs nm=(k:Int)∧zax fs nm=some fs[k].2:=by
 by_cases h:zbS fs nm<0
 ·refine .inl ⟨?_,by unfold zax;rw[if_pos h]⟩
  unfold zbS za5 at h ⊢
  cases nm with
  | none=>rfl
  | some n =>
   dsimp only at h ⊢
   split at h
   ·rfl
   ·omega
 ·obtain ⟨i,h1,h2⟩:=zjR fs nm h
  refine .inr ⟨i,h2,h1,?_⟩
  unfold zax;rw[if_neg h,h1,Int.toNat_natCast,List.getElem?_eq_getElem h2];rfl
theorem zqt (t:Tup):zkR t t=true:=by
 unfold zkR
 simp[(zsD t.s t.s).2 rfl]
theorem zsI {d:Dk} (h:Rt d) {m:Mf} {b:List UInt8} (hb:zbm m=some b):(zb5 d m).2=0∨(zb5 d m).2=40∨(zb5 d m).2=41:=by
 rw[zej hb]
 exact (zhV h b (zf4 m) (zhv (zeB hb))).2
theorem zqE {d:Dk} (h:Rt d) {m:Mf} {b:List UInt8} (hb:zbm m=some b) (hd:d.dead=true):zb5 d m=(d,40):=by
 rw[zej hb]
 exact zsF h hd b _
theorem zoQ {d:Dk} (h:Rt d) {m:Mf} {b:List UInt8} (hb:zbm m=some b) (he:(zb5 d m).2=0) {j:Nat} (hj:0<j) {k s f:Int} (hx:(zau m)[j]?=some (k,s,f)) :
  (zbS d.now (zak k s f) = -1∧zbS (zb5 d m).1.now (zak k s f) = -1)∨∃ (p q:Nat) (hp:p<d.now.length) (hq:q<(zb5 d m).1.now.length),zbS d.now (zak k s f)=(p:Int)∧zbS (zb5 d m).1.now (zak k s f)=(q:Int)∧d.now[p].2=(zb5 d m).1.now[q].2:=by
 have hk:=zsG h hb (by rw[←zej hb];exact he) hj hx;rw[←zej hb] at hk
 rcases zhp d.now (zak k s f) with ⟨h1,h2⟩ | ⟨p,hp,h1,h2⟩
 ·rcases zhp (zb5 d m).1.now (zak k s f) with ⟨h3,h4⟩ | ⟨q,hq,h3,h4⟩
  ·exact .inl ⟨h1,h3⟩
  ·rw[h2,h4] at hk;cases hk
 ·rcases zhp (zb5 d m).1.now (zak k s f) with ⟨h3,h4⟩ | ⟨q,hq,h3,h4⟩
  ·rw[h2,h4] at hk;cases hk
  ·rw[h2,h4] at hk
   exact .inr ⟨p,q,hp,hq,h1,h3,(Option.some.inj hk).symm⟩
theorem zqF {d:Dk} (h:Rt d) {m:Mf} {b:List UInt8} (hb:zbm m=some b) (he:(zb5 d m).2=0):zaH (zb5 d m).1.now (zaf (zau m))=[]:=by
 rw[zej hb] at he ⊢
 exact zsH h hb he
theorem zoR {d:Dk} (h:Rt d) {m:Mf} {b:List UInt8} (hb:zbm m=some b) (he:(zb5 d m).2=0):zaI (([77],b)::d.now)=zaI (zb5 d m).1.now:=by
 rw[zej hb] at he ⊢
 exact zqD h hb he
end Go.Proofs.YtgonhdeochgkoaaGreatDoor
