/- Merged -/
import Derived.Test.YtgonhdeochgkoaaGreatDoorZx27
import Derived.Test.YtgonhdeochgkoaaGreatDoorZx40
import Derived.Lib.SlBytesConst
set_option linter.all false
set_option maxHeartbeats 8000000
set_option maxRecDepth 100000
open List renaming length_nil→P0,getElem?_append_right→P1,length_take→P2,getElem?_eq_getElem→P3,length_map→P4,append_nil→P5
open Option.some renaming inj→P6
open Nat renaming le_trans→P7,min_le_right→P8,zero_add→P9
namespace Go.Proofs.YtgonhdeochgkoaaGreatDoor
open Go.RowKit Go.Mv Go.Shelf
structure Sy (a t:Nat) (d:Dk):Prop where
 l:d.fs.length+d.q.length≤a
 t:tot d.fs+zaG d.q≤t
 f:d.fuse≤9223372036854775807
theorem Sy.mono {a t a' t':Nat} {d:Dk} (h:Sy a t d) (h1:a≤a') (h2:t≤t'):Sy a' t' d:=⟨P7 h.l h1,P7 h.t h2,h.f⟩
theorem Sy.sz {a t n:Nat} {d:Dk} (h:Sy a t d) (h1:a≤n) (h2:t≤n):Sz n d:=⟨P7 h.l h1,P7 h.t h2,h.f⟩
theorem Sy.burn {a t:Nat} {d:Dk} (h:Sy a t d):Sy a t d.burn:=by
 obtain ⟨h1,h2,h3⟩:=h;unfold Dk.burn
 split
 ·exact ⟨h1,h2,by dsimp only;omega⟩
 ·exact ⟨h1,h2,h3⟩
theorem Sy.sync {a t:Nat} {d:Dk} (h:Sy a t d):Sy a t d.syncS.1:=by
 unfold Dk.syncS
 split
 ·exact h
 ·refine Sy.burn ⟨?_,?_,h.f⟩
  ·have:=zdP d;have:=h.l;simp only[P0];omega
  ·have:=zit d;have:=h.t;show tot d.now+0≤t;omega
theorem Sy.doS {a t:Nat} {d:Dk} (h:Sy a t d) (o:Oq):Sy (a+1) (t+o.b.length) (d.doS o).1:=by
 have hm:=h.mono (a':=a+1) (t':=t+o.b.length) (by omega) (by omega);unfold Dk.doS
 split
 ·exact hm
 ·split
  ·exact hm
  ·split
   ·exact hm
   ·split
    ·exact hm
    ·refine Sy.burn ⟨?_,?_,h.f⟩
     ·have:=h.l;show d.fs.length+(d.q++[o]).length≤_;simp;omega
     ·have:=h.t;show tot d.fs+zaG (d.q++[o])≤_;rw[zcf,zbJ];show _+(zaG d.q+(o.b.length+0))≤_;omega
theorem Sy.does:∀ (q:List Oq) {a t:Nat} {d:Dk} (sync:Bool),Sy a t d→Sy (a+q.length) (t+zaG q) (zaN sync d q).1
 | [],a,t,d,sync,h=>by
  rw[zaN]
  split
  ·exact h.sync.mono (by omega) (by omega)
  ·exact h.mono (by omega) (by omega)
 | o::q,a,t,d,sync,h=>by
  rw[zaN,zbJ,xC]
  split
  ·exact (Sy.does q sync (h.doS o)).mono (by omega) (by omega)
  ·exact (h.doS o).mono (by omega) (by omega)
theorem Sy.put {a t:Nat} {d:Dk} (h:Sy a t d) (n b:List UInt8):Sy (a+2) (t+b.length) (zdH d n b).1 :=
 (Sy.does [za3 n,za2 n b] true h).mono (by simp) (by simp[zaG,za3,za2])
theorem Sy.drop {a t:Nat} {d:Dk} (h:Sy a t d) (ks:List (List UInt8)):Sy (a+a) t (zg2 d ks).1:=by
 refine (Sy.does ((zcl d.now ks).map zcb) false h).mono ?_ ?_
 ·rw[P4]
  have:=zm3 d.now ks
  have:=zdP d
  have:=h.l
  omega
 ·rw[zjj];omega
theorem Sy.swap {a t:Nat} {d:Dk} (h:Sy a t d) (b:List UInt8) (ks:List (List UInt8)):Sy (a+a+6) (t+b.length) (zcn d b ks).1:=by
 have h1:=h.put zaA b;have h2:=Sy.does [zaS zaA zbq] true h1
 have e:zaG [zaS zaA zbq]=0:=rfl
 rw[e] at h2;unfold zcn
 split
 ·exact h1.mono (by omega) (by omega)
 ·split
  ·exact h2.mono (by simp only[xC,P0];omega) (by omega)
  ·exact (h2.drop ks).mono (by simp only[xC,P0];omega) (by omega)
theorem zfl {m:Mf} (hc:zax m=true):m.segs.length≤60:=by
 unfold zax zcr at hc;simp only[Bool.and_eq_true,decide_eq_true_eq] at hc
 exact hc.1.1.2
theorem zkr {m:Mf} {b:List UInt8} (hb:zbs m=some b):b.length≤1300:=by
 have hc:=zkq hb;have hs:=zfl hc;unfold zbs at hb;rw[if_pos hc] at hb;have hb:=P6 hb;have h1:=zcu (zbD m)
 have h2:(zbD m).length=6+4*m.segs.length:=by
  unfold zbD;rw[xL,zdV];rfl
 rw[←hb,zj9,xC];omega
theorem znc {d:Dk} {m:Mf} {b:List UInt8} (hb:zbs m=some b):zd5 d m=zcn d b (zaD (zaO m)):=by unfold zd5;rw[hb]
theorem zrz {m:Mf} (hc:zax m=true):∃ b,zbs m=some b:=by
 unfold zbs;rw[if_pos hc]
 exact ⟨_,rfl⟩
theorem zk9 {m:Mf} (hc:zax m=true):(zaO m).length≤62:=by
 have:=zfl hc
 have:=zrd m
 unfold zaO;rw[xL,P4];omega
theorem zeo (fs:List Fil) (nm:Option (List UInt8)):(zb4 fs nm = -1∧zao fs nm=none)∨∃ (k:Nat) (h:k<fs.length),zb4 fs nm=(k:Int)∧zao fs nm=some fs[k].2:=by
 by_cases h:zb4 fs nm<0
 ·refine .inl ⟨?_,by unfold zao;rw[if_pos h]⟩
  unfold zb4 zbz at h ⊢
  cases nm with
  | none=>rfl
  | some n =>
   dsimp only at h ⊢
   split at h
   ·rfl
   ·omega
 ·obtain ⟨i,h1,h2⟩:=zjx fs nm h
  refine .inr ⟨i,h2,h1,?_⟩
  unfold zao;rw[if_neg h,h1,Int.toNat_natCast,P3 h2];rfl
theorem zpP (t:Tup):zkw t t=true:=by
 unfold zkw
 simp[(zrU t.s t.s).2 rfl]
theorem zul {m:Mf} (hc:zax m=true) {k s f:Int} (hi:zgQ m k s f) {n:List UInt8} (hn:zas k s f=some n):n∈zaD (zaO m)∧n≠zbq∧n≠zaA:=by
 obtain ⟨g1,_,_⟩:=zoB hc hi
 have h1:n∈zaD (zaO m):=List.mem_filterMap.2 ⟨(k,s,f),zs0 hi,hn⟩
 exact ⟨h1,zrm g1 hn,fun e=>zmz hc (e ▸ h1)⟩
structure CrW (fs L:List Fil) (m:Mf) (b:List UInt8) (er:Int):Prop where
 ok:er=0→zao L (some [77])=some b
 old:zao L (some [77])≠some b→zao L (some [77])=zao fs (some [77])
 new1:zao L (some [77])=some b→∀ j,0<j→∀ k s f,(zaO m)[j]?=some (k,s,f)→zao L (zas k s f)=zao fs (zas k s f)
 new2:zao L (some [77])=some b→∀ t m',zbB L=⟨0,t,m'⟩→zbF t=true∧t.term=m.term∧t.vote=m.vote
 old1:zao L (some [77])≠some b→∀ n,zbe ((zao fs (some [77])).getD [])=some n→∀ j,0<j→∀ k s f,(zaO n)[j]?=some (k,s,f)→zao L (zas k s f)=zao fs (zas k s f)
 old2:zao L (some [77])≠some b→∀ n,zbe ((zao fs (some [77])).getD [])=some n→zbB L=zbB fs
theorem znC {d:Dk} (h:Rt d) (hq:d.q=[]) {m:Mf} {b:List UInt8} (hb:zbs m=some b) (keep torn:Int) :
  Rt (zd5 d m).1∧CrW d.fs (zba (zd5 d m).1.fs (zbw (zd5 d m).1.q keep torn)) m b (zd5 d m).2:=by
 have hc:zax m=true:=zkq hb
 rw[znc hb];obtain ⟨h1,h2⟩:=zpZ h hq b (zmz hc) keep torn
 refine ⟨h1,?_⟩
 generalize hL:zba (zcn d b (zaD (zaO m))).1.fs (zbw (zcn d b (zaD (zaO m))).1.q keep torn)=L at h2 ⊢
 generalize (zcn d b (zaD (zaO m))).2=er at h2 ⊢
 have Ho:∀ {n:Mf},zax n=true→(∀ x,x∈zaD (zaO n)→x≠zbq→x≠zaA→zah x L=zah x d.fs)→∀ k s f,zgQ n k s f→zao L (zas k s f)=zao d.fs (zas k s f):=by
  intro n hn hx k s f hi
  cases hnm:zas k s f with
  | none=>rw[ziZ,ziZ]
  | some x =>
   obtain ⟨g1,g2,g3⟩:=zul hn hi hnm;rw[zdo,zdo,hx x g1 g2 g3]
 have H0:∀ {n:Mf},zax n=true→(∀ x,x∈zaD (zaO n)→x≠zbq→x≠zaA→zah x L=zah x d.fs)→∀ j,0<j→∀ k s f,(zaO n)[j]?=some (k,s,f)→zao L (zas k s f)=zao d.fs (zas k s f):=by
  intro n hn hx j hj k s f K8
  rcases zkk K8 with ⟨h0,_⟩ | ⟨_,hi⟩
  ·omega
  ·exact Ho hn hx k s f hi
 have H3:zao L (some [77])=some b→∀ t m',zbB L=⟨0,t,m'⟩→zbF t=true∧t.term=m.term∧t.vote=m.vote:=by
  intro hM t m' ht;obtain ⟨b',s,e1,e2,_,_,e5,rfl⟩:=zuw ht;rw[hM] at e1
  obtain rfl:=P6 e1
  rw[zr0 hb] at e2
  obtain rfl:=P6 e2
  exact ⟨e5,rfl,rfl⟩
 rcases h2 with ⟨he,hold⟩ | ⟨hM,hk⟩
 ·have H7:zao L (some [77])=zao d.fs (some [77]):=by rw[zdo,zdo];exact hold [77] (by decide)
  refine ⟨fun e=>absurd e he,fun _=>H7,fun _=>H0 hc fun x _ _ hx=>hold x hx,H3,fun _ n hn=>H0 (zd1 hn).1 fun x _ _ hx=>hold x hx,fun _ n hn=>?_⟩
  cases hw:zao d.fs (some [77]) with
  | none =>
   rw[hw] at hn;rw[zji (by show (0:Nat)<4;decide)] at hn
   cases hn
  | some was =>
   rw[hw] at hn H7
   exact zp5 hn H7 hw (Ho (zd1 hn).1 fun x _ _ hx=>hold x hx)
 ·rw[if_pos (zsZ m)] at hM
  have Hr:zao L (some [77])=some b:=by rw[zdo];exact hM
  exact ⟨fun _=>Hr,fun Hm=>absurd Hr Hm,fun _=>H0 hc fun x hx HJ _=>hk x hx HJ,H3,fun Hm=>absurd Hr Hm,fun Hm=>absurd Hr Hm⟩
theorem ztt (q:List Oq) (keep torn:Int):(zbw q keep torn).length≤q.length∧zaG (zbw q keep torn)≤zaG q:=by
 unfold zbw
 generalize zb0 q keep=k
 have h1:zaG (q.take k)+zaG (q.drop k)=zaG q:=by rw[←zcf,List.take_append_drop]
 cases ho:q[k]? with
 | none =>
  dsimp only;rw[P5,P2]
  exact ⟨P8 _ _,by omega⟩
 | some o =>
  obtain ⟨K9,rfl⟩:=List.getElem?_eq_some_iff.1 ho;rw[List.drop_eq_getElem_cons K9,zbJ] at h1;dsimp only
  split
  ·rw[xL,P2,xC,P0,zcf,zbJ]
   refine ⟨by omega,?_⟩
   have h2:(zhz q[k] torn).b.length≤q[k].b.length:=by unfold zhz;rw[P2];exact P8 _ _
   have h3:zaG []=0:=rfl
   omega
  ·rw[P5,P2]
   exact ⟨P8 _ _,by omega⟩
theorem Sy.crash {a t:Nat} {d:Dk} (h:Sy a t d) (keep torn:Int):(zba d.fs (zbw d.q keep torn)).length≤a∧tot (zba d.fs (zbw d.q keep torn))≤t:=by
 obtain ⟨h1,h2⟩:=ztt d.q keep torn;have h3:=zdP { d with q:=zbw d.q keep torn };have h4:=zit { d with q:=zbw d.q keep torn }
 have:=h.l
 have:=h.t
 unfold Dk.now at h3 h4;dsimp only at h3 h4
 exact ⟨by omega,by omega⟩
def m13:Mf:=⟨1,3,2,0,0,[]⟩
def b13:List UInt8:=[77,1,3,2,0,0,0,49,129,35,90]
def d13:Dk:=⟨[],[],100,0,false⟩
def e13:Dk:=⟨[([77],b13)],[],100,0,false⟩
theorem zuf:zbs m13=some b13:=by decide
theorem zsX:zd5 d13 m13=(e13,0):=by rfl
theorem zuV:zd5 e13 mf0=(e13,2):=by rfl
theorem zue:e13.now=[([77],b13)]:=by rfl
theorem zsY:zbB e13.now=⟨0,⟨⟨0,0,0,1,false⟩,[],3,2⟩,m13⟩:=by rfl
theorem zuc:zbB [([77],[120])]=zbS 130:=by rfl
theorem zud:zbB []=zbS 42:=by rfl
theorem zvs:Sz 100 d13:=⟨by decide,by decide,by decide⟩
theorem ztG:Sz 100 e13:=⟨by decide,by decide,by decide⟩
theorem zu2 (W:World):Qs W (.slice none 0 0) []:=⟨[],SlR.nil W 4,RowOf.nil⟩
theorem zu7 (w:World) (hS:StW w):Calls Tryz.prog 12 #[.agg #[.slice none 0 0,.slice none 0 0,.int .i64 100,.int .i64 0,.bool false],.agg #[.int .i64 1,.int .i64 3,.int .i64 2,.int .i64 0,.int .i64 0,.slice none 0 0]] w (zlW w (e13,0)):=by
 have h:=zhT _ d13 100 m13 (.slice none 0 0) w hS (show DkV w (.agg #[.slice none 0 0,.slice none 0 0,.int .i64 100,.int .i64 0,.bool false]) d13 from ⟨_,_,rfl,zq1 w,zu2 w⟩) zvs (by decide) (Sgs.nil w) (by decide) (by decide) (fun b hb=>by rw[zuf] at hb;cases hb;decide)
 rw[zsX] at h
 exact h
theorem zuv (v:Value) (w:World) (hS:StW w) (hD:DkV w v e13):Calls Tryz.prog 12 #[v,.agg #[.int .i64 0,.int .i64 0,.int .i64 0,.int .i64 0,.int .i64 0,.slice none 0 0]] w (zlW w (e13,2)):=by
 have h:=zhT v e13 100 mf0 (.slice none 0 0) w hS hD ztG (by decide) (Sgs.nil w) (by decide) (by decide) (fun b hb=>by rw[show zbs mf0=none by decide] at hb;cases hb)
 rw[zuV] at h
 exact h
theorem ztQ (W:World) (x:UInt8):Bs (W.alloc (.cells #[bv x] 5 (1,2))) (.slice (some ⟨W.heap.size,0,none⟩) 1 1) [x]:=by
 refine ⟨rfl,_,1,rfl,xN _,by simp[maxLen],fun _=>⟨W.heap.size,0,rfl,fun j u hu=>?_⟩⟩
 rw[P9]
 have hb:(W.alloc (.cells #[bv x] 5 (1,2))).heap[W.heap.size]?=some (.cells #[bv x] 5 (1,2)):=World.alloc_heap_new W _
 match j,hu with
 | 0,hu=>cases hu;unfold World.cell?;rw[hb];rfl
 | j+1,hu=>cases hu
theorem zbP (w:World) (hS:StW w):Calls Tryz.prog 11 #[] w fun e w'=>e=.returned (.bool true)∧Ext w w':=by
 have key:=ze0 (.slice none 0 0) [] w hS (zq1 w) (by decide) (fun f hf=>by cases hf)
 rw[zud] at key;have H8:=zhd key;have HS:=zhd hS;clear key hS
 go_enter Tryz.func11,Tryz.ntmps11
 go_wp2_with fail
 refine H8.out.mono ?_
 rintro e w1 ⟨vl,vs,rfl,H2,H4,HR⟩;obtain ⟨A1,c1,rfl,_,_⟩:=xO H2;obtain ⟨A2,c2,rfl,_,_⟩:=Sgs.open_ H4;have K1:=zhd HR;clear H2 H4 HR H8
 dsimp only[zbS,zfi,mf0,zpW]
 go_wp2_with fail
 have Hk:=fun o1 o2=>xA (xA K1.out o1) o2
 refine (zsf 100 (by decide) _).mono ?_
 rintro e w2 ⟨rfl,HT⟩
 have Hw:Hid (Ext w w2):=zhd (xT (Hk _ _) HT)
 clear Hk HT;go_wp2_with fail
 refine (zu7 _ (HS.out.ext Hw.out)).mono ?_
 rintro e w3 ⟨u,rfl,⟨A3,c3,B3,e3,rfl,of,oq⟩,HU⟩;have HM:=zhd (xT Hw.out HU);clear HU;dsimp only;go_wp2_with fail
 have HZ:DkV w3 (.agg #[.slice A3 e13.fs.length c3,.slice B3 e13.q.length e3,.int .i64 e13.quota,.int .i64 e13.fuse,.bool e13.dead]) e13:=⟨_,_,rfl,OwnF.fs of,OwnQ.qs oq⟩
 have hbd:=Blk.new w3 25 #[.slice A3 e13.fs.length c3,.slice B3 e13.q.length e3,.int .i64 e13.quota,.int .i64 e13.fuse,.bool e13.dead]
 have HB:Ext w3 (w3.alloc (.cells #[.slice A3 e13.fs.length c3,.slice B3 e13.q.length e3,.int .i64 e13.quota,.int .i64 e13.fuse,.bool e13.dead] 25)):=xA (xR _) _
 have HL:=zhd hbd;have Hx:=zhd (xT HM.out HB);have Hu:=zhd (HZ.ext HB);clear HZ hbd HB of oq Hw HM;have HI:=zqi _ e13 100 _ (HS.out.ext Hx.out) Hu.out (by decide) ztG;rw[zsY] at HI
 refine HI.mono ?_
 rintro e w4 ⟨vl,vs,rfl,H2,H4,Hq⟩;clear HI;obtain ⟨A4,c4,rfl,_,_⟩:=xO H2;obtain ⟨A5,c5,rfl,_,_⟩:=Sgs.open_ H4
 dsimp only[m13,P0]
 have Hy:=zhd (xT Hx.out Hq);have Hf:=zhd (HL.out.ext Hq);have Hh:=zhd (Hu.out.ext Hq);clear H2 H4 Hq Hx HL Hu;obtain ⟨x1,Ka⟩:∃ x:Array Value,#[.int .i64 0,.int .i64 0,.int .i64 0,.int .i64 1,.bool false,.slice A4 0 c4,.int .i64 3,.int .i64 2]=x:=⟨_,rfl⟩;obtain ⟨x2,HJ⟩:∃ x:Array Value,#[.int .i64 1,.int .i64 3,.int .i64 2,.int .i64 0,.int .i64 0,.slice A5 0 c5]=x:=⟨_,rfl⟩;have HD:=(((Blk.new w4 56 x1).alloc (.cells x2 30)).alloc (.cells #[.int .u8 120] 5 (1,2))).alloc (.cells #[sv [77],.slice (some ⟨w4.heap.size+1+1,0,none⟩) 1 1] 51);have Hs:=((Blk.new (w4.alloc (.cells x1 56)) 30 x2).alloc (.cells #[.int .u8 120] 5 (1,2))).alloc (.cells #[sv [77],.slice (some ⟨w4.heap.size+1+1,0,none⟩) 1 1] 51);rw[xS] at Hs
 have Ha:Ext w4 ((((w4.alloc (.cells x1 56)).alloc (.cells x2 30)).alloc (.cells #[.int .u8 120] 5 (1,2))).alloc (.cells #[sv [77],.slice (some ⟨w4.heap.size+1+1,0,none⟩) 1 1] 51)):=xA (xA (xA (xA (xR _) _) _) _) _
 have HX:Bs (((w4.alloc (.cells x1 56)).alloc (.cells x2 30)).alloc (.cells #[.int .u8 120] 5 (1,2))) (.slice (some ⟨w4.heap.size+1+1,0,none⟩) 1 1) [120]:=by
  have:=ztQ ((w4.alloc (.cells x1 56)).alloc (.cells x2 30)) 120
  rw[xS,xS] at this
  exact this
 have HG:=zuR _ [77] [120] _ HX;rw[xS,xS,xS] at HG
 have H1:=ze0 _ [([77],[120])] _ (HS.out.ext (xT Hy.out Ha)) HG (by decide) (fun f hf=>by
  obtain rfl:f=([77],[120]):=by simpa using hf
  decide)
 rw[zuc] at H1;unfold sv at H1 HD Hs Ha;have Hj:=zhd H1;have HK:=zhd HD;have Hp:=zhd Hs;have HP:=zhd (xT Hy.out Ha);have Hg:=zhd (Hf.out.ext Ha);have Hi:=zhd (Hh.out.ext Ha);clear H1 HD Hs Ha HX HG Hy Hf Hh;have HE:=Lib.run_convert_bytes_const (P:=Tryz.prog) ((w4.alloc (.cells x1 56)).alloc (.cells x2 30)) 38 5 #[.int .u8 120] 1 1 Tryz.underlying38 Tryz.underlying5;rw[xS,xS] at HE;simp only[List.size_toArray,xC,P0,P9,Nat.reduceAdd] at HE;subst Ka HJ;go_wp2_with fail
 refine Hj.out.mono ?_
 rintro e w5 ⟨vl,vs,rfl,H2,H4,H9⟩;obtain ⟨A6,c6,rfl,_,_⟩:=xO H2;obtain ⟨A7,c7,rfl,_,_⟩:=Sgs.open_ H4
 dsimp only[zbS,zfi,mf0,zpW,P0]
 have Hz:=zhd (xT HP.out H9);have H5:=zhd (Hg.out.ext H9);have H6:=zhd (Hi.out.ext H9);have HO:=zhd (HK.out.ext H9);have HN:=zhd (Hp.out.ext H9);clear H2 H4 H9 HP Hg Hi HK Hp Hj
 have Hl:=fun o1 o2=>(xA (xA (xR w5) o1) o2:Ext w5 ((w5.alloc o1).alloc o2))
 have Hd:=fun o1 o2=>H5.out.ext (Hl o1 o2)
 have d0:=fun o1 o2=>(zac (Hd o1 o2)).1
 have d1:=fun o1 o2=>(zac (Hd o1 o2)).2.1
 have d2:=fun o1 o2=>(zac (Hd o1 o2)).2.2.1
 have d3:=fun o1 o2=>(zac (Hd o1 o2)).2.2.2.1
 have d4:=fun o1 o2=>(zac (Hd o1 o2)).2.2.2.2
 go_wp2_with fail
 refine (zuv _ _ (HS.out.ext (xT Hz.out (Hl _ _))) (H6.out.ext (Hl _ _))).mono ?_
 rintro e w8 ⟨u,rfl,⟨A8,c8,B8,e8,rfl,of,oq⟩,HV⟩;have Hb:=xT (Hl _ _) HV;have K4:=zhd (xT Hz.out Hb);have Ht:=zhd (H5.out.ext Hb);have Hv:=zhd (H6.out.ext Hb);have K3:=zhd (HO.out.ext Hb);have K2:=zhd (HN.out.ext Hb);clear Hl Hd HV Hb of oq d0 d1 d2 d3 d4 Hz H5 H6 HO HN;dsimp only
 have Hc:=fun o1=>(xA (xR w8) o1:Ext w8 (w8.alloc o1))
 have He:=fun o1=>Ht.out.ext (Hc o1)
 have Hn:=fun o1=>K3.out.ext (Hc o1)
 have K0:=fun o1=>K2.out.ext (Hc o1)
 have d0:=fun o1=>(zac (He o1)).1
 have d1:=fun o1=>(zac (He o1)).2.1
 have d2:=fun o1=>(zac (He o1)).2.2.1
 have d3:=fun o1=>(zac (He o1)).2.2.2.1
 have d4:=fun o1=>(zac (He o1)).2.2.2.2
 have t3:=fun o1=>(zbW (Hn o1)).2.2.2.1
 have t5:=fun o1=>(zbW (Hn o1)).2.2.2.2.2.1
 have t6:=fun o1=>(zbW (Hn o1)).2.2.2.2.2.2.1
 have t7:=fun o1=>(zbW (Hn o1)).2.2.2.2.2.2.2
 have q0:=fun o1=>(zan (K0 o1)).1
 clear He Hn K0;go_wp2_with fail
 refine (zl5 _ e13 _ (Hv.out.ext (Hc _)) (by decide) (by decide)).mono ?_
 rintro e w9 ⟨⟨v9,rfl,HA⟩,HW⟩;have K5:=zhd (xT K4.out (xT (Hc _) HW));rw[zue] at HA;obtain ⟨A9,c9,rfl,_,_⟩:=Fs.open_ HA;clear d0 d1 d2 d3 d4 t3 t5 t6 t7 q0 Hc HW HA
 dsimp only[List.length_cons,P0]
 go_wp2_with fail;go_ret
 exact ⟨rfl,K5.out⟩
theorem zlc (v:Value) (fs:List Fil) (w:World) (hS:StW w) (hF:Fs w v fs) (hl:fs.length≤1000000) (K6:∀ f∈fs,f.2.length≤2000000) :
  Calls Tryz.prog 15 #[v] w fun e w'=>e=.returned (.tuple #[sv ((zao fs (some [77])).getD []),.bool (zao fs (some [77])).isSome])∧Ext w w':=by
 obtain ⟨A,c,rfl,_,_⟩:=Fs.open_ hF;have key:=zdZ (.slice A fs.length c) fs 1 0 0 w hS hF (by omega)
 rw[show zas 1 0 0=some [77] from by decide] at key
 obtain ⟨R,hR⟩:∃ R,zao fs (some [77])=R:=⟨_,rfl⟩;rw[hR];unfold zao at hR;have HF:=zhd hF;have H8:=zhd key;clear key hF hS
 by_cases hneg:zb4 fs (some [77])<0
 ·rw[if_pos hneg] at hR
  subst hR
  go_enter Tryz.func15,Tryz.ntmps15
  go_wp2_with fail
  refine H8.out.mono ?_
  rintro e w1 ⟨rfl,hE⟩;go_wp2_with fail
  go_ret2
  exact ⟨rfl,hE⟩
 ·obtain ⟨i,hi,HH⟩:=zjx fs (some [77]) hneg
  rw[if_neg hneg,hi,show ((i:Int).toNat)=i from by omega,P3 HH] at hR
  have hR:some fs[i].2=R:=hR
  subst hR;rw[hi] at H8;obtain ⟨_,b,Kf,rfl,hc⟩:=HF.out.at_ (by omega);obtain ⟨K7,B2,d2,HY,HQ⟩:=hc i HH;have Kb:=K6 _ (List.getElem_mem HH)
  generalize fs[i].2=y at *
  have Hp:=zhd HQ;clear hc K7 HQ hneg hi
  have Ke:¬ ((i:Int)<0):=by omega
  have Kd:(i:Int)<(fs.length:Int):=by omega
  go_enter Tryz.func15,Tryz.ntmps15
  go_wp2_with fail
  refine H8.out.mono ?_
  rintro e w1 ⟨rfl,hE⟩;have Kc:=hE.cell HY;have HE:=za7 (P:=Tryz.prog) w1 38 9 5 Tryz.underlying38 Tryz.underlying5 Tryz.underlying9 (Hp.out.ext hE);clear HY;go_wp2_with fail
  go_ret2
  exact ⟨rfl,hE⟩
theorem idCells_get:∀ {l:List (Int×Int×Int)} {j:Nat} {k s f:Int},l[j]?=some (k,s,f)→(idCells l)[j*3]?=some (.int .u8 k)∧(idCells l)[j*3+1]?=some (.int .i64 s)∧(idCells l)[j*3+2]?=some (.int .i64 f)
 | [],j,_,_,_,h=>by simp at h
 | x::l,0,_,_,_,h=>by
  obtain rfl:x=_:=by simpa using h
  exact ⟨rfl,rfl,rfl⟩
 | x::l,j+1,k,s,f,h=>by
  obtain ⟨h1,h2,h3⟩:=@idCells_get l j k s f (by simpa using h)
  have e:idCells (x::l)=idC x++idCells l:=by unfold idCells;rw[List.flatMap_cons]
  have hl:(idC x).length=3:=rfl
  rw[e,P1 (by omega),P1 (by omega),P1 (by omega),hl]
  rw[show (j+1)*3-3=j*3 by omega,show (j+1)*3+1-3=j*3+1 by omega,show (j+1)*3+2-3=j*3+2 by omega]
  exact ⟨h1,h2,h3⟩
theorem zmA (m:Mf):0<(zaO m).length:=by unfold zaO zeT;simp
end Go.Proofs.YtgonhdeochgkoaaGreatDoor
