/- Merged -/
import Derived.Test.YtgonhdeochgkoaaGreatDoorZx8
set_option linter.all false
set_option maxHeartbeats 8000000
set_option maxRecDepth 100000
open Go.RowKit.Below renaming setCell→P0,grown→P1
open List renaming eq_nil_of_length_eq_zero→P2,length_drop→P3
open Go.World renaming cell?_setCell_other→P4,block_lt_of_cell?→P5,ownsRow_nil→P6,setCell→P7
open Go.Act renaming put→P8,eval→P9
open Go.Region renaming wanted→Pa,ready→Pb,noSelect→Pc,free→Pd
open Nat renaming eq_zero_or_pos→Pe,le_trans→Pf
namespace Go.Proofs.YtgonhdeochgkoaaGreatDoor
open Go.RowKit Go.Mv Go.Shelf
theorem mcLooka0 {P:Prop} (h:P:=by
 gi_wp2_with (refine ⟨trivial,?_⟩;gi_at_call 139;refine (callsIn_wd.2 (HT.out _ _ (Hy.out _ Hm))).mono ?_;rintro e w1 ⟨v1,rfl,Hc,H6⟩;have Hg:=HG.ext H6;obtain ⟨c0,c1,c2,f0,f1,f2⟩:=zbi Hg)
 refine zat ?_
 exact bodyPost_ret (zdD _ _ _ _ _ _ _ _ rfl rfl rfl (zbj Hg _ _ _)) rfl (zgx (ze7 Hw.out) (P0 (p:=⟨w.heap.size,2,none⟩) (P0 (p:=⟨w.heap.size,1,none⟩) (P0 (p:=⟨w.heap.size,0,none⟩) (xT Hm H6) (xN _) _) (xN _) _) (xN _) _))):P:=h
theorem mcLooka1 {P:Prop} (h:P:=by
 refine wpAnyIn_done (by kernel_rfl) (zbr ?_) _
 simp only[P8,sA,sZ,sS];rw[Kk.out]
 gi_wp2
 refine wpIn_goto ?_
 try simp only[Exit.then]
 exact zag (by simp) ⟨K0.out _ rfl rfl rfl rfl rfl,by simp[zht];omega⟩):P:=h
theorem mcLooka2 {P:Prop} (h:P:=by
 gi_wp2_with (refine ⟨trivial,?_⟩;gi_at_call 304;refine (callsIn_wd.2 HT.out).mono ?_;rintro e w2 ⟨v2,rfl,K6,Ho⟩;have HP:=HO.ext Ho;obtain ⟨c0,c1,c2,f0,f1,f2⟩:=zbi HP)
 refine zat ?_
 exact bodyPost_ret (zdD _ _ _ _ _ _ _ _ rfl rfl rfl (zbj HP _ _ _)) rfl (zjD Hu.out HI.out.pt HP (zaf HI.out.row Ho) HI.out.lo (xT HI.out.ext Ho) Hn.out HI.out.out)):P:=h
def LookP (w:World) (r:zf1) (e:Ending) (w':World):Prop :=
 ∃ vl vz,e=.returned (.tuple #[.agg #[.int .i64 r.first,vl,.int .i64 r.used],vz,.int .i64 r.err])∧w'.ownsRow w.heap.size 79 3 vl r.log.length (zap r.log)∧PtV vz r.pt∧Ext w w'
structure LkI (w w1:World) (bs:List UInt8) (first z1 z2:Nat) (q:Nat×Nat) (log:List Ent) (H0:Value) (Ar:Option Addr) (cr:Nat) (rest:List UInt8) (g:Array Value) (W:World):Prop where
 pt:PtV (.complex .f64 z1 z2) q
 box:Blk W w.heap.size 121 #[.int .i64 first,H0,.int .i64 (bs.length-rest.length:Nat)]
 four:Blk W (w.heap.size+1) 140 g
 gsz:g.size=4
 row:W.ownsRow w1.heap.size 79 3 H0 log.length (zap log)
 rst:Bs w1 (.slice Ar rest.length cr) rest
 apart:∀ b Hp,Ar=some ⟨b,Hp,none⟩→0<rest.length→b≠w.heap.size∧b≠w.heap.size+1
 hold:∀ p u,p.block≠w.heap.size→p.block≠w.heap.size+1→w1.cell? p=some u→W.cell? p=some u
 ext:Ext w W
 sz:w1.heap.size≤W.heap.size
 lo:w.heap.size+1<w1.heap.size
 le:log.length+rest.length≤bs.length
 out:zc2 bs=⟨0,first,log++(zcm q rest).1,bs.length-(zcm q rest).2.2.length,(zcm q rest).2.1⟩
def LkR (w w1:World) (bs:List UInt8) (first:Nat) (a:Act) (W:World):Prop :=
 ∃ (z1 z2:Nat) (q:Nat×Nat) (log:List Ent) (H0:Value) (Ar:Option Addr) (cr:Nat) (rest:List UInt8) (g:Array Value),LkI w w1 bs first z1 z2 q log H0 Ar cr rest g W∧a.defers=[]∧a.tmps.size=100 ∧
  a.tmps.getD 2 undef=.pointer (some ⟨w.heap.size,0,none⟩)∧a.tmps.getD 3 undef=.complex .f64 z1 z2∧a.tmps.getD 5 undef=.pointer (some ⟨w.heap.size+1,0,none⟩)∧a.tmps.getD 8 undef=.slice Ar rest.length cr
theorem zdD (tmps:Array Value) (W:World) (N:Nat) (a v u vz ve:Value) (h2:tmps.getD 2 undef=.pointer (some ⟨N,0,none⟩)) (h3:tmps.getD 3 undef=vz) (h4:tmps.getD 4 undef=ve) (hb:Blk W N 121 #[a,v,u]) :
  (results Tryz.f303 tmps).run Tryz.prog W=.ok (.tuple #[.agg #[a,v,u],vz,ve]) W:=by
 obtain ⟨c0,c1,c2,_⟩:=zbi hb;simp only[Array.getD_eq_getD_getElem?] at h2 h3 h4
 simp[results,Tryz.results303,go_sem,h2,h3,h4,c0,c1,c2]
theorem ze7 {bs:List UInt8} (h:zdv bs=none):zc2 bs=⟨11,0,[],0,(0,0)⟩:=by unfold zc2;rw[h]
theorem zri {bs:List UInt8} {first:Nat} {r:List UInt8} (h:zdv bs=some (first,r)):zc2 bs=⟨0,first,[]++(zcm (zaL (0,0) (zcN (first:Int)).2) r).1,bs.length-(zcm (zaL (0,0) (zcN (first:Int)).2) r).2.2.length,(zcm (zaL (0,0) (zcN (first:Int)).2) r).2.1⟩:=by unfold zc2;rw[h];rfl
theorem zgx {w:World} {r:zf1} (h:r=⟨11,0,[],0,(0,0)⟩) {W:World} (hE:Ext w W):LookP w r (.returned (.tuple #[.agg #[.int .i64 0,.slice none 0 0,.int .i64 0],.complex .f64 0 0,.int .i64 11])) W:=by
 subst h
 exact ⟨_,_,rfl,P6 _ _ _ _,PtV.zero,hE⟩
theorem zny (es:List Ent):1+es.length≤(zbx es).length:=by
 have h:es.length≤(es.flatMap zmo).length:=by
  induction es with
  | nil=>exact xN _
  | cons e es ih =>
   have h1:=zin [e.t,e.k,e.v]
   have h2:3≤(zmo e).length:=h1
   rw[List.flatMap_cons,xL,xC];omega
 unfold zbx;rw[xC];omega
theorem zhm (es:List Ent):∀ u∈zap es,u.oneCell'=true:=by
 intro u hu;obtain ⟨e,_,h⟩:=List.mem_flatMap.1 hu
 simp[Ent.cells] at h
 rcases h with rfl | rfl | rfl <;> rfl
theorem zrp (q:Nat×Nat) (rest:List UInt8):(zex rest=([],0)∧zdi q rest=none)∨∃ es r,ziD es=true∧zex rest=(es,(zbx es).length)∧rest=zbx es++r ∧
  zdi q rest=(if 4≤r.length∧r.take 4=zbp (zaL q (zbx es)) then some (es,r.drop 4) else none):=by
 cases h:zd2 rest with
 | none=>exact .inl ⟨by unfold zex;rw[h],by unfold zdi;rw[h]⟩
 | some x =>
  obtain ⟨es,r⟩:=x;obtain ⟨h1,h2⟩:=zlt h
  refine .inr ⟨es,r,h1,?_,h2,by unfold zdi;rw[h]⟩
  unfold zex;rw[h,h2]
  simp
theorem zjD {w w1 W:World} {bs:List UInt8} {first z1 z2 u0:Nat} {q:Nat×Nat} {log:List Ent} {H0:Value} {rest:List UInt8} (hu:bs.length-rest.length=u0) (HX:PtV (.complex .f64 z1 z2) q)
  (hb:Blk W w.heap.size 121 #[.int .i64 first,H0,.int .i64 u0]) (Ha:W.ownsRow w1.heap.size 79 3 H0 log.length (zap log)) (J5:w.heap.size+1<w1.heap.size) (hE:Ext w W)
  (hn:zdi q rest=none) (K7:zc2 bs=⟨0,first,log++(zcm q rest).1,bs.length-(zcm q rest).2.2.length,(zcm q rest).2.1⟩) :
  LookP w (zc2 bs) (.returned (.tuple #[.agg #[.int .i64 first,H0,.int .i64 u0],.complex .f64 z1 z2,.int .i64 0]))
   (((W.setCell ⟨w.heap.size,0,none⟩ (.int .i64 first)).setCell ⟨w.heap.size,1,none⟩ H0).setCell ⟨w.heap.size,2,none⟩ (.int .i64 u0)):=by
 rw[K7,zpR hn]
 refine ⟨_,_,by dsimp only;rw[hu],?_,HX,P0 (p:=⟨w.heap.size,2,none⟩) (P0 (p:=⟨w.heap.size,1,none⟩) (P0 (p:=⟨w.heap.size,0,none⟩) hE (xN _) _) (xN _) _) (xN _) _⟩
 dsimp only;rw[List.append_nil];have r1:=Ha.kept (zab W w.heap.size 0 (.int .i64 first)) (.inr (hb.not_row (by decide) Ha).symm);have b1:=hb.set 0 (.int .i64 first);have r2:=r1.kept (zab _ w.heap.size 1 H0) (.inr (b1.not_row (by decide) r1).symm);have b2:=b1.set 1 H0
 exact zai (r2.kept (zab _ w.heap.size 2 _) (.inr (b2.not_row (by decide) r2).symm)) (by omega)
theorem LookP.drew {w:World} {r:zf1} {e:Ending} {W:World} (h:LookP w r e W):LookP w r e W.drew:=by
 obtain ⟨vl,vz,he,hr,hp,hE⟩:=h
 exact ⟨vl,vz,he,hr,hp,hE.drew⟩
theorem LkI.restW {w w1:World} {bs:List UInt8} {first z1 z2:Nat} {q:Nat×Nat} {log:List Ent} {H0:Value} {Ar:Option Addr} {cr:Nat} {rest:List UInt8} {g:Array Value} {W:World} (hI:LkI w w1 bs first z1 z2 q log H0 Ar cr rest g W) :
  Bs W (.slice Ar rest.length cr) rest:=by
 rcases Pe rest.length with h0 | h0
 ·obtain rfl:rest=[]:=P2 h0
  obtain ⟨_,_,_,e,_,h,_⟩:=hI.rst
  cases e
  exact SlR.empty W 1 h
 ·obtain ⟨_,b,Hp,rfl,_⟩:=Bs.at_ hI.rst h0
  have ha:=hI.apart b Hp rfl h0
  exact SlR.keepB hI.rst (fun o u hc=>hI.hold _ _ ha.1 ha.2 hc)
theorem zs3 (v:Value) (bs:List UInt8) (w:World) (Hb:Bs w v bs) (hl:bs.length≤2000000):Calls Tryz.prog 303 #[v] w (LookP w (zc2 bs)):=by
 obtain ⟨A,c,rfl,h1,h2⟩:=xO Hb
 refine (callsIn_wd (ro:=none) (n:=9)).1 ?_
 refine callsIn_of_wp Tryz.func303 rfl trivial ?_ rfl
 simp only[Tryz.ntmps303,List.size_toArray,xC,List.length_nil,Nat.reduceAdd,Nat.reduceSub,Array.replicate_succ,Array.replicate_zero,List.push_toArray,List.append_toArray,xI,List.cons_append]
 have Hm:Ext w ((w.alloc (.cells #[.int .i64 0,.slice none 0 0,.int .i64 0] 121)).alloc (.cells #[.int .u8 0,.int .u8 0,.int .u8 0,.int .u8 0] 140)):=xA (xA (xR _) _) _
 have HG:Blk ((w.alloc (.cells #[.int .i64 0,.slice none 0 0,.int .i64 0] 121)).alloc (.cells #[.int .u8 0,.int .u8 0,.int .u8 0,.int .u8 0] 140)) w.heap.size 121 #[.int .i64 0,.slice none 0 0,.int .i64 0]:=(Blk.new w _ _).alloc _
 have KC:Blk ((w.alloc (.cells #[.int .i64 0,.slice none 0 0,.int .i64 0] 121)).alloc (.cells #[.int .u8 0,.int .u8 0,.int .u8 0,.int .u8 0] 140)) (w.heap.size+1) 140 #[.int .u8 0,.int .u8 0,.int .u8 0,.int .u8 0]:=by
  have:=Blk.new (w.alloc (.cells #[.int .i64 0,.slice none 0 0,.int .i64 0] 121)) 140 #[.int .u8 0,.int .u8 0,.int .u8 0,.int .u8 0]
  rwa [xS] at this
 gi_wp2
 refine zbl 0 (fun a W=>∃ w1 first,LkR w w1 bs first a W) (fun a _=>zht (a.tmps.getD 8 undef)) rfl (fun l' h=>by cases l' <;> first | exact absurd rfl h | rfl) ?_ ?_
 ·intro Hj
  have HD:=zhd Hj;clear Hj
  by_cases h0:bs.length=0
  ·obtain rfl:bs=[]:=P2 h0
   gi_wp2
   refine zat ?_
   exact bodyPost_ret (zdD _ _ _ _ _ _ _ _ rfl rfl rfl HG) rfl (zgx (ze7 rfl) Hm)
  obtain ⟨_,b,Hp,rfl,hc⟩:=Bs.at_ Hb (by omega)
  have Kq:w.cell? ⟨b,Hp,none⟩=some (.int .u8 (bs[0].toNat:Int)):=hc 0 (by omega)
  obtain ⟨x,l,rfl⟩:∃ x l,bs=x::l:=by cases bs with | nil=>exact absurd rfl h0 | cons x l=>exact ⟨x,l,rfl⟩
  simp only[List.getElem_cons_zero] at Kq
  have KN:b<w.heap.size:=P5 w _ Kq
  have Kl:=zhd Hb
  have e0:((l.length:Int)+1==0)=false:=by simp;omega
  clear hc Hb h0
  simp only[xC] at *
  by_cases hx:x.toNat=2
  ·have Kw:x=2:=UInt8.toNat_inj.1 (by simpa using hx)
   subst Kw
   have HT:Hid (∀ (W:World) (u:Value),Bs W u l→Calls Tryz.prog 139 #[u] W (ziB W (zaK l))):=fun W u hu=>zmb u l W hu (by omega)
   have HH:Hid (zdv (2::l)=if (zaK l).1=0∧(zaK l).2.1≠0 then some (zaK l).2 else none):=by show _=_;rw[zdv];simp
   have Ka:=zhw l
   have Hv:Hid (l=[]→(zaK l).1≠0):=by rintro rfl;decide
   rcases htk:zaK l with ⟨er,m,r⟩
   rw[htk] at HT HH Ka Hv;dsimp only at HH Ka Hv;clear htk hx
   have Hy:Hid (∀ W:World,Ext w W→Bs W (.slice (some ⟨b,Hp+1,none⟩) l.length (c-1)) l):=by
    intro W hE;have h:=Bs.cut (Kl.out.ext hE) 1 (by simp) rfl
    simpa using h
   by_cases hc1:c=1
   ·obtain rfl:l=[]:=P2 (by omega)
    have e6:(er != 0)=true:=by simpa using Hv.out rfl
    have Kx:=zhd (Hv.out rfl);subst hc1
    gi_wp2_with (refine ⟨trivial,?_⟩;gi_at_call 139;refine (callsIn_wd.2 (HT.out _ _ (SlR.empty _ 1 (by simp)))).mono ?_;rintro e w1 ⟨v1,rfl,Hc,H6⟩;have Hg:=HG.ext H6;obtain ⟨c0,c1,c2,f0,f1,f2⟩:=zbi Hg)
    refine zat ?_
    refine bodyPost_ret (zdD _ _ _ _ _ _ _ _ rfl rfl rfl (zbj Hg _ _ _)) rfl (zgx (ze7 ?_) (P0 (p:=⟨w.heap.size,2,none⟩) (P0 (p:=⟨w.heap.size,1,none⟩) (P0 (p:=⟨w.heap.size,0,none⟩) (xT Hm H6) (xN _) _) (xN _) _) (xN _) _))
    rw[HH.out,if_neg (fun h=>Kx.out h.1)]
   ·by_cases hbad:er=0∧m≠0
    ·obtain ⟨rfl,hm⟩:=hbad
     have e6:((m:Int)==0)=false:=by simp;omega
     have Kc:((l.length:Int)+1-(r.length:Int))=((l.length+1-r.length:Nat):Int):=by omega
     have Hw:Hid (zdv (2::l)=some (m,r)):=by show _=_;rw[HH.out,if_pos ⟨rfl,hm⟩]
     obtain ⟨k,hk⟩:∃ k,l.length+1-r.length=k:=⟨_,rfl⟩
     have J4:k≤l.length+1:=by omega
     rw[hk] at Kc;have Hk:=zhd hk;clear hk
     have Ky:Hid ((2::l).take k=(zcN (m:Int)).2):=by
      have:=(zq8 Hw.out).2
      simp only[xC] at this;rw[Hk.out] at this
      exact this
     have J3:=zq6 (m:Int);clear hm HH Hv
     gi_wp2_with (first
      | (refine ⟨trivial,?_⟩;gi_at_call 139;refine (callsIn_wd.2 (HT.out _ _ (Hy.out _ Hm))).mono ?_;rintro e w1 ⟨v1,rfl,Hc,H6⟩;have Hg:=HG.ext H6;have KD:=KC.ext H6;obtain ⟨c0,c1,c2,f0,f1,f2⟩:=zbi Hg;obtain ⟨Ar,cr,rfl,_,_⟩:=xO (xW Hc))
      | (refine ⟨trivial,?_⟩;gi_at_call 247
         have Km:Ext w ((w1.setCell ⟨w.heap.size,0,none⟩ (.int .i64 m)).setCell ⟨w.heap.size,2,none⟩ (.int .i64 k)):=P0 (p:=⟨w.heap.size,2,none⟩) (P0 (p:=⟨w.heap.size,0,none⟩) (xT Hm H6) (xN _) _) (xN _) _
         have HM:((w1.setCell ⟨w.heap.size,0,none⟩ (.int .i64 m)).setCell ⟨w.heap.size,2,none⟩ (.int .i64 k)).heap.size=w1.heap.size:=by simp[P7]
         have Ko:=Bs.take (Kl.out.ext Km) k (by simp;omega);rw[Ky.out] at Ko;have hp:=zmN Ko;rw[HM] at hp
         refine (callsIn_wd.2 (zpe _ _ _ hp)).mono ?_
         rintro e w3 ⟨vz,rfl,Hi,HS⟩
         rw[show [(zcN (m:Int)).2].flatten=(zcN (m:Int)).2 from by simp] at Hi
         have HY:=zhd Hi
         obtain ⟨z1,z2,rfl,_,_⟩:=Hi))
     refine wpIn_label ?_
     gi_step
     gi_step
     have Hh:Ext ((w1.setCell ⟨w.heap.size,0,none⟩ (.int .i64 m)).setCell ⟨w.heap.size,2,none⟩ (.int .i64 k)) w3:=xT (xA (xR _) _) HS
     refine HD.out _ _ ⟨w1,m,z1,z2,zaL (0,0) (zcN (m:Int)).2,[],.slice none 0 0,Ar,cr,r,_,⟨HY.out,?_,((KD.other (by omega) 0 _).other (by omega) 2 _).ext Hh,rfl,P6 _ _ _ _,xW Hc,?_,?_,xT Km Hh,by rw[←HM];exact Hh.size,?_,by simp;omega,zri Hw.out⟩,rfl,rfl,rfl,rfl,rfl,rfl⟩
     ·have:=((Hg.set 0 (.int .i64 m)).set 2 (.int .i64 k)).ext Hh
      rw[xC,Hk.out]
      exact this
     ·intro b' J2 e hp
      subst e
      have:=(Hc.lt b' rfl).1
      simp at this
      omega
     ·intro p u Hs K8 hc
      have h1:=(P4 w1 ⟨w.heap.size,0,none⟩ p (.int .i64 m) (fun e=>Hs (by rw[←e]))).trans hc
      exact Hh.cell ((P4 _ ⟨w.heap.size,2,none⟩ p (.int .i64 k) (fun e=>Hs (by rw[←e]))).trans h1)
     ·have:=H6.size
      simp at this
      omega
    ·by_cases her:er=0
     ·subst her
      have hm:m=0:=Decidable.byContradiction (fun h=>hbad ⟨rfl,h⟩)
      subst hm
      have Hw:Hid (zdv (2::l)=none):=by show _=_;rw[HH.out,if_neg hbad]
      clear hbad HH
      exact mcLooka0
     ·have e6:(er != 0)=true:=by simpa using her
      have Hw:Hid (zdv (2::l)=none):=by show _=_;rw[HH.out,if_neg hbad]
      clear hbad HH her
      exact mcLooka0
  ·have e1:((x.toNat:Int) != 2)=true:=by simp;omega
   gi_wp2
   refine zat ?_
   exact bodyPost_ret (zdD _ _ _ _ _ _ _ _ rfl rfl rfl HG) rfl (zgx (ze7 (by rw[zdv,if_neg (fun h=>hx (by rw[h.1];rfl))])) Hm)
 ·rintro a W ⟨w1,first,hR⟩
  obtain ⟨z1,z2,q,log,H0,Ar,cr,rest,g,hI,hd,Kd,h2,h3,h5,h8⟩:=hR;obtain ⟨T,ds⟩:=a;dsimp only at hd Kd h2 h3 h5 h8;subst hd;have hT:=zdf 100 T Kd
  generalize hU:(fun i=>T.getD i undef)=U at hT
  have g2:U 2=.pointer (some ⟨w.heap.size,0,none⟩):=by rw[←hU];exact h2
  have g3:U 3=.complex .f64 z1 z2:=by rw[←hU];exact h3
  have g5:U 5=.pointer (some ⟨w.heap.size+1,0,none⟩):=by rw[←hU];exact h5
  have g8:U 8=.slice Ar rest.length cr:=by rw[←hU];exact h8
  have K4:T = #[U 0,U 1,.pointer (some ⟨w.heap.size,0,none⟩),.complex .f64 z1 z2,U 4,.pointer (some ⟨w.heap.size+1,0,none⟩),U 6,U 7,.slice Ar rest.length cr,U 9,U 10,U 11,U 12,U 13,U 14,U 15,U 16,U 17,U 18,U 19,U 20,U 21,U 22,U 23,U 24,U 25,U 26,U 27,U 28,U 29,U 30,U 31,U 32,U 33,U 34,U 35,U 36,U 37,U 38,U 39,U 40,U 41,U 42,U 43,U 44,U 45,U 46,U 47,U 48,U 49,U 50,U 51,U 52,U 53,U 54,U 55,U 56,U 57,U 58,U 59,U 60,U 61,U 62,U 63,U 64,U 65,U 66,U 67,U 68,U 69,U 70,U 71,U 72,U 73,U 74,U 75,U 76,U 77,U 78,U 79,U 80,U 81,U 82,U 83,U 84,U 85,U 86,U 87,U 88,U 89,U 90,U 91,U 92,U 93,U 94,U 95,U 96,U 97,U 98,U 99]:=by rw[hT];show (#[U 0,U 1,U 2,U 3,U 4,U 5,U 6,U 7,U 8,U 9,U 10,U 11,U 12,U 13,U 14,U 15,U 16,U 17,U 18,U 19,U 20,U 21,U 22,U 23,U 24,U 25,U 26,U 27,U 28,U 29,U 30,U 31,U 32,U 33,U 34,U 35,U 36,U 37,U 38,U 39,U 40,U 41,U 42,U 43,U 44,U 45,U 46,U 47,U 48,U 49,U 50,U 51,U 52,U 53,U 54,U 55,U 56,U 57,U 58,U 59,U 60,U 61,U 62,U 63,U 64,U 65,U 66,U 67,U 68,U 69,U 70,U 71,U 72,U 73,U 74,U 75,U 76,U 77,U 78,U 79,U 80,U 81,U 82,U 83,U 84,U 85,U 86,U 87,U 88,U 89,U 90,U 91,U 92,U 93,U 94,U 95,U 96,U 97,U 98,U 99]:Array Value)=_;rw[g2,g3,g5,g8]
  clear hT hU Kd g2 h2 g3 h3 g5 h5 g8 h8;subst K4;obtain ⟨Av,cv,rfl,_,_⟩:=xO (xW hI.row);have HI:=zhd hI;have Ht:=hI.restW;have HO:=hI.box
  have Ka:rest.length≤2000000:=by have:=hI.le;omega
  obtain ⟨u0,Kg⟩:∃ u0,bs.length-rest.length=u0:=⟨_,rfl⟩;rw[Kg] at HO
  have J8:u0≤2000000:=by omega
  have Kv:log.length≤2000000:=by have:=hI.le;omega
  have Hu:=zhd Kg;clear Kg
  obtain ⟨Kr,Ks⟩:rest.length≤cr∧cr≤9223372036854775807:=by
   obtain ⟨_,_,_,e,h,h',_⟩:=hI.rst
   cases e
   exact ⟨h,by simpa [maxLen] using h'⟩
  have HT:=zhd (zr1 _ rest W Ht (by omega))
  rcases zrp q rest with ⟨ht,hn⟩ | ⟨es,r,hok,ht,hre,hn⟩
  ·rw[ht] at HT
   have Hn:=zhd hn;clear hI hn ht Ht
   exact mcLooka2
  ·rw[ht] at HT
   have Kp:=zny es;obtain ⟨body,H4⟩:∃ body,zbx es=body:=⟨_,rfl⟩;rw[H4] at hre hn Kp HT;have H9:=congrArg List.length hre;rw[xL] at H9;have K1:=zhd hre
   have KO:es.length≤4:=by have:=(zhX es).1 hok;omega
   obtain ⟨nb,HW⟩:∃ nb,body.length=nb:=⟨_,rfl⟩;rw[HW] at HT Kp H9;have HA:=zhd HW;have Hx:=zhd H4
   have KR:0<nb:=by omega
   have e6:((nb:Int)==0)=false:=by simp;omega
   have Hz:=zhd H9
   have Kt:nb+r.length≤cr:=by omega
   have Ku:nb+r.length≤2000000:=by omega
   by_cases h4:r.length<4
   ·have Hn:Hid (zdi q rest=none):=by show _=_;rw[hn,if_neg (by omega)]
    have Kz:rest.length<nb+4:=by omega
    clear hI hn ht Ht H9 hre HW H4
    exact mcLooka2
   ·have Kz:nb+4≤rest.length:=by omega
    have HZ:Hid (∀ W',Ext W W'→Bs W' (.slice Ar nb cr) body):=by
     intro W' hE
     have:=Bs.take (Bs.ext Ht hE) nb (by omega)
     rwa [K1.out,←HA.out,List.take_left,HA.out] at this
    obtain ⟨br,H2,KA⟩:∃ br H2,Ar=some ⟨br,H2,none⟩:=by obtain ⟨_,br,H2,e,_⟩:=Bs.at_ Ht (by omega);exact ⟨br,H2,e⟩
    subst KA;have KE:=hI.four
    obtain ⟨g0,g1,g2,g3,rfl⟩:∃ g0 g1 g2 g3,g = #[g0,g1,g2,g3]:=by
     have:=hI.gsz
     obtain ⟨l⟩:=g
     match l,this with
     | [g0,g1,g2,g3],_=>exact ⟨g0,g1,g2,g3,rfl⟩
    clear hI ht Ht H9 hre HW H4
    gi_wp2_with (first
     | (refine ⟨trivial,?_⟩;gi_at_call 304;refine (callsIn_wd.2 HT.out).mono ?_;rintro e w2 ⟨v2,rfl,K6,Ho⟩;have HP:=HO.ext Ho;obtain ⟨A2,HE,rfl,_,_⟩:=xO (xW K6))
     | (refine ⟨trivial,?_⟩;gi_at_call 247
        have hp:=zmN (HZ.out w2 Ho)
        refine (callsIn_wd.2 (zhL z1 z2 _ _ _ hp)).mono ?_
        rintro e w3 ⟨vz,rfl,Hi,HS⟩
        rw[show [body].flatten=body from by simp,HI.out.pt.pt] at Hi
        have HY:=zhd Hi;have HX:=Hi.pt;obtain ⟨a1,b1,rfl,_,_⟩:=Hi;obtain ⟨f0,f1,f2,f3,hf⟩:∃ f0 f1 f2 f3:UInt8,zbp (zaL q body)=[f0,f1,f2,f3]:=⟨_,_,_,_,rfl⟩
        have HF:Hid (∀ W,Calls Tryz.prog 248 #[.complex .f64 a1 b1] W fun e w'=>e=.returned (.agg #[.int .u8 f0.toNat,.int .u8 f1.toNat,.int .u8 f2.toNat,.int .u8 f3.toNat])∧Ext W w'):=by
         intro W
         refine (zl2 a1 b1 W).mono ?_
         rintro e w' ⟨rfl,hE⟩
         exact ⟨by rw[HX,hf];rfl,hE⟩
        have Hf:=zhd hf
        clear hf HX)
     | (refine ⟨trivial,?_⟩;gi_at_call 248;refine (callsIn_wd.2 (HF.out _)).mono ?_;rintro e w4 ⟨rfl,Hh⟩
        have H3:Ext W w4:=xT (xT (xA Ho _) HS) Hh
        have KB:=HO.ext H3;have HU:=KE.ext H3
        obtain ⟨c0,c1,c2,c3,d0,d1,d2,d3⟩:=blk4 HU))
    have Hr:w4.grownBy ((((w4.setCell ⟨w.heap.size+1,0,none⟩ (.int .u8 f0.toNat)).setCell ⟨w.heap.size+1,1,none⟩ (.int .u8 f1.toNat)).setCell ⟨w.heap.size+1,2,none⟩ (.int .u8 f2.toNat)).setCell ⟨w.heap.size+1,3,none⟩ (.int .u8 f3.toNat)) (some (w.heap.size+1)) :=
     zfh (zfh (zfh (zab _ _ _ _) (zab _ _ _ _)) (zab _ _ _ _)) (zab _ _ _ _)
    have K3:Blk ((((w4.setCell ⟨w.heap.size+1,0,none⟩ (.int .u8 f0.toNat)).setCell ⟨w.heap.size+1,1,none⟩ (.int .u8 f1.toNat)).setCell ⟨w.heap.size+1,2,none⟩ (.int .u8 f2.toNat)).setCell ⟨w.heap.size+1,3,none⟩ (.int .u8 f3.toNat)) (w.heap.size+1) 140 ([f0,f1,f2,f3].map bv).toArray :=
     (((HU.set 0 (.int .u8 f0.toNat)).set 1 (.int .u8 f1.toNat)).set 2 (.int .u8 f2.toNat)).set 3 (.int .u8 f3.toNat)
    generalize (((w4.setCell ⟨w.heap.size+1,0,none⟩ (.int .u8 f0.toNat)).setCell ⟨w.heap.size+1,1,none⟩ (.int .u8 f1.toNat)).setCell ⟨w.heap.size+1,2,none⟩ (.int .u8 f2.toNat)).setCell ⟨w.heap.size+1,3,none⟩ (.int .u8 f3.toNat)=W5 at *
    have Hq:Blk W5 w.heap.size 121 #[.int .i64 first,.slice Av log.length cv,.int .i64 u0]:=KB.kept Hr (by simp)
    have Kn:=HI.out.apart br H2 rfl (by omega)
    have He:Hid (∀ p u,p.block≠w.heap.size+1→W.cell? p=some u→W5.cell? p=some u):=fun p u hp hc=>zar Hr (H3.cell hc) (fun e=>hp (by injection e))
    have K2:Ext w W5:=P1 (xT HI.out.ext H3) Hr (by have:=HI.out.ext.size;have:=H3.size;omega) (fun k e=>by injection e with e;omega)
    have Ke:W.heap.size≤W5.heap.size:=Pf H3.size Hr.size
    have H1:W5.ownsRow w1.heap.size 79 3 (.slice Av log.length cv) log.length (zap log):=by
     have h:=zaf HI.out.row H3
     exact h.kept Hr (.inr (HU.not_row (by decide) h).symm)
    have Kb:W5.ownsRow W.heap.size 79 3 (.slice A2 es.length HE) es.length (zap es):=by
     have h:=zaf K6 (xT (xT (xA (xR _) _) HS) Hh)
     exact h.kept Hr (.inr (HU.not_row (by decide) h).symm)
    have K9:Bs W5 (.slice (some ⟨br,H2+nb,none⟩) 4 (cr-nb)) (r.take 4):=by
     have h1:=Bs.cut HI.out.restW nb (by omega) rfl;have h2:=Bs.take h1 4 (by rw[P3];omega);rw[K1.out,←HA.out,List.drop_left,HA.out] at h2
     exact SlR.keepB h2 (fun o u hc=>He.out _ _ Kn.2 hc)
    have K5:Bs W5 (.slice (some ⟨w.heap.size+1,0,none⟩) 4 4) [f0,f1,f2,f3]:=zdy K3 rfl (by simp[maxLen])
    have HQ:=zhd (zbk _ _ _ _ W5.drew K5 K9)
    have KT:IntKind.i64.wrap ((nb:Int)+4)=(nb:Int)+4:=IntWalk.i64_in _ (by omega)
    have KU:((nb:Int)+4).toNat=nb+4:=by omega
    have KV:(0:Int)≤(nb:Int):=by omega
    have KW:(nb:Int)≤(nb:Int)+4:=by omega
    have KX:(nb:Int)+4≤(rest.length:Int):=by omega
    have KY:¬ cr=nb:=by omega
    have KZ:(nb:Int)+4≤(cr:Int):=by omega
    have J0:nb+4-nb=4:=by omega
    have J1:(0:Int)≤(nb:Int)+4:=by omega
    cases hd:decide ([f0,f1,f2,f3]=r.take 4)
    ·rw[hd] at HQ
     have Hn:Hid (zdi q rest=none):=by
      show _=_
      rw[hn,if_neg];rintro ⟨_,h⟩;rw[Hf.out] at h;simp only[decide_eq_false_iff_not] at hd
      exact hd h.symm
     clear hd hn K9 K5 c0 c1 c2 c3 d0 d1 d2 d3
     refine zcJ (by kernel_rfl) ?_
     refine tkF 0 rfl rfl rfl ?_;refine tkF 1 rfl rfl rfl ?_;refine tkF 2 rfl rfl rfl ?_;refine tkF 3 rfl rfl rfl ?_;refine tkF 4 rfl rfl rfl ?_;refine tkF 5 rfl rfl rfl ?_
     refine zc7 (i:=6) (f:=105) (args:=?b8) (w':=?w8) (by kernel_rfl) rfl rfl ?h8 ?r8
     case h8=>go_simp;try (first | with_reducible rfl | (refine ⟨?_,?_⟩ <;> with_reducible rfl))
     refine HQ.out.mono ?_
     rintro e w6 ⟨rfl,rfl⟩
     refine ⟨_,rfl,?_⟩
     refine zal (i:=7) (v:=?v9) (w':=?w9) rfl (by kernel_rfl) rfl rfl rfl ?h9 ?r9
     case h9=>go_simp;try (first | with_reducible rfl | (refine ⟨?_,?_⟩ <;> with_reducible rfl))
     refine wpAnyIn_done (by kernel_rfl) (zbr ?_) _
     simp only[P8,sA,sZ,sS];obtain ⟨c0,c1,c2,d0,d1,d2⟩:=zbi Hq;clear KT KU KV KW KX KY KZ J0 J1
     gi_wp2
     refine zat ?_
     exact bodyPost_ret (zdD _ _ _ _ _ _ _ _ rfl rfl rfl (zbj Hq _ _ _)) rfl (LookP.drew (zjD Hu.out HI.out.pt Hq H1 HI.out.lo K2 Hn.out HI.out.out))
    ·rw[hd] at HQ
     have Hn:Hid (zdi q rest=some (es,r.drop 4)):=by
      show _=_
      rw[hn,if_pos];simp only[decide_eq_true_eq] at hd
      exact ⟨by omega,by rw[Hf.out,hd]⟩
     clear hd hn K9 K5 c0 c1 c2 c3 d0 d1 d2 d3
     refine zcJ (by kernel_rfl) ?_
     refine tkF 0 rfl rfl rfl ?_;refine tkF 1 rfl rfl rfl ?_;refine tkF 2 rfl rfl rfl ?_;refine tkF 3 rfl rfl rfl ?_;refine tkF 4 rfl rfl rfl ?_;refine tkF 5 rfl rfl rfl ?_
     refine zc7 (i:=6) (f:=105) (args:=?b17) (w':=?w17) (by kernel_rfl) rfl rfl ?h17 ?r17
     case h17=>go_simp;try (first | with_reducible rfl | (refine ⟨?_,?_⟩ <;> with_reducible rfl))
     refine HQ.out.mono ?_
     rintro e w6 ⟨rfl,rfl⟩
     refine ⟨_,rfl,?_⟩
     refine zal (i:=7) (v:=?v18) (w':=?w18) rfl (by kernel_rfl) rfl rfl rfl ?h18 ?r18
     case h18=>go_simp;try (first | with_reducible rfl | (refine ⟨?_,?_⟩ <;> with_reducible rfl))
     refine wpAnyIn_done (by kernel_rfl) (zbr ?_) _
     simp only[P8,sA,sZ,sS]
     gi_wp2
     obtain ⟨c0,c1,c2,d0,d1,d2⟩:=zbi Hq
     have J9:IntKind.i64.wrap ((u0:Int)+(nb:Int))=(u0:Int)+(nb:Int):=IntWalk.i64_in _ (by omega)
     have Kw:IntKind.i64.wrap ((u0:Int)+(nb:Int)+4)=(u0:Int)+(nb:Int)+4:=IntWalk.i64_in _ (by omega)
     obtain ⟨i0,hi,Kh,Ki,Kj⟩:=info_parts zg7
     have KM:w1.heap.size≤W5.heap.size:=Pf HI.out.sz Ke
     obtain ⟨va,wa,HK,H7,H5⟩:=za6 (P:=Tryz.prog) W5.drew.drew w1.heap.size 54 54 79 i0 _ 3 24 Tryz.underlying54 hi Kh Ki Kj rfl (by decide)
      (.slice Av log.length cv) log.length (zap log) H1 (.slice A2 es.length HE) es.length (zap es) (xW Kb) (zhm es) (by unfold maxLen;omega) (by omega) KM
     obtain ⟨Aa,ca,rfl,_,_⟩:=xO (xW H7);have Hl:=zhd HK;have HB:=zhd H7;have H8:=zhd H5
     have HR:Blk wa w.heap.size 121 #[.int .i64 first,.slice Av log.length cv,.int .i64 u0]:=Blk.kept (W:=W5.drew.drew) Hq H5 (Hq.not_row (by decide) H1)
     have KF:Blk wa (w.heap.size+1) 140 ([f0,f1,f2,f3].map bv).toArray:=Blk.kept (W:=W5.drew.drew) K3 H5 (K3.not_row (by decide) H1)
     obtain ⟨e0,e1,e2,t0,t1,t2⟩:=zbi HR;clear HK H7 H5;have HV:=HI.out.le
     have Hd:(r.drop 4).length=rest.length-(nb+4):=by rw[P3];have:=Hz.out;omega
     obtain ⟨AX,HN⟩:∃ AX:Option Addr,(if cr=nb+4 then some ⟨br,H2,none⟩ else some ⟨br,H2+(nb+4),none⟩)=AX:=⟨_,rfl⟩;have Kk:=zhd HN;clear HN
     have K0:Hid (∀ T:Array Value,T.size=100→T.getD 2 undef=.pointer (some ⟨w.heap.size,0,none⟩)→T.getD 3 undef=.complex .f64 a1 b1→T.getD 5 undef=.pointer (some ⟨w.heap.size+1,0,none⟩) →
       T.getD 8 undef=.slice AX (rest.length-(nb+4)) (cr-(nb+4)) →
       ∃ w1 first,LkR w w1 bs first ⟨T,[]⟩ ((wa.setCell ⟨w.heap.size,1,none⟩ (.slice Aa (log.length+es.length) ca)).setCell ⟨w.heap.size,2,none⟩ (.int .i64 ((u0:Int)+nb+4)))):=by
      intro T KH K4 KI KJ KK;have HN:=Kk.out;subst HN
      refine ⟨w1,first,a1,b1,zaL q body,log++es,.slice Aa (log.length+es.length) ca,_,cr-(nb+4),r.drop 4,([f0,f1,f2,f3].map bv).toArray,⟨HY.out,?_,(KF.other (by omega) 1 _).other (by omega) 2 _,rfl,?_,?_,?_,?_,?_,?_,HI.out.lo,?_,?_⟩,rfl,KH,K4,KI,KJ,by rw[Hd];exact KK⟩
      ·have hv:((bs.length-(r.drop 4).length:Nat):Int)=(u0:Int)+nb+4:=by
        have:=Hu.out
        rw[Hd];omega
       rw[hv]
       exact (HR.set 1 (.slice Aa (log.length+es.length) ca)).set 2 (.int .i64 ((u0:Int)+nb+4))
      ·have ec:zap (log++es)=zap log++zap es:=by simp[zap]
       rw[ec,xL];have r1:=HB.out.kept (zab wa w.heap.size 1 (.slice Aa (log.length+es.length) ca)) (.inr (HR.not_row (by decide) HB.out).symm);have b1:=HR.set 1 (.slice Aa (log.length+es.length) ca)
       exact r1.kept (zab _ w.heap.size 2 _) (.inr (b1.not_row (by decide) r1).symm)
      ·by_cases h44:r.length=4
       ·rw[show r.drop 4=[] from List.drop_of_length_le (by omega)]
        exact SlR.empty w1 1 (by simp[maxLen];omega)
       ·rw[if_neg (by have:=Hz.out;omega)]
        have h:=Bs.cut HI.out.rst (nb+4) (by omega) rfl;rw[Hd]
        rw[show rest.drop (nb+4)=r.drop 4 from by rw[K1.out,←HA.out];simp] at h
        exact h
      ·intro b Hp e hp
       split at e <;> (injection e with e;injection e with e1 _;rw[←e1];exact Kn)
      ·intro p u Hs K8 hc
       have J6:=P5 w1 p hc
       have k1:W5.drew.drew.cell? p=some u:=He.out p u K8 (HI.out.hold p u Hs K8 hc)
       have k2:=zar H8.out k1 (fun e=>by have:=(H1.lt _ e.symm).1;omega)
       have k3:=(P4 wa ⟨w.heap.size,1,none⟩ p (.slice Aa (log.length+es.length) ca) (fun e=>Hs (by rw[←e]))).trans k2
       exact (P4 _ ⟨w.heap.size,2,none⟩ p (.int .i64 ((u0:Int)+nb+4)) (fun e=>Hs (by rw[←e]))).trans k3
      ·refine P0 (p:=⟨w.heap.size,2,none⟩) (P0 (p:=⟨w.heap.size,1,none⟩) (P1 ((K2.drew).drew) H8.out ?_ ?_) (xN _) _) (xN _) _
       ·have:=K2.size;exact this
       ·intro k ek
        have:=(H1.lt _ ek).1
        have:=HI.out.lo
        omega
      ·have:=H8.out.size
       have h2:W5.drew.drew.heap.size=W5.heap.size:=rfl
       simp[P7]
       omega
      ·rw[xL,Hd]
       omega
      ·rw[HI.out.out,zpS Hn.out,Hx.out]
       simp[List.append_assoc]
     have J7:rest.length-(nb+4)<rest.length:=by omega
     refine zcJ (by kernel_rfl) ?_
     refine tkF 0 rfl rfl rfl ?_;refine tkF 2 rfl rfl rfl ?_;refine tkF 4 rfl rfl rfl ?_;refine tkF 6 rfl rfl rfl ?_;refine tkF 9 rfl rfl rfl ?_;refine tkF 10 rfl rfl rfl ?_;refine tkF 11 rfl rfl rfl ?_;refine tkF 12 rfl rfl rfl ?_;refine tkF 13 rfl rfl rfl ?_
     refine zkE (i:=1) (j:=5) (vi:=.slice Av log.length cv) (vj:=.int .i64 u0) (wi:=W5.drew.drew) (wj:=W5.drew.drew) rfl (by kernel_rfl) rfl rfl rfl rfl rfl rfl (by go_simp) (by go_simp) ?_ ?_
     ·refine zkE (i:=3) (j:=5) (vi:=.slice Aa (log.length+es.length) ca) (vj:=.int .i64 u0) (wi:=wa) (wj:=W5.drew.drew) rfl (by kernel_rfl) rfl rfl rfl rfl (zc5 _ _ _ rfl) rfl (zdp (v:=.slice Av log.length cv) (vx:=.slice A2 es.length HE) (.tmp 85) (.tmp 86) 54 rfl (by simp[P9,P8]) (by simp[P9,P8]) Hl.out) (by go_simp) ?_ ?_
      ·skip
       refine zal (i:=5) (v:=?v29) (w':=?w29) rfl (by kernel_rfl) rfl rfl rfl ?h29 ?r29
       case h29=>go_simp;try (first | with_reducible rfl | (refine ⟨?_,?_⟩ <;> with_reducible rfl))
       refine tkF 7 rfl rfl rfl ?_;refine tkF 8 rfl rfl rfl ?_
       refine zal (i:=14) (v:=?v32) (w':=?w32) rfl (by kernel_rfl) rfl rfl rfl ?h32 ?r32
       case h32=>go_simp;try (first | with_reducible rfl | (refine ⟨?_,?_⟩ <;> with_reducible rfl))
       refine zbQ (i:=15) (w':=?w33) rfl (by kernel_rfl) rfl rfl rfl ?h33 ?r33
       case h33=>go_simp;try (first | with_reducible rfl | (refine ⟨?_,?_⟩ <;> with_reducible rfl))
       refine zal (i:=16) (v:=?v34) (w':=?w34) rfl (by kernel_rfl) rfl rfl rfl ?h34 ?r34
       case h34=>go_simp;try (first | with_reducible rfl | (refine ⟨?_,?_⟩ <;> with_reducible rfl))
       refine zbQ (i:=17) (w':=?w35) rfl (by kernel_rfl) rfl rfl rfl ?h35 ?r35
       case h35=>go_simp;try (first | with_reducible rfl | (refine ⟨?_,?_⟩ <;> with_reducible rfl))
       refine zal (i:=18) (v:=?v36) (w':=?w36) rfl (by kernel_rfl) rfl rfl rfl ?h36 ?r36
       case h36=>go_simp;try (first | with_reducible rfl | (refine ⟨?_,?_⟩ <;> with_reducible rfl))
       refine zal (i:=19) (v:=?v37) (w':=?w37) rfl (by kernel_rfl) rfl rfl rfl ?h37 ?r37
       case h37=>go_simp;try (first | with_reducible rfl | (refine ⟨?_,?_⟩ <;> with_reducible rfl))
       exact mcLooka1
      ·skip
       refine tkF 7 rfl rfl rfl ?_;refine tkF 8 rfl rfl rfl ?_
       refine zal (i:=3) (v:=.slice Aa (log.length+es.length) ca) (w':=wa) rfl (by kernel_rfl) rfl rfl (zc5 _ _ _ rfl) (zdp (v:=.slice Av log.length cv) (vx:=.slice A2 es.length HE) (.tmp 85) (.tmp 86) 54 rfl (by simp[P9,P8]) (by simp[P9,P8]) Hl.out) ?_
       refine zal (i:=14) (v:=?v41) (w':=?w41) rfl (by kernel_rfl) rfl rfl rfl ?h41 ?r41
       case h41=>go_simp;try (first | with_reducible rfl | (refine ⟨?_,?_⟩ <;> with_reducible rfl))
       refine zbQ (i:=15) (w':=?w42) rfl (by kernel_rfl) rfl rfl rfl ?h42 ?r42
       case h42=>go_simp;try (first | with_reducible rfl | (refine ⟨?_,?_⟩ <;> with_reducible rfl))
       refine zal (i:=16) (v:=?v43) (w':=?w43) rfl (by kernel_rfl) rfl rfl rfl ?h43 ?r43
       case h43=>go_simp;try (first | with_reducible rfl | (refine ⟨?_,?_⟩ <;> with_reducible rfl))
       refine zbQ (i:=17) (w':=?w44) rfl (by kernel_rfl) rfl rfl rfl ?h44 ?r44
       case h44=>go_simp;try (first | with_reducible rfl | (refine ⟨?_,?_⟩ <;> with_reducible rfl))
       refine zal (i:=18) (v:=?v45) (w':=?w45) rfl (by kernel_rfl) rfl rfl rfl ?h45 ?r45
       case h45=>go_simp;try (first | with_reducible rfl | (refine ⟨?_,?_⟩ <;> with_reducible rfl))
       refine zal (i:=19) (v:=?v46) (w':=?w46) rfl (by kernel_rfl) rfl rfl rfl ?h46 ?r46
       case h46=>go_simp;try (first | with_reducible rfl | (refine ⟨?_,?_⟩ <;> with_reducible rfl))
       exact mcLooka1
     ·skip
      refine tkF 7 rfl rfl rfl ?_;refine tkF 8 rfl rfl rfl ?_
      refine zal (i:=1) (v:=?v50) (w':=?w50) rfl (by kernel_rfl) rfl rfl rfl ?h50 ?r50
      case h50=>go_simp;try (first | with_reducible rfl | (refine ⟨?_,?_⟩ <;> with_reducible rfl))
      refine zal (i:=3) (v:=.slice Aa (log.length+es.length) ca) (w':=wa) rfl (by kernel_rfl) rfl rfl (zc5 _ _ _ rfl) (zdp (v:=.slice Av log.length cv) (vx:=.slice A2 es.length HE) (.tmp 85) (.tmp 86) 54 rfl (by simp[P9,P8]) (by simp[P9,P8]) Hl.out) ?_
      refine zal (i:=14) (v:=?v51) (w':=?w51) rfl (by kernel_rfl) rfl rfl rfl ?h51 ?r51
      case h51=>go_simp;try (first | with_reducible rfl | (refine ⟨?_,?_⟩ <;> with_reducible rfl))
      refine zbQ (i:=15) (w':=?w52) rfl (by kernel_rfl) rfl rfl rfl ?h52 ?r52
      case h52=>go_simp;try (first | with_reducible rfl | (refine ⟨?_,?_⟩ <;> with_reducible rfl))
      refine zal (i:=16) (v:=?v53) (w':=?w53) rfl (by kernel_rfl) rfl rfl rfl ?h53 ?r53
      case h53=>go_simp;try (first | with_reducible rfl | (refine ⟨?_,?_⟩ <;> with_reducible rfl))
      refine zbQ (i:=17) (w':=?w54) rfl (by kernel_rfl) rfl rfl rfl ?h54 ?r54
      case h54=>go_simp;try (first | with_reducible rfl | (refine ⟨?_,?_⟩ <;> with_reducible rfl))
      refine zal (i:=18) (v:=?v55) (w':=?w55) rfl (by kernel_rfl) rfl rfl rfl ?h55 ?r55
      case h55=>go_simp;try (first | with_reducible rfl | (refine ⟨?_,?_⟩ <;> with_reducible rfl))
      refine zal (i:=19) (v:=?v56) (w':=?w56) rfl (by kernel_rfl) rfl rfl rfl ?h56 ?r56
      case h56=>go_simp;try (first | with_reducible rfl | (refine ⟨?_,?_⟩ <;> with_reducible rfl))
      exact mcLooka1
open Go.RowKit Go.Mv
def zgS (w:World) (r:zf1) (e:Ending) (w':World):Prop :=
 ∃ vl,e=.returned (.tuple #[.agg #[.int .i64 r.first,vl,.int .i64 r.used],.int .i64 r.err])∧w'.ownsRow w.heap.size 79 3 vl r.log.length (zap r.log)∧Ext w w'
theorem zs4 (v:Value) (bs:List UInt8) (w:World) (Hb:Bs w v bs) (hl:bs.length≤2000000):∀ W,Ext w W→Calls Tryz.prog 303 #[v] W (LookP W (zc2 bs)):=fun W hE=>zs3 v bs W (Bs.ext Hb hE) hl
theorem zsj (v:Value) (bs:List UInt8) (w:World) (Hb:Bs w v bs) (hl:bs.length≤2000000):Calls Tryz.prog 302 #[v] w (zgS w (zc2 bs)):=by
 have HL:=zhd (zs4 v bs w Hb hl);obtain ⟨A,c,rfl,_,_⟩:=xO Hb;clear Hb
 generalize zc2 bs=R at *
 obtain ⟨er,first,log,used,pt⟩:=R
 go_enter Tryz.func302,Tryz.ntmps302
 go_wp2_with (go_at_call 303;refine (HL.out _ (xA (xR _) _)).mono ?_;rintro e w1 ⟨vl,vz,rfl,Hc,hp,H6⟩;dsimp only at Hc;obtain ⟨Av,cv,rfl,_,_⟩:=xO (xW Hc);obtain ⟨z1,z2,rfl,_,_⟩:=hp;have hB:=((Blk.new w 121 #[.int .i64 0,.slice none 0 0,.int .i64 0]).ext H6).alloc (.cells #[.int .i64 first,.slice Av log.length cv,.int .i64 used] 121);obtain ⟨c0,c1,c2,f0,f1,f2⟩:=zbi hB)
 have KL:=zbj hB (.int .i64 first) (.slice Av log.length cv) (.int .i64 used);have Ha:=zaf Hc (xA (xR w1) (.cells #[.int .i64 first,.slice Av log.length cv,.int .i64 used] 121));have r1:=Ha.kept (zab _ w.heap.size 0 (.int .i64 first)) (.inr (hB.not_row (by decide) Ha).symm);have b1:=hB.set 0 (.int .i64 first);have r2:=r1.kept (zab _ w.heap.size 1 (.slice Av log.length cv)) (.inr (b1.not_row (by decide) r1).symm);have b2:=b1.set 1 (.slice Av log.length cv);have r3:=r2.kept (zab _ w.heap.size 2 (.int .i64 used)) (.inr (b2.not_row (by decide) r2).symm);obtain ⟨g0,g1,g2,_,_,_⟩:=zbi KL
 refine bodyPost_ret (v:=.tuple #[.agg #[.int .i64 first,.slice Av log.length cv,.int .i64 used],.int .i64 er]) (by simp[results,Tryz.results302,go_sem,g0,g1,g2]) rfl ⟨_,rfl,zai r3 (by simp),?_⟩
 exact P0 (p:=⟨w.heap.size,2,none⟩) (P0 (p:=⟨w.heap.size,1,none⟩) (P0 (p:=⟨w.heap.size,0,none⟩) (xA (xT (xA (xR _) _) H6) _) (xN _) _) (xN _) _) (xN _) _
def w12:List Ent:=[⟨1,0,0⟩,⟨2,1,7⟩]
def OwnB (w:World) (base:Nat) (v:Value) (bs:List UInt8):Prop:=w.ownsRow base 5 1 v bs.length (bs.map bv)
def OwnE (w:World) (base:Nat) (v:Value) (es:List Ent):Prop:=w.ownsRow base 79 3 v es.length (zap es)
def zgP (base:Nat) (w w':World):Prop:=∀ W0,Ext W0 w→W0.heap.size≤base→Ext W0 w'
theorem OwnB.bs {w:World} {base:Nat} {v:Value} {l:List UInt8} (h:OwnB w base v l):Bs w v l:=xW h
theorem OwnE.es {w:World} {base:Nat} {v:Value} {l:List Ent} (h:OwnE w base v l):Es w v l:=xW h
theorem OwnB.ext {w w':World} {base:Nat} {v:Value} {l:List UInt8} (h:OwnB w base v l) (he:Ext w w'):OwnB w' base v l:=zaf h he
theorem OwnE.ext {w w':World} {base:Nat} {v:Value} {l:List Ent} (h:OwnE w base v l) (he:Ext w w'):OwnE w' base v l:=zaf h he
theorem zeq (W:World):OwnB (W.alloc (.cells #[] 5)) W.heap.size (.slice (some ⟨W.heap.size,0,none⟩) 0 0) []:=zaV W [] 5 0 rfl (by simp[maxLen]) (xN _)
theorem zc9 {ops:Array Oper} {rest:List Oper} {o:Oper} {a:Act} {w:World} {Q:Exit→Act→World→Prop} (KP:o.guard=none) (s x:Operand)
  (ho:o.op=.call { callee:=.builtin .append,args:=#[s,x],argTypes:=#[38,38] })
  (base:Nat) (v:Value) (bs:List UInt8) (hs:a.eval s=v) (H7:OwnB w base v bs) (vx:Value) (cs:List UInt8) (hx:a.eval x=vx) (hr:Bs w vx cs)
  (KQ:bs.length+cs.length≤40000000) (HJ:base≤w.heap.size)
  (h:∀ A c w',OwnB w' base (.slice A (bs.length+cs.length) c) (bs++cs)→zgP base w w'→wpList Tryz.prog ops Q rest (a.put o.dst (.slice A (bs.length+cs.length) c)) w'):wpList Tryz.prog ops Q (o::rest) a w:=by
 obtain ⟨i0,hi,Kh,Ki,Kj⟩:=info_parts zb8
 refine zbd _ KP s x 38 ho base 5 i0 (.int .u8 0) 1 1 Tryz.underlying38 hi Kh Ki Kj rfl (by decide) v bs.length (bs.map bv) hs H7 vx cs.length (cs.map bv) hx hr (zcP _) (by unfold maxLen;omega) (by omega) HJ ?_
 intro v' w' h1 h2;obtain ⟨A,c,rfl,_,_⟩:=xO (xW h1)
 refine h A c w' ?_ (fun W0 hE hb=>Ext.grownOwn hE (zai H7 hb) h2)
 unfold OwnB;rw[xL,List.map_append]
 exact h1
section
variable {P:Program} {ops:Array Oper} {Q:Exit→Act→World→Prop} {md:Region.Mode} {S:World→Prop}
theorem zaa {i:Nat} {oi:Oper} {v:Value} {fuel:Nat} {listed:Array Bool} {a:Act} {w:World} (hi:ops.toList[i]?=some oi)
  (hs:Pc ops=true) (hf:Pd md ops listed i=true) (hr:(Pb md ops listed).contains i=true)
  (hQ:∀ c a w,Q (.panic c) (a.put oi.dst v) w→Q (.panic c) a w) (hw:Pa oi (yielded ops a.tmps)=true) (hS:S w) (hy:∀ w,S w→(execOp a.eval oi).run P w=.ok (.value v) w)
  (h:wpAnyH P md ops Q S fuel (listed.setIfInBounds i true) (a.put oi.dst v) w):wpAnyH P md ops Q S (fuel+1) listed a w :=
 wpAnyH_take (by simpa using hi) hs hf hr hQ (.inl ⟨hw,hy⟩) hS h
theorem tkL (i:Nat) {oi:Oper} {v:Value} {fuel:Nat} {listed:Array Bool} {a:Act} {w:World} (hi:ops.toList[i]?=some oi)
  (h:wpAnyH P md ops Q S fuel (listed.setIfInBounds i true) (a.put oi.dst v) w) (hy:∀ w,S w→(execOp a.eval oi).run P w=.ok (.value v) w:=by (intro w hw;(try dsimp only at hw);go_simp;try with_reducible rfl)) (hs:Region.noSelect ops=true:=by kernel_rfl) (hf:Region.free md ops listed i=true:=by kernel_rfl) (hr:(Region.ready md ops listed).contains i=true:=by kernel_rfl)
  (hQ:∀ c a w,Q (.panic c) (a.put oi.dst v) w→Q (.panic c) a w:=by exact fun _ _ _ h=>h) (hw:Region.wanted oi (yielded ops a.tmps)=true:=by rfl) (hS:S w:=by assumption):wpAnyH P md ops Q S (fuel+1) listed a w :=
 zaa hi hs hf hr hQ hw hS hy h
theorem tkN (i:Nat) {oi:Oper} {v:Value} {fuel:Nat} {listed:Array Bool} {a a':Act} {w:World} (hi:ops.toList[i]?=some oi)
  (h:wpAnyH P md ops Q S fuel (listed.setIfInBounds i true) a' w) (hy:∀ w,S w→(execOp a.eval oi).run P w=.ok (.value v) w:=by (intro w hw;(try dsimp only at hw);go_simp;try with_reducible rfl)) (hp:a.put oi.dst v=a':=by (first | (simp only[Act.put,sA,sZ,sS];done) | (simp only[Act.put,sA,sZ,sS];rfl) | rfl)) (hs:Region.noSelect ops=true:=by kernel_rfl) (hf:Region.free md ops listed i=true:=by kernel_rfl) (hr:(Region.ready md ops listed).contains i=true:=by kernel_rfl)
  (hQ:∀ c a w,Q (.panic c) (a.put oi.dst v) w→Q (.panic c) a w:=by exact fun _ _ _ h=>h) (hw:Region.wanted oi (yielded ops a.tmps)=true:=by rfl) (hS:S w:=by assumption):wpAnyH P md ops Q S (fuel+1) listed a w:=by
 subst hp
 exact zaa hi hs hf hr hQ hw hS hy h
theorem znm {i:Nat} {oi:Oper} {fuel:Nat} {listed:Array Bool} {a:Act} {w:World} (hi:ops.toList[i]?=some oi)
  (hs:Pc ops=true) (hf:Pd md ops listed i=true) (hr:(Pb md ops listed).contains i=true)
  (hQ:∀ c a w,Q (.panic c) (a.put oi.dst undef) w→Q (.panic c) a w) (hw:Pa oi (yielded ops a.tmps)=false) (hS:S w)
  (h:wpAnyH P md ops Q S fuel (listed.setIfInBounds i true) (a.put oi.dst undef) w):wpAnyH P md ops Q S (fuel+1) listed a w :=
 wpAnyH_take (by simpa using hi) hs hf hr hQ (.inr ⟨hw,rfl⟩) hS h
theorem tkS (i:Nat) {oi:Oper} {fuel:Nat} {listed:Array Bool} {a a':Act} {w:World} (hi:ops.toList[i]?=some oi)
  (h:wpAnyH P md ops Q S fuel (listed.setIfInBounds i true) a' w) (hp:a.put oi.dst undef=a':=by (first | (simp only[Act.put,sA,sZ,sS];done) | (simp only[Act.put,sA,sZ,sS];rfl) | rfl)) (hs:Region.noSelect ops=true:=by kernel_rfl) (hf:Region.free md ops listed i=true:=by kernel_rfl) (hr:(Region.ready md ops listed).contains i=true:=by kernel_rfl)
  (hQ:∀ c a w,Q (.panic c) (a.put oi.dst undef) w→Q (.panic c) a w:=by exact fun _ _ _ h=>h) (hw:Region.wanted oi (yielded ops a.tmps)=false:=by rfl) (hS:S w:=by assumption):wpAnyH P md ops Q S (fuel+1) listed a w:=by
 subst hp
 exact znm hi hs hf hr hQ hw hS h
theorem AllReadyH.one {fuel:Nat} {listed:Array Bool} {a:Act} {w:World} {i:Nat} {o:Oper} (ho:ops.toList[i]?=some o) (hr:Pb md ops listed=[i]) (hw:Pa o (yielded ops a.tmps)=true)
  (h:∀ K':Act→World→Prop,Shut (∀ a w,S w→(S w→wpAnyH P md ops Q S fuel (listed.setIfInBounds i true) a w)→K' a w)→Oper.wp P o a w K' Q):wpAnyH P md ops Q S (fuel+1) listed a w :=
 wpAnyH_ready hr (by simp) (AllReadyH.cons (by simpa using ho) (fun K hK=>by rw[if_pos hw];exact h K hK) AllReadyH.nil)
theorem shK {K:Act→World→Prop} {fuel:Nat} {listed:Array Bool} (hK:Shut (∀ a w,S w→(S w→wpAnyH P md ops Q S fuel listed a w)→K a w)) (a:Act) (w:World) {a':Act} (hS:S w) (h:S w→wpAnyH P md ops Q S fuel listed a' w) (hp:a=a':=by (first | (simp only[Act.put,sA,sZ,sS];done) | (simp only[Act.put,sA,sZ,sS];rfl) | rfl)):K a w:=by
 subst hp
 exact hK.out _ _ hS h
theorem ar1 (i:Nat) {fuel:Nat} {listed:Array Bool} {a:Act} {w:World} {o:Oper} (ho:ops.toList[i]?=some o)
  (h:∀ K':Act→World→Prop,Shut (∀ a w,S w→(S w→wpAnyH P md ops Q S fuel (listed.setIfInBounds i true) a w)→K' a w)→Oper.wp P o a w K' Q) (hr:Region.ready md ops listed=[i]:=by kernel_rfl) (hw:Region.wanted o (yielded ops a.tmps)=true:=by rfl):wpAnyH P md ops Q S (fuel+1) listed a w:=AllReadyH.one ho hr hw h
end
def zdt (W:World) (b:Nat) (a v u:Value):World:=((W.setCell ⟨b,0,none⟩ a).setCell ⟨b,1,none⟩ v).setCell ⟨b,2,none⟩ u
theorem zea {W:World} {b:Nat} {t:TypeId} {a v u:Value} (hB:Blk W b t #[a,v,u]) {e:TypeId} (Kf:t≠e) {base size k:Nat} {y:Value} {xs:List Value} (hr:W.ownsRow base e size y k xs) (a' v' u':Value):(zdt W b a' v' u').ownsRow base e size y k xs:=by
 have r1:=hr.kept (zab _ b 0 a') (.inr (hB.not_row Kf hr).symm);have b1:=hB.set 0 a';have r2:=r1.kept (zab _ b 1 v') (.inr (b1.not_row Kf r1).symm);have b2:=b1.set 1 v'
 exact r2.kept (zab _ b 2 u') (.inr (b2.not_row Kf r2).symm)
theorem zcA {w W:World} (h:Ext w W) {b:Nat} (HV:w.heap.size≤b) (a v u:Value):Ext w (zdt W b a v u) :=
 P0 (p:=⟨b,2,none⟩) (P0 (p:=⟨b,1,none⟩) (P0 (p:=⟨b,0,none⟩) h HV _) HV _) HV _
open Go.RowKit Go.Mv
structure Sta where
 idx:Int
 term:Int
 sum:Int
 lvl:Int
 fin:Bool
def Sta.ok (s:Sta):Bool :=
 if s.idx=0 then decide (s.term=0∧s.sum=0∧s.lvl=1∧s.fin=false)
 else (if s.fin=true then decide (s.lvl=2) else decide (s.lvl=1∨s.lvl=2))&&zaE s.idx&&decide (0<s.term)&&zaE s.term&&zaE s.sum
def Sta.finI (s:Sta):Int:=if s.fin=true then 1 else 0
def Sta.ints (s:Sta):List Int:=[s.idx,s.term,s.sum,s.lvl,s.finI]
theorem Sta.okP {s:Sta} (h:s.ok=true):zaE s.idx=true∧zaE s.term=true∧zaE s.sum=true∧(s.lvl=1∨s.lvl=2):=by
 unfold Sta.ok at h
 split at h
 ·rename_i h0
  have:=of_decide_eq_true h
  obtain ⟨h1,h2,h3,h4⟩:=this;rw[h0,h1,h2,h3]
  exact ⟨by decide,by decide,by decide,.inl rfl⟩
 ·simp only[Bool.and_eq_true] at h
  obtain ⟨⟨⟨⟨h1,h2⟩,h3⟩,h4⟩,h5⟩:=h
  refine ⟨h2,h4,h5,?_⟩
  split at h1
  ·exact .inr (of_decide_eq_true h1)
  ·exact of_decide_eq_true h1
theorem Sta.finP (s:Sta):s.finI=0∨s.finI=1:=by unfold Sta.finI;split <;> simp
theorem Sta.nums {s:Sta} (h:s.ok=true):zav s.ints=true:=by
 obtain ⟨h1,h2,h3,h4⟩:=Sta.okP h
 have h5:zaE s.lvl=true:=by rcases h4 with e | e <;> rw[e] <;> decide
 have h6:zaE s.finI=true:=by rcases s.finP with e | e <;> rw[e] <;> decide
 simp[zav,Sta.ints,h1,h2,h3,h5,h6]
def zb2 (z:Nat×Nat) (t:List UInt8):List UInt8 :=
 if h:t=[] then [] else t.take 4++(zbp (zaL z (t.take 4))++zb2 (zaL z (t.take 4)) (t.drop 4))
termination_by t.length
decreasing_by
 have:0<t.length:=List.length_pos_iff.2 h
 simp;omega
theorem zi8 (z:Nat×Nat):zb2 z []=[]:=by rw[zb2];simp
theorem zie (z:Nat×Nat) (t:List UInt8) (h:0<t.length):zb2 z t=t.take 4++(zbp (zaL z (t.take 4))++zb2 (zaL z (t.take 4)) (t.drop 4)):=by
 rw[zb2,dif_neg (fun e=>by rw[e] at h;simp at h)]
theorem zi7 (z:Nat×Nat) (t:List UInt8):(zb2 z t).length=t.length+(t.length+3) / 4*4:=by
 generalize hn:t.length=n
 induction n using Nat.strongRecOn generalizing z t with
 | _ n ih =>
  rcases Pe t.length with h | h
  ·have:t=[]:=P2 h
   subst this;rw[zi8]
   simp at hn
   subst hn;rfl
  ·have h1:=ih (t.drop 4).length (by simp;omega) (zaL z (t.take 4)) (t.drop 4) rfl
   rw[zie z t h,xL,xL,h1,ze5,List.length_take,P3];omega
theorem zqZ (p:Nat×Nat):∃ a b c d,zbp p=[a,b,c,d]:=⟨_,_,_,_,rfl⟩
end Go.Proofs.YtgonhdeochgkoaaGreatDoor
