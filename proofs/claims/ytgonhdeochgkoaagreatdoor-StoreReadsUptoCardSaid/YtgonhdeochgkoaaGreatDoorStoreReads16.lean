/- Merged: St2 Man2 Rd4 AllP Man3 Man4 -/
import Derived.Test.YtgonhdeochgkoaaGreatDoorStoreReads15
set_option linter.all false
set_option maxHeartbeats 8000000
set_option maxRecDepth 100000
namespace Go.Proofs.YtgonhdeochgkoaaGreatDoor
open Go.RowKit Go.Mv
theorem zmh (e:Int) (w:World):(Instr.typeAssert (.iface 32 (.int .i64 e)) 20 32 true).run Tryz.prog w=.ok (.tuple #[.int .i64 e,.bool true]) w:=by kernel_rfl
theorem zqM (w:World):(Instr.typeAssert .nilIface 20 32 true).run Tryz.prog w=.ok (.tuple #[.int .i64 0,.bool false]) w:=by kernel_rfl
theorem zkM (p:Addr) (y:Value) (e:Int) (older:List PanicEntry) (w:World) (hc:w.cell? p=some y) (hz:w.frozen? p=false) :
  CallsD Tryz.prog 101 #[.pointer (some p)] (.panicking ({ v:=.iface 32 (.int .i64 e),recovered:=false }::older)) w fun en u' w' =>
   en=.returned (.tuple #[])∧u'=.panicking ({ v:=.iface 32 (.int .i64 e),recovered:=true }::older)∧w'=w.setCell p (.int .i64 e):=by
 refine callsD_of_wpS Tryz.func101 rfl fun c₀ cs hu=>?_
 have h1:=zmh e
 apply wpS_seq
 apply wpS_region
 simp[wpOpsS,go_sem,recoverD,hu,Tryz.ntmps101,Exit.thenS,h1]
 apply wpS_seq
 apply wpS_region
 simp[wpOpsS,go_sem,Exit.thenS,Array.replicate]
 refine wpS_cond (t:=true) (by simp[Act.eval,Array.replicate]) ?_
 simp only[if_true]
 apply wpS_region
 simp[wpOpsS,go_sem,hc,hz,bodyPostS,results,Tryz.results101,Array.replicate]
theorem zjL (p:Addr) (w:World) :
  CallsD Tryz.prog 101 #[.pointer (some p)] .returning w fun en u' w'=>en=.returned (.tuple #[])∧u'=.returning∧w'=w:=by
 refine callsD_of_wpS Tryz.func101 rfl fun c₀ cs hu=>?_
 have h1:=zqM
 apply wpS_seq
 apply wpS_region
 simp[wpOpsS,go_sem,recoverD,hu,Tryz.ntmps101,Exit.thenS,h1]
 apply wpS_seq
 apply wpS_region
 simp[wpOpsS,go_sem,Exit.thenS,Array.replicate]
 refine wpS_cond (t:=false) (by simp[Act.eval,Array.replicate]) ?_
 simp only[Bool.false_eq_true,if_false]
 refine wpS_of_wp ?_
 cases c₀
 simp_all [wp_skip,bodyPostS,results,Tryz.results101]
def znO (fs:List Fil) (s:Sg4) (b2:Nat) (w:World) (en:Ending) (w':World):Prop:=match zay fs s with
 | some x=>en=.returned (.tuple #[])∧∃ w1 v,Ext w w1∧OwnE w1 w.heap.size v x∧w'=w1.setCell ⟨b2,0,none⟩ v
 | none=>en=pan 130∧Ext w w'
theorem zhr (v:Value) (fs:List Fil) (s:Sg4) (w:World) (hS:StW w) (hF:Fs w v fs) (hl:fs.length≤4000000) (hbl:∀ f∈fs,f.2.length≤2000000) :
  Calls Tryz.prog 76 #[v,.agg #[.int .i64 s.seq,.int .i64 s.fmt,.int .i64 s.first,.int .i64 s.count]] w (zsq w (zay fs s)):=by
 cases hn:zaF fs (zav 3 s.seq s.fmt) with
 | none =>
  have:zay fs s=none:=by unfold zay;rw[hn]
  rw[this]
  exact (zkV v fs s w hS hF hl hn).mono fun en w' h=>⟨h.1,h.2⟩
 | some b =>
  obtain ⟨f,hf,rfl⟩:=zn6 hn
  exact zkW v fs s _ w hS hF hl hn (hbl f hf)
theorem zqZ (v:Value) (fs:List Fil) (s:Sg4) (p0 p1 b2:Nat) (old:Value) (w:World) (hS:StW w) (hF:Fs w v fs) (hl:fs.length≤4000000) (hbl:∀ f∈fs,f.2.length≤2000000)
  (h0:w.cell? ⟨p0,0,none⟩=some v) (h1:Blk w p1 74 #[.int .i64 s.seq,.int .i64 s.fmt,.int .i64 s.first,.int .i64 s.count]) (h2:Blk w b2 54 #[old]) :
  Calls Tryz.prog 75 #[.pointer (some ⟨p0,0,none⟩),.pointer (some ⟨p1,0,none⟩),.pointer (some ⟨b2,0,none⟩)] w (znO fs s b2 w):=by
 obtain ⟨A,c,rfl,_,_⟩:=Fs.open_ hF
 obtain ⟨m0,m1,m2,m3⟩:=zat h1
 have key:=zhr _ fs s w hS hF hl hbl
 unfold znO
 obtain ⟨R,hR⟩:∃ R,zay fs s=R:=⟨_,rfl⟩
 rw[hR] at key ⊢
 have Key:=zhd key
 have H2:=zhd h2
 clear key hR hS hF hbl h2 h1
 go_enter Tryz.func75,Tryz.ntmps75
 go_wp2_with fail
 refine Key.out.mono ?_
 rintro e w1 ⟨hr,hE1⟩
 cases R with
 | none =>
  obtain rfl:=hr
  exact ⟨rfl,rfl,hE1⟩
 | some x =>
  obtain ⟨v1,rfl,ho⟩:=hr
  obtain ⟨A3,c3,rfl,_,_⟩:=SlR.open_ (SlR.of_own ho)
  have hb:=H2.out.ext hE1
  have f0:=hb.frozen 0
  have g0:=hb.cell 0 rfl
  clear m0 m1 m2 m3 h0
  have Ho:=zhd ho
  clear ho
  go_wp2_with fail
  go_end0
  exact ⟨rfl,w1,hE1,_,Ho.out,rfl⟩
def zn0 (fs:List Fil) (s:Sg4) (b2:Nat) (old:Value) (w:World) (en:Ending) (w':World):Prop:=match zay fs s with
 | some x=>en=.returned (.int .i64 0)∧(∃ v,OwnE w' w.heap.size v x∧Blk w' b2 54 #[v])∧zey b2 w w'
 | none=>en=.returned (.int .i64 130)∧Blk w' b2 54 #[old]∧Ext w w'
theorem zsi (v:Value) (fs:List Fil) (s:Sg4) (p0 p1 b2:Nat) (old:Value) (w:World) (hS:StW w) (hF:Fs w v fs) (hl:fs.length≤4000000) (hbl:∀ f∈fs,f.2.length≤2000000)
  (h0:w.cell? ⟨p0,0,none⟩=some v) (h1:Blk w p1 74 #[.int .i64 s.seq,.int .i64 s.fmt,.int .i64 s.first,.int .i64 s.count]) (h2:Blk w b2 54 #[old]) :
  Calls Tryz.prog 58 #[.func (.func 75) #[] #[.pointer (some ⟨p0,0,none⟩),.pointer (some ⟨p1,0,none⟩),.pointer (some ⟨b2,0,none⟩)]] w (zn0 fs s b2 old w):=by
 have hmf:∀ (fn:Fn) (first cap:Array Value) (w:World),(Instr.makeFunc fn first cap).run Tryz.prog w=.ok (.func fn first cap) w:=fun _ _ _ _=>rfl
 have hX:Ext w (w.alloc (.cells #[.int .i64 0] 32)):=Ext.alloc (Ext.refl _) _
 have he:=Blk.new w 32 #[.int .i64 0]
 have key:=zqZ v fs s p0 p1 b2 old _ (hS.ext hX) (hF.ext hX) hl hbl (hX.cell h0) (h1.ext hX) (h2.ext hX)
 unfold zn0
 unfold znO at key
 obtain ⟨R,hR⟩:∃ R,zay fs s=R:=⟨_,rfl⟩
 rw[hR] at key ⊢
 have Key:=zhd key
 have H2:=zhd h2
 have HX:=zhd hX
 have He:=zhd he
 clear key hR hS hF hbl h2 h1 h0 hX he
 go_enter_defers Tryz.func58,Tryz.ntmps58
 go_wp2_with fail
 refine Key.out.mono ?_
 rintro e w1 hr
 cases R with
 | none =>
  obtain ⟨rfl,hE1⟩:=hr
  have he1:=He.out.ext hE1
  have h21:=(H2.out.ext HX.out).ext hE1
  refine leaves_cons (f:=101) (args:=#[.pointer (some ⟨w.heap.size,0,none⟩)]) (by simp) (by simp[go_sem]) ?_
  refine (zkM ⟨w.heap.size,0,none⟩ _ 130 [] _ (he1.cell 0 rfl) (he1.frozen 0)).mono ?_
  rintro e u' w2 ⟨rfl,rfl,rfl⟩
  have hne:b2≠w.heap.size:=by have:=H2.out.lt;omega
  have hs:=he1.set 0 (.int .i64 130)
  have hc:=hs.cell 0 rfl
  simp[Leaves,settle,results,Tryz.results58,go_sem,hc]
  exact ⟨h21.other hne 0 _,Below.setCell (p:=⟨w.heap.size,0,none⟩) (Ext.trans HX.out hE1) (Nat.le_refl _) _⟩
 | some x =>
  obtain ⟨rfl,w2,v2,hE2,ho,rfl⟩:=hr
  have hne:b2≠w.heap.size:=by have:=H2.out.lt;omega
  have hb2:Blk w2 b2 54 #[old]:=(H2.out.ext HX.out).ext hE2
  have hb3:Blk (w2.setCell ⟨b2,0,none⟩ v2) b2 54 #[v2]:=hb2.set 0 v2
  have he2:=He.out.ext hE2
  have he3:=he2.other hne.symm 0 v2
  have ho3:=ho.kept (zaa _ b2 0 v2) (.inr (hb2.not_row (by decide) ho).symm)
  have HG:Hid (zey b2 w (w2.setCell ⟨b2,0,none⟩ v2)):=zhd fun W0 hE hle=>Below.setCell (p:=⟨b2,0,none⟩) (Ext.trans hE (Ext.trans HX.out hE2)) hle v2
  obtain ⟨w3,hw3⟩:∃ w3,w2.setCell ⟨b2,0,none⟩ v2=w3:=⟨_,rfl⟩
  rw[hw3] at hb3 he3 ho3 HG ⊢
  have f0:=he3.frozen 0
  have g0:=he3.cell 0 rfl
  have Hb3:=zhd hb3
  have He3:=zhd he3
  have Ho3:=zhd ho3
  have Hne:=zhd hne
  clear hw3 hb2 hb3 he2 he3 ho3 ho hE2 hne
  go_wp2_with fail
  refine leaves_cons (f:=101) (args:=#[.pointer (some ⟨w.heap.size,0,none⟩)]) (by simp) (by simp[go_sem]) ?_
  refine (zjL ⟨w.heap.size,0,none⟩ _).mono ?_
  rintro e u' w4 ⟨rfl,rfl,rfl⟩
  have hs:=He3.out.set 0 (.int .i64 0)
  have hc:(w3.setCell ⟨w.heap.size,0,none⟩ (.int .i64 0)).cell? ⟨w.heap.size,0,none⟩=some (.int .i64 0):=hs.cell 0 rfl
  have h1:=Hb3.out.other Hne.out 0 (.int .i64 0)
  have h2:=Ho3.out.kept (zaa _ w.heap.size 0 (.int .i64 0)) (.inr (He3.out.not_row (by decide) Ho3.out).symm)
  have hbw:b2<w.heap.size:=H2.out.lt
  have h3:zey b2 w (w3.setCell ⟨w.heap.size,0,none⟩ (.int .i64 0)):=fun W0 hE hle=>Below.setCell (p:=⟨w.heap.size,0,none⟩) (HG.out W0 hE hle) (by show W0.heap.size≤w.heap.size;omega) _
  generalize w3.setCell ⟨w.heap.size,0,none⟩ (.int .i64 0)=w5 at *
  simp[Leaves,settle,results,Tryz.results58,go_sem,hc]
  exact ⟨⟨v2,zah h2 (by simp),h1⟩,h3⟩
theorem zmc (tmps:Array Value) (W:World) (b:Nat) (v u:Value) (h4:tmps.getD 4 undef=.pointer (some ⟨b,0,none⟩)) (h5:tmps.getD 5 undef=u) (hb:Blk W b 54 #[v]):(results Tryz.f33 tmps).run Tryz.prog W=.ok (.tuple #[v,u]) W:=by
 have hc:=hb.cell 0 rfl
 have h4':tmps[4]?.getD undef=.pointer (some ⟨b,0,none⟩):=by simpa using h4
 have h5':tmps[5]?.getD undef=u:=by simpa using h5
 have hu:=Tryz.underlying54
 simp[results,Tryz.results33,h4',h5',asAddr,go_sem,hc,hu]
theorem zll (v:Value) (fs:List Fil) (s:Sg4) (w:World) (hS:StW w) (hF:Fs w v fs) (hl:fs.length≤4000000) (hbl:∀ f∈fs,f.2.length≤2000000) :
  Calls Tryz.prog 33 #[v,.agg #[.int .i64 s.seq,.int .i64 s.fmt,.int .i64 s.first,.int .i64 s.count]] w (ztq w (zay fs s)):=by
 have hmf:∀ (fn:Fn) (first cap:Array Value) (w:World),(Instr.makeFunc fn first cap).run Tryz.prog w=.ok (.func fn first cap) w:=fun _ _ _ _=>rfl
 obtain ⟨A,c,rfl,_,_⟩:=Fs.open_ hF
 have hX1:Ext w (w.alloc (.cells #[.slice A fs.length c] 22)):=Ext.alloc (Ext.refl _) _
 have hX2:Ext (w.alloc (.cells #[.slice A fs.length c] 22)) ((w.alloc (.cells #[.slice A fs.length c] 22)).alloc (.cells #[.int .i64 s.seq,.int .i64 s.fmt,.int .i64 s.first,.int .i64 s.count] 74)):=Ext.alloc (Ext.refl _) _
 have hX3:Ext ((w.alloc (.cells #[.slice A fs.length c] 22)).alloc (.cells #[.int .i64 s.seq,.int .i64 s.fmt,.int .i64 s.first,.int .i64 s.count] 74)) (((w.alloc (.cells #[.slice A fs.length c] 22)).alloc (.cells #[.int .i64 s.seq,.int .i64 s.fmt,.int .i64 s.first,.int .i64 s.count] 74)).alloc (.cells #[.slice none 0 0] 54)):=Ext.alloc (Ext.refl _) _
 have b0:=(Blk.new w 22 #[.slice A fs.length c]).ext (Ext.trans hX2 hX3)
 have b1:=(Blk.new (w.alloc (.cells #[.slice A fs.length c] 22)) 74 #[.int .i64 s.seq,.int .i64 s.fmt,.int .i64 s.first,.int .i64 s.count]).ext hX3
 have b2:=Blk.new ((w.alloc (.cells #[.slice A fs.length c] 22)).alloc (.cells #[.int .i64 s.seq,.int .i64 s.fmt,.int .i64 s.first,.int .i64 s.count] 74)) 54 #[.slice none 0 0]
 rw[World.size_alloc] at b1
 rw[World.size_alloc,World.size_alloc] at b2
 have hX:=Ext.trans hX1 (Ext.trans hX2 hX3)
 have key:=zsi (.slice A fs.length c) fs s w.heap.size (w.heap.size+1) (w.heap.size+1+1) _ _ (hS.ext hX) (hF.ext hX) hl hbl (b0.cell 0 rfl) b1 b2
 unfold zn0 at key
 unfold ztq
 obtain ⟨R,hR⟩:∃ R,zay fs s=R:=⟨_,rfl⟩
 rw[hR] at key ⊢
 have Key:=zhd key
 have HX:=zhd hX
 clear key hR hS hF hbl hX hX1 hX2 hX3 b0 b1 b2
 go_enter Tryz.func33,Tryz.ntmps33
 go_wp2_with fail
 refine Key.out.mono ?_
 rintro e w1 hr
 cases R with
 | none =>
  obtain ⟨rfl,hb,hE⟩:=hr
  have g0:=hb.cell 0 rfl
  have f0:=hb.frozen 0
  have Hb:=zhd hb
  have HE:=zhd (Ext.trans HX.out hE)
  clear hb hE
  go_wp2_with fail
  refine bodyPost_ret (zmc _ _ _ _ _ rfl rfl (Hb.out.set 0 (.slice none 0 0))) rfl ?_
  exact ⟨_,rfl,World.ownsRow_nil _ _ _ _,Below.setCell (p:=⟨w.heap.size+1+1,0,none⟩) HE.out (by show w.heap.size≤w.heap.size+1+1;omega) _⟩
 | some x =>
  obtain ⟨rfl,⟨v1,ho,hb⟩,hG⟩:=hr
  have hE:=hG w HX.out (by omega)
  obtain ⟨A3,c3,rfl,_,_⟩:=SlR.open_ (SlR.of_own ho)
  have g0:=hb.cell 0 rfl
  have f0:=hb.frozen 0
  have Hb:=zhd hb
  have HE:=zhd hE
  have Ho:=zhd ho
  clear hb hE ho hG
  go_wp2_with fail
  refine bodyPost_ret (zmc _ _ _ _ _ rfl rfl (Hb.out.set 0 (.slice A3 x.length c3))) rfl ?_
  exact ⟨_,rfl,zah (Ho.out.kept (zaa _ _ 0 _) (.inr (Hb.out.not_row (by decide) Ho.out).symm)) (by have:=HX.out.size;simpa using this),Below.setCell (p:=⟨w.heap.size+1+1,0,none⟩) HE.out (by show w.heap.size≤w.heap.size+1+1;omega) _⟩
theorem mcMan20 {P:Prop} (h:P:=by
 obtain ⟨j,hj,rfl,Hn2,hEr⟩:=hrel
 have HEr:=zhd (Ext.trans E0.out hEr)
 have HEq:=zhd hEr
 obtain ⟨m0,m1,m2,m3,m4,m5⟩:=zao (Hb.out.ext hEr)
 clear hEr
 by_cases hlt:j<m.segs.length
 ·have arm:=znI m (.slice A m.segs.length c) j hlt h4 Hn.out (zf4 Hn2.out) wr (HS.out.ext HEr.out)
  have Arm:=zhd arm
  clear arm
  have hltz:(j:Int)<(m.segs.length:Int):=by omega
  go_wp2_with fail
  refine Arm.out.mono ?_
  rintro e w4 ⟨rfl,hE4⟩
  cases hso:zbi m j m.segs[j] with
  | false =>
   have hR:R=2:=by rw[←HR3.out,zfd hlt hso _ hlt];rfl
   subst hR
   go_wp2_with fail
   go_ret
   exact ⟨rfl,Ext.trans HEr.out hE4⟩
  | true =>
   have hnx:zbp m (j+1)=true:=by
    unfold zbp;rw[Hn2.out,List.getElem?_eq_getElem hlt];simpa using hso
   have Hnx:=zhd hnx
   clear hnx hso
   go_wp2_with fail
   go_roundw
   case rel=>exact ⟨j+1,by omega,by go_num,Hnx,Ext.trans HEq.out hE4⟩
   case measure=>simp[intOf];omega
 ·obtain rfl:j=m.segs.length:=by omega
  have hR:R=0:=by rw[←HR3.out,Hn2.out];rfl
  subst hR
  go_wp2_with fail
  go_ret
  exact ⟨rfl,HEr.out⟩):P:=h
theorem zr4:Tryz.prog.underlying 27=some (.struct (Tryz.prog.fieldsOf 27)):=by kernel_rfl
theorem ztc:Tryz.prog.stoodInHeld 27=false:=by kernel_rfl
theorem zqx (a b c d:Int) (W:World):(Op.equalIn 10000 27 (.agg #[.int .i64 a,.int .i64 b]) (.agg #[.int .i64 c,.int .i64 d])).run Tryz.prog W=.ok (decide (a=c∧b=d)) W:=by
 have e:decide (a=c∧b=d)=(a==c&&b==d):=by
  rw[Bool.eq_iff_iff]
  simp
 rw[run_equalIn_struct W 9999 27 _ _ zr4 ztc,e]
 cases h0:(a==c) <;> cases h1:(b==d) <;> simp[go_sem,h0,h1]
theorem zeo {n s f:Int} (h:zbn n s f=true):1≤s∧s≤n-1∧(f=1∨f=2):=by simpa [zbn] using h
theorem inB_b {n a b:Int}:inB n a b=true↔(a≤n∧n≤b):=by simp[inB]
theorem zgj {m:Mf} {i:Nat} {s:Sg4} (h:zbi m i s=true):zbn m.next s.seq s.fmt=true∧s.seq≠m.sq∧(1≤s.first∧s.first≤1073741820)∧(∀ t∈m.segs.take i,t.seq≠s.seq)∧((1≤s.count∧s.count≤4)∨(s.count = -1∧i+1=m.segs.length)):=by
 unfold zbi at h
 simp only[Bool.and_eq_true,Bool.or_eq_true,decide_eq_true_eq,List.all_eq_true,inB_b] at h
 obtain ⟨⟨⟨⟨⟨h1,h2⟩,h3⟩,h4⟩,_⟩,h5⟩:=h
 exact ⟨h1,h2,h3,h4,h5⟩
theorem zg2 {m:Mf}:∀ {k:Nat},zbp m k=true→∀ i,i<k→∃ s,m.segs[i]?=some s∧zbi m i s=true
 | 0,_,i,hi=>by omega
 | k+1,h,i,hi=>by
  unfold zbp at h
  rw[Bool.and_eq_true] at h
  by_cases e:i=k
  ·subst e
   have h2:=h.2
   cases hs:m.segs[i]? with
   | none=>rw[hs] at h2;cases h2
   | some s=>rw[hs] at h2;exact ⟨s,rfl,h2⟩
  ·exact zg2 h.1 i (by omega)
theorem zf4 {m:Mf} {k:Nat} (h:zbp m k=true):∀ t∈m.segs.take k,1≤t.first∧t.first≤1073741820∧-1≤t.count∧t.count≤4:=by
 intro t ht
 obtain ⟨q,hq,rfl⟩:=List.mem_take_iff_getElem.1 ht
 obtain ⟨s,hs,ho⟩:=zg2 h q (by omega)
 rw[List.getElem?_eq_getElem (by omega)] at hs
 cases hs
 obtain ⟨_,_,h3,_,h5⟩:=zgj ho
 omega
theorem zfd {m:Mf} {i:Nat} (hi:i<m.segs.length) (h:zbi m i m.segs[i]=false):∀ k,i<k→zbp m k=false:=by
 intro k hk
 rw[Bool.eq_false_iff]
 intro ht
 obtain ⟨s,hs,ho⟩:=zg2 ht i hk
 rw[List.getElem?_eq_getElem hi] at hs
 cases hs
 rw[h] at ho;cases ho
theorem zo5 (m:Mf) (v:Value) (w:World) (hS:Sgs w v m.segs) :
  Calls Tryz.prog 10 #[.agg #[.int .i64 m.next,.int .i64 m.term,.int .i64 m.vote,.int .i64 m.sq,.int .i64 m.sf,v]] w fun e w'=>e=.returned (.int .i64 (if zaD m then 0 else 2))∧Ext w w':=by
 obtain ⟨A,c,rfl,hc1,hc2⟩:=hS.open_
 obtain ⟨R,hR⟩:∃ R:Int,(if zaD m then 0 else 2)=R:=⟨_,rfl⟩
 rw[hR]
 have HR:=zhd hR
 have HS:=zhd hS
 have hb0:=Blk.new w 30 #[.int .i64 m.next,.int .i64 m.term,.int .i64 m.vote,.int .i64 m.sq,.int .i64 m.sf,.slice A m.segs.length c]
 have hX:Ext w (w.alloc (.cells #[.int .i64 m.next,.int .i64 m.term,.int .i64 m.vote,.int .i64 m.sq,.int .i64 m.sf,.slice A m.segs.length c] 30)):=Ext.alloc (Ext.refl _) _
 obtain ⟨m0,m1,m2,m3,m4,m5⟩:=zao hb0
 have E0:=zhd hX
 have Hb:=zhd hb0
 clear hR hS hX hb0
 have hbad:zch m=false→R=2:=fun h=>by rw[←HR.out];unfold zaD;rw[h];rfl
 go_enter Tryz.func10,Tryz.ntmps10
 cases h1:inB m.next 1 1073741824 with
 | false =>
  have:=hbad (by unfold zch;rw[h1];rfl)
  subst this
  go_wp2_with (go_at_call 42;refine (zaQ _ _ _ _).mono ?_;rintro e w2 ⟨rfl,rfl⟩;rw[h1])
  go_ret
  exact ⟨rfl,E0.out⟩
 | true =>
 cases h2:inB m.term 0 1073741824 with
 | false =>
  have:=hbad (by unfold zch;rw[h1,h2];rfl)
  subst this
  go_wp2_with (go_at_call 42;refine (zaQ _ _ _ _).mono ?_;rintro e w2 ⟨rfl,rfl⟩;first | rw[h1] | rw[h2])
  go_ret
  exact ⟨rfl,E0.out⟩
 | true =>
 cases h3:inB m.vote 0 5 with
 | false =>
  have:=hbad (by unfold zch;rw[h1,h2,h3];rfl)
  subst this
  go_wp2_with (go_at_call 42;refine (zaQ _ _ _ _).mono ?_;rintro e w2 ⟨rfl,rfl⟩;first | rw[h1] | rw[h2] | rw[h3])
  go_ret
  exact ⟨rfl,E0.out⟩
 | true =>
 by_cases h4:m.segs.length≤60
 case neg =>
  have:=hbad (by unfold zch;rw[h1,h2,h3];simpa using h4)
  subst this
  have h5:(60:Int)<(m.segs.length:Int):=by omega
  go_wp2_with (go_at_call 42;refine (zaQ _ _ _ _).mono ?_;rintro e w2 ⟨rfl,rfl⟩;first | rw[h1] | rw[h2] | rw[h3])
  go_ret
  exact ⟨rfl,E0.out⟩
 have h5:¬ (60:Int)<(m.segs.length:Int):=by omega
 have hhead:zch m=true:=by unfold zch;rw[h1,h2,h3];simpa using h4
 have HR2:Hid ((if (zcm m&&zbp m m.segs.length)=true then (0:Int) else 2)=R):=zhd (by rw[←HR.out];unfold zaD;rw[hhead];rfl)
 have hn:=inB_b.1 h1
 have Hn:=zhd hn
 clear hbad HR hhead hn
 rcases (show (m.sq=0∧m.sf=0)∨(m.sq=0∧m.sf≠0)∨m.sq≠0 by omega) with ⟨ha,hb⟩ | hc
 ·have hsn:zcm m=true:=by unfold zcm;simp[ha,hb]
  have hA:=zhd ha
  have hB:=zhd hb
  go_wp2_with (first | (go_at_call 42;refine (zaQ _ _ _ _).mono ?_;rintro e w2 ⟨rfl,rfl⟩;first | rw[h1] | rw[h2] | rw[h3]))
  clear ha hb
  have HR3:Hid ((if zbp m m.segs.length=true then (0:Int) else 2)=R):=zhd (by rw[←HR2.out,hsn];rfl)
  clear HR2 m0 m1 m2 m3 m4 m5
  go_loopw [3] (fun x W=>∃ j:Nat,j≤m.segs.length∧x=.int .i64 j∧Hid (zbp m j=true)∧Ext (w.alloc (.cells #[.int .i64 m.next,.int .i64 m.term,.int .i64 m.vote,.int .i64 m.sq,.int .i64 m.sf,.slice A m.segs.length c] 30)) W) (fun x _=>m.segs.length-(intOf x).toNat)
  case atStart=>exact ⟨0,by omega,rfl,zhd rfl,(by rw[hA.out,hB.out];exact Ext.refl _)⟩
  case round =>
   exact mcMan20
 have hnz:¬ (m.sq=0∧m.sf=0):=by omega
 cases hfo:zbn m.next m.sq m.sf with
 | false =>
  have hfo2:=hfo
  have hR:R=2:=by rw[←HR2.out];unfold zcm;rw[hfo];simp[hnz]
  subst hR
  clear HR2 hnz
  rcases hc with ⟨hc1,hc2⟩ | hc1
  ·rw[hc1] at hfo2
   go_wp2_with (first | (go_at_call 42;refine (zaQ _ _ _ _).mono ?_;rintro e w2 ⟨rfl,rfl⟩;first | rw[h1] | rw[h2] | rw[h3]) | (go_at_call 43;refine (ze7 _ _ _ _ _ _ _ _ Hn.out _).mono ?_;rintro e w3 ⟨rfl,hE3⟩;first | rw[hfo] | rw[hfo2]))
   go_ret
   exact ⟨rfl,Ext.trans E0.out (by rw[hc1];exact hE3)⟩
  ·go_wp2_with (first | (go_at_call 42;refine (zaQ _ _ _ _).mono ?_;rintro e w2 ⟨rfl,rfl⟩;first | rw[h1] | rw[h2] | rw[h3]) | (go_at_call 43;refine (ze7 _ _ _ _ _ _ _ _ Hn.out _).mono ?_;rintro e w3 ⟨rfl,hE3⟩;first | rw[hfo] | rw[hfo2]))
   go_ret
   exact ⟨rfl,Ext.trans E0.out hE3⟩
 | true =>
  have hsn:zcm m=true:=by unfold zcm;rw[hfo];simp
  have hsq:m.sq≠0:=by have:=zeo hfo;omega
  clear hnz hc
  go_wp2_with (first | (go_at_call 42;refine (zaQ _ _ _ _).mono ?_;rintro e w2 ⟨rfl,rfl⟩;first | rw[h1] | rw[h2] | rw[h3]) | (go_at_call 43;refine (ze7 _ _ _ _ _ _ _ _ Hn.out _).mono ?_;rintro e w3 ⟨rfl,hE3⟩;first | rw[hfo]))
  clear hsq
  have HR3:Hid ((if zbp m m.segs.length=true then (0:Int) else 2)=R):=zhd (by rw[←HR2.out,hsn];rfl)
  clear HR2 m0 m1 m2 m3 m4 m5
  go_loopw [3] (fun x W=>∃ j:Nat,j≤m.segs.length∧x=.int .i64 j∧Hid (zbp m j=true)∧Ext (w.alloc (.cells #[.int .i64 m.next,.int .i64 m.term,.int .i64 m.vote,.int .i64 m.sq,.int .i64 m.sf,.slice A m.segs.length c] 30)) W) (fun x _=>m.segs.length-(intOf x).toNat)
  case atStart=>exact ⟨0,by omega,rfl,zhd rfl,hE3⟩
  case round =>
   exact mcMan20
theorem zjs {fs:List Fil} {s:Sg4} {x:List Ent} (h:zay fs s=some x):(s.count = -1→1≤x.length∧x.length≤4)∧(s.count≠-1→(x.length:Int)=s.count):=by
 unfold zay at h
 cases hb:zaF fs (zav 3 s.seq s.fmt) with
 | none=>rw[hb] at h;cases h
 | some b =>
  rw[hb] at h
  dsimp only at h
  split at h
  ·cases h
  ·split at h
   ·cases h
   ·split at h
    ·cases h
    ·rename_i hc
     cases h
     unfold zbB at hc
     simp only[Bool.or_eq_true,Bool.and_eq_true,decide_eq_true_eq] at hc
     constructor
     ·intro h1;omega
     ·intro h1;omega
def zdM (fs:List Fil) (index:Int):List Sg4→Int→List Ent→Option (Int×List Ent)
 | [],last,out=>some (last,out)
 | s::l,last,out=>match zay fs s with
  | none=>none
  | some x=>zdM fs index l (if x.length=0 then last else s.first+x.length-1) (out++x.drop (index+1-s.first).toNat)
def zd5 (fs:List Fil) (m:Mf) (index:Int):List Ent×Bool:=match zdM fs index m.segs (index+1) [] with
 | none=>([],false)
 | some (last,out)=>(out,decide (index<last)&&(match m.segs with | []=>true | s::_=>decide (s.first≤index+1)))
def zb8:Int→List Ent→List (Int×Ent)
 | _,[]=>[]
 | n,e::x=>(n,e)::zb8 (n+1) x
def zaH (fs:List Fil):List Sg4→List (Int×Ent)×Bool
 | []=>([],true)
 | s::l=>match zay fs s with
  | none=>([],false)
  | some x=>(zb8 s.first x++(zaH fs l).1,(zaH fs l).2)
def zeB (index:Int) (st:Int×List Ent) (p:Int×Ent):Int×List Ent:=(p.1,if index<p.1 then st.2++[p.2] else st.2)
theorem zmb (index:Int):∀ (x:List Ent) (first last:Int) (out:List Ent),(zb8 first x).foldl (zeB index) (last,out)=(if x.length=0 then last else first+x.length-1,out++x.drop (index+1-first).toNat)
 | [],first,last,out=>by simp[zb8]
 | e::x,first,last,out=>by
  rw[zb8,List.foldl_cons,show zeB index (last,out) (first,e)=(first,if index<first then out++[e] else out) from rfl,zmb index x]
  have h1:(if x.length=0 then first else first+1+(x.length:Int)-1)=(if (e::x).length=0 then last else first+((e::x).length:Nat)-1):=by
   rw[if_neg (show ¬ (e::x).length=0 by simp),List.length_cons]
   split <;> omega
  rw[h1]
  congr 1
  by_cases h:index<first
  ·rw[if_pos h,show (index+1-(first+1)).toNat=0 from by omega,show (index+1-first).toNat=0 from by omega,List.append_assoc]
   rfl
  ·rw[if_neg h,show (index+1-first).toNat=(index+1-(first+1)).toNat+1 from by omega,List.drop_succ_cons]
theorem zfX (fs:List Fil) (index:Int):∀ (l:List Sg4) (last:Int) (out:List Ent),zdM fs index l last out=if (zaH fs l).2=true then some ((zaH fs l).1.foldl (zeB index) (last,out)) else none
 | [],last,out=>by rw[zdM,zaH,if_pos rfl];rfl
 | s::l,last,out=>by
  rw[zdM,zaH]
  cases h:zay fs s with
  | none=>simp
  | some x =>
   dsimp only
   rw[zfX fs index l,List.foldl_append,zmb]
theorem zg0:∀ (x:List Ent) (n:Int),(zb8 n x).length=x.length
 | [],_=>rfl
 | _::x,n=>by rw[zb8,List.length_cons,zg0 x,List.length_cons]
theorem zi5:∀ (x:List Ent) (n:Int) (k:Nat) (h:k<x.length),(zb8 n x)[k]?=some (n+k,x[k])
 | e::x,n,0,_=>by simp[zb8]
 | e::x,n,k+1,h=>by
  rw[zb8,List.getElem?_cons_succ,zi5 x (n+1) k (by simpa using h)]
  rw[show n+1+(k:Int)=n+((k+1:Nat):Int) by omega]
  rfl
theorem zqD (x:List Ent) (n:Int) (k:Nat) (h:k<x.length):(zb8 n x).take (k+1)=(zb8 n x).take k++[(n+k,x[k])]:=by
 have h1:=zi5 x n k h
 rw[List.take_succ,h1]
 rfl
theorem ziT (index:Int):∀ (l:List (Int×Ent)) (st:Int×List Ent),(l.foldl (zeB index) st).2.length≤st.2.length+l.length
 | [],_=>Nat.le_refl _
 | p::l,st=>by
  have:=ziT index l (zeB index st p)
  rw[List.foldl_cons,List.length_cons]
  have h2:(zeB index st p).2.length≤st.2.length+1:=by
   unfold zeB
   dsimp only
   split <;> simp
  omega
theorem zpt (fs:List Fil) (l:List Sg4) (k:Nat) (h:k<l.length) (hk:(zaH fs (l.take k)).2=true):zaH fs (l.take (k+1))=match zay fs l[k] with
  | none=>((zaH fs (l.take k)).1,false)
  | some x=>((zaH fs (l.take k)).1++zb8 l[k].first x,true):=by
 induction l generalizing k with
 | nil=>simp at h
 | cons s l ih =>
  cases k with
  | zero =>
   simp only[List.take_zero,List.take_succ_cons,List.getElem_cons_zero,zaH]
   cases zay fs s <;> simp
  | succ k =>
   simp only[List.take_succ_cons,zaH,List.getElem_cons_succ] at hk ⊢
   cases he:zay fs s with
   | none=>rw[he] at hk;cases hk
   | some x =>
    rw[he] at hk
    dsimp only at hk ⊢
    rw[ih k (by simpa using h) hk]
    cases zay fs (l[k]'(by simpa using h)) with
    | none=>rfl
    | some y=>simp[List.append_assoc]
theorem zrh (fs:List Fil) (l:List Sg4) (k:Nat) (h:k<l.length) (hk:(zaH fs (l.take k)).2=true) (he:zay fs l[k]=none):zaH fs l=((zaH fs (l.take k)).1,false):=by
 induction l generalizing k with
 | nil=>simp at h
 | cons s l ih =>
  cases k with
  | zero =>
   simp only[List.getElem_cons_zero] at he
   simp only[List.take_zero,zaH,he]
  | succ k =>
   rw[List.take_succ_cons] at hk ⊢
   rw[zaH] at hk ⊢
   rw[zaH]
   cases hs:zay fs s with
   | none=>simp[hs] at hk
   | some x =>
    rw[hs] at hk
    dsimp only at hk ⊢
    rw[ih k (by simpa using h) hk he]
theorem zri (fs:List Fil) (l:List Sg4) (k:Nat) (h:k<l.length) (hk:(zaH fs (l.take k)).2=true) {x:List Ent} (he:zay fs l[k]=some x):∃ post,(zaH fs l).1=(zaH fs (l.take k)).1++zb8 l[k].first x++post:=by
 induction l generalizing k with
 | nil=>simp at h
 | cons s l ih =>
  cases k with
  | zero =>
   simp only[List.getElem_cons_zero] at he
   refine ⟨(zaH fs l).1,?_⟩
   simp only[List.take_zero,zaH,he,List.getElem_cons_zero,List.nil_append]
  | succ k =>
   rw[List.take_succ_cons] at hk ⊢
   rw[zaH] at hk ⊢
   rw[zaH]
   cases hs:zay fs s with
   | none=>simp[hs] at hk
   | some y =>
    rw[hs] at hk
    dsimp only at hk ⊢
    obtain ⟨post,hp⟩:=ih k (by simpa using h) hk (by simpa using he)
    refine ⟨post,?_⟩
    rw[hp,List.getElem_cons_succ]
    simp only[List.append_assoc]
theorem zsb:Tryz.prog.underlying 74=some (.struct (Tryz.prog.fieldsOf 74)):=by kernel_rfl
theorem zte:Tryz.prog.stoodInHeld 74=false:=by kernel_rfl
theorem zsa:Tryz.prog.eqGuardType Tryz.prog.depth 74=false:=by kernel_rfl
theorem zqC (a b:Sg4) (W:World):(Op.equalIn 10000 74 (.agg #[.int .i64 a.seq,.int .i64 a.fmt,.int .i64 a.first,.int .i64 a.count]) (.agg #[.int .i64 b.seq,.int .i64 b.fmt,.int .i64 b.first,.int .i64 b.count])).run Tryz.prog W=.ok (decide (a=b)) W:=by
 have e:decide (a=b)=(a.seq==b.seq&&a.fmt==b.fmt&&a.first==b.first&&a.count==b.count):=by
  rw[Bool.eq_iff_iff]
  cases a;cases b
  simp[and_assoc]
 rw[run_equalIn_struct W 9999 74 _ _ zsb zte,e]
 cases h0:(a.seq==b.seq) <;> cases h1:(a.fmt==b.fmt) <;> cases h2:(a.first==b.first) <;> cases h3:(a.count==b.count) <;> simp[go_sem,h0,h1,h2,h3]
theorem zpk (a b:Mf) (va vb:Value) (w:World) (hA:Sgs w va a.segs) (hB:Sgs w vb b.segs) :
  Calls Tryz.prog 26 #[.agg #[.int .i64 a.next,.int .i64 a.term,.int .i64 a.vote,.int .i64 a.sq,.int .i64 a.sf,va],.agg #[.int .i64 b.next,.int .i64 b.term,.int .i64 b.vote,.int .i64 b.sq,.int .i64 b.sf,vb]] w fun e w'=>e=.returned (.bool (decide (a=b)))∧Ext w w':=by
 obtain ⟨A,c,rfl,hc1,hc2⟩:=hA.open_
 obtain ⟨B,d,rfl,hd1,hd2⟩:=hB.open_
 obtain ⟨n1,t1,v1,q1,f1,l1⟩:=a
 obtain ⟨n2,t2,v2,q2,f2,l2⟩:=b
 dsimp only at *
 obtain ⟨R,hR⟩:∃ R,decide ((⟨n1,t1,v1,q1,f1,l1⟩:Mf)=⟨n2,t2,v2,q2,f2,l2⟩)=R:=⟨_,rfl⟩
 rw[hR]
 have HR:Hid (decide (n1=n2∧t1=t2∧v1=v2∧q1=q2∧f1=f2∧l1=l2)=R):=zhd (by rw[←hR];simp)
 have HA:=zhd hA
 have HB:=zhd hB
 obtain ⟨x1,hx1⟩:∃ x:Array Value,#[.int .i64 n1,.int .i64 t1,.int .i64 v1,.int .i64 q1,.int .i64 f1,.slice A l1.length c]=x:=⟨_,rfl⟩
 obtain ⟨x2,hx2⟩:∃ x:Array Value,#[.int .i64 n2,.int .i64 t2,.int .i64 v2,.int .i64 q2,.int .i64 f2,.slice B l2.length d]=x:=⟨_,rfl⟩
 have hb0:=Blk.new w 30 x1
 have hb1:=hb0.alloc (.cells x2 30)
 have hb2:=Blk.new (w.alloc (.cells x1 30)) 30 x2
 rw[World.size_alloc] at hb2
 have hX:Ext w ((w.alloc (.cells x1 30)).alloc (.cells x2 30)):=Ext.alloc (Ext.alloc (Ext.refl _) _) _
 subst hx1 hx2
 obtain ⟨m0,m1,m2,m3,m4,m5⟩:=zao hb1
 obtain ⟨p0,p1,p2,p3,p4,p5⟩:=zao hb2
 have E0:=zhd hX
 have Hb1:=zhd hb1
 have Hb2:=zhd hb2
 clear hR hA hB hX hb0 hb1 hb2
 go_enter Tryz.func26,Tryz.ntmps26
 by_cases e1:n1=n2
 case neg =>
  have:R=false:=by rw[←HR.out];simp[e1]
  subst this
  go_wp2_with fail
  go_ret
  exact ⟨rfl,Ext.alloc (Ext.alloc (Ext.refl _) _) _⟩
 subst e1
 by_cases e2:t1=t2
 case neg =>
  have:R=false:=by rw[←HR.out];simp[e2]
  subst this
  go_wp2_with fail
  go_ret
  exact ⟨rfl,Ext.alloc (Ext.alloc (Ext.refl _) _) _⟩
 subst e2
 by_cases e3:v1=v2
 case neg =>
  have:R=false:=by rw[←HR.out];simp[e3]
  subst this
  go_wp2_with fail
  go_ret
  exact ⟨rfl,Ext.alloc (Ext.alloc (Ext.refl _) _) _⟩
 subst e3
 by_cases e4:q1=q2
 case neg =>
  have:R=false:=by rw[←HR.out];simp[e4]
  subst this
  go_wp2_with fail
  all_goals go_ret
  all_goals exact ⟨rfl,Ext.alloc (Ext.alloc (Ext.refl _) _) _⟩
 subst e4
 by_cases e5:f1=f2
 case neg =>
  have:R=false:=by rw[←HR.out];simp[e5]
  subst this
  go_wp2_with fail
  all_goals go_ret
  all_goals exact ⟨rfl,Ext.alloc (Ext.alloc (Ext.refl _) _) _⟩
 subst e5
 by_cases e6:(l1.length:Int)=(l2.length:Int)
 case neg =>
  have:R=false:=by rw[←HR.out];simp;intro h;subst h;exact e6 rfl
  subst this
  go_wp2_with fail
  all_goals go_ret
  all_goals exact ⟨rfl,Ext.alloc (Ext.alloc (Ext.refl _) _) _⟩
 have HR2:Hid (decide (l1=l2)=R):=zhd (by rw[←HR.out];simp)
 have hlen:l1.length=l2.length:=by omega
 have Hlen:=zhd hlen
 clear HR hlen
 go_wp2_with fail
 go_loopw [5] (fun x W=>∃ k:Nat,k≤l1.length∧x=.int .i64 k∧Hid (l1.take k=l2.take k)∧Ext ((w.alloc (.cells #[.int .i64 n1,.int .i64 t1,.int .i64 v1,.int .i64 q1,.int .i64 f1,.slice A l1.length c] 30)).alloc (.cells #[.int .i64 n1,.int .i64 t1,.int .i64 v1,.int .i64 q1,.int .i64 f1,.slice B l2.length d] 30)) W) (fun x _=>l1.length-(intOf x).toNat)
 case atStart=>exact ⟨0,by omega,rfl,zhd rfl,(by first | exact Ext.refl _ | (rw[e6];exact Ext.refl _))⟩
 case round =>
  obtain ⟨k,hk,rfl,Hn,hEr⟩:=hrel
  have HEq:=zhd hEr
  have HEr:=zhd (Ext.trans E0.out hEr)
  obtain ⟨_,_,_,_,_,M5⟩:=zao (Hb1.out.ext hEr)
  obtain ⟨_,_,_,_,_,P5⟩:=zao (Hb2.out.ext hEr)
  by_cases hlt:k<l1.length
  ·have hlt2:k<l2.length:=by have:=Hlen.out;omega
   obtain ⟨_,b,off,rfl,hcell⟩:=(HA.out.ext HEr.out).at_ (by omega)
   obtain ⟨_,b2,off2,rfl,hcell2⟩:=(HB.out.ext HEr.out).at_ (by omega)
   obtain ⟨s0,s1,s2,s3⟩:=hcell k hlt
   obtain ⟨u0,u1,u2,u3⟩:=hcell2 k hlt2
   clear hcell hcell2 hEr m0 m1 m2 m3 m4 m5 p0 p1 p2 p3 p4 p5
   have hk0:(0:Int)≤(k:Int):=by omega
   have hk1:(k:Int)<(l1.length:Int):=by omega
   have hk2:(k:Int)<(l2.length:Int):=by omega
   have heq:=zqC l1[k] l2[k]
   have hgd:=zsa
   obtain ⟨q,hq⟩:∃ q,decide (l1[k]=l2[k])=q:=⟨_,rfl⟩
   have Hq:=zhd hq
   rw[hq] at heq
   clear hq
   go_wp2_with fail
   go_quiet (fail)
   clear heq hgd
   cases q
   ·have hR:R=false:=by
     rw[←HR2.out]
     have:=Hq.out
     simp only[decide_eq_false_iff_not] at this ⊢
     intro h
     apply this
     simp only[h]
    subst hR
    go_wp2_with fail
    go_ret
    exact ⟨rfl,zcL HEr.out _⟩
   ·go_wp2_with fail
    go_roundw
    case rel =>
     have hq2:l1[k]=l2[k]:=by simpa using Hq.out
     refine ⟨k+1,by omega,by go_num,zhd ?_,zcL HEq.out _⟩
     rw[List.take_succ_eq_append_getElem hlt,List.take_succ_eq_append_getElem (by omega),Hn.out,hq2]
    case measure=>simp[intOf];omega
  ·have hR:R=true:=by
    rw[←HR2.out]
    have h1:=Hn.out
    have h2:=Hlen.out
    rw[List.take_of_length_le (by omega),List.take_of_length_le (by omega)] at h1
    simpa using h1
   subst hR
   obtain rfl:k=l1.length:=by omega
   clear m0 m1 m2 m3 m4 m5 p0 p1 p2 p3 p4 p5
   go_wp2_with fail
   go_ret
   exact ⟨rfl,HEr.out⟩
def zbO (l:List Sg4):List Int:=l.flatMap fun s=>[s.seq,s.fmt,s.first,s.count+1]
def zbM (m:Mf):List Int:=[m.next,m.term,m.vote,m.sq,m.sf,(m.segs.length:Int)]++zbO m.segs
def zb7 (m:Mf):Option (List UInt8):=if zaD m then some (zaU rT (77::zar (zbM m))) else none
def zso (w:World) (r:Option (List UInt8)) (e:Ending) (w':World):Prop:=(∃ v,e=.returned (.tuple #[v,.int .i64 (if r.isSome then 0 else 2)])∧OwnB w' w.heap.size v (r.getD []))∧Ext w w'
theorem zec (l:List Sg4):(zbO l).length=4*l.length:=by
 induction l with
 | nil=>rfl
 | cons e l ih=>simp only[zbO,List.flatMap_cons,List.length_append,List.length_cons,List.length_nil] at ih ⊢;omega
theorem ziC (l:List Sg4) (k:Nat) (h:k<l.length):zbO (l.take (k+1))=zbO (l.take k)++[l[k].seq,l[k].fmt,l[k].first,l[k].count+1]:=by
 rw[List.take_succ_eq_append_getElem h];unfold zbO;rw[List.flatMap_append];rfl
theorem zdi {m:Mf} (h:zaD m=true):(1≤m.next∧m.next≤1073741824)∧(0≤m.term∧m.term≤1073741824)∧(0≤m.vote∧m.vote≤5)∧m.segs.length≤60∧((m.sq=0∧m.sf=0)∨(1≤m.sq∧m.sq≤m.next-1∧(m.sf=1∨m.sf=2))) ∧
  ∀ i (hi:i<m.segs.length),zbi m i m.segs[i]=true:=by
 unfold zaD zch zcm at h
 simp only[Bool.and_eq_true,Bool.or_eq_true,decide_eq_true_eq,inB_b] at h
 obtain ⟨⟨⟨⟨⟨h1,h2⟩,h3⟩,h4⟩,h5⟩,h6⟩:=h
 refine ⟨h1,h2,h3,h4,?_,fun i hi=>?_⟩
 ·rcases h5 with h5 | h5
  ·exact .inl h5
  ·exact .inr (zeo h5)
 ·obtain ⟨s,hs,ho⟩:=zg2 h6 i hi
  rw[List.getElem?_eq_getElem hi] at hs
  cases hs
  exact ho
theorem zjn {m:Mf} (h:zaD m=true):zax (zbM m)=true:=by
 obtain ⟨h1,h2,h3,h4,h5,h6⟩:=zdi h
 unfold zax
 rw[List.all_eq_true]
 intro x hx
 rw[numB_true]
 unfold zbM at hx
 rcases List.mem_append.1 hx with hx | hx
 ·simp only[List.mem_cons,List.not_mem_nil,or_false] at hx
  rcases hx with rfl | rfl | rfl | rfl | rfl | rfl <;> omega
 ·obtain ⟨s,hs,hx⟩:=List.mem_flatMap.1 hx
  obtain ⟨i,hi,rfl⟩:=List.mem_iff_getElem.1 hs
  obtain ⟨k1,_,k3,_,k5⟩:=zgj (h6 i hi)
  have k0:=zeo k1
  simp only[List.mem_cons,List.not_mem_nil,or_false] at hx
  rcases hx with rfl | rfl | rfl | rfl <;> omega
def OwnI (w:World) (base:Nat) (v:Value) (l:List Int):Prop:=w.ownsRow base 3 1 v l.length (l.map iv)
theorem OwnI.is {w:World} {base:Nat} {v:Value} {l:List Int} (h:OwnI w base v l):Is w v l:=SlR.of_own h
theorem OwnI.ext {w w':World} {base:Nat} {v:Value} {l:List Int} (h:OwnI w base v l) (he:Ext w w'):OwnI w' base v l:=zae h he
theorem zms {ops:Array Oper} {rest:List Oper} {o:Oper} {a:Act} {w:World} {Q:Exit→Act→World→Prop} (hgd:o.guard=none) (s x:Operand)
  (ho:o.op=.call { callee:=.builtin .append,args:=#[s,x],argTypes:=#[96,96] })
  (base:Nat) (v:Value) (bs:List Int) (hs:a.eval s=v) (hown:OwnI w base v bs) (vx:Value) (cs:List Int) (hx:a.eval x=vx) (hr:Is w vx cs)
  (hlen:bs.length+cs.length≤40000000) (hbase:base≤w.heap.size)
  (h:∀ A c w',OwnI w' base (.slice A (bs.length+cs.length) c) (bs++cs)→zey base w w'→wpList Tryz.prog ops Q rest (a.put o.dst (.slice A (bs.length+cs.length) c)) w'):wpList Tryz.prog ops Q (o::rest) a w:=by
 obtain ⟨i0,hi,hz0,hz1,hz2⟩:=info_parts zgF
 refine zbU _ hgd s x 96 ho base 3 i0 (.int .i64 0) 1 8 Tryz.underlying96 hi hz0 hz1 hz2 rfl (by decide) v bs.length (bs.map iv) hs hown vx cs.length (cs.map iv) hx hr (zqh _) (by unfold maxLen;omega) (by omega) hbase ?_
 intro v' w' h1 h2
 obtain ⟨A,c,rfl,_,_⟩:=SlR.open_ (SlR.of_own h1)
 refine h A c w' ?_ (fun W0 hE hb=>Ext.grownOwn hE (zah hown hb) h2)
 unfold OwnI
 rw[List.length_append,List.map_append]
 exact h1
theorem zq8 (m:Mf) (v:Value) (w:World) (hS:Sgs w v m.segs) :
  Calls Tryz.prog 14 #[.agg #[.int .i64 m.next,.int .i64 m.term,.int .i64 m.vote,.int .i64 m.sq,.int .i64 m.sf,v]] w (zso w (zb7 m)):=by
 obtain ⟨A,c,rfl,hc1,hc2⟩:=hS.open_
 have hb0:=Blk.new w 30 #[.int .i64 m.next,.int .i64 m.term,.int .i64 m.vote,.int .i64 m.sq,.int .i64 m.sf,.slice A m.segs.length c]
 have hX:Ext w (w.alloc (.cells #[.int .i64 m.next,.int .i64 m.term,.int .i64 m.vote,.int .i64 m.sq,.int .i64 m.sf,.slice A m.segs.length c] 30)):=Ext.alloc (Ext.refl _) _
 obtain ⟨m0,m1,m2,m3,m4,m5⟩:=zao hb0
 have HS:=zhd hS
 have arm:=zo5 m (.slice A m.segs.length c) _ (hS.ext hX)
 have Arm:=zhd arm
 clear arm hS
 go_enter Tryz.func14,Tryz.ntmps14
 go_wp2_with fail
 refine Arm.out.mono ?_
 rintro e w1 ⟨rfl,hE1⟩
 have E1:=Ext.trans hX hE1
 have HE1:=zhd E1
 have Hb:=zhd (hb0.ext hE1)
 clear hb0 hX hE1 m0 m1 m2 m3 m4 m5 Arm
 cases hck:zaD m with
 | false =>
  have hr:zb7 m=none:=by unfold zb7;rw[hck];rfl
  go_wp2_with fail
  go_ret2
  rw[hr]
  exact ⟨⟨_,rfl,World.ownsRow_nil _ _ _ _⟩,HE1.out⟩
 | true =>
 have hr:zb7 m=some (zaU rT (77::zar (zbM m))):=by unfold zb7;rw[hck];rfl
 have Hr:=zhd hr
 have Hck:=zhd hck
 obtain ⟨_,_,_,hl60,_,_⟩:=zdi hck
 obtain ⟨m0,m1,m2,m3,m4,m5⟩:=zao Hb.out
 clear hr hck E1
 go_wp2_with fail
 have hfin:=zjn Hck.out
 have Hfin:=zhd hfin
 have hO:=za2 w1 ([m.next,m.term,m.vote,m.sq,m.sf,(m.segs.length:Int)].map iv) 3 6 rfl (by simp[maxLen]) (Nat.le_refl _)
 have HO:=zhd hO
 have hEn:Ext w1 (w1.alloc (.cells #[.int .i64 m.next,.int .i64 m.term,.int .i64 m.vote,.int .i64 m.sq,.int .i64 m.sf,.int .i64 (m.segs.length:Int)] 3)):=Ext.alloc (Ext.refl _) _
 have HEn:=zhd hEn
 obtain ⟨H0,hH0⟩:∃ H0,[m.next,m.term,m.vote,m.sq,m.sf,(m.segs.length:Int)]=H0:=⟨_,rfl⟩
 have hH6:H0.length=6:=by rw[←hH0];rfl
 have hmi:zbM m=H0++zbO m.segs:=by rw[←hH0];rfl
 have HH0:=zhd hH0
 have Hmi:=zhd hmi
 clear hO hEn hmi hH0 hfin m0 m1 m2 m3 m4 m5
 go_loopw [4,5] (fun vl x W=>∃ (j:Nat) (a':Option Addr) (c':Nat),j≤m.segs.length∧x=.int .i64 j∧vl=.slice a' (6+4*j) c'∧Hid (OwnI W w1.heap.size (.slice a' (6+4*j) c') (H0++zbO (m.segs.take j)))∧Ext w1 W) (fun _ x _=>m.segs.length-(intOf x).toNat)
 case atStart =>
  refine ⟨0,_,_,by omega,rfl,rfl,zhd ?_,HEn.out⟩
  have:=HO.out
  unfold OwnI
  rw[List.take_zero,show zbO []=[] from rfl,List.append_nil,hH6,←HH0.out]
  exact this
 case round =>
  obtain ⟨j,a',c',hj,rfl,rfl,Hown,hEr⟩:=hrel
  have HEr:=zhd hEr
  have HE:=zhd (Ext.trans HE1.out hEr)
  obtain ⟨_,_,_,_,_,M5⟩:=zao (Hb.out.ext hEr)
  clear hEr
  have hbase:w1.heap.size≤wr.heap.size:=HEr.out.size
  by_cases hlt:j<m.segs.length
  ·obtain ⟨_,b,off,rfl,hcell⟩:=(HS.out.ext HE.out).at_ (by omega)
   obtain ⟨s0,s1,s2,s3⟩:=hcell j hlt
   have htk:=ziC m.segs j hlt
   have hso:=(zdi Hck.out).2.2.2.2.2 j hlt
   generalize m.segs[j]=s at *
   have hcnt:IntKind.i64.wrap (s.count+1)=s.count+1:=by
    obtain ⟨_,_,_,_,h5⟩:=zgj hso
    rw[IntKind.wrap_i64];omega
   have Htk:=zhd htk
   clear hcell htk hso
   have hjz:(j:Int)<(m.segs.length:Int):=by omega
   have hbs:=Blk.new wr 74 #[.int .i64 s.seq,.int .i64 s.fmt,.int .i64 s.first,.int .i64 s.count]
   have hXs:Ext wr (wr.alloc (.cells #[.int .i64 s.seq,.int .i64 s.fmt,.int .i64 s.first,.int .i64 s.count] 74)):=Ext.alloc (Ext.refl _) _
   obtain ⟨k0,k1,k2,k3⟩:=zat hbs
   have hI:Is ((wr.alloc (.cells #[.int .i64 s.seq,.int .i64 s.fmt,.int .i64 s.first,.int .i64 s.count] 74)).alloc (.cells #[.int .i64 s.seq,.int .i64 s.fmt,.int .i64 s.first,.int .i64 (s.count+1)] 3)) (.slice (some ⟨wr.heap.size+1,0,none⟩) 4 4) [s.seq,s.fmt,s.first,s.count+1]:=by
    have:=za2 (wr.alloc (.cells #[.int .i64 s.seq,.int .i64 s.fmt,.int .i64 s.first,.int .i64 s.count] 74)) ([s.seq,s.fmt,s.first,s.count+1].map iv) 3 4 rfl (by simp[maxLen]) (Nat.le_refl _)
    rw[World.size_alloc] at this
    exact SlR.of_own this
   have HI:=zhd hI
   have hX2:Ext wr ((wr.alloc (.cells #[.int .i64 s.seq,.int .i64 s.fmt,.int .i64 s.first,.int .i64 s.count] 74)).alloc (.cells #[.int .i64 s.seq,.int .i64 s.fmt,.int .i64 s.first,.int .i64 (s.count+1)] 3)):=Ext.alloc hXs _
   have HX2:=zhd hX2
   obtain ⟨P,hP⟩:∃ P,H0++zbO (m.segs.take j)=P:=⟨_,rfl⟩
   have hPl:P.length=6+4*j:=by rw[←hP,List.length_append,hH6,zec,List.length_take];omega
   rw[hP] at Hown
   have HP:=zhd hP
   clear hbs hI hX2 hP
   go_wp2_with (at_builtin;refine zms rfl (.tmp 40) (.tmp 50) rfl w1.heap.size _ P rfl (Hown.out.ext HX2.out) _ [s.seq,s.fmt,s.first,s.count+1] rfl HI.out (by rw[hPl];simp;omega) (Nat.le_trans hbase HX2.out.size) ?_;intro A3 c3 w3 ho3 hG3;rw[hPl] at ho3 ⊢;have hE3:=hG3 w1 (Ext.trans HEr.out HX2.out) (Nat.le_refl _))
   go_roundw
   case rel =>
    refine ⟨j+1,_,_,by omega,by go_num,rfl,zhd ?_,hE3⟩
    rw[Htk.out,←List.append_assoc,HP.out]
    exact ho3
   case measure=>simp[intOf];omega
  ·obtain rfl:j=m.segs.length:=by omega
   have hO2:=Hown.out
   rw[List.take_length,←Hmi.out] at hO2
   have HO2:=zhd hO2
   have hml:(zbM m).length≤2000000:=by rw[Hmi.out,List.length_append,hH6,zec];omega
   have arm:=znb _ _ _ hO2.is Hfin.out hml
   have Arm:=zhd arm
   have hsl:=zcA (zbM m)
   have hml2:(zbM m).length≤246:=by rw[Hmi.out,List.length_append,hH6,zec];omega
   clear hO2 arm Hown HO HEn Hmi HS
   go_wp2_with fail
   refine Arm.out.mono ?_
   rintro e w3 ⟨v3,rfl,ho3,hE3⟩
   have hb3:Bs w3 v3 (zar (zbM m)):=SlR.of_own ho3
   obtain ⟨A3,c3,rfl,_,_⟩:=SlR.open_ hb3
   have HB3:=zhd hb3
   have X3:=zhd (Ext.trans HE.out hE3)
   obtain ⟨L,hL⟩:∃ L,zar (zbM m)=L:=⟨_,rfl⟩
   have hLl:L.length≤2000:=by rw[←hL];omega
   have HL:=zhd hL
   rw[hL] at HB3
   have hll2:(zar (zbM m)).length=L.length:=by rw[hL]
   rw[hll2] at *
   clear hb3 ho3 hL hsl hll2 Arm
   go_wp2_with (at_builtin;refine zdt rfl (.tmp 57) (.tmp 58) rfl w3.heap.size _ [77] rfl (za2 w3 [.int .u8 77] 5 1 rfl (by simp[maxLen]) (Nat.le_refl _)) _ L rfl (HB3.out.ext (Ext.alloc (Ext.refl _) _)) (by simp;omega) (by simp) ?_;intro A4 c4 w4 ho4 hG4;have hE4:Ext w3 w4:=hG4 w3 (Ext.alloc (Ext.refl _) _) (Nat.le_refl _))
   refine (zoG _ _ _ ho4.bs (by simp;omega)).mono ?_
   rintro e w5 ⟨A5,c5,rfl,ho5,hE5⟩
   have hr:zb7 m=some (zaU rT ([77]++L)):=by rw[Hr.out,HL.out];rfl
   go_wp2_with fail
   go_ret2
   rw[hr]
   exact ⟨⟨_,rfl,zah ho5 (Ext.trans X3.out hE4).size⟩,Ext.trans X3.out (Ext.trans hE4 hE5)⟩
end Go.Proofs.YtgonhdeochgkoaaGreatDoor
