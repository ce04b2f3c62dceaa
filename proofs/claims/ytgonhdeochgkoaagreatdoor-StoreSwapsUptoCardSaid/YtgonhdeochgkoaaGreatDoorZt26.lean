/- Merged: DDeed DDone DUsed DFine DRight -/
import Derived.Test.YtgonhdeochgkoaaGreatDoorZt25
set_option linter.all false
set_option maxHeartbeats 8000000
set_option maxRecDepth 100000
namespace Go.Proofs.YtgonhdeochgkoaaGreatDoor
open Go.RowKit Go.Mv Go.Shelf
structure Mg (w w':World) (r:Nat):Prop where
 os:w'.os=w.os
 tape:w'.tape=w.tape
 output:w'.output=w.output
 size:w.heap.size≤w'.heap.size
 block:∀ k,k<w.heap.size→k≠r→w'.heap[k]?=w.heap[k]?
 no:∀ cs t f,w.heap[r]?≠some (.cells cs t f)
theorem zuS {w:World} {r:Nat} {l:List Fil} (h:FMap w r l):∀ cs t f,w.heap[r]?≠some (.cells cs t f):=by
 obtain ⟨es,c,hb,_⟩:=h;intro cs t f e;rw[hb] at e
 cases e
theorem Mg.of_ext {w w':World} {r:Nat} {l:List Fil} (h:Ext w w') (hm:FMap w r l):Mg w w' r:=⟨h.os,h.tape,h.output,h.size,fun k hk _=>h.block k hk,zuS hm⟩
theorem MT.mg {w w':World} {r:Nat} (h:MT w w' r):Mg w w' r:=⟨h.os,h.tape,h.output,Nat.le_of_eq h.size.symm,fun k _ hk=>h.block k hk,h.no⟩
theorem Mg.trans {a b c:World} {r:Nat} (h:Mg a b r) (k:Mg b c r):Mg a c r:=⟨k.os.trans h.os,k.tape.trans h.tape,k.output.trans h.output,Nat.le_trans h.size k.size,fun i hi hne=>(k.block i (Nat.lt_of_lt_of_le hi h.size) hne).trans (h.block i hi hne),h.no⟩
theorem Mg.cell {w w':World} {r:Nat} (h:Mg w w' r) {p:Addr} {u:Value} (hc:w.cell? p=some u):w'.cell? p=some u:=by
 have:p.block≠r:=by
  intro e
  unfold World.cell? at hc
  rw[e] at hc
  split at hc
  ·rename_i h1
   exact h.no _ _ _ h1
  ·cases hc
 have hlt:=World.block_lt_of_cell? _ _ hc
 unfold World.cell? at hc ⊢
 rw[h.block _ hlt this]
 exact hc
theorem Mg.qs {w w':World} {r:Nat} (h:Mg w w' r) {v:Value} {l:List Oq} (hq:Qs w v l):Qs w' v l:=by
 obtain ⟨xs,h1,h2⟩:=hq
 exact ⟨xs,SlR.keep h1 fun _ _ hc=>h.cell hc,h2.keep zcS (h2.fresh zcS) fun _ _ hc _=>h.cell hc⟩
theorem Mg.ext {w0 w w':World} {r:Nat} (h:Mg w w' r) (hE:Ext w0 w) (hr:w0.heap.size≤r):Ext w0 w' :=
 ⟨h.os.trans hE.os,h.tape.trans hE.tape,h.output.trans hE.output,Nat.le_trans hE.size h.size,fun k hk=>(h.block k (Nat.lt_of_lt_of_le hk hE.size) (by omega)).trans (hE.block k hk)⟩
theorem zg4 (w:World):(zeroValue 38).run Tryz.prog w=.ok (.slice none 0 0) w:=by kernel_rfl
def zgh (w:World) (r:Nat) (l:List Fil) (e:Ending) (w':World):Prop:=e=.returned (.tuple #[])∧FMap w' r l∧Mg w w' r
theorem zrm (r:Nat) (l:List Fil) (o:Oq) (v:Value) (w:World) (hM:FMap w r l) (hB:Bs w v o.b):Calls Tryz.prog 193 #[.map (some r),.agg #[.int .u8 o.k,sv o.n,sv o.t,v]] w (zgh w r (zbw o.n [] l)):=by
 obtain ⟨k,n,t,b⟩:=o
 dsimp only at *
 obtain ⟨A,c,rfl,_,_⟩:=SlR.open_ hB
 have hX:Ext w (w.alloc (.cells #[.int .u8 k,sv n,sv t,.slice A b.length c] 86)):=Ext.alloc (Ext.refl _) _
 obtain ⟨g0,g1,g2,g3⟩:=blk4 (Blk.new w 86 #[.int .u8 k,sv n,sv t,.slice A b.length c]);have HM:=zhd (hM.ext hX);have HG:=zhd (Mg.of_ext hX hM);clear hX hM hB
 simp only[sv] at *
 go_enter Tryz.func193,Tryz.ntmps193
 go_wp2_with (at_mapUpdate;refine zgv rfl (.tmp 4) (.tmp 6) (.const (.slice none 0 0)) rfl Tryz.underlying160 Tryz.underlying9 r l rfl HM.out n rfl _ [] rfl (SlR.nil _ 1) ?_;intro w2 hf2 hm2)
 refine bodyPost_end (results_none rfl _ _ _) rfl ?_
 exact ⟨rfl,hf2,HG.out.trans hm2.mg⟩
theorem zrp (r:Nat) (l:List Fil) (o:Oq) (v:Value) (w:World) (hM:FMap w r l) (hB:Bs w v o.b):Calls Tryz.prog 197 #[.map (some r),.agg #[.int .u8 o.k,sv o.n,sv o.t,v]] w (zgh w r (za8 o.n l)):=by
 obtain ⟨k,n,t,b⟩:=o
 dsimp only at *
 obtain ⟨A,c,rfl,_,_⟩:=SlR.open_ hB
 have hX:Ext w (w.alloc (.cells #[.int .u8 k,sv n,sv t,.slice A b.length c] 86)):=Ext.alloc (Ext.refl _) _
 obtain ⟨g0,g1,g2,g3⟩:=blk4 (Blk.new w 86 #[.int .u8 k,sv n,sv t,.slice A b.length c]);have HM:=zhd (hM.ext hX);have HG:=zhd (Mg.of_ext hX hM);clear hX hM hB
 simp only[sv] at *
 go_enter Tryz.func197,Tryz.ntmps197
 go_wp2_with (at_delete;refine zgu rfl (.tmp 4) (.tmp 6) rfl Tryz.underlying160 Tryz.underlying9 r l rfl HM.out n rfl ?_;intro w2 hf2 hm2)
 refine bodyPost_end (results_none rfl _ _ _) rfl ?_
 exact ⟨rfl,hf2,HG.out.trans hm2.mg⟩
theorem zro (r:Nat) (l:List Fil) (o:Oq) (v:Value) (w:World) (hM:FMap w r l) (hB:Bs w v o.b):Calls Tryz.prog 196 #[.map (some r),.agg #[.int .u8 o.k,sv o.n,sv o.t,v]] w (zgh w r (match zae o.n l with | none=>l | some b=>zbw o.t b (za8 o.n l))):=by
 obtain ⟨k,n,t,b⟩:=o
 dsimp only at *
 obtain ⟨A,c,rfl,_,_⟩:=SlR.open_ hB
 have hX:Ext w (w.alloc (.cells #[.int .u8 k,sv n,sv t,.slice A b.length c] 86)):=Ext.alloc (Ext.refl _) _
 have hbx:=Blk.new w 86 #[.int .u8 k,sv n,sv t,.slice A b.length c];obtain ⟨g0,g1,g2,g3⟩:=blk4 hbx;have HM:=zhd (hM.ext hX);have HG:=zhd (Mg.of_ext hX hM);have HBX:=zhd hbx;clear hX hM hB hbx
 simp only[sv] at *
 cases hg:zae n l with
 | none =>
  have HGN:=zhd hg;clear hg
  go_enter Tryz.func196,Tryz.ntmps196
  go_wp2_with (at_lookup;refine zcW rfl (.tmp 7) (.tmp 9) true rfl Tryz.underlying160 Tryz.underlying9 (zg4 _) r l rfl HM.out n rfl ?_;rw[HGN.out];intro A1 c1 hb1;simp only[Option.getD_none,Option.isSome_none,if_true,List.length_nil])
  refine bodyPost_end (results_none rfl _ _ _) rfl ?_
  exact ⟨rfl,HM.out,HG.out⟩
 | some fb =>
  have HGN:=zhd hg;clear hg
  go_enter Tryz.func196,Tryz.ntmps196
  go_wp2_with (first
   | (at_lookup;refine zcW rfl (.tmp 7) (.tmp 9) true rfl Tryz.underlying160 Tryz.underlying9 (zg4 _) r l rfl HM.out n rfl ?_;rw[HGN.out];intro A1 c1 hb1;simp only[Option.getD_some,Option.isSome_some,if_true] at hb1 ⊢)
   | (at_delete;refine zgu rfl (.tmp 14) (.tmp 16) rfl Tryz.underlying160 Tryz.underlying9 r l rfl HM.out n rfl ?_;intro w2 hf2 hm2;have k2:=(blk4 (hm2.blk HBX.out)).2.2.1)
   | (at_mapUpdate;refine zgv rfl (.tmp 17) (.tmp 19) (.tmp 20) rfl Tryz.underlying160 Tryz.underlying9 r _ rfl hf2 t rfl _ fb rfl (hm2.bs hb1) ?_;intro w3 hf3 hm3))
  refine bodyPost_end (results_none rfl _ _ _) rfl ?_
  exact ⟨rfl,hf3,HG.out.trans (hm2.mg.trans hm3.mg)⟩
theorem zo0 {P:Program} {T K E:TypeId} {w:World} {o:Oper} {a:Act} {K':Act→World→Prop} {Q:Exit→Act→World→Prop} (m x v:Operand) (hop:o.op=Op.mapUpdate T m x v) (hT:P.underlying T=some (.map K E)) (hK:P.underlying K=some .string)
  (r:Nat) (l:List Fil) (hm:a.eval m=.map (some r)) (hF:FMap w r l) (n:List UInt8) (hx:a.eval x=sv n) (u:Value) (b:List UInt8) (hv:a.eval v=u) (hb:Bs w u b)
  (h:∀ w',FMap w' r (zbw n b l)→MT w w' r→K' (a.put o.dst undef) w'):Oper.wp P o a w K' Q:=by
 obtain ⟨w',hrun,h1,h2⟩:=hF.update hT hK n hb;unfold Oper.wp
 simp[execOp,hop,hm,hx,hv,hrun,Result.andThen]
 exact h w' h1 h2
theorem zrn (r:Nat) (l:List Fil) (o:Oq) (v:Value) (w:World) (hM:FMap w r l) (hB:Bs w v o.b) (hl:((zae o.n l).getD []).length+o.b.length≤70000000):Calls Tryz.prog 194 #[.map (some r),.agg #[.int .u8 o.k,sv o.n,sv o.t,v]] w (zgh w r (match zae o.n l with | none=>l | some b=>zbw o.n (b++o.b) l)):=by
 obtain ⟨k,n,t,b⟩:=o
 dsimp only at *
 obtain ⟨A,c,rfl,_,_⟩:=SlR.open_ hB
 have hX:Ext w (w.alloc (.cells #[.int .u8 k,sv n,sv t,.slice A b.length c] 86)):=Ext.alloc (Ext.refl _) _
 have hbx:=Blk.new w 86 #[.int .u8 k,sv n,sv t,.slice A b.length c];obtain ⟨g0,g1,g2,g3⟩:=blk4 hbx;have HM:=zhd (hM.ext hX);have HG:=zhd (Mg.of_ext hX hM);have HBX:=zhd hbx;have HB:=zhd (hB.ext hX);clear hX hM hB hbx
 simp only[sv] at *
 cases hg:zae n l with
 | none =>
  have HGN:=zhd hg;clear hg hl
  go_enter Tryz.func194,Tryz.ntmps194
  go_wp2_with (at_lookup;refine zcW rfl (.tmp 7) (.tmp 9) true rfl Tryz.underlying160 Tryz.underlying9 (zg4 _) r l rfl HM.out n rfl ?_;rw[HGN.out];intro A1 c1 hb1;simp only[Option.getD_none,Option.isSome_none,if_true,List.length_nil])
  refine bodyPost_end (results_none rfl _ _ _) rfl ?_
  exact ⟨rfl,HM.out,HG.out⟩
 | some fb =>
  rw[hg] at hl;simp only[Option.getD_some] at hl;have HGN:=zhd hg;have HL:=zhd hl;clear hg hl
  go_enter Tryz.func194,Tryz.ntmps194
  go_wp2_with (at_lookup;refine zcW rfl (.tmp 7) (.tmp 9) true rfl Tryz.underlying160 Tryz.underlying9 (zg4 _) r l rfl HM.out n rfl ?_;rw[HGN.out];intro A1 c1 hb1;simp only[Option.getD_some,Option.isSome_some,if_true] at hb1 ⊢)
  have HB1:=zhd hb1;clear hb1
  refine wp_region_held_drew (S:=fun W=>W.cell? ⟨w.heap.size,1,none⟩=some (.string ⟨n.toArray⟩)∧W.cell? ⟨w.heap.size,3,none⟩=some (.slice A b.length c)) (by kernel_rfl) ⟨g1,g3⟩ (fun _=>?_)
  refine tkN 0 rfl ?_;refine tkN 1 rfl ?_;refine tkN 2 rfl ?_;refine tkN 3 rfl ?_;refine tkN 4 rfl ?_;refine tkN 5 rfl ?_
  refine ar1 6 rfl (fun K hK=>?_)
  go_simp
  have X6:Ext (w.alloc (.cells #[.int .u8 k,.string ⟨n.toArray⟩,.string ⟨t.toArray⟩,.slice A b.length c] 86)) ((w.alloc (.cells #[.int .u8 k,.string ⟨n.toArray⟩,.string ⟨t.toArray⟩,.slice A b.length c] 86)).alloc (.cells #[.slice A1 fb.length c1,.slice A b.length c] 38)).drew:=Ext.drew (Ext.alloc (Ext.refl _) _)
  have hpr:Parts ((w.alloc (.cells #[.int .u8 k,.string ⟨n.toArray⟩,.string ⟨t.toArray⟩,.slice A b.length c] 86)).alloc (.cells #[.slice A1 fb.length c1,.slice A b.length c] 38)).drew (.slice (some ⟨w.heap.size+1,0,none⟩) 2 2) [fb,b]:=by
   have:=Parts.ext (zvW HB1.out HB.out) (Ext.drew (Ext.refl _))
   rwa [World.size_alloc] at this
  have HX6:=zhd X6;have HPR:=zhd hpr;have HG1:=zhd g1;have HG3:=zhd g3
  refine shK hK _ _ ⟨X6.cell g1,X6.cell g3⟩ (fun _=>?_)
  clear X6 hpr g0 g1 g2 g3
  refine ar1 7 rfl (fun K hK=>?_)
  go_simp
  refine (zeu _ [fb,b] _ HPR.out (by have:=HL.out;simp;omega)).mono ?_
  rintro e w7 ⟨v7,rfl,ho7,e7⟩
  rw[show [fb,b].flatten=fb++b from by simp] at ho7
  have hb7:Bs w7 v7 (fb++b):=SlR.of_own ho7
  have HB7:=zhd hb7;have HX7:=zhd (Ext.trans HX6.out e7);clear ho7 e7 hb7
  refine shK hK _ _ ⟨HX7.out.cell HG1.out,HX7.out.cell HG3.out⟩ (fun _=>?_)
  refine ar1 8 rfl (fun K hK=>?_)
  refine zo0 (.tmp 14) (.tmp 16) (.tmp 21) (by rfl) Tryz.underlying160 Tryz.underlying9 r l (by rfl) (HM.out.ext HX7.out) n (by rfl) _ (fb++b) (by rfl) HB7.out ?_
  intro w8 hf8 hm8
  refine shK hK _ _ ⟨hm8.cell (HX7.out.cell HG1.out),hm8.cell (HX7.out.cell HG3.out)⟩ (fun _=>?_)
  refine wpAnyH_done (by kernel_rfl) ?_ _;go_wp2_with fail
  refine bodyPost_end (results_none rfl _ _ _) rfl ?_
  exact ⟨rfl,hf8,HG.out.trans ((Mg.of_ext HX7.out HM.out).trans hm8.mg)⟩
def ddMap:Array MapEntry:=#[{ key:=.int .u8 1,val:=.func (.func 193) #[] #[],born:=0 },{ key:=.int .u8 2,val:=.func (.func 194) #[] #[],born:=1 },
 { key:=.int .u8 3,val:=.func (.func 196) #[] #[],born:=2 },{ key:=.int .u8 4,val:=.func (.func 197) #[] #[],born:=3 }]
theorem zmv (w:World) (es:Array MapEntry) (c:Nat) (n:Int) (v:Value) (hn:Instr.findNow (.int .u8) (.int .u8 n) es.toList 0=some none) :
  (Instr.mapUpdate 207 (.map (some w.heap.size)) (.int .u8 n) v).run Tryz.prog (w.alloc (.map es c))=.ok () (w.alloc (.map (es.push { key:=.int .u8 n,val:=v,born:=c }) (c+1))) :=
 zdX w .u8 Tryz.underlying207 Tryz.underlying5 es c n v hn
theorem zkw (w:World):Calls Tryz.prog 165 #[] w fun e w'=>e=.returned (.map (some w.heap.size))∧w.alloc (.map ddMap 4)=w':=by
 have hmm:=@run_makeMap Tryz.prog;have h0:=zmv w #[] 0 1 (.func (.func 193) #[] #[]) rfl;have h1:=zmv w #[{ key:=.int .u8 1,val:=.func (.func 193) #[] #[],born:=0 }] 1 2 (.func (.func 194) #[] #[]) rfl;have h2:=zmv w #[{ key:=.int .u8 1,val:=.func (.func 193) #[] #[],born:=0 },{ key:=.int .u8 2,val:=.func (.func 194) #[] #[],born:=1 }] 2 3 (.func (.func 196) #[] #[]) rfl;have h3:=zmv w #[{ key:=.int .u8 1,val:=.func (.func 193) #[] #[],born:=0 },{ key:=.int .u8 2,val:=.func (.func 194) #[] #[],born:=1 },{ key:=.int .u8 3,val:=.func (.func 196) #[] #[],born:=2 }] 3 4 (.func (.func 197) #[] #[]) rfl;simp only[List.push_toArray,List.nil_append,List.cons_append,Nat.reduceAdd] at h0 h1 h2 h3
 go_enter Tryz.func165,Tryz.ntmps165
 go_wp2
 go_ret
 exact ⟨rfl,rfl⟩
def zdR (k:Int):Value:=if k=1 then .func (.func 193) #[] #[] else if k=2 then .func (.func 194) #[] #[] else if k=3 then .func (.func 196) #[] #[] else if k=4 then .func (.func 197) #[] #[] else .nilFunc
theorem zin (k:Int) (W:World) (r:Nat) (h:W.heap[r]?=some (.map ddMap 4)) :
  (Instr.lookup 207 (.map (some r)) (.int .u8 k) false).run Tryz.prog W=.ok (zdR k) W:=by
 have key:∃ f,Instr.findNow (.int .u8) (.int .u8 k) ddMap.toList 0=some f∧(f.map (·.2)).getD .nilFunc=zdR k:=by
  by_cases h1:k=1
  ·subst h1;exact ⟨_,rfl,rfl⟩
  by_cases h2:k=2
  ·subst h2;exact ⟨_,rfl,rfl⟩
  by_cases h3:k=3
  ·subst h3;exact ⟨_,rfl,rfl⟩
  by_cases h4:k=4
  ·subst h4;exact ⟨_,rfl,rfl⟩
  refine ⟨none,?_,?_⟩
  ·have e1:(k==1)=false:=by simp[h1]
   have e2:(k==2)=false:=by simp[h2]
   have e3:(k==3)=false:=by simp[h3]
   have e4:(k==4)=false:=by simp[h4]
   simp[ddMap,Instr.findNow,Instr.sameNow,e1,e2,e3,e4]
  ·simp[zdR,h1,h2,h3,h4]
 obtain ⟨f,hf,hv⟩:=key
 have:=zgX (P:=Tryz.prog) W .u8 Tryz.underlying207 Tryz.underlying5 ddMap 4 k .nilFunc (by kernel_rfl) h f hf
 rw[this,hv]
theorem mcDDonea0 {P:Prop} (h:P:=by
 all_goals
  refine wpIn_goto ?_
  try simp only[Exit.then]
  refine zah (by simp) ⟨⟨q1,_,_,zbn l1 ⟨ok,on,ot,ob⟩,_,_,_,_,_,_,_,_,_,_,_,_,_,_,_,_,_,_,_,_,_,?_,rfl⟩,by simp[lenOf]⟩
  refine ⟨hf3,?_,HFT.out,HG2.out.trans hm3,by have h9:=zek l1 ⟨ok,on,ot,ob⟩;have:=HTB.out;dsimp only at h9;omega,hll⟩
  first
   | exact Qs.tail (hm3.qs HQ2.out) _ (fun _=>rfl)
   | (have h9:=Qs.tail (hm3.qs HQ2.out) (some ⟨b,off,none⟩) (fun h=>by omega);rwa [show c1-1=0 from by omega] at h9)):P:=h
theorem Qs.tail {W:World} {b off c:Nat} {o:Oq} {q:List Oq} (h:Qs W (.slice (some ⟨b,off,none⟩) (o::q).length c) (o::q)) (A:Option Addr) (hA:0<q.length→A=some ⟨b,off+4,none⟩):Qs W (.slice A q.length (c-1)) q:=by
 obtain ⟨xs,h1,h2⟩:=h;obtain ⟨hl,A',c',e,g1,g2,g3⟩:=h1
 cases e
 have hx:xs.length=(q.length+1)*4:=by rw[hl];rfl
 refine ⟨xs.drop 4,⟨by rw[List.length_drop,hx];omega,A,c-1,rfl,by simp at g1;omega,by omega,fun hn=>?_⟩,by rw[List.length_drop,hx];omega,fun k hk=>?_⟩
 ·obtain ⟨b',off',e',hc⟩:=g3 (Nat.succ_pos _)
  cases e'
  refine ⟨b,off+4,hA hn,fun j u hu=>?_⟩
  rw[List.getElem?_drop] at hu
  have:=hc (4+j) u hu
  rwa [←Nat.add_assoc] at this
 ·have:=h2.2 (k+1) (by simpa using hk)
  have e:(fun i=>if i<4 then (xs.drop 4)[k*4+i]? else none)=fun i=>if i<4 then xs[(k+1)*4+i]? else none:=by
   funext i
   split
   ·rw[List.getElem?_drop]
    congr 1
    omega
   ·rfl
  rw[e]
  simpa using this
theorem zuL (r:Nat) (l:List Fil) (o:Oq) (v:Value) (w:World) (hM:FMap w r l) (hB:Bs w v o.b) (hk:o.k=1):Calls Tryz.prog 193 #[.map (some r),.agg #[.int .u8 o.k,sv o.n,sv o.t,v]] w (zgh w r (zbn l o)):=by
 have:=zrm r l o v w hM hB
 unfold zbn
 rwa [if_pos hk]
theorem zuM (r:Nat) (l:List Fil) (o:Oq) (v:Value) (w:World) (hM:FMap w r l) (hB:Bs w v o.b) (hl:tot l+o.b.length≤70000000) (hk:o.k=2):Calls Tryz.prog 194 #[.map (some r),.agg #[.int .u8 o.k,sv o.n,sv o.t,v]] w (zgh w r (zbn l o)):=by
 have:=zrn r l o v w hM hB (by have:=zpW o.n l;omega)
 unfold zbn
 rwa [if_neg (by omega),if_pos hk]
theorem zuN (r:Nat) (l:List Fil) (o:Oq) (v:Value) (w:World) (hM:FMap w r l) (hB:Bs w v o.b) (hk:o.k=3):Calls Tryz.prog 196 #[.map (some r),.agg #[.int .u8 o.k,sv o.n,sv o.t,v]] w (zgh w r (zbn l o)):=by
 have:=zro r l o v w hM hB
 unfold zbn
 rwa [if_neg (by omega),if_neg (by omega),if_pos hk]
theorem zuO (r:Nat) (l:List Fil) (o:Oq) (v:Value) (w:World) (hM:FMap w r l) (hB:Bs w v o.b) (hk:o.k=4):Calls Tryz.prog 197 #[.map (some r),.agg #[.int .u8 o.k,sv o.n,sv o.t,v]] w (zgh w r (zbn l o)):=by
 have:=zrp r l o v w hM hB
 unfold zbn
 rwa [if_neg (by omega),if_neg (by omega),if_neg (by omega),if_pos hk]
theorem zpQ {l:List Fil} {o:Oq} (h1:o.k≠1) (h2:o.k≠2) (h3:o.k≠3) (h4:o.k≠4):zbn l o=l:=by
 unfold zbn;rw[if_neg h1,if_neg h2,if_neg h3,if_neg h4]
theorem zpa (f:Nat) (W:World):(binOp BinOp.neq 206 (.func (.func f) #[] #[]) .nilFunc).run Tryz.prog W=.ok (.bool true) W:=by
 have h:∀ d:Nat,(Op.equalIn (d+1) 206 (.func (.func f) #[] #[]) .nilFunc).run Tryz.prog W=.ok false W:=fun d=>by
  simp[Op.equalIn,run_underlying Tryz.underlying206]
 simp only[binOp]
 simp[Op.equal,Op.maxDepth,h 9999]
theorem zpb (W:World):(binOp BinOp.neq 206 .nilFunc .nilFunc).run Tryz.prog W=.ok (.bool false) W:=by
 have h:∀ d:Nat,(Op.equalIn (d+1) 206 .nilFunc .nilFunc).run Tryz.prog W=.ok true W:=fun d=>by
  simp[Op.equalIn,run_underlying Tryz.underlying206]
 simp only[binOp]
 simp[Op.equal,Op.maxDepth,h 9999]
def lenOf:Value→Nat
 | .slice _ n _=>n
 | _=>0
structure DnI (r:Nat) (T:List Fil) (w:World) (q:List Oq) (v:Value) (l:List Fil) (W:World):Prop where
 fm:FMap W r l
 qs:Qs W v q
 ft:q.foldl zbn l=T
 mg:Mg w W r
 bb:tot l+zaT q≤70000000
 ll:q.length≤2000000
def DnR (r:Nat) (T:List Fil) (w:World) (a:Act) (W:World):Prop :=
 ∃ (q:List Oq) (A:Option Addr) (c:Nat) (l:List Fil) (u5 u6 u7 u8 u9 u10 u11 u12 u13 u14 u15 u16 u17 u18 u19 u20 u21 u22 u23 u24 u25:Value),Hid (DnI r T w q (.slice A q.length c) l W)∧a=⟨#[.map (some r),.slice A q.length c,undef,undef,.map none,u5,u6,u7,u8,u9,u10,u11,u12,u13,u14,u15,u16,u17,u18,u19,u20,u21,u22,u23,u24,u25],[]⟩
theorem zrl (r:Nat) (l:List Fil) (q:List Oq) (vq:Value) (w:World) (hM:FMap w r l) (hQ:Qs w vq q) (hb:tot l+zaT q≤70000000) (hl:q.length≤2000000) :
  Calls Tryz.prog 149 #[.map (some r),vq] w fun e w'=>e=.returned (.map (some r))∧FMap w' r (q.foldl zbn l)∧Mg w w' r:=by
 obtain ⟨A,c,rfl,_,_⟩:=Qs.open_ hQ;obtain ⟨T,hT⟩:∃ T,q.foldl zbn l=T:=⟨_,rfl⟩
 have H0:=zhd (show DnI r T w q (.slice A q.length c) l w from ⟨hM,hQ,hT,Mg.of_ext (Ext.refl _) hM,hb,hl⟩)
 rw[hT];clear hM hQ hT hb
 refine (callsIn_wd (ro:=none) (n:=9)).1 ?_
 refine callsIn_of_wp Tryz.func149 rfl trivial ?_ rfl
 simp only[Tryz.ntmps149,List.size_toArray,List.length_cons,List.length_nil,Nat.reduceAdd,Nat.reduceSub,Array.replicate_succ,Array.replicate_zero,List.push_toArray,List.append_toArray,List.nil_append,List.cons_append]
 gi_wp2
 refine zbq 0 (DnR r T w) (fun a _=>lenOf (a.tmps.getD 1 undef)) rfl (fun l' h=>by cases l' <;> first | exact absurd rfl h | rfl) ?_ ?_
 ·intro hrest
  have Hrest:=zhd hrest;clear hrest
  gi_wp2
  refine wpIn_label ?_
  gi_step
  gi_step
  exact Hrest.out _ _ ⟨q,A,c,l,_,_,_,_,_,_,_,_,_,_,_,_,_,_,_,_,_,_,_,_,_,H0,rfl⟩
 ·clear H0 hl
  rintro a w1 ⟨q1,A1,c1,l1,u5,u6,u7,u8,u9,u10,u11,u12,u13,u14,u15,u16,u17,u18,u19,u20,u21,u22,u23,u24,u25,HI,rfl⟩
  cases q1 with
  | nil =>
   gi_wp2
   refine zas ?_
   go_ret
   have:=HI.out.ft
   exact ⟨rfl,by rw[←this];exact HI.out.fm,HI.out.mg⟩
  | cons o q1 =>
   obtain ⟨_,b,off,rfl,hc⟩:=HI.out.qs.at_ (by simp);obtain ⟨k0,k1,k2,B,d,k3,hbs⟩:=hc 0 (by simp);simp only[List.getElem_cons_zero,Nat.zero_mul,Nat.add_zero] at k0 k1 k2 k3 hbs;have hl1:=HI.out.ll
   have hz:(((q1.length:Nat):Int)+1==0)=false:=by simp;omega
   have HBS:=zhd hbs;obtain ⟨_,_,e,hcc,hcm⟩:=Qs.open_ HI.out.qs
   cases e
   clear hc hbs;obtain ⟨ok,on,ot,ob⟩:=o
   dsimp only at *
   simp only[List.length_cons] at *
   gi_wp2
   refine zc9 (S:=fun W=>W.cell? ⟨b,off,none⟩=some (.int .u8 ok)) (by kernel_rfl) k0 (fun _=>?_)
   refine tkN 1 rfl ?_;refine tkN 2 rfl ?_;refine tkN 3 rfl ?_;refine tkN 4 rfl ?_
   refine ar1 0 rfl (fun K hK=>?_)
   go_simp
   refine (zkw _).mono ?_
   rintro e w2 ⟨rfl,hw2⟩
   have hE2:Ext w1 w2:=by rw[←hw2];exact Ext.alloc (Ext.drew (Ext.refl _)) _
   have hmap:w2.heap[w1.drew.heap.size]?=some (.map ddMap 4):=by rw[←hw2];exact World.alloc_heap_new _ _
   have hlk:=zin ok w2 _ hmap;clear hw2 hmap
   generalize w1.drew.heap.size=N at *
   have e0:=hE2.cell k0
   refine shK hK _ _ e0 (fun _=>?_)
   refine ar1 5 rfl (fun K hK=>?_)
   go_simp
   refine shK hK _ _ e0 (fun _=>?_)
   refine tkN 6 rfl ?_;refine wpAnyH_done (by kernel_rfl) ?_ _
   refine zdW ?_
   have f1:w2.cell? ⟨b,off+1,none⟩=some (.string ⟨on.toArray⟩):=hE2.cell k1
   have f2:w2.cell? ⟨b,off+2,none⟩=some (.string ⟨ot.toArray⟩):=hE2.cell k2
   have f3:=hE2.cell k3;have HE2:=zhd hE2;have HM2:=zhd (HI.out.fm.ext hE2);have HB2:=zhd (Bs.ext HBS.out hE2);have HQ2:=zhd (HI.out.qs.ext hE2);have HG2:=zhd (HI.out.mg.trans (Mg.of_ext hE2 HI.out.fm));have HFT:=zhd HI.out.ft
   have htb:tot l1+(ob.length+zaT q1)≤70000000:=by have:=HI.out.bb;rw[zb9] at this;exact this
   have HTB:=zhd htb
   have hll:q1.length≤2000000:=by omega
   clear hlk k0 k1 k2 k3 hE2 HBS HI htb;have hnf:=zpa;have hnn:=zpb
   by_cases hk1:ok=1
   ·have hd:zdR ok=.func (.func 193) #[] #[]:=by subst hk1;rfl
    have HK:=zhd hk1;rw[hd];clear hk1 hd
    gi_wp2_with (refine ⟨trivial,?_⟩;gi_at_call 193;refine (callsIn_wd.2 (zuL r l1 ⟨ok,on,ot,ob⟩ _ w2 HM2.out HB2.out HK.out)).mono ?_;rintro e w3 ⟨rfl,hf3,hm3⟩)
    all_goals exact mcDDonea0
   by_cases hk2:ok=2
   ·have hd:zdR ok=.func (.func 194) #[] #[]:=by subst hk2;rfl
    have HK:=zhd hk2;rw[hd];clear hk2 hd
    gi_wp2_with (refine ⟨trivial,?_⟩;gi_at_call 194;refine (callsIn_wd.2 (zuM r l1 ⟨ok,on,ot,ob⟩ _ w2 HM2.out HB2.out (by have:=HTB.out;dsimp only;omega) HK.out)).mono ?_;rintro e w3 ⟨rfl,hf3,hm3⟩)
    all_goals exact mcDDonea0
   by_cases hk3:ok=3
   ·have hd:zdR ok=.func (.func 196) #[] #[]:=by subst hk3;rfl
    have HK:=zhd hk3;rw[hd];clear hk3 hd
    gi_wp2_with (refine ⟨trivial,?_⟩;gi_at_call 196;refine (callsIn_wd.2 (zuN r l1 ⟨ok,on,ot,ob⟩ _ w2 HM2.out HB2.out HK.out)).mono ?_;rintro e w3 ⟨rfl,hf3,hm3⟩)
    all_goals exact mcDDonea0
   by_cases hk4:ok=4
   ·have hd:zdR ok=.func (.func 197) #[] #[]:=by subst hk4;rfl
    have HK:=zhd hk4;rw[hd];clear hk4 hd
    gi_wp2_with (refine ⟨trivial,?_⟩;gi_at_call 197;refine (callsIn_wd.2 (zuO r l1 ⟨ok,on,ot,ob⟩ _ w2 HM2.out HB2.out HK.out)).mono ?_;rintro e w3 ⟨rfl,hf3,hm3⟩)
    all_goals exact mcDDonea0
   have hd:zdR ok=.nilFunc:=by unfold zdR;rw[if_neg hk1,if_neg hk2,if_neg hk3,if_neg hk4]
   rw[hd];clear hd
   gi_wp2
   all_goals
    refine wpIn_goto ?_
    try simp only[Exit.then]
    refine zah (by simp) ⟨⟨q1,_,_,l1,_,_,_,_,_,_,_,_,_,_,_,_,_,_,_,_,_,_,_,_,_,?_,rfl⟩,by simp[lenOf]⟩
    refine ⟨HM2.out,?_,by have h9:=HFT.out;rw[List.foldl_cons,zpQ hk1 hk2 hk3 hk4] at h9;exact h9,HG2.out,by have:=HTB.out;omega,hll⟩
    first
     | exact Qs.tail HQ2.out _ (fun _=>rfl)
     | (have h9:=Qs.tail HQ2.out (some ⟨b,off,none⟩) (fun h=>by omega);rwa [show c1-1=0 from by omega] at h9)
theorem zjO (v:Value) (d:Dk) (w:World) (hD:DkV w v d) (hl1:d.fs.length≤2000000) (hl2:d.q.length≤2000000) (hb:tot d.fs+zaT d.q≤70000000) :
  Calls Tryz.prog 115 #[v] w fun e w'=>∃ r,e=.returned (.map (some r))∧FMap w' r (zbF d.fs d.q)∧w.heap.size≤r∧Ext w w':=by
 obtain ⟨vf,vq,rfl,hF,hQ⟩:=hD;obtain ⟨A,c,rfl,_,_⟩:=Fs.open_ hF;obtain ⟨B,e2,rfl,_,_⟩:=Qs.open_ hQ
 have hE0:Ext w (w.alloc (.cells #[.slice A d.fs.length c,.slice B d.q.length e2,.int .i64 d.quota,.int .i64 d.fuse,.bool d.dead] 25)):=Ext.alloc (Ext.refl _) _
 have hb0:=Blk.new w 25 #[.slice A d.fs.length c,.slice B d.q.length e2,.int .i64 d.quota,.int .i64 d.fuse,.bool d.dead];have HF:=zhd (hF.ext hE0);have HQ:=zhd (hQ.ext hE0);have HE0:=zhd hE0;have HB0:=zhd hb0;have HB:=zhd hb;clear hF hQ hE0 hb0 hb;obtain ⟨g0,g1,g2,g3,g4⟩:=zac HB0.out
 go_enter Tryz.func115,Tryz.ntmps115
 go_wp2_with fail
 refine wp_region_held_drew (S:=fun W=>W.cell? ⟨w.heap.size,0,none⟩=some (.slice A d.fs.length c)∧W.cell? ⟨w.heap.size,1,none⟩=some (.slice B d.q.length e2)) (by kernel_rfl) ⟨g0,g1⟩ (fun _=>?_)
 refine tkN 0 rfl ?_;refine tkN 1 rfl ?_;refine tkN 3 rfl ?_;refine tkN 4 rfl ?_
 refine ar1 2 rfl (fun K hK=>?_)
 go_simp
 refine (zqI _ d.fs _ (Fs.ext HF.out (Ext.drew (Ext.refl _))) hl1).mono ?_
 rintro e w1 ⟨r,rfl,hm1,hr1,hE1'⟩;have hE1:=Ext.trans (Ext.drew (Ext.refl _)) hE1';have HM1:=zhd hm1;have HE1:=zhd hE1;have HG0:=zhd g0;have HG1:=zhd g1
 have hr:w.heap.size≤r:=Nat.le_trans HE0.out.size hr1
 clear g0 g1 g2 g3 g4 hm1 hE1 hE1' hr1
 refine shK hK _ _ ⟨HE1.out.cell HG0.out,HE1.out.cell HG1.out⟩ (fun _=>?_)
 refine ar1 5 rfl (fun K hK=>?_)
 go_simp
 refine (zrl r (zcN d.fs) d.q _ w1 HM1.out (HQ.out.ext HE1.out) (by have:=ziP d.fs;have:=HB.out;omega) hl2).mono ?_
 rintro e w2 ⟨rfl,hm2,hg2⟩;have HM2:=zhd hm2;have HG2:=zhd hg2;clear hm2 hg2
 refine shK hK _ _ ⟨HG2.out.cell (HE1.out.cell HG0.out),HG2.out.cell (HE1.out.cell HG1.out)⟩ (fun _=>?_)
 refine tkN 6 rfl ?_;refine wpAnyH_done (by kernel_rfl) ?_ _;go_wp2_with fail;go_ret
 exact ⟨r,rfl,HM2.out,hr,HG2.out.ext (Ext.trans HE0.out HE1.out) hr⟩
def zhy (W:World) (r i:Nat):Nat:=match W.heap[i]?,W.heap[r]? with
 | some (.mapIter _ _ seen _),some (.map es _)=>(es.toList.filter fun e=>!seen.contains e.born).length
 | _,_=>0
theorem FIt.left {W:World} {r i:Nat} {l L:List Fil} (h:FIt W r i l L):zhy W r i=L.length:=by
 obtain ⟨es,clock,since,seen,c0,Z,h1,h2,h3,h4,h5,h5',h6,h7,h8,h9⟩:=h;unfold zhy;rw[h2,h1];dsimp only;rw[h6,h9,List.length_map,List.filter_map,List.length_map];rfl
structure UsI (r i:Nat) (l:List Fil) (w:World) (n:Nat) (W:World):Prop where
 ex:∃ L,FIt W r i l L∧n+tot L=tot l
 e:Ext w W
theorem znM (r:Nat) (l:List Fil) (w:World) (hM:FMap w r l) (hb:tot l≤2000000000):Calls Tryz.prog 135 #[.map (some r)] w fun e w'=>e=.returned (.int .i64 (tot l))∧Ext w w':=by
 go_enter Tryz.func135,Tryz.ntmps135
 go_wp2_with (at_range;refine zlv rfl (.tmp 5) rfl Tryz.underlying160 r l rfl hM ?_;intro w1 hi1 hE1)
 have HU:=zhd (show UsI r w.heap.size l w 0 w1 from ⟨⟨l,hi1,by omega⟩,hE1⟩)
 clear hi1 hE1 hM
 go_frame
 go_loopw [2,4] (fun n b wr=>∃ k:Nat,n=.int .i64 k∧Hid (UsI r w.heap.size l w k wr)) (fun _ _ wr=>zhy wr r w.heap.size)
 case atStart=>exact ⟨0,rfl,HU⟩
 case round =>
  obtain ⟨k,rfl,HI⟩:=hrel;obtain ⟨L,hI,ht⟩:=HI.out.ex;have HE:=zhd HI.out.e;have HLN:=zhd hI.left;clear HI HU
  go_wp2_with (at_next;refine zmo rfl (.tmp 6) rfl r w.heap.size l L rfl hI ?_ ?_)
  ·intro hL
   subst hL
   have hk:k=tot l:=by simp[tot] at ht ⊢;omega
   subst hk;go_wp2_with fail;go_ret
   exact ⟨rfl,HE.out⟩
  ·intro n b A c L' w2 hp hI2 hb2 hm2 hri hent
   have htp:=znK hp;rw[zc1] at htp;dsimp only at htp;have hlp:=hp.length_eq;rw[List.length_cons] at hlp
   have HLP:=zhd (show zhy w2 r w.heap.size<zhy wr r w.heap.size by rw[hI2.left,HLN.out];omega)
   have HU2:=zhd (show UsI r w.heap.size l w (k+b.length) w2 from ⟨⟨L',hI2,by omega⟩,hm2.ext HE.out (Nat.le_refl _)⟩)
   have hk:k+b.length≤2000000000:=by omega
   clear hI hI2 hm2 hp hlp htp ht HLN HE hb2 hri
   simp only[sv] at hent ⊢
   go_wp2_with fail
   go_roundw
   case rel=>exact ⟨k+b.length,by go_num,HU2⟩
   case measure=>exact HLP.out
theorem zs8 (v:Value) (d:Dk) (w:World) (hD:DkV w v d) (hl1:d.fs.length≤2000000) (hl2:d.q.length≤2000000) (hb:tot d.fs+zaT d.q≤70000000) :
  Calls Tryz.prog 192 #[v] w fun e w'=>e=.returned (.int .i64 (tot d.now))∧Ext w w':=by
 obtain ⟨vf,vq,rfl,hF,hQ⟩:=hD;obtain ⟨A,c,rfl,_,_⟩:=Fs.open_ hF;obtain ⟨B,e2,rfl,_,_⟩:=Qs.open_ hQ
 have hE0:Ext w (w.alloc (.cells #[.slice A d.fs.length c,.slice B d.q.length e2,.int .i64 d.quota,.int .i64 d.fuse,.bool d.dead] 25)):=Ext.alloc (Ext.refl _) _
 have hb0:=Blk.new w 25 #[.slice A d.fs.length c,.slice B d.q.length e2,.int .i64 d.quota,.int .i64 d.fuse,.bool d.dead]
 have hc:=zjO _ d _ (show DkV _ _ d from ⟨_,_,rfl,hF.ext hE0,hQ.ext hE0⟩) hl1 hl2 hb
 have HC:=zhd hc;have HE0:=zhd hE0;have htn:=zgd d.fs d.q
 have hnow:tot d.now=tot (zbF d.fs d.q):=zfY d.fs d.q
 have HN:=zhd hnow
 have HT:=zhd (show tot (zbF d.fs d.q)≤2000000000 by omega)
 clear hF hQ hE0 hc htn hnow hb;obtain ⟨g0,g1,g2,g3,g4⟩:=zac hb0;clear hb0
 go_enter Tryz.func192,Tryz.ntmps192
 go_wp2_with fail
 refine HC.out.mono ?_
 rintro e w1 ⟨r,rfl,hm1,hr1,hE1⟩;have HM1:=zhd hm1;have HE1:=zhd (Ext.trans HE0.out hE1);clear hm1 hr1 hE1 g0 g1 g2 g3 g4 HC;go_wp2_with fail
 refine (znM r _ w1 HM1.out HT.out).mono ?_
 rintro e w2 ⟨rfl,hE2⟩;go_wp2_with fail;go_ret
 exact ⟨by rw[HN.out];rfl,Ext.trans HE1.out hE2⟩
theorem zrq {k:Int} (h:k=1∨k=2∨k=3∨k=4):∃ f,zdR k=.func (.func f) #[] #[]:=by
 unfold zdR
 rcases h with rfl | rfl | rfl | rfl <;> exact ⟨_,rfl⟩
theorem zpP {k:Int} (h:¬ (k=1∨k=2∨k=3∨k=4)):zdR k=.nilFunc:=by
 unfold zdR;rw[if_neg (by omega),if_neg (by omega),if_neg (by omega),if_neg (by omega)]
theorem zlC (o:Oq) (v:Value) (w:World) (hB:Bs w v o.b):Calls Tryz.prog 134 #[.agg #[.int .u8 o.k,sv o.n,sv o.t,v]] w fun e w'=>e=.returned (.bool (zbi o))∧Ext w w':=by
 obtain ⟨A,c,rfl,_,_⟩:=SlR.open_ hB;obtain ⟨k,n,t,b⟩:=o
 dsimp only at *
 have hX:Ext w (w.alloc (.cells #[.int .u8 k,sv n,sv t,.slice A b.length c] 86)):=Ext.alloc (Ext.refl _) _
 have hbx:=Blk.new w 86 #[.int .u8 k,sv n,sv t,.slice A b.length c];have HX:=zhd hX;have HBX:=zhd hbx
 have HK:=zhd (fun W r h=>zin k W r h)
 have hnf:=zpa;have hnn:=zpb;clear hX hbx hB
 simp only[sv] at *
 obtain ⟨F,hF⟩:∃ F,zbi ⟨k,n,t,b⟩=F:=⟨_,rfl⟩;rw[hF];have HF:=zhd hF;clear hF;obtain ⟨g0,g1,g2,g3⟩:=blk4 HBX.out
 go_enter Tryz.func134,Tryz.ntmps134
 go_wp2_with fail
 refine wp_region_held_drew (S:=fun W=>W.cell? ⟨w.heap.size,0,none⟩=some (.int .u8 k)∧W.cell? ⟨w.heap.size,1,none⟩=some (.string ⟨n.toArray⟩)∧W.cell? ⟨w.heap.size,2,none⟩=some (.string ⟨t.toArray⟩)) (by kernel_rfl) ⟨g0,g1,g2⟩ (fun _=>?_)
 refine tkN 1 rfl ?_;refine tkN 2 rfl ?_
 refine ar1 0 rfl (fun K hK=>?_)
 go_simp
 refine (zkw _).mono ?_
 rintro e w2 ⟨rfl,hw2⟩
 have hE2:Ext (w.alloc (.cells #[.int .u8 k,.string ⟨n.toArray⟩,.string ⟨t.toArray⟩,.slice A b.length c] 86)) w2:=by rw[←hw2];exact Ext.alloc (Ext.drew (Ext.refl _)) _
 have hmap:w2.heap[(w.alloc (.cells #[.int .u8 k,.string ⟨n.toArray⟩,.string ⟨t.toArray⟩,.slice A b.length c] 86)).drew.heap.size]?=some (.map ddMap 4):=by rw[←hw2];exact World.alloc_heap_new _ _
 have hlk:=HK.out w2 _ hmap;clear hw2 hmap
 generalize (w.alloc (.cells #[.int .u8 k,.string ⟨n.toArray⟩,.string ⟨t.toArray⟩,.slice A b.length c] 86)).drew.heap.size=N at *
 obtain ⟨e0,e1,e2,_⟩:=blk4 (HBX.out.ext hE2);have HE:=zhd (Ext.trans HX.out hE2);clear g0 g1 g2 g3 hE2
 refine shK hK _ _ ⟨e0,e1,e2⟩ (fun _=>?_)
 refine ar1 3 rfl (fun K hK=>?_)
 go_simp
 refine shK hK _ _ ⟨e0,e1,e2⟩ (fun _=>?_)
 by_cases hk:k=1∨k=2∨k=3∨k=4
 case neg =>
  rw[zpP hk]
  have hf:false=F:=by
   rw[←HF.out]
   symm
   rw[Bool.eq_false_iff];intro h
   exact hk ((zcE _).1 h).1
  subst hf;clear hk;refine tkN 4 rfl ?_;refine tkN 5 rfl ?_;refine tkS 6 rfl ?_;refine tkS 7 rfl ?_;refine tkS 8 rfl ?_;refine tkN 9 rfl ?_;refine tkN 10 rfl ?_;refine tkS 11 rfl ?_;refine tkS 12 rfl ?_;refine tkS 13 rfl ?_;refine tkS 14 rfl ?_;refine tkS 15 rfl ?_;refine tkS 16 rfl ?_;refine tkS 17 rfl ?_;refine tkS 18 rfl ?_;refine tkN 19 rfl ?_;refine tkN 20 rfl ?_;refine wpAnyH_done (by kernel_rfl) ?_ _;go_wp2_with fail;go_ret
  exact ⟨rfl,HE.out⟩
 obtain ⟨f,hf⟩:=zrq hk;rw[hf];have HKK:=zhd hk;clear hf hk
 by_cases hn:n=[]
 case pos =>
  have hne:(n==[])=true:=by simpa using hn
  have hf:false=F:=by
   rw[←HF.out]
   symm
   rw[Bool.eq_false_iff];intro h
   exact ((zcE _).1 h).2.1 hn
  subst hf;have HN:=zhd hn;clear hn;refine tkN 4 rfl ?_;refine tkN 5 rfl ?_;refine tkN 6 rfl ?_;refine tkN 7 rfl ?_;refine tkN 8 rfl ?_;refine tkN 9 rfl ?_;refine tkN 10 rfl ?_;refine tkS 11 rfl ?_;refine tkS 12 rfl ?_;refine tkS 13 rfl ?_;refine tkS 14 rfl ?_;refine tkS 15 rfl ?_;refine tkS 16 rfl ?_;refine tkS 17 rfl ?_;refine tkS 18 rfl ?_;refine tkN 19 rfl ?_;refine tkN 20 rfl ?_;refine wpAnyH_done (by kernel_rfl) ?_ _;go_wp2_with fail;go_ret
  exact ⟨rfl,HE.out⟩
 have hne:(n==[])=false:=by simpa using hn
 have HN:=zhd hn;clear hn
 by_cases hk3:k=3
 case neg =>
  have hke:(k != 3)=true:=by simp[hk3]
  have hf:true=F:=by
   rw[←HF.out]
   exact ((zcE _).2 ⟨HKK.out,HN.out,fun h=>absurd h hk3⟩).symm
  subst hf;clear hk3;refine tkN 4 rfl ?_;refine tkN 5 rfl ?_;refine tkN 6 rfl ?_;refine tkN 7 rfl ?_;refine tkN 8 rfl ?_;refine tkN 9 rfl ?_;refine tkN 10 rfl ?_;refine tkN 11 rfl ?_;refine tkN 12 rfl ?_;refine tkN 13 rfl ?_;refine tkN 14 rfl ?_;refine tkS 15 rfl ?_;refine tkS 16 rfl ?_;refine tkS 17 rfl ?_;refine tkN 18 rfl ?_;refine tkN 19 rfl ?_;refine tkN 20 rfl ?_;refine wpAnyH_done (by kernel_rfl) ?_ _;go_wp2_with fail;go_ret
  exact ⟨rfl,HE.out⟩
 have hke:(k != 3)=false:=by simp[hk3]
 have HK3:=zhd hk3;clear hk3
 by_cases ht:t=[]
 case pos =>
  have hte:(t==[])=true:=by simpa using ht
  have hf:false=F:=by
   rw[←HF.out]
   symm
   rw[Bool.eq_false_iff];intro h
   exact ((zcE _).1 h).2.2 HK3.out ht
  subst hf;have HT:=zhd ht;clear ht;refine tkN 4 rfl ?_;refine tkN 5 rfl ?_;refine tkN 6 rfl ?_;refine tkN 7 rfl ?_;refine tkN 8 rfl ?_;refine tkN 9 rfl ?_;refine tkN 10 rfl ?_;refine tkN 11 rfl ?_;refine tkN 12 rfl ?_;refine tkN 13 rfl ?_;refine tkN 14 rfl ?_;refine tkN 15 rfl ?_;refine tkN 16 rfl ?_;refine tkN 17 rfl ?_;refine tkN 18 rfl ?_;refine tkN 19 rfl ?_;refine tkN 20 rfl ?_;refine wpAnyH_done (by kernel_rfl) ?_ _;go_wp2_with fail;go_ret
  exact ⟨rfl,HE.out⟩
 have hte:(t==[])=false:=by simpa using ht
 have hf:true=F:=by
  rw[←HF.out]
  exact ((zcE _).2 ⟨HKK.out,HN.out,fun _=>ht⟩).symm
 subst hf;have HT:=zhd ht;clear ht;refine tkN 4 rfl ?_;refine tkN 5 rfl ?_;refine tkN 6 rfl ?_;refine tkN 7 rfl ?_;refine tkN 8 rfl ?_;refine tkN 9 rfl ?_;refine tkN 10 rfl ?_;refine tkN 11 rfl ?_;refine tkN 12 rfl ?_;refine tkN 13 rfl ?_;refine tkN 14 rfl ?_;refine tkN 15 rfl ?_;refine tkN 16 rfl ?_;refine tkN 17 rfl ?_;refine tkN 18 rfl ?_;refine tkN 19 rfl ?_;refine tkN 20 rfl ?_;refine wpAnyH_done (by kernel_rfl) ?_ _;go_wp2_with fail;go_ret
 exact ⟨rfl,HE.out⟩
/-! Right's test of the queue -/
theorem zoj (o:Oq) (v:Value) (w:World) (hB:Bs w v o.b):Calls Tryz.prog 191 #[.agg #[.int .u8 o.k,sv o.n,sv o.t,v]] w fun e w'=>e=.returned (.bool (!zbi o))∧Ext w w':=by
 obtain ⟨A,c,rfl,_,_⟩:=SlR.open_ hB
 have hX:Ext w (w.alloc (.cells #[.int .u8 o.k,sv o.n,sv o.t,.slice A o.b.length c] 86)):=Ext.alloc (Ext.refl _) _
 obtain ⟨g0,g1,g2,g3⟩:=blk4 (Blk.new w 86 #[.int .u8 o.k,sv o.n,sv o.t,.slice A o.b.length c]);have HC:=zhd (zlC o _ _ (hB.ext hX));have HX:=zhd hX;clear hX hB
 simp only[sv] at *
 go_enter Tryz.func191,Tryz.ntmps191
 go_wp2_with fail
 refine HC.out.mono ?_
 rintro e w1 ⟨rfl,hE⟩;go_wp2_with fail;go_ret
 exact ⟨rfl,Ext.trans HX.out hE⟩
def zg9:List Oq→Nat→Int
 | [],_=>-1
 | o::q,i=>if zbi o then zg9 q (i+1) else i
theorem zn3 (q:List Oq) (i:Nat):(0≤zg9 q i↔q.all zbi=false)∧-1≤zg9 q i:=by
 induction q generalizing i with
 | nil=>simp[zg9]
 | cons o q ih =>
  have:=ih (i+1)
  unfold zg9;rw[List.all_cons]
  cases h:zbi o <;> simp[h] at this ⊢ <;> first | omega | exact this
theorem zla (v:Value) (q:List Oq) (w:World) (h:Qs w v q) (hl:q.length≤2000000) :
  Calls Tryz.prog 232 #[v,.func (.func 191) #[] #[]] w fun e w'=>e=.returned (.int .i64 (zg9 q 0))∧Ext w w':=by
 obtain ⟨A,c,rfl,h1,h2⟩:=Qs.open_ h;have HQ:=zhd h;clear h
 go_enter Tryz.func232,Tryz.ntmps232
 go_wp2_with fail
 go_loopw [8] (fun i wr=>∃ k:Nat,k≤q.length∧i=.int .i64 k∧Hid (zg9 q 0=zg9 (q.drop k) k)∧Ext w wr) (fun i _=>q.length-(intOf i).toNat)
 case atStart=>exact ⟨0,Nat.zero_le _,rfl,rfl,Ext.refl _⟩
 case round =>
  obtain ⟨k,hk,rfl,Hb,hB⟩:=hrel
  by_cases hlt:k<q.length
  ·obtain ⟨_,b,off,rfl,hc⟩:=(HQ.out.ext hB).at_ (by omega)
   obtain ⟨k0,k1,k2,B,d,k3,hbs⟩:=hc k hlt;have hbd:=Hb.out;rw[List.drop_eq_getElem_cons hlt,zg9] at hbd;have HBD:=zhd hbd
   have HC:=zhd (fun W hW=>zoj q[k] _ W (Bs.ext hbs hW))
   clear hc hbs hbd Hb
   generalize q[k]=o at *
   simp only[sv] at *
   go_wp2_with (go_at_call 191;refine (HC.out _ (Ext.refl _)).mono ?_;rintro e w' ⟨rfl,hb⟩)
   ·go_ret
    have hne:zbi o=false:=by simpa using (by assumption:(!zbi o)=true)
    have:=HBD.out
    rw[hne] at this
    exact ⟨by rw[this];rfl,Ext.trans hB hb⟩
   ·go_roundw
    case rel =>
     have hok:zbi o=true:=by simpa using (by assumption:(!zbi o)=false)
     have:=HBD.out
     rw[hok] at this
     exact ⟨k+1,by omega,by go_num,this,Ext.trans hB hb⟩
    case measure=>simp[intOf];omega
  ·go_wp2_with fail
   go_ret
   have:=Hb.out
   rw[List.drop_of_length_le (by omega)] at this
   exact ⟨by rw[this];rfl,hB⟩
theorem zi8 (v:Value) (q:List Oq) (w:World) (h:Qs w v q) (hl:q.length≤2000000) :
  Calls Tryz.prog 190 #[v,.func (.func 191) #[] #[]] w fun e w'=>e=.returned (.bool (!q.all zbi))∧Ext w w':=by
 obtain ⟨h1,h2⟩:=zn3 q 0;have H1:=zhd h1;have H2:=zhd h2;have HC:=zhd (zla v q w h hl);clear h1 h2
 go_enter Tryz.func190,Tryz.ntmps190
 go_wp2_with fail
 refine HC.out.mono ?_
 rintro e w1 ⟨rfl,hE⟩;go_wp2_with fail;go_ret
 refine ⟨ret_bool ?_,hE⟩
 have:=H1.out
 cases h:q.all zbi <;> simp[h] at this ⊢ <;> omega
theorem zvF {l n:List UInt8} (h:ltB l n=true):Op.bytesLess n l=false∧(n==l)=false:=by
 constructor
 ·rw[Bool.eq_false_iff]
  intro h2
  have:=zgo h h2
  rw[zhB] at this
  cases this
 ·simpa using (zkL h).symm
theorem ztp {l n:List UInt8} (h:ltB l n=false):(Op.bytesLess n l||n==l)=true:=by
 by_cases he:n=l
 ·simp[he]
 ·rw[show Op.bytesLess n l=true from zo8 h (Ne.symm he)]
  rfl
structure RiI (w:World) (d:Dk) (b:Nat) (cs:Array Value) (l:List UInt8) (k:Nat) (W:World):Prop where
 ri:zbG [] d.fs=zbG l (d.fs.drop k)
 bl:Blk W b 25 cs
 e:Ext w W
theorem zpR (v:Value) (d:Dk) (w:World) (hD:DkV w v d) (hl1:d.fs.length≤2000000) (hl2:d.q.length≤2000000) (hb:tot d.fs+zaT d.q≤70000000) :
  Calls Tryz.prog 164 #[v] w fun e w'=>e=.returned (.bool d.right)∧Ext w w':=by
 obtain ⟨vf,vq,rfl,hF,hQ⟩:=hD;obtain ⟨A,c,rfl,_,_⟩:=Fs.open_ hF;obtain ⟨B,e2,rfl,_,_⟩:=Qs.open_ hQ
 have hE0:Ext w (w.alloc (.cells #[.slice A d.fs.length c,.slice B d.q.length e2,.int .i64 d.quota,.int .i64 d.fuse,.bool d.dead] 25)):=Ext.alloc (Ext.refl _) _
 have hb0:=Blk.new w 25 #[.slice A d.fs.length c,.slice B d.q.length e2,.int .i64 d.quota,.int .i64 d.fuse,.bool d.dead];have HF:=zhd hF;have HQ:=zhd hQ;have HB:=zhd hb
 have HI:=zhd (show RiI w d w.heap.size #[.slice A d.fs.length c,.slice B d.q.length e2,.int .i64 d.quota,.int .i64 d.fuse,.bool d.dead] [] 0 _ from ⟨rfl,hb0,hE0⟩)
 obtain ⟨R,hR⟩:∃ R,d.right=R:=⟨_,rfl⟩;have HR:=zhd hR;rw[hR];clear hF hQ hb hE0 hR;obtain ⟨g0,g1,g2,g3,g4⟩:=zac hb0;clear hb0
 go_enter Tryz.func164,Tryz.ntmps164
 go_wp2_with fail;clear g0 g1 g2 g3 g4
 go_loopw [3,10] (fun vl i wr=>∃ (k:Nat) (l:List UInt8),k≤d.fs.length∧i=.int .i64 k∧vl=.string ⟨l.toArray⟩∧Hid (RiI w d w.heap.size #[.slice A d.fs.length c,.slice B d.q.length e2,.int .i64 d.quota,.int .i64 d.fuse,.bool d.dead] l k wr)) (fun _ i _=>d.fs.length-(intOf i).toNat)
 case atStart=>exact ⟨0,[],Nat.zero_le _,rfl,rfl,HI⟩
 case round =>
  clear HI;obtain ⟨k,l,hk,rfl,rfl,HI⟩:=hrel
  by_cases hlt:k<d.fs.length
  ·obtain ⟨_,b,off,rfl,hc⟩:=(HF.out.ext HI.out.e).at_ (by omega)
   obtain ⟨hc0,B2,d2,hc1,_⟩:=hc k hlt;have hri:=HI.out.ri;rw[List.drop_eq_getElem_cons hlt,zbG] at hri;have HRI:=zhd hri;have HBL:=zhd HI.out.bl;have HE:=zhd HI.out.e;clear hc hri HI
   generalize d.fs[k]=x at *
   obtain ⟨n,bb⟩:=x
   dsimp only at *
   have HX:=zhd (Blk.new wr 51 #[sv n,.slice B2 bb.length d2]);obtain ⟨x0,x1⟩:=zik HX.out
   simp only[sv] at *
   cases hcmp:ltB l n with
   | false =>
    have hc2:=ztp hcmp
    have hf:false=R:=by
     rw[←HR.out];unfold Dk.right;rw[HRI.out,hcmp];rfl
    subst hf;clear hcmp;go_wp2_with fail;go_ret
    exact ⟨rfl,Ext.alloc HE.out _⟩
   | true =>
    obtain ⟨hc2,hc3⟩:=zvF hcmp
    have HRI2:=zhd (show zbG [] d.fs=zbG n (d.fs.drop (k+1)) from by rw[HRI.out,hcmp,Bool.true_and])
    clear hcmp;go_wp2_with fail
    go_roundw
    case rel=>exact ⟨k+1,n,by omega,by go_num,rfl,⟨HRI2.out,HBL.out.alloc _,Ext.alloc HE.out _⟩⟩
    case measure=>simp[intOf];omega
  ·obtain rfl:k=d.fs.length:=by omega
   have hri:=HI.out.ri;rw[List.drop_length,zbG] at hri;have HRI:=zhd hri;have HBL:=zhd HI.out.bl;have HE:=zhd HI.out.e;clear HI hri;obtain ⟨g0,g1,g2,g3,g4⟩:=zac HBL.out;go_wp2_with fail
   refine (zi8 _ d.q _ (HQ.out.ext HE.out) hl2).mono ?_
   rintro e w1 ⟨rfl,hE1⟩;clear g0 g1 g2 g3 g4;have HB1:=zhd (HBL.out.ext hE1);have HE1:=zhd (Ext.trans HE.out hE1);clear HBL HE hE1;obtain ⟨g0,g1,g2,g3,g4⟩:=zac HB1.out
   have HRR:=zhd (show (d.q.all zbi&&decide (d.q.length≤400)&&decide (0≤d.quota)&&decide (0≤d.fuse)&&decide ((tot d.now:Int)≤d.quota))=R from by rw[←HR.out];unfold Dk.right;rw[HRI.out,Bool.true_and])
   clear HR HRI
   cases hall:d.q.all zbi with
   | false =>
    have hf:false=R:=by rw[←HRR.out,hall];rfl
    subst hf;clear HRR hall;go_wp2_with fail
    refine wp_region_held_drew (S:=fun W=>W.cell? ⟨w.heap.size,0,none⟩=some (.slice A d.fs.length c)∧W.cell? ⟨w.heap.size,1,none⟩=some (.slice B d.q.length e2)∧W.cell? ⟨w.heap.size,2,none⟩=some (.int .i64 d.quota)∧W.cell? ⟨w.heap.size,3,none⟩=some (.int .i64 d.fuse)∧W.cell? ⟨w.heap.size,4,none⟩=some (.bool d.dead)) (by kernel_rfl) ⟨g0,g1,g2,g3,g4⟩ (fun _=>?_)
    refine tkN 0 rfl ?_;refine tkN 1 rfl ?_;refine tkN 2 rfl ?_;refine tkS 3 rfl ?_;refine tkS 4 rfl ?_;refine tkS 5 rfl ?_;refine tkS 6 rfl ?_;refine tkN 7 rfl ?_;refine tkN 8 rfl ?_;refine tkS 9 rfl ?_;refine tkS 10 rfl ?_;refine tkS 11 rfl ?_;refine tkS 12 rfl ?_;refine tkS 13 rfl ?_;refine tkS 14 rfl ?_;refine tkN 15 rfl ?_;refine tkN 16 rfl ?_;refine tkS 17 rfl ?_;refine tkS 18 rfl ?_;refine tkS 19 rfl ?_;refine tkS 20 rfl ?_;refine tkS 21 rfl ?_;refine tkN 22 rfl ?_;refine tkN 23 rfl ?_;refine wpAnyH_done (by kernel_rfl) ?_ _;go_wp2_with fail;go_ret
    exact ⟨rfl,Ext.drew HE1.out⟩
   | true =>
    have HRR2:=zhd (show (decide (d.q.length≤400)&&decide (0≤d.quota)&&decide (0≤d.fuse)&&decide ((tot d.now:Int)≤d.quota))=R from by rw[←HRR.out,hall,Bool.true_and])
    clear HRR hall;go_wp2_with fail
    refine wp_region_held_drew (S:=fun W=>W.cell? ⟨w.heap.size,0,none⟩=some (.slice A d.fs.length c)∧W.cell? ⟨w.heap.size,1,none⟩=some (.slice B d.q.length e2)∧W.cell? ⟨w.heap.size,2,none⟩=some (.int .i64 d.quota)∧W.cell? ⟨w.heap.size,3,none⟩=some (.int .i64 d.fuse)∧W.cell? ⟨w.heap.size,4,none⟩=some (.bool d.dead)) (by kernel_rfl) ⟨g0,g1,g2,g3,g4⟩ (fun _=>?_)
    by_cases h4:d.q.length≤400
    case neg =>
     have h4b:decide (((d.q.length:Nat):Int)≤400)=false:=by simp;omega
     have hf:false=R:=by rw[←HRR2.out];simp[h4]
     subst hf;clear HRR2 h4;refine tkN 0 rfl ?_;refine tkN 1 rfl ?_;refine tkN 2 rfl ?_;refine tkN 3 rfl ?_;refine tkN 4 rfl ?_;refine tkN 5 rfl ?_;refine tkN 6 rfl ?_;refine tkN 7 rfl ?_;refine tkN 8 rfl ?_;refine tkS 9 rfl ?_;refine tkS 10 rfl ?_;refine tkS 11 rfl ?_;refine tkS 12 rfl ?_;refine tkS 13 rfl ?_;refine tkS 14 rfl ?_;refine tkN 15 rfl ?_;refine tkN 16 rfl ?_;refine tkS 17 rfl ?_;refine tkS 18 rfl ?_;refine tkS 19 rfl ?_;refine tkS 20 rfl ?_;refine tkS 21 rfl ?_;refine tkN 22 rfl ?_;refine tkN 23 rfl ?_;refine wpAnyH_done (by kernel_rfl) ?_ _;go_wp2_with fail;go_ret
     exact ⟨rfl,Ext.drew HE1.out⟩
    have h4b:decide (((d.q.length:Nat):Int)≤400)=true:=by simp;omega
    have HRR3:=zhd (show (decide (0≤d.quota)&&decide (0≤d.fuse)&&decide ((tot d.now:Int)≤d.quota))=R from by rw[←HRR2.out];simp[h4])
    clear HRR2 h4
    by_cases hmn:0≤min d.quota d.fuse
    case neg =>
     have hmb:decide (0≤min d.quota d.fuse)=false:=by simpa using hmn
     have hf:false=R:=by
      rw[←HRR3.out]
      by_cases h1:0≤d.quota
      ·have h2:¬ 0≤d.fuse:=by omega
       simp[h2]
      ·simp[h1]
     subst hf;clear HRR3 hmn;refine tkN 0 rfl ?_;refine tkN 1 rfl ?_;refine tkN 2 rfl ?_;refine tkN 3 rfl ?_;refine tkN 4 rfl ?_;refine tkN 5 rfl ?_;refine tkN 6 rfl ?_;refine tkN 7 rfl ?_;refine tkN 8 rfl ?_;refine tkN 9 rfl ?_;refine tkN 10 rfl ?_;refine tkN 11 rfl ?_;refine tkN 12 rfl ?_;refine tkN 13 rfl ?_;refine tkN 14 rfl ?_;refine tkN 15 rfl ?_;refine tkN 16 rfl ?_;refine tkS 17 rfl ?_;refine tkS 18 rfl ?_;refine tkS 19 rfl ?_;refine tkS 20 rfl ?_;refine tkS 21 rfl ?_;refine tkN 22 rfl ?_;refine tkN 23 rfl ?_;refine wpAnyH_done (by kernel_rfl) ?_ _;go_wp2_with fail;go_ret
     exact ⟨rfl,Ext.drew HE1.out⟩
    have hmb:decide (0≤min d.quota d.fuse)=true:=by simpa using hmn
    have HRR4:=zhd (show decide ((tot d.now:Int)≤d.quota)=R from by
     rw[←HRR3.out]
     have h1:0≤d.quota:=by omega
     have h2:0≤d.fuse:=by omega
     simp[h1,h2])
    clear HRR3 hmn;refine tkN 0 rfl ?_;refine tkN 1 rfl ?_;refine tkN 2 rfl ?_;refine tkN 3 rfl ?_;refine tkN 4 rfl ?_;refine tkN 5 rfl ?_;refine tkN 6 rfl ?_;refine tkN 7 rfl ?_;refine tkN 8 rfl ?_;refine tkN 9 rfl ?_;refine tkN 10 rfl ?_;refine tkN 11 rfl ?_;refine tkN 12 rfl ?_;refine tkN 13 rfl ?_;refine tkN 14 rfl ?_;refine tkN 15 rfl ?_;refine tkN 16 rfl ?_;refine tkN 17 rfl ?_;refine tkN 19 rfl ?_;refine tkN 20 rfl ?_
    refine ar1 18 rfl (fun K hK=>?_)
    go_simp
    refine (zs8 _ d _ (show DkV _ _ d from ⟨_,_,rfl,HF.out.ext (Ext.drew HE1.out),HQ.out.ext (Ext.drew HE1.out)⟩) hl1 hl2 HB.out).mono ?_
    rintro e w2 ⟨rfl,hE2'⟩;have hE2:=Ext.trans (Ext.drew (Ext.refl _)) hE2';have HE2:=zhd (Ext.trans HE1.out hE2);clear g0 g1 g2 g3 g4;obtain ⟨g0,g1,g2,g3,g4⟩:=zac (HB1.out.ext hE2);clear hE2 hE2'
    refine shK hK _ _ ⟨g0,g1,g2,g3,g4⟩ (fun _=>?_)
    refine tkN 21 rfl ?_;refine tkN 22 rfl ?_;refine tkN 23 rfl ?_;refine wpAnyH_done (by kernel_rfl) ?_ _;go_wp2_with fail;go_ret
    exact ⟨by rw[←HRR4.out];rfl,HE2.out⟩
end Go.Proofs.YtgonhdeochgkoaaGreatDoor
