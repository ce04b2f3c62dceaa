/- Merged -/
import Derived.Test.YteggfecbjgbndaaGreatDoorZw23
set_option linter.all false
set_option maxHeartbeats 8000000
set_option maxRecDepth 100000
open Go.Value renaming slice→G,int→H,string→R
open Go.Proofs.Tryz renaming prog→I
open Go.Mv renaming zhd→M
open Go.Obj renaming cells→O
open Option renaming some→U,none→g
open Go.IntKind renaming u8→V,i64→y
open List renaming push_toArray→P0,cons_append→P1,length_nil→P2,append_toArray→P3,size_toArray→P4,foldl_cons→P5,getD_eq_getElem?_getD→P6,getElem?_eq_getElem→P7,getElem?_drop→P8,append_assoc→P9,length_drop→Pa,length_map→Pb,map_cons→Pc
open Go.Mv.Blk renaming new→Pd
open Array renaming replicate_zero→Pe,replicate_succ→Pf
open Nat renaming reduceAdd→Pg,le_trans→Ph,reduceSub→Pi,lt_of_lt_of_le→Pj
open Option renaming getD_some→Pk,isSome_some→Pl
open Bool renaming eq_false_iff→Pm
open Go.World renaming block_lt_of_cell?→Pn,alloc_heap_new→Po,cell?→Pp
open Go.Op renaming equalIn→Pq,maxDepth→Pr,equal→Ps
namespace Go.Proofs.YteggfecbjgbndaaGreatDoor
open Go.RowKit Go.Mv Go.Shelf
def zfG (fs:List Fil):Nat→List (Nat×Fil)
 | 0=>[]
 | k+1=>(k,fs.getD k ([],[]))::zfG fs k
theorem zmI (fs:List Fil):∀ k,k≤fs.length→(zfG fs k).map (·.2)=(fs.take k).reverse
 | 0,_=>rfl
 | k+1,h=>by
  rw[zfG,Pc,zmI fs k (by omega),List.take_succ_eq_append_getElem (by omega),List.reverse_append]
  simp[P6,P7 (show k<fs.length by omega)]
theorem zsM {wo A B:World} {n:Nat} (h:Hold wo A) (hk:Kept (zac (fun _ o=>o.isCells=true) n) A B):Hold wo B:=fun q u hq=>by
 refine hk.cell (h q u hq) fun o ho=>?_
 obtain ⟨o',Kv,J7⟩:=cells_of_cell (h q u hq);rw[ho] at Kv
 cases Kv
 exact .inl J7
attribute [local go_sem] Oper.semAt_some in
theorem zqF (wo W0:World) (v:Value) (fs:List Fil) (hF:Fs wo v fs) (Ja:fs.length≤4000000) (hH:Hold wo W0) (B:Nat) (hB:Boxed W0 B 22 v) (h1:∀ p u,wo.cell? p=U u→p.block<W0.heap.size) :
  Seq I 250 #[.pointer (U ⟨B,0,g⟩)] (fun (x:Nat×Fil) av W=>∃ C d,av = #[H y x.1,.agg #[sv x.2.1,G C x.2.2.length d]]∧Bs W (G C x.2.2.length d) x.2.2) (fun _ o=>o.isCells=true) (fun _ _=>False) (zfG fs fs.length) W0:=by
 intro l J Jx hJ Jn hY h0;obtain ⟨A,c,rfl,He,Kl⟩:=Fs.open_ hF
 refine (callsIn_wd (ro:=none) (n:=9)).1 ?_
 refine callsIn_of_wp Tryz.func250 rfl trivial ?_ rfl
 simp only[Tryz.ntmps250,P4,xC,P2,Pg,Pi,Pf,Pe,P0,P3,xI,P1];have J3:=M hF;clear hF;obtain ⟨all,Hi⟩:∃ all,zfG fs fs.length=all:=⟨_,rfl⟩
 rw[Hi] at hY ⊢
 have HA:=M Hi;have c1:=hB.cell;clear Hi
 gi_wp2
 clear c1
 gi_loopw [3] (fun j W=>∃ (z:Int) (H3:List (Nat×Fil)),j=H y z∧-1≤z∧z<fs.length∧Hid (all=H3++zfG fs (z+1).toNat)∧Hid (J H3 W)∧Hold wo W∧Boxed W B 22 (G A fs.length c)∧W0.heap.size≤W.heap.size) (fun j _=>(intOf j+1).toNat)
 case atStart=>exact ⟨(fs.length:Int)-1,[],by go_num,by omega,by omega,by rw[show ((fs.length:Int)-1+1).toNat=fs.length from by omega];exact HA.out.symm,h0,hH,hB,xN _⟩
 case round =>
  obtain ⟨z,H3,rfl,Js,Jt,HP,HJ,HH,bB,HZ⟩:=hrel
  by_cases hz:0≤z
  ·obtain ⟨k,rfl⟩:=Int.eq_ofNat_of_zero_le hz
   have Hk:k<fs.length:=by omega
   obtain ⟨_,b,H7,rfl,hc⟩:=(J3.out.keep HH).at_ (by omega);obtain ⟨Kn,B2,d2,Ko,H6⟩:=hc k Hk;have Hp:=HP.out
   rw[show ((k:Int)+1).toNat=k+1 from by omega,zfG,show fs.getD k ([],[])=fs[k] from by simp[P6,P7 Hk]] at Hp
   have K2:=M Hp;have J4:=M hY;have HR:=M H6;clear hc Hp hY H6
   generalize fs[k]=x at *
   have hy:=J4.out H3 (k,x) _ K2.out wr #[H y (k:Int),.agg #[sv x.1,G B2 x.2.length d2]] HJ.out HZ ⟨B2,d2,rfl,HR.out⟩;have Hy:=M hy;have KW:=M HH;have c1:=bB.cell;clear hy HH
   simp only[sv] at *
   gi_wp2
   refine zbh Hy.out ?_
   rintro e W' ⟨Hx,⟨rfl,hj⟩ | ⟨rfl,hj⟩⟩
   ·refine ⟨true,rfl,?_⟩
    have d1:Boxed W' B 22 (G (U ⟨b,H7,g⟩) fs.length c):=Hx.boxed bB (.inl rfl)
    have Jg:=Ph HZ Hx.size;have KX:=M (zsM KW.out Hx);have K0:=M hj
    have Kx:all=(H3++[(k,x)])++zfG fs k:=by rw[P9];exact K2.out
    have J5:=M Kx;clear hj Hx Kx Hy Kn Ko c1
    gi_wp2
    exact ⟨⟨(k:Int)-1,H3++[(k,x)],by go_num,by omega,by omega,by rw[show ((k:Int)-1+1).toNat=k from by omega];exact J5.out,K0.out,KX.out,d1,Jg⟩,by simp[intOf]⟩
   ·refine ⟨false,rfl,?_⟩
    have K0:=M hj;clear hj Hx Kn Ko c1
    gi_wp2
    refine bodyPost_ret (results_none rfl _ _ _) rfl ?_
    refine ⟨⟨_,rfl⟩,.inr ⟨H3++[(k,x)],?_,K0.out⟩⟩
    exact ⟨zfG fs k,by rw[P9];exact K2.out.symm⟩
  ·obtain rfl:z = -1:=by omega
   have Hp:=HP.out
   rw[show ((-1:Int)+1).toNat=0 from rfl,show zfG fs 0=[] from rfl,List.append_nil] at Hp
   subst Hp;clear HP hY
   gi_wp2
   refine bodyPost_end (results_none rfl _ _ _) rfl ?_
   exact ⟨⟨_,rfl⟩,.inl HJ.out⟩
theorem zsl (A:Option Addr) (n c:Nat) (w:World):Calls I 214 #[G A n c] w fun e w'=>e=.returned (.func (.func 250) #[] #[.pointer (U ⟨w.heap.size,0,g⟩)])∧w.alloc (O #[G A n c] 22)=w':=by
 go_enter Tryz.func214,Tryz.ntmps214
 go_wp2
 go_ret
 exact ⟨rfl,rfl⟩
theorem FMap.putObj {W:World} {r D:Nat} {l:List Fil} (h:FMap W r l) (hD:r≠D) {o:Obj} (hK:W.heap[D]?=U o) (hc:o.isCells=false) (o':Obj):FMap (W.putObj D o') r l :=
 h.keep2 (fun _ _ hb=>(World.putObj_heap_other hD).trans hb) (fun _ _ J6=>zcL J6 hK hc o')
def zg1 (H3:List (Nat×Fil)):List Fil:=H3.foldl (fun m x=>zbg x.2.1 x.2.2 m) []
theorem zpA (H3:List (Nat×Fil)) (x:Nat×Fil):zg1 (H3++[x])=zbg x.2.1 x.2.2 (zg1 H3):=by unfold zg1;rw[List.foldl_append];rfl
theorem zrh (fs:List Fil):zg1 (zfG fs fs.length)=zcE fs:=by
 have h1:∀ (l:List (Nat×Fil)) (m:List Fil),l.foldl (fun m x=>zbg x.2.1 x.2.2 m) m=(l.map (·.2)).foldl (fun m p=>zbg p.1 p.2 m) m:=by
  intro l
  induction l with
  | nil=>intro m;rfl
  | cons a l ih=>intro m;rw[P5,Pc,P5,ih]
 have h2:∀ l:List Fil,l.foldr (fun p m=>zbg p.1 p.2 m) []=zcE l:=by
  intro l
  induction l with
  | nil=>rfl
  | cons a l ih=>rw[List.foldr_cons,ih];rfl
 unfold zg1;rw[h1,zmI fs _ (xN _),List.take_length,List.foldl_reverse,h2]
def TfI (w:World) (H3:List (Nat×Fil)) (X:World):Prop:=FMap X w.heap.size (zg1 H3)∧Boxed X (w.heap.size+1) 142 (.map (some w.heap.size))∧Ext w X
attribute [local go_sem] Oper.semAt_some in
theorem zp7 (v:Value) (fs:List Fil) (w:World) (hF:Fs w v fs) (hl:fs.length≤2000000):Calls I 162 #[v] w fun e w'=>∃ r,e=.returned (.map (some r))∧FMap w' r (zcE fs)∧w.heap.size≤r∧Ext w w':=by
 obtain ⟨A,c,rfl,_,_⟩:=Fs.open_ hF;have HF:=M hF;clear hF;have Ku:=@run_makeMap I
 refine (callsIn_wd (ro:=none) (n:=9)).1 ?_
 refine callsIn_of_wp_marks Tryz.func162 rfl trivial ?_ rfl
 simp only[Tryz.ntmps162,P4,xC,P2,Pg,Pi,Pf,Pe,P0,P3,xI,P1]
 gi_wp2_with (refine ⟨trivial,?_⟩;gi_at_call 214;refine (callsIn_wd.2 (zsl _ _ _ _)).mono ?_;rintro e w' ⟨rfl,rfl⟩)
 have q1:Boxed (((w.alloc (.map #[] 0)).alloc (O #[.map (some w.heap.size)] 142)).alloc (O #[G A fs.length c] 22)) (w.heap.size+1) 142 (.map (some w.heap.size)):=by
  have:=(Boxed.new (w.alloc (.map #[] 0)) 142 (.map (some w.heap.size))).alloc (O #[G A fs.length c] 22)
  rwa [xS] at this
 have q2:Boxed (((w.alloc (.map #[] 0)).alloc (O #[.map (some w.heap.size)] 142)).alloc (O #[G A fs.length c] 22)) (w.heap.size+1+1) 22 (G A fs.length c):=by
  have:=Boxed.new ((w.alloc (.map #[] 0)).alloc (O #[.map (some w.heap.size)] 142)) 22 (G A fs.length c)
  rwa [xS,xS] at this
 have Kk:Ext w (((w.alloc (.map #[] 0)).alloc (O #[.map (some w.heap.size)] 142)).alloc (O #[G A fs.length c] 22)):=xA (xA (xA (xR _) _) _) _
 have q0:FMap (((w.alloc (.map #[] 0)).alloc (O #[.map (some w.heap.size)] 142)).alloc (O #[G A fs.length c] 22)) w.heap.size []:=(FMap.new w).ext (xA (xA (xR _) _) _)
 have h0:TfI w [] (((w.alloc (.map #[] 0)).alloc (O #[.map (some w.heap.size)] 142)).alloc (O #[G A fs.length c] 22)):=⟨q0,q1,Kk⟩
 have Jr:(((w.alloc (.map #[] 0)).alloc (O #[.map (some w.heap.size)] 142)).alloc (O #[G A fs.length c] 22)).heap.size=w.heap.size+3:=by simp
 clear q0 q1 Ku
 generalize ((w.alloc (.map #[] 0)).alloc (O #[.map (some w.heap.size)] 142)).alloc (O #[G A fs.length c] 22)=w3 at *
 refine zcy (a:=⟨_,_⟩) rfl (enters_of Tryz.func250 (by kernel_rfl) rfl)
  (fun W1 hb hs=>zqF w W1 _ fs HF.out (by omega) (fun q u hq=>Ext.cell (xT Kk hb) hq) (w.heap.size+1+1) (q2.kept (row:=none) (Ext.grown hb none) (by simp)) (fun p u hq=>by have:=Pn _ _ hq;omega))
  (fun k o h=>h.elim) (fun k o h=>h) (fun x av W h=>by obtain ⟨C,d,rfl,_⟩:=h;rfl)
  (TfI w) (fun _ _ _=>False) ?hI (fun _ _ _ _ h _=>h) h0
  (fun x a' W=>∃ nb C d,a'=⟨#[G A fs.length c,undef,.map none,.pointer (U ⟨w.heap.size+1,0,g⟩),undef,.pointer (U ⟨nb,0,g⟩),.map (some w.heap.size),G A fs.length c,.func (.func 250) #[] #[.pointer (U ⟨w.heap.size+1+1,0,g⟩)],H y x.1,.agg #[sv x.2.1,G C x.2.2.length d],undef,undef,undef,undef,undef,undef],[]⟩∧Blk W nb 68 #[sv x.2.1,G C x.2.2.length d]∧Bs W (G C x.2.2.length d) x.2.2)
  ?hAx ?assign ?body ?done ?stop
 case hI =>
  rintro s X Y ⟨hf,hb,hE⟩ hm
  refine ⟨hf.moves hm (by omega),hm.boxed hb ?_,hm.belowOf hE ?_ (xN _)⟩
  ·rintro (h | h)
   ·exact h
   ·cases h.2
  ·rintro k o hk (h | h)
   ·exact h
   ·have:=h.1;omega
 case hAx =>
  rintro x a' X Y ⟨nb,C,d,rfl,hb,H6⟩ hm
  refine ⟨nb,C,d,rfl,hm.same _ _ hb ?_,Bs.moves H6 hm⟩
  rintro (h | h)
  ·exact h
  ·cases h.2
 case assign =>
  rintro l' H3 x Kc W av K' hx ⟨hf,hb,hE⟩ HZ ⟨C,d,rfl,H6⟩ hK
  simp only[sv] at *
  gi_wp2
  exact hK _ _ (Kept.refl.alloc _) ⟨hf.ext (xA (xR _) _),hb.alloc _,xA hE _⟩ ⟨_,C,d,rfl,Pd _ _ _,Bs.ext H6 (xA (xR _) _)⟩
 case body =>
  rintro l' H3 ⟨j,n,b⟩ Kc a' W hx Jq hr ⟨hf,hb,hE⟩ HZ ⟨nb,C,d,rfl,Jj,H6⟩
  dsimp only at *
  obtain ⟨g0,g1⟩:=zhF Jj;have c1:=hb.cell
  simp only[sv] at *
  gi_wp2_with (gi_at_mapUpdate;refine ziF rfl (.tmp 11) (.tmp 13) (.tmp 15) rfl Tryz.underlying142 Tryz.underlying9 w.heap.size (zg1 H3) rfl hf n rfl _ b rfl H6 ?_;intro W2 Hj H4)
  refine ⟨Kept.mt Kept.refl H4 ?_,by rw[zpA];exact Hj,H4.blk hb,H4.ext hE (xN _)⟩
  rintro o ho (h | h)
  ·obtain ⟨es,cc,hh,_⟩:=hf
   rw[hh] at ho
   cases ho
   cases h
  ·have:=h.1
   omega
 case done =>
  rintro D W hD ⟨hf,hb,hE⟩ hK;have hc:=hb.cell
  gi_wp2
  refine zbO hK _ (results_tmp rfl _ _ _) ?_
  exact ⟨w.heap.size,rfl,by rw[←zrh];exact hf.putObj (by omega) hK rfl _,xN _,zaN hE (by omega) _⟩
 case stop =>
  rintro D cd H3 W _ _ h _
  exact h.elim
theorem mcDDeeda0 {P:Prop} (h:P:=by
 go_wp2_with (at_lookup;refine zcK rfl (.tmp 7) (.tmp 9) true rfl Tryz.underlying142 Tryz.underlying9 (zgM _) r l rfl HM.out n rfl ?_;rw[Hn.out];intro A1 c1 He;simp only[Option.getD_none,Option.isSome_none,if_true,P2])
 refine bodyPost_end (results_none rfl _ _ _) rfl ?_
 exact ⟨rfl,HM.out,HG.out⟩):P:=h
structure Mg (w w':World) (r:Nat):Prop where
 os:w'.os=w.os
 tape:w'.tape=w.tape
 output:w'.output=w.output
 size:w.heap.size≤w'.heap.size
 block:∀ k,k<w.heap.size→k≠r→w'.heap[k]?=w.heap[k]?
 no:∀ cs t f,w.heap[r]?≠some (O cs t f)
theorem ztQ {w:World} {r:Nat} {l:List Fil} (h:FMap w r l):∀ cs t f,w.heap[r]?≠some (O cs t f):=by
 obtain ⟨es,c,hb,_⟩:=h;intro cs t f e;rw[hb] at e
 cases e
theorem Mg.of_ext {w w':World} {r:Nat} {l:List Fil} (h:Ext w w') (hm:FMap w r l):Mg w w' r:=⟨h.os,h.tape,h.output,h.size,fun k hk _=>h.block k hk,ztQ hm⟩
theorem MT.mg {w w':World} {r:Nat} (h:MT w w' r):Mg w w' r:=⟨h.os,h.tape,h.output,Nat.le_of_eq h.size.symm,fun k _ hk=>h.block k hk,h.no⟩
theorem Mg.trans {a b c:World} {r:Nat} (h:Mg a b r) (k:Mg b c r):Mg a c r:=⟨k.os.trans h.os,k.tape.trans h.tape,k.output.trans h.output,Ph h.size k.size,fun i hi Hr=>(k.block i (Pj hi h.size) Hr).trans (h.block i hi Hr),h.no⟩
theorem Mg.cell {w w':World} {r:Nat} (h:Mg w w' r) {p:Addr} {u:Value} (hc:w.cell? p=U u):w'.cell? p=U u:=by
 have:p.block≠r:=by
  intro e
  unfold Pp at hc
  rw[e] at hc
  split at hc
  ·rename_i h1
   exact h.no _ _ _ h1
  ·cases hc
 have Hk:=Pn _ _ hc
 unfold Pp at hc ⊢
 rw[h.block _ Hk this]
 exact hc
theorem Mg.qs {w w':World} {r:Nat} (h:Mg w w' r) {v:Value} {l:List Oq} (hq:Qs w v l):Qs w' v l:=by
 obtain ⟨xs,h1,h2⟩:=hq
 exact ⟨xs,SlR.keep h1 fun _ _ hc=>h.cell hc,h2.keep zbt (h2.fresh zbt) fun _ _ hc _=>h.cell hc⟩
theorem Mg.ext {w0 w w':World} {r:Nat} (h:Mg w w' r) (hE:Ext w0 w) (hr:w0.heap.size≤r):Ext w0 w' :=
 ⟨h.os.trans hE.os,h.tape.trans hE.tape,h.output.trans hE.output,Ph hE.size h.size,fun k hk=>(h.block k (Pj hk hE.size) (by omega)).trans (hE.block k hk)⟩
theorem zgM (w:World):(zeroValue 33).run I w=.ok (G none 0 0) w:=by kernel_rfl
def zfQ (w:World) (r:Nat) (l:List Fil) (e:Ending) (w':World):Prop:=e=.returned (.tuple #[])∧FMap w' r l∧Mg w w' r
theorem zqP (r:Nat) (l:List Fil) (o:Oq) (v:Value) (w:World) (hM:FMap w r l) (hB:Bs w v o.b):Calls I 251 #[.map (some r),.agg #[H V o.k,sv o.n,sv o.t,v]] w (zfQ w r (zbg o.n [] l)):=by
 obtain ⟨k,n,t,b⟩:=o
 dsimp only at *
 obtain ⟨A,c,rfl,_,_⟩:=xO hB
 have hX:Ext w (w.alloc (O #[H V k,sv n,sv t,G A b.length c] 98)):=xA (xR _) _
 obtain ⟨g0,g1,g2,g3⟩:=blk4 (Pd w 98 #[H V k,sv n,sv t,G A b.length c]);have HM:=M (hM.ext hX);have HG:=M (Mg.of_ext hX hM);clear hX hM hB
 simp only[sv] at *
 go_enter Tryz.func251,Tryz.ntmps251
 go_wp2_with (at_mapUpdate;refine zga rfl (.tmp 4) (.tmp 6) (.const (G none 0 0)) rfl Tryz.underlying142 Tryz.underlying9 r l rfl HM.out n rfl _ [] rfl (SlR.nil _ 1) ?_;intro w2 Hj H4)
 refine bodyPost_end (results_none rfl _ _ _) rfl ?_
 exact ⟨rfl,Hj,HG.out.trans H4.mg⟩
theorem zqS (r:Nat) (l:List Fil) (o:Oq) (v:Value) (w:World) (hM:FMap w r l) (hB:Bs w v o.b):Calls I 254 #[.map (some r),.agg #[H V o.k,sv o.n,sv o.t,v]] w (zfQ w r (za7 o.n l)):=by
 obtain ⟨k,n,t,b⟩:=o
 dsimp only at *
 obtain ⟨A,c,rfl,_,_⟩:=xO hB
 have hX:Ext w (w.alloc (O #[H V k,sv n,sv t,G A b.length c] 98)):=xA (xR _) _
 obtain ⟨g0,g1,g2,g3⟩:=blk4 (Pd w 98 #[H V k,sv n,sv t,G A b.length c]);have HM:=M (hM.ext hX);have HG:=M (Mg.of_ext hX hM);clear hX hM hB
 simp only[sv] at *
 go_enter Tryz.func254,Tryz.ntmps254
 go_wp2_with (at_delete;refine zf9 rfl (.tmp 4) (.tmp 6) rfl Tryz.underlying142 Tryz.underlying9 r l rfl HM.out n rfl ?_;intro w2 Hj H4)
 refine bodyPost_end (results_none rfl _ _ _) rfl ?_
 exact ⟨rfl,Hj,HG.out.trans H4.mg⟩
theorem zqR (r:Nat) (l:List Fil) (o:Oq) (v:Value) (w:World) (hM:FMap w r l) (hB:Bs w v o.b):Calls I 253 #[.map (some r),.agg #[H V o.k,sv o.n,sv o.t,v]] w (zfQ w r (match zaj o.n l with | none=>l | some b=>zbg o.t b (za7 o.n l))):=by
 obtain ⟨k,n,t,b⟩:=o
 dsimp only at *
 obtain ⟨A,c,rfl,_,_⟩:=xO hB
 have hX:Ext w (w.alloc (O #[H V k,sv n,sv t,G A b.length c] 98)):=xA (xR _) _
 have H9:=Pd w 98 #[H V k,sv n,sv t,G A b.length c];obtain ⟨g0,g1,g2,g3⟩:=blk4 H9;have HM:=M (hM.ext hX);have HG:=M (Mg.of_ext hX hM);have Hs:=M H9;clear hX hM hB H9
 simp only[sv] at *
 cases hg:zaj n l with
 | none =>
  have Hn:=M hg;clear hg
  go_enter Tryz.func253,Tryz.ntmps253
  exact mcDDeeda0
 | some fb =>
  have Hn:=M hg;clear hg
  go_enter Tryz.func253,Tryz.ntmps253
  go_wp2_with (first
   | (at_lookup;refine zcK rfl (.tmp 7) (.tmp 9) true rfl Tryz.underlying142 Tryz.underlying9 (zgM _) r l rfl HM.out n rfl ?_;rw[Hn.out];intro A1 c1 He;simp only[Pk,Pl,if_true] at He ⊢)
   | (at_delete;refine zf9 rfl (.tmp 14) (.tmp 16) rfl Tryz.underlying142 Tryz.underlying9 r l rfl HM.out n rfl ?_;intro w2 Hj H4;have k2:=(blk4 (H4.blk Hs.out)).2.2.1)
   | (at_mapUpdate;refine zga rfl (.tmp 17) (.tmp 19) (.tmp 20) rfl Tryz.underlying142 Tryz.underlying9 r _ rfl Hj t rfl _ fb rfl (H4.bs He) ?_;intro w3 Hq Hf))
  refine bodyPost_end (results_none rfl _ _ _) rfl ?_
  exact ⟨rfl,Hq,HG.out.trans (H4.mg.trans Hf.mg)⟩
theorem zob {P:Program} {T K E:TypeId} {w:World} {o:Oper} {a:Act} {K':Act→World→Prop} {Q:Exit→Act→World→Prop} (m x v:Operand) (Je:o.op=Op.mapUpdate T m x v) (hT:P.underlying T=U (.map K E)) (hK:P.underlying K=U .string)
  (r:Nat) (l:List Fil) (hm:a.eval m=.map (some r)) (hF:FMap w r l) (n:List UInt8) (hx:a.eval x=sv n) (u:Value) (b:List UInt8) (hv:a.eval v=u) (hb:Bs w u b)
  (h:∀ w',FMap w' r (zbg n b l)→MT w w' r→K' (a.put o.dst undef) w'):Oper.wp P o a w K' Q:=by
 obtain ⟨w',Ka,h1,h2⟩:=hF.update hT hK n hb;unfold Oper.wp
 simp[execOp,Je,hm,hx,hv,Ka,Result.andThen]
 exact h w' h1 h2
theorem zqQ (r:Nat) (l:List Fil) (o:Oq) (v:Value) (w:World) (hM:FMap w r l) (hB:Bs w v o.b) (hl:((zaj o.n l).getD []).length+o.b.length≤70000000):Calls I 252 #[.map (some r),.agg #[H V o.k,sv o.n,sv o.t,v]] w (zfQ w r (match zaj o.n l with | none=>l | some b=>zbg o.n (b++o.b) l)):=by
 obtain ⟨k,n,t,b⟩:=o
 dsimp only at *
 obtain ⟨A,c,rfl,_,_⟩:=xO hB
 have hX:Ext w (w.alloc (O #[H V k,sv n,sv t,G A b.length c] 98)):=xA (xR _) _
 have H9:=Pd w 98 #[H V k,sv n,sv t,G A b.length c];obtain ⟨g0,g1,g2,g3⟩:=blk4 H9;have HM:=M (hM.ext hX);have HG:=M (Mg.of_ext hX hM);have Hs:=M H9;have HB:=M (hB.ext hX);clear hX hM hB H9
 simp only[sv] at *
 cases hg:zaj n l with
 | none =>
  have Hn:=M hg;clear hg hl
  go_enter Tryz.func252,Tryz.ntmps252
  exact mcDDeeda0
 | some fb =>
  rw[hg] at hl;simp only[Pk] at hl;have Hn:=M hg;have HL:=M hl;clear hg hl
  go_enter Tryz.func252,Tryz.ntmps252
  go_wp2_with (at_lookup;refine zcK rfl (.tmp 7) (.tmp 9) true rfl Tryz.underlying142 Tryz.underlying9 (zgM _) r l rfl HM.out n rfl ?_;rw[Hn.out];intro A1 c1 He;simp only[Pk,Pl,if_true] at He ⊢)
  have KU:=M He;clear He
  refine wp_region_held_drew (S:=fun W=>W.cell? ⟨w.heap.size,1,g⟩=U (R ⟨n.toArray⟩)∧W.cell? ⟨w.heap.size,3,g⟩=U (G A b.length c)) (by kernel_rfl) ⟨g1,g3⟩ (fun _=>?_)
  refine tkN 0 ?_;refine tkN 1 ?_;refine tkN 2 ?_;refine tkN 3 ?_;refine tkN 4 ?_;refine tkN 5 ?_
  refine ar1 6 (fun K hK=>?_)
  go_simp
  have X6:Ext (w.alloc (O #[H V k,R ⟨n.toArray⟩,R ⟨t.toArray⟩,G A b.length c] 98)) ((w.alloc (O #[H V k,R ⟨n.toArray⟩,R ⟨t.toArray⟩,G A b.length c] 98)).alloc (O #[G A1 fb.length c1,G A b.length c] 33)).drew:=xD (xA (xR _) _)
  have Kw:Parts ((w.alloc (O #[H V k,R ⟨n.toArray⟩,R ⟨t.toArray⟩,G A b.length c] 98)).alloc (O #[G A1 fb.length c1,G A b.length c] 33)).drew (G (U ⟨w.heap.size+1,0,g⟩) 2 2) [fb,b]:=by
   have:=Parts.ext (zuJ KU.out HB.out) (xD (xR _))
   rwa [xS] at this
  have J2:=M X6;have J0:=M Kw;have Ht:=M g1;have Kg:=M g3
  refine shK hK _ _ ⟨X6.cell g1,X6.cell g3⟩ (fun _=>?_)
  clear X6 Kw g0 g1 g2 g3
  refine ar1 7 (fun K hK=>?_)
  go_simp
  refine (zjn _ [fb,b] _ J0.out (by have:=HL.out;simp;omega)).mono ?_
  rintro e w7 ⟨v7,rfl,K9,e7⟩
  rw[show [fb,b].flatten=fb++b from by simp] at K9
  have Km:Bs w7 v7 (fb++b):=xW K9
  have KV:=M Km;have Ho:=M (xT J2.out e7);clear K9 e7 Km
  refine shK hK _ _ ⟨Ho.out.cell Ht.out,Ho.out.cell Kg.out⟩ (fun _=>?_)
  refine ar1 8 (fun K hK=>?_)
  refine zob (.tmp 14) (.tmp 16) (.tmp 21) (by rfl) Tryz.underlying142 Tryz.underlying9 r l (by rfl) (HM.out.ext Ho.out) n (by rfl) _ (fb++b) (by rfl) KV.out ?_
  intro w8 J8 K8
  refine shK hK _ _ ⟨K8.cell (Ho.out.cell Ht.out),K8.cell (Ho.out.cell Kg.out)⟩ (fun _=>?_)
  refine wdD ?_;go_wp2_with fail
  refine bodyPost_end (results_none rfl _ _ _) rfl ?_
  exact ⟨rfl,J8,HG.out.trans ((Mg.of_ext Ho.out HM.out).trans K8.mg)⟩
def ddMap:Array MapEntry:=#[{ key:=H V 1,val:=.func (.func 251) #[] #[],born:=0 },{ key:=H V 2,val:=.func (.func 252) #[] #[],born:=1 },
 { key:=H V 3,val:=.func (.func 253) #[] #[],born:=2 },{ key:=H V 4,val:=.func (.func 254) #[] #[],born:=3 }]
theorem zlD (w:World) (es:Array MapEntry) (c:Nat) (n:Int) (v:Value) (hn:Instr.findNow (.int .u8) (H V n) es.toList 0=U none) :
  (Instr.mapUpdate 262 (.map (some w.heap.size)) (H V n) v).run I (w.alloc (.map es c))=.ok () (w.alloc (.map (es.push { key:=H V n,val:=v,born:=c }) (c+1))) :=
 zev w .u8 Tryz.underlying262 Tryz.underlying5 es c n v hn
theorem zjC (w:World):Calls I 215 #[] w fun e w'=>e=.returned (.map (some w.heap.size))∧w.alloc (.map ddMap 4)=w':=by
 have Ku:=@run_makeMap I;have h0:=zlD w #[] 0 1 (.func (.func 251) #[] #[]) rfl;have h1:=zlD w #[{ key:=H V 1,val:=.func (.func 251) #[] #[],born:=0 }] 1 2 (.func (.func 252) #[] #[]) rfl;have h2:=zlD w #[{ key:=H V 1,val:=.func (.func 251) #[] #[],born:=0 },{ key:=H V 2,val:=.func (.func 252) #[] #[],born:=1 }] 2 3 (.func (.func 253) #[] #[]) rfl;have h3:=zlD w #[{ key:=H V 1,val:=.func (.func 251) #[] #[],born:=0 },{ key:=H V 2,val:=.func (.func 252) #[] #[],born:=1 },{ key:=H V 3,val:=.func (.func 253) #[] #[],born:=2 }] 3 4 (.func (.func 254) #[] #[]) rfl;simp only[P0,xI,P1,Pg] at h0 h1 h2 h3
 go_enter Tryz.func215,Tryz.ntmps215
 go_wp2
 go_ret
 exact ⟨rfl,rfl⟩
def zdB (k:Int):Value:=if k=1 then .func (.func 251) #[] #[] else if k=2 then .func (.func 252) #[] #[] else if k=3 then .func (.func 253) #[] #[] else if k=4 then .func (.func 254) #[] #[] else .nilFunc
theorem zhJ (k:Int) (W:World) (r:Nat) (h:W.heap[r]?=U (.map ddMap 4)) :
  (Instr.lookup 262 (.map (some r)) (H V k) false).run I W=.ok (zdB k) W:=by
 have key:∃ f,Instr.findNow (.int .u8) (H V k) ddMap.toList 0=U f∧(f.map (·.2)).getD .nilFunc=zdB k:=by
  by_cases h1:k=1
  ·subst h1;exact ⟨_,rfl,rfl⟩
  by_cases h2:k=2
  ·subst h2;exact ⟨_,rfl,rfl⟩
  by_cases h3:k=3
  ·subst h3;exact ⟨_,rfl,rfl⟩
  by_cases h4:k=4
  ·subst h4;exact ⟨_,rfl,rfl⟩
  refine ⟨none,?_,?_⟩
  ·have e1:(k==1)=false:=by simp[h1]
   have e2:(k==2)=false:=by simp[h2]
   have e3:(k==3)=false:=by simp[h3]
   have e4:(k==4)=false:=by simp[h4]
   simp[ddMap,Instr.findNow,Instr.sameNow,e1,e2,e3,e4]
  ·simp[zdB,h1,h2,h3,h4]
 obtain ⟨f,hf,hv⟩:=key
 have:=zkm (P:=I) W .u8 Tryz.underlying262 Tryz.underlying5 ddMap 4 k .nilFunc (by kernel_rfl) h f hf
 rw[this,hv]
theorem mcDDonea0 {P:Prop} (h:P:=by
 all_goals
  refine wpIn_goto ?_
  try simp only[Exit.then]
  refine zar (by simp) ⟨⟨q1,_,_,zbn l1 ⟨ok,on,ot,ob⟩,_,_,_,_,_,_,_,_,_,_,_,_,_,_,_,_,_,_,_,_,_,?_,rfl⟩,by simp[lenOf]⟩
  refine ⟨Hq,?_,Ke.out,Hm.out.trans Hf,by have h9:=zfN l1 ⟨ok,on,ot,ob⟩;have:=K3.out;dsimp only at h9;omega,Ks⟩
  first
   | exact Qs.tail (Hf.qs HV.out) _ (fun _=>rfl)
   | (have h9:=Qs.tail (Hf.qs HV.out) (U ⟨b,H7,g⟩) (fun h=>by omega);rwa [show c1-1=0 from by omega] at h9)):P:=h
theorem Qs.tail {W:World} {b H7 c:Nat} {o:Oq} {q:List Oq} (h:Qs W (G (U ⟨b,H7,g⟩) (o::q).length c) (o::q)) (A:Option Addr) (hA:0<q.length→A=U ⟨b,H7+4,g⟩):Qs W (G A q.length (c-1)) q:=by
 obtain ⟨xs,h1,h2⟩:=h;obtain ⟨hl,A',c',e,g1,g2,g3⟩:=h1
 cases e
 have hx:xs.length=(q.length+1)*4:=by rw[hl];rfl
 refine ⟨xs.drop 4,⟨by rw[Pa,hx];omega,A,c-1,rfl,by simp at g1;omega,by omega,fun hn=>?_⟩,by rw[Pa,hx];omega,fun k hk=>?_⟩
 ·obtain ⟨b',Jk,e',hc⟩:=g3 (Nat.succ_pos _)
  cases e'
  refine ⟨b,H7+4,hA hn,fun j u hu=>?_⟩
  rw[P8] at hu
  have:=hc (4+j) u hu
  rwa [←Nat.add_assoc] at this
 ·have:=h2.2 (k+1) (by simpa using hk)
  have e:(fun i=>if i<4 then (xs.drop 4)[k*4+i]? else none)=fun i=>if i<4 then xs[(k+1)*4+i]? else none:=by
   funext i
   split
   ·rw[P8]
    congr 1
    omega
   ·rfl
  rw[e]
  simpa using this
theorem ztK (r:Nat) (l:List Fil) (o:Oq) (v:Value) (w:World) (hM:FMap w r l) (hB:Bs w v o.b) (hk:o.k=1):Calls I 251 #[.map (some r),.agg #[H V o.k,sv o.n,sv o.t,v]] w (zfQ w r (zbn l o)):=by
 have:=zqP r l o v w hM hB
 unfold zbn
 rwa [if_pos hk]
theorem ztL (r:Nat) (l:List Fil) (o:Oq) (v:Value) (w:World) (hM:FMap w r l) (hB:Bs w v o.b) (hl:tot l+o.b.length≤70000000) (hk:o.k=2):Calls I 252 #[.map (some r),.agg #[H V o.k,sv o.n,sv o.t,v]] w (zfQ w r (zbn l o)):=by
 have:=zqQ r l o v w hM hB (by have:=zpn o.n l;omega)
 unfold zbn
 rwa [if_neg (by omega),if_pos hk]
theorem ztM (r:Nat) (l:List Fil) (o:Oq) (v:Value) (w:World) (hM:FMap w r l) (hB:Bs w v o.b) (hk:o.k=3):Calls I 253 #[.map (some r),.agg #[H V o.k,sv o.n,sv o.t,v]] w (zfQ w r (zbn l o)):=by
 have:=zqR r l o v w hM hB
 unfold zbn
 rwa [if_neg (by omega),if_neg (by omega),if_pos hk]
theorem ztN (r:Nat) (l:List Fil) (o:Oq) (v:Value) (w:World) (hM:FMap w r l) (hB:Bs w v o.b) (hk:o.k=4):Calls I 254 #[.map (some r),.agg #[H V o.k,sv o.n,sv o.t,v]] w (zfQ w r (zbn l o)):=by
 have:=zqS r l o v w hM hB
 unfold zbn
 rwa [if_neg (by omega),if_neg (by omega),if_neg (by omega),if_pos hk]
theorem zpf {l:List Fil} {o:Oq} (h1:o.k≠1) (h2:o.k≠2) (h3:o.k≠3) (h4:o.k≠4):zbn l o=l:=by
 unfold zbn;rw[if_neg h1,if_neg h2,if_neg h3,if_neg h4]
theorem zoo (f:Nat) (W:World):(binOp BinOp.neq 261 (.func (.func f) #[] #[]) .nilFunc).run I W=.ok (.bool true) W:=by
 have h:∀ d:Nat,(Pq (d+1) 261 (.func (.func f) #[] #[]) .nilFunc).run I W=.ok false W:=fun d=>by
  simp[Pq,run_underlying Tryz.underlying261]
 simp only[binOp]
 simp[Ps,Pr,h 9999]
theorem zop (W:World):(binOp BinOp.neq 261 .nilFunc .nilFunc).run I W=.ok (.bool false) W:=by
 have h:∀ d:Nat,(Pq (d+1) 261 .nilFunc .nilFunc).run I W=.ok true W:=fun d=>by
  simp[Pq,run_underlying Tryz.underlying261]
 simp only[binOp]
 simp[Ps,Pr,h 9999]
def lenOf:Value→Nat
 | G _ n _=>n
 | _=>0
structure DnI (r:Nat) (T:List Fil) (w:World) (q:List Oq) (v:Value) (l:List Fil) (W:World):Prop where
 fm:FMap W r l
 qs:Qs W v q
 ft:q.foldl zbn l=T
 mg:Mg w W r
 bb:tot l+zaW q≤70000000
 ll:q.length≤2000000
def DnR (r:Nat) (T:List Fil) (w:World) (a:Act) (W:World):Prop :=
 ∃ (q:List Oq) (A:Option Addr) (c:Nat) (l:List Fil) (u5 u6 u7 u8 u9 KA KC KD KE KF KH KI KJ KK KL KM KN KO KP KQ KR:Value),Hid (DnI r T w q (G A q.length c) l W)∧a=⟨#[.map (some r),G A q.length c,undef,undef,.map none,u5,u6,u7,u8,u9,KA,KC,KD,KE,KF,KH,KI,KJ,KK,KL,KM,KN,KO,KP,KQ,KR],[]⟩
theorem zqO (r:Nat) (l:List Fil) (q:List Oq) (vq:Value) (w:World) (hM:FMap w r l) (hQ:Qs w vq q) (hb:tot l+zaW q≤70000000) (hl:q.length≤2000000) :
  Calls I 163 #[.map (some r),vq] w fun e w'=>e=.returned (.map (some r))∧FMap w' r (q.foldl zbn l)∧Mg w w' r:=by
 obtain ⟨A,c,rfl,_,_⟩:=Qs.open_ hQ;obtain ⟨T,hT⟩:∃ T,q.foldl zbn l=T:=⟨_,rfl⟩
 have H0:=M (show DnI r T w q (G A q.length c) l w from ⟨hM,hQ,hT,Mg.of_ext (xR _) hM,hb,hl⟩)
 rw[hT];clear hM hQ hT hb
 refine (callsIn_wd (ro:=none) (n:=9)).1 ?_
 refine callsIn_of_wp Tryz.func163 rfl trivial ?_ rfl
 simp only[Tryz.ntmps163,P4,xC,P2,Pg,Pi,Pf,Pe,P0,P3,xI,P1]
 gi_wp2
 refine zcX 0 (DnR r T w) (fun a _=>lenOf (a.tmps.getD 1 undef)) rfl (fun l' h=>by cases l' <;> first | exact absurd rfl h | rfl) ?_ ?_
 ·intro Hg
  have Hu:=M Hg;clear Hg
  gi_wp2
  refine wpIn_label ?_
  gi_step
  gi_step
  exact Hu.out _ _ ⟨q,A,c,l,_,_,_,_,_,_,_,_,_,_,_,_,_,_,_,_,_,_,_,_,_,H0,rfl⟩
 ·clear H0 hl
  rintro a w1 ⟨q1,A1,c1,l1,u5,u6,u7,u8,u9,KA,KC,KD,KE,KF,KH,KI,KJ,KK,KL,KM,KN,KO,KP,KQ,KR,HI,rfl⟩
  cases q1 with
  | nil =>
   gi_wp2
   refine za5 ?_
   go_ret
   have:=HI.out.ft
   exact ⟨rfl,by rw[←this];exact HI.out.fm,HI.out.mg⟩
  | cons o q1 =>
   obtain ⟨_,b,H7,rfl,hc⟩:=HI.out.qs.at_ (by simp);obtain ⟨k0,k1,k2,B,d,k3,H6⟩:=hc 0 (by simp);simp only[List.getElem_cons_zero,Nat.zero_mul,Nat.add_zero] at k0 k1 k2 k3 H6;have HW:=HI.out.ll
   have hz:(((q1.length:Nat):Int)+1==0)=false:=by simp;omega
   have HR:=M H6;obtain ⟨_,_,e,Jo,Jp⟩:=Qs.open_ HI.out.qs
   cases e
   clear hc H6;obtain ⟨ok,on,ot,ob⟩:=o
   dsimp only at *
   simp only[xC] at *
   gi_wp2
   refine zcW (S:=fun W=>W.cell? ⟨b,H7,g⟩=U (H V ok)) (by kernel_rfl) k0 (fun _=>?_)
   refine tkN 1 ?_;refine tkN 2 ?_;refine tkN 3 ?_;refine tkN 4 ?_
   refine ar1 0 (fun K hK=>?_)
   go_simp
   refine (zjC _).mono ?_
   rintro e w2 ⟨rfl,Hl⟩
   have H5:Ext w1 w2:=by rw[←Hl];exact xA (xD (xR _)) _
   have H8:w2.heap[w1.drew.heap.size]?=U (.map ddMap 4):=by rw[←Hl];exact Po _ _
   have Kr:=zhJ ok w2 _ H8;clear Hl H8
   generalize w1.drew.heap.size=N at *
   have e0:=H5.cell k0
   refine shK hK _ _ e0 (fun _=>?_)
   refine ar1 5 (fun K hK=>?_)
   go_simp
   refine shK hK _ _ e0 (fun _=>?_)
   refine tkN 6 ?_;refine wdD ?_
   refine ze4 ?_
   have f1:w2.cell? ⟨b,H7+1,g⟩=U (R ⟨on.toArray⟩):=H5.cell k1
   have f2:w2.cell? ⟨b,H7+2,g⟩=U (R ⟨ot.toArray⟩):=H5.cell k2
   have f3:=H5.cell k3;have Jl:=M H5;have Hh:=M (HI.out.fm.ext H5);have HO:=M (Bs.ext HR.out H5);have HV:=M (HI.out.qs.ext H5);have Hm:=M (HI.out.mg.trans (Mg.of_ext H5 HI.out.fm));have Ke:=M HI.out.ft
   have Ky:tot l1+(ob.length+zaW q1)≤70000000:=by have:=HI.out.bb;rw[zcm] at this;exact this
   have K3:=M Ky
   have Ks:q1.length≤2000000:=by omega
   clear Kr k0 k1 k2 k3 H5 HR HI Ky;have Jb:=zoo;have Jc:=zop
   by_cases hk1:ok=1
   ·have hd:zdB ok=.func (.func 251) #[] #[]:=by subst hk1;rfl
    have HK:=M hk1;rw[hd];clear hk1 hd
    gi_wp2_with (refine ⟨trivial,?_⟩;gi_at_call 251;refine (callsIn_wd.2 (ztK r l1 ⟨ok,on,ot,ob⟩ _ w2 Hh.out HO.out HK.out)).mono ?_;rintro e w3 ⟨rfl,Hq,Hf⟩)
    all_goals exact mcDDonea0
   by_cases hk2:ok=2
   ·have hd:zdB ok=.func (.func 252) #[] #[]:=by subst hk2;rfl
    have HK:=M hk2;rw[hd];clear hk2 hd
    gi_wp2_with (refine ⟨trivial,?_⟩;gi_at_call 252;refine (callsIn_wd.2 (ztL r l1 ⟨ok,on,ot,ob⟩ _ w2 Hh.out HO.out (by have:=K3.out;dsimp only;omega) HK.out)).mono ?_;rintro e w3 ⟨rfl,Hq,Hf⟩)
    all_goals exact mcDDonea0
   by_cases hk3:ok=3
   ·have hd:zdB ok=.func (.func 253) #[] #[]:=by subst hk3;rfl
    have HK:=M hk3;rw[hd];clear hk3 hd
    gi_wp2_with (refine ⟨trivial,?_⟩;gi_at_call 253;refine (callsIn_wd.2 (ztM r l1 ⟨ok,on,ot,ob⟩ _ w2 Hh.out HO.out HK.out)).mono ?_;rintro e w3 ⟨rfl,Hq,Hf⟩)
    all_goals exact mcDDonea0
   by_cases hk4:ok=4
   ·have hd:zdB ok=.func (.func 254) #[] #[]:=by subst hk4;rfl
    have HK:=M hk4;rw[hd];clear hk4 hd
    gi_wp2_with (refine ⟨trivial,?_⟩;gi_at_call 254;refine (callsIn_wd.2 (ztN r l1 ⟨ok,on,ot,ob⟩ _ w2 Hh.out HO.out HK.out)).mono ?_;rintro e w3 ⟨rfl,Hq,Hf⟩)
    all_goals exact mcDDonea0
   have hd:zdB ok=.nilFunc:=by unfold zdB;rw[if_neg hk1,if_neg hk2,if_neg hk3,if_neg hk4]
   rw[hd];clear hd
   gi_wp2
   all_goals
    refine wpIn_goto ?_
    try simp only[Exit.then]
    refine zar (by simp) ⟨⟨q1,_,_,l1,_,_,_,_,_,_,_,_,_,_,_,_,_,_,_,_,_,_,_,_,_,?_,rfl⟩,by simp[lenOf]⟩
    refine ⟨Hh.out,?_,by have h9:=Ke.out;rw[P5,zpf hk1 hk2 hk3 hk4] at h9;exact h9,Hm.out,by have:=K3.out;omega,Ks⟩
    first
     | exact Qs.tail HV.out _ (fun _=>rfl)
     | (have h9:=Qs.tail HV.out (U ⟨b,H7,g⟩) (fun h=>by omega);rwa [show c1-1=0 from by omega] at h9)
theorem zi2 (v:Value) (d:Dk) (w:World) (hD:DkV w v d) (HW:d.fs.length≤2000000) (K7:d.q.length≤2000000) (hb:tot d.fs+zaW d.q≤70000000) :
  Calls I 96 #[v] w fun e w'=>∃ r,e=.returned (.map (some r))∧FMap w' r (zbF d.fs d.q)∧w.heap.size≤r∧Ext w w':=by
 obtain ⟨vf,vq,rfl,hF,hQ⟩:=hD;obtain ⟨A,c,rfl,_,_⟩:=Fs.open_ hF;obtain ⟨B,e2,rfl,_,_⟩:=Qs.open_ hQ
 have Ha:Ext w (w.alloc (O #[G A d.fs.length c,G B d.q.length e2,H y d.quota,H y d.fuse,.bool d.dead] 25)):=xA (xR _) _
 have Hw:=Pd w 25 #[G A d.fs.length c,G B d.q.length e2,H y d.quota,H y d.fuse,.bool d.dead];have HF:=M (hF.ext Ha);have HQ:=M (hQ.ext Ha);have HS:=M Ha;have KT:=M Hw;have HB:=M hb;clear hF hQ Ha Hw hb;obtain ⟨g0,g1,g2,g3,g4⟩:=zaa KT.out
 go_enter Tryz.func96,Tryz.ntmps96
 go_wp2_with fail
 refine wp_region_held_drew (S:=fun W=>W.cell? ⟨w.heap.size,0,g⟩=U (G A d.fs.length c)∧W.cell? ⟨w.heap.size,1,g⟩=U (G B d.q.length e2)) (by kernel_rfl) ⟨g0,g1⟩ (fun _=>?_)
 refine tkN 0 ?_;refine tkN 1 ?_;refine tkN 3 ?_;refine tkN 4 ?_
 refine ar1 2 (fun K hK=>?_)
 go_simp
 refine (zp7 _ d.fs _ (Fs.ext HF.out (xD (xR _))) HW).mono ?_
 rintro e w1 ⟨r,rfl,Hz,HY,Hv⟩;have Hd:=xT (xD (xR _)) Hv;have K1:=M Hz;have Hc:=M Hd;have Kf:=M g0;have Ht:=M g1
 have hr:w.heap.size≤r:=Ph HS.out.size HY
 clear g0 g1 g2 g3 g4 Hz Hd Hv HY
 refine shK hK _ _ ⟨Hc.out.cell Kf.out,Hc.out.cell Ht.out⟩ (fun _=>?_)
 refine ar1 5 (fun K hK=>?_)
 go_simp
 refine (zqO r (zcE d.fs) d.q _ w1 K1.out (HQ.out.ext Hc.out) (by have:=zia d.fs;have:=HB.out;omega) K7).mono ?_
 rintro e w2 ⟨rfl,H4,Kp⟩;have Hh:=M H4;have Hm:=M Kp;clear H4 Kp
 refine shK hK _ _ ⟨Hm.out.cell (Hc.out.cell Kf.out),Hm.out.cell (Hc.out.cell Ht.out)⟩ (fun _=>?_)
 refine tkN 6 ?_;refine wdD ?_;go_wp2_with fail;go_ret
 exact ⟨r,rfl,Hh.out,hr,Hm.out.ext (xT HS.out Hc.out) hr⟩
def zg2 (W:World) (r i:Nat):Nat:=match W.heap[i]?,W.heap[r]? with
 | some (.mapIter _ _ seen _),some (.map es _)=>(es.toList.filter fun e=>!seen.contains e.born).length
 | _,_=>0
theorem FIt.left {W:World} {r i:Nat} {l L:List Fil} (h:FIt W r i l L):zg2 W r i=L.length:=by
 obtain ⟨es,Kj,Kz,seen,c0,Z,h1,h2,h3,h4,h5,Jm,h6,h7,h8,h9⟩:=h;unfold zg2;rw[h2,h1];dsimp only;rw[h6,h9,Pb,List.filter_map,Pb];rfl
structure UsI (r i:Nat) (l:List Fil) (w:World) (n:Nat) (W:World):Prop where
 ex:∃ L,FIt W r i l L∧n+tot L=tot l
 e:Ext w W
theorem zm0 (r:Nat) (l:List Fil) (w:World) (hM:FMap w r l) (hb:tot l≤2000000000):Calls I 173 #[.map (some r)] w fun e w'=>e=.returned (H y (tot l))∧Ext w w':=by
 go_enter Tryz.func173,Tryz.ntmps173
 go_wp2_with (at_range;refine zkt rfl (.tmp 5) rfl Tryz.underlying142 r l rfl hM ?_;intro w1 Kq Hd)
 have HU:=M (show UsI r w.heap.size l w 0 w1 from ⟨⟨l,Kq,by omega⟩,Hd⟩)
 clear Kq Hd hM
 go_frame
 go_loopw [2,4] (fun n b wr=>∃ k:Nat,n=H y k∧Hid (UsI r w.heap.size l w k wr)) (fun _ _ wr=>zg2 wr r w.heap.size)
 case atStart=>exact ⟨0,rfl,HU⟩
 case round =>
  obtain ⟨k,rfl,HI⟩:=hrel;obtain ⟨L,hI,ht⟩:=HI.out.ex;have HE:=M HI.out.e;have Ki:=M hI.left;clear HI HU
  go_wp2_with (at_next;refine zly rfl (.tmp 6) rfl r w.heap.size l L rfl hI ?_ ?_)
  ·intro hL
   subst hL
   have hk:k=tot l:=by simp[tot] at ht ⊢;omega
   subst hk;go_wp2_with fail;go_ret
   exact ⟨rfl,HE.out⟩
  ·intro n b A c L' w2 hp K4 Kl H4 Jf K6
   have Kb:=zmZ hp;rw[zcO] at Kb;dsimp only at Kb;have Kt:=hp.length_eq;rw[xC] at Kt
   have KZ:=M (show zg2 w2 r w.heap.size<zg2 wr r w.heap.size by rw[K4.left,Ki.out];omega)
   have J1:=M (show UsI r w.heap.size l w (k+b.length) w2 from ⟨⟨L',K4,by omega⟩,H4.ext HE.out (xN _)⟩)
   have hk:k+b.length≤2000000000:=by omega
   clear hI K4 H4 hp Kt Kb ht Ki HE Kl Jf
   simp only[sv] at K6 ⊢
   go_wp2_with fail
   go_roundw
   case rel=>exact ⟨k+b.length,by go_num,J1⟩
   case measure=>exact KZ.out
theorem zsg (v:Value) (d:Dk) (w:World) (hD:DkV w v d) (HW:d.fs.length≤2000000) (K7:d.q.length≤2000000) (hb:tot d.fs+zaW d.q≤70000000) :
  Calls I 275 #[v] w fun e w'=>e=.returned (H y (tot d.now))∧Ext w w':=by
 obtain ⟨vf,vq,rfl,hF,hQ⟩:=hD;obtain ⟨A,c,rfl,_,_⟩:=Fs.open_ hF;obtain ⟨B,e2,rfl,_,_⟩:=Qs.open_ hQ
 have Ha:Ext w (w.alloc (O #[G A d.fs.length c,G B d.q.length e2,H y d.quota,H y d.fuse,.bool d.dead] 25)):=xA (xR _) _
 have Hw:=Pd w 25 #[G A d.fs.length c,G B d.q.length e2,H y d.quota,H y d.fuse,.bool d.dead]
 have hc:=zi2 _ d _ (show DkV _ _ d from ⟨_,_,rfl,hF.ext Ha,hQ.ext Ha⟩) HW K7 hb
 have HC:=M hc;have HS:=M Ha;have Ji:=zfO d.fs d.q
 have HD:tot d.now=tot (zbF d.fs d.q):=ziy d.fs d.q
 have HN:=M HD
 have HT:=M (show tot (zbF d.fs d.q)≤2000000000 by omega)
 clear hF hQ Ha hc Ji HD hb;obtain ⟨g0,g1,g2,g3,g4⟩:=zaa Hw;clear Hw
 go_enter Tryz.func275,Tryz.ntmps275
 go_wp2_with fail
 refine HC.out.mono ?_
 rintro e w1 ⟨r,rfl,Hz,HY,Hd⟩;have K1:=M Hz;have Hc:=M (xT HS.out Hd);clear Hz HY Hd g0 g1 g2 g3 g4 HC;go_wp2_with fail
 refine (zm0 r _ w1 K1.out HT.out).mono ?_
 rintro e w2 ⟨rfl,H5⟩;go_wp2_with fail;go_ret
 exact ⟨by rw[HN.out];rfl,xT Hc.out H5⟩
theorem mcDFinea0 {P:Prop} (h:P:=by
 subst hf;have HT:=M ht;clear ht;refine tkN 4 ?_;refine tkN 5 ?_;refine tkN 6 ?_;refine tkN 7 ?_;refine tkN 8 ?_;refine tkN 9 ?_;refine tkN 10 ?_;refine tkN 11 ?_;refine tkN 12 ?_;refine tkN 13 ?_;refine tkN 14 ?_;refine tkN 15 ?_;refine tkN 16 ?_;refine tkN 17 ?_;refine tkN 18 ?_;refine tkN 19 ?_;refine tkN 20 ?_;refine wdD ?_;go_wp2_with fail;go_ret
 exact ⟨rfl,HE.out⟩):P:=h
theorem mcDFinea1 {P:Prop} (h:P:=by
 refine tkN 9 ?_;refine tkN 10 ?_;refine tkS 11 ?_;refine tkS 12 ?_;refine tkS 13 ?_;refine tkS 14 ?_;refine tkS 15 ?_;refine tkS 16 ?_;refine tkS 17 ?_;refine tkS 18 ?_;refine tkN 19 ?_;refine tkN 20 ?_;refine wdD ?_;go_wp2_with fail;go_ret
 exact ⟨rfl,HE.out⟩):P:=h
theorem zqT {k:Int} (h:k=1∨k=2∨k=3∨k=4):∃ f,zdB k=.func (.func f) #[] #[]:=by
 unfold zdB
 rcases h with rfl | rfl | rfl | rfl <;> exact ⟨_,rfl⟩
theorem zpd {k:Int} (h:¬ (k=1∨k=2∨k=3∨k=4)):zdB k=.nilFunc:=by
 unfold zdB;rw[if_neg (by omega),if_neg (by omega),if_neg (by omega),if_neg (by omega)]
theorem zkE (o:Oq) (v:Value) (w:World) (hB:Bs w v o.b):Calls I 172 #[.agg #[H V o.k,sv o.n,sv o.t,v]] w fun e w'=>e=.returned (.bool (zbo o))∧Ext w w':=by
 obtain ⟨A,c,rfl,_,_⟩:=xO hB;obtain ⟨k,n,t,b⟩:=o
 dsimp only at *
 have hX:Ext w (w.alloc (O #[H V k,sv n,sv t,G A b.length c] 98)):=xA (xR _) _
 have H9:=Pd w 98 #[H V k,sv n,sv t,G A b.length c];have HX:=M hX;have Hs:=M H9
 have HK:=M (fun W r h=>zhJ k W r h)
 have Jb:=zoo;have Jc:=zop;clear hX H9 hB
 simp only[sv] at *
 obtain ⟨F,hF⟩:∃ F,zbo ⟨k,n,t,b⟩=F:=⟨_,rfl⟩;rw[hF];have HF:=M hF;clear hF;obtain ⟨g0,g1,g2,g3⟩:=blk4 Hs.out
 go_enter Tryz.func172,Tryz.ntmps172
 go_wp2_with fail
 refine wp_region_held_drew (S:=fun W=>W.cell? ⟨w.heap.size,0,g⟩=U (H V k)∧W.cell? ⟨w.heap.size,1,g⟩=U (R ⟨n.toArray⟩)∧W.cell? ⟨w.heap.size,2,g⟩=U (R ⟨t.toArray⟩)) (by kernel_rfl) ⟨g0,g1,g2⟩ (fun _=>?_)
 refine tkN 1 ?_;refine tkN 2 ?_
 refine ar1 0 (fun K hK=>?_)
 go_simp
 refine (zjC _).mono ?_
 rintro e w2 ⟨rfl,Hl⟩
 have H5:Ext (w.alloc (O #[H V k,R ⟨n.toArray⟩,R ⟨t.toArray⟩,G A b.length c] 98)) w2:=by rw[←Hl];exact xA (xD (xR _)) _
 have H8:w2.heap[(w.alloc (O #[H V k,R ⟨n.toArray⟩,R ⟨t.toArray⟩,G A b.length c] 98)).drew.heap.size]?=U (.map ddMap 4):=by rw[←Hl];exact Po _ _
 have Kr:=HK.out w2 _ H8;clear Hl H8
 generalize (w.alloc (O #[H V k,R ⟨n.toArray⟩,R ⟨t.toArray⟩,G A b.length c] 98)).drew.heap.size=N at *
 obtain ⟨e0,e1,e2,_⟩:=blk4 (Hs.out.ext H5);have HE:=M (xT HX.out H5);clear g0 g1 g2 g3 H5
 refine shK hK _ _ ⟨e0,e1,e2⟩ (fun _=>?_)
 refine ar1 3 (fun K hK=>?_)
 go_simp
 refine shK hK _ _ ⟨e0,e1,e2⟩ (fun _=>?_)
 by_cases hk:k=1∨k=2∨k=3∨k=4
 case neg =>
  rw[zpd hk]
  have hf:false=F:=by
   rw[←HF.out]
   symm
   rw[Pm];intro h
   exact hk ((zeo _).1 h).1
  subst hf;clear hk;refine tkN 4 ?_;refine tkN 5 ?_;refine tkS 6 ?_;refine tkS 7 ?_;refine tkS 8 ?_
  exact mcDFinea1
 obtain ⟨f,hf⟩:=zqT hk;rw[hf];have Kh:=M hk;clear hf hk
 by_cases hn:n=[]
 case pos =>
  have Hr:(n==[])=true:=by simpa using hn
  have hf:false=F:=by
   rw[←HF.out]
   symm
   rw[Pm];intro h
   exact ((zeo _).1 h).2.1 hn
  subst hf;have HN:=M hn;clear hn;refine tkN 4 ?_;refine tkN 5 ?_;refine tkN 6 ?_;refine tkN 7 ?_;refine tkN 8 ?_
  exact mcDFinea1
 have Hr:(n==[])=false:=by simpa using hn
 have HN:=M hn;clear hn
 by_cases hk3:k=3
 case neg =>
  have J9:(k != 3)=true:=by simp[hk3]
  have hf:true=F:=by
   rw[←HF.out]
   exact ((zeo _).2 ⟨Kh.out,HN.out,fun h=>absurd h hk3⟩).symm
  subst hf;clear hk3;refine tkN 4 ?_;refine tkN 5 ?_;refine tkN 6 ?_;refine tkN 7 ?_;refine tkN 8 ?_;refine tkN 9 ?_;refine tkN 10 ?_;refine tkN 11 ?_;refine tkN 12 ?_;refine tkN 13 ?_;refine tkN 14 ?_;refine tkS 15 ?_;refine tkS 16 ?_;refine tkS 17 ?_;refine tkN 18 ?_;refine tkN 19 ?_;refine tkN 20 ?_;refine wdD ?_;go_wp2_with fail;go_ret
  exact ⟨rfl,HE.out⟩
 have J9:(k != 3)=false:=by simp[hk3]
 have KY:=M hk3;clear hk3
 by_cases ht:t=[]
 case pos =>
  have Jh:(t==[])=true:=by simpa using ht
  have hf:false=F:=by
   rw[←HF.out]
   symm
   rw[Pm];intro h
   exact ((zeo _).1 h).2.2 KY.out ht
  exact mcDFinea0
 have Jh:(t==[])=false:=by simpa using ht
 have hf:true=F:=by
  rw[←HF.out]
  exact ((zeo _).2 ⟨Kh.out,HN.out,fun _=>ht⟩).symm
 exact mcDFinea0
/-! Right's test of the queue -/
theorem znz (o:Oq) (v:Value) (w:World) (hB:Bs w v o.b):Calls I 274 #[.agg #[H V o.k,sv o.n,sv o.t,v]] w fun e w'=>e=.returned (.bool (!zbo o))∧Ext w w':=by
 obtain ⟨A,c,rfl,_,_⟩:=xO hB
 have hX:Ext w (w.alloc (O #[H V o.k,sv o.n,sv o.t,G A o.b.length c] 98)):=xA (xR _) _
 obtain ⟨g0,g1,g2,g3⟩:=blk4 (Pd w 98 #[H V o.k,sv o.n,sv o.t,G A o.b.length c]);have HC:=M (zkE o _ _ (hB.ext hX));have HX:=M hX;clear hX hB
 simp only[sv] at *
 go_enter Tryz.func274,Tryz.ntmps274
 go_wp2_with fail
 refine HC.out.mono ?_
 rintro e w1 ⟨rfl,hE⟩;go_wp2_with fail;go_ret
 exact ⟨rfl,xT HX.out hE⟩
def zgQ:List Oq→Nat→Int
 | [],_=>-1
 | o::q,i=>if zbo o then zgQ q (i+1) else i
theorem znm (q:List Oq) (i:Nat):(0≤zgQ q i↔q.all zbo=false)∧-1≤zgQ q i:=by
 induction q generalizing i with
 | nil=>simp[zgQ]
 | cons o q ih =>
  have:=ih (i+1)
  unfold zgQ;rw[List.all_cons]
  cases h:zbo o <;> simp[h] at this ⊢ <;> first | omega | exact this
theorem zj8 (v:Value) (q:List Oq) (w:World) (h:Qs w v q) (hl:q.length≤2000000) :
  Calls I 295 #[v,.func (.func 274) #[] #[]] w fun e w'=>e=.returned (H y (zgQ q 0))∧Ext w w':=by
 obtain ⟨A,c,rfl,h1,h2⟩:=Qs.open_ h;have HQ:=M h;clear h
 go_enter Tryz.func295,Tryz.ntmps295
 go_wp2_with fail
 go_loopw [8] (fun i wr=>∃ k:Nat,k≤q.length∧i=H y k∧Hid (zgQ q 0=zgQ (q.drop k) k)∧Ext w wr) (fun i _=>q.length-(intOf i).toNat)
 case atStart=>exact ⟨0,Nat.zero_le _,rfl,rfl,xR _⟩
 case round =>
  obtain ⟨k,hk,rfl,Hb,hB⟩:=hrel
  by_cases Hk:k<q.length
  ·obtain ⟨_,b,H7,rfl,hc⟩:=(HQ.out.ext hB).at_ (by omega)
   obtain ⟨k0,k1,k2,B,d,k3,H6⟩:=hc k Hk;have K5:=Hb.out;rw[List.drop_eq_getElem_cons Hk,zgQ] at K5;have Kd:=M K5
   have HC:=M (fun W hW=>znz q[k] _ W (Bs.ext H6 hW))
   clear hc H6 K5 Hb
   generalize q[k]=o at *
   simp only[sv] at *
   go_wp2_with (go_at_call 274;refine (HC.out _ (xR _)).mono ?_;rintro e w' ⟨rfl,hb⟩)
   ·go_ret
    have Hr:zbo o=false:=by simpa using (by assumption:(!zbo o)=true)
    have:=Kd.out
    rw[Hr] at this
    exact ⟨by rw[this];rfl,xT hB hb⟩
   ·go_roundw
    case rel =>
     have Jd:zbo o=true:=by simpa using (by assumption:(!zbo o)=false)
     have:=Kd.out
     rw[Jd] at this
     exact ⟨k+1,by omega,by go_num,this,xT hB hb⟩
    case measure=>simp[intOf];omega
  ·go_wp2_with fail
   go_ret
   have:=Hb.out
   rw[List.drop_of_length_le (by omega)] at this
   exact ⟨by rw[this];rfl,hB⟩
theorem ziB (v:Value) (q:List Oq) (w:World) (h:Qs w v q) (hl:q.length≤2000000) :
  Calls I 273 #[v,.func (.func 274) #[] #[]] w fun e w'=>e=.returned (.bool (!q.all zbo))∧Ext w w':=by
 obtain ⟨h1,h2⟩:=znm q 0;have H1:=M h1;have H2:=M h2;have HC:=M (zj8 v q w h hl);clear h1 h2
 go_enter Tryz.func273,Tryz.ntmps273
 go_wp2_with fail
 refine HC.out.mono ?_
 rintro e w1 ⟨rfl,hE⟩;go_wp2_with fail;go_ret
 refine ⟨ret_bool ?_,hE⟩
 have:=H1.out
 cases h:q.all zbo <;> simp[h] at this ⊢ <;> omega
end Go.Proofs.YteggfecbjgbndaaGreatDoor
