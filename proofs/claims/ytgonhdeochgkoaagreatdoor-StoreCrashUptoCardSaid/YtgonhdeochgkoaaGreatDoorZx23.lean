/- Merged -/
import Derived.Test.YtgonhdeochgkoaaGreatDoorZx18
import Derived.Test.YtgonhdeochgkoaaGreatDoorZx22
import Derived.Maps.OwnIn
set_option linter.all false
set_option maxHeartbeats 8000000
set_option maxRecDepth 100000
open Go.Result renaming andThen→P0
open List renaming push_toArray→P1,cons_append→P2,length_nil→P3,append_toArray→P4,size_toArray→P5,foldl_cons→P6,getD_eq_getElem?_getD→P7,getElem?_eq_getElem→P8,getElem?_drop→P9,append_assoc→Pa,length_drop→Pb,length_map→Pc,map_cons→Pd
open Go.Oper renaming semAt_plain→Pe,about→Pf,wpIn→Pg,semAt_some→Ph,wp→Pi
open Nat renaming le_trans→Pj,reduceAdd→Pk,reduceSub→Pl,lt_of_lt_of_le→Pm,le_of_eq→Pn
open Array renaming replicate_zero→Po,replicate_succ→Pp
open Option renaming getD_some→Pq,isSome_some→Pr
open Go.Mv.Blk renaming new→Ps
open Go.World renaming block_lt_of_cell?→Pt,cell?→Pu
open Go.Op renaming equalIn→Pv,mapUpdate→Pw,maxDepth→Px,equal→Py
namespace Go.Proofs.YtgonhdeochgkoaaGreatDoor
open Go.RowKit Go.Mv Go.MapKept Go.ChangeMaps
section
variable {P:Program} {T K E:TypeId} {F:Fence} {nF:Nat} {w:World} {ops:Array Oper} {rest:List Oper} {o:Oper} {a:Act} {Q:Exit→Act→World→Prop}
theorem ziT (hg:o.guard=none) (m x:Operand) (ok:Bool) (H2:o.op=Op.lookup T m x ok) (hT:P.underlying T=some (.map K E)) (hK:P.underlying K=some .string) (hz:(zeroValue E).run P w=.ok (.slice none 0 0) w)
  (r:Nat) (l:List Fil) (hm:a.eval m=.map (some r)) (hF:FMap w r l) (n:List UInt8) (hx:a.eval x=sv n)
  (h:∀ A c,Bs w (.slice A ((zah n l).getD []).length c) ((zah n l).getD [])→wpListIn F nF P ops Q rest (a.put o.dst (if ok then .tuple #[.slice A ((zah n l).getD []).length c,.bool (zah n l).isSome] else .slice A ((zah n l).getD []).length c)) w) :
  wpListIn F nF P ops Q (o::rest) a w:=by
 refine wpListIn_plain hg fun K' Hc=>?_
 obtain ⟨v,H1,h1,h2⟩:=hF.lookup hT hK n hz ok
 have hv:Bs w v ((zah n l).getD []):=by
  cases hf:zah n l with
  | none=>rw[h1 hf];exact SlR.nil w 1
  | some b=>exact h2 b hf
 obtain ⟨A,c,rfl,_,_⟩:=xO hv;unfold Pg
 refine ⟨by simp[Pf,H2],?_⟩
 rw[Pe F _ _ (by rw[H2];intro c H9;cases H9)]
 simp[execOp,H2,hm,hx,H1,P0]
 exact Hc _ _ (by simpa using h A c hv)
theorem ziU (hg:o.guard=none) (m x v:Operand) (H2:o.op=Pw T m x v) (hT:P.underlying T=some (.map K E)) (hK:P.underlying K=some .string)
  (r:Nat) (l:List Fil) (hm:a.eval m=.map (some r)) (hF:FMap w r l) (n:List UInt8) (hx:a.eval x=sv n) (u:Value) (b:List UInt8) (hv:a.eval v=u) (hb:Bs w u b)
  (h:∀ w',FMap w' r (zbt n b l)→MT w w' r→wpListIn F nF P ops Q rest (a.put o.dst undef) w'):wpListIn F nF P ops Q (o::rest) a w:=by
 refine wpListIn_plain hg fun K' Hc=>?_
 obtain ⟨w',H1,h1,h2⟩:=hF.update hT hK n hb;unfold Pg
 refine ⟨by simp[Pf,H2],?_⟩
 rw[Pe F _ _ (by rw[H2];intro c H9;cases H9)]
 simp[execOp,H2,hm,hx,hv,H1,P0]
 exact Hc _ _ (h w' h1 h2)
theorem zjV (hg:o.guard=none) (m:Operand) (H2:o.op=Op.range T m) (hT:P.underlying T=some (.map K E)) (r:Nat) (l:List Fil) (hm:a.eval m=.map (some r)) (hF:FMap w r l)
  (h:∀ w',FIt w' r w.heap.size l l→Ext w w'→wpListIn F nF P ops Q rest (a.put o.dst (.pointer (some ⟨w.heap.size,0,none⟩))) w'):wpListIn F nF P ops Q (o::rest) a w:=by
 refine wpListIn_plain hg fun K' Hc=>?_
 obtain ⟨w',H1,h1,h2⟩:=hF.range hT;unfold Pg
 refine ⟨by simp[Pf,H2],?_⟩
 rw[Pe F _ _ (by rw[H2];intro c H9;cases H9)]
 simp[execOp,H2,hm,H1,P0]
 exact Hc _ _ (h w' h1 h2)
theorem zkG (hg:o.guard=none) (it:Operand) (H2:o.op=Op.next it false) (r i:Nat) (l L:List Fil) (Kr:a.eval it=.pointer (some ⟨i,0,none⟩)) (hI:FIt w r i l L)
  (Hs:L=[]→wpListIn F nF P ops Q rest (a.put o.dst (.tuple #[.bool false])) w)
  (Hu:∀ n b A c L' w',L.Perm ((n,b)::L')→FIt w' r i l L'→Bs w' (.slice A b.length c) b→MT w w' i→r≠i→(Instr.entry (.pointer (some ⟨i,0,none⟩))).run P w'=.ok (.tuple #[sv n,.slice A b.length c]) w' →
    wpListIn F nF P ops Q rest (a.put o.dst (.tuple #[.bool true,sv n,.slice A b.length c])) w'):wpListIn F nF P ops Q (o::rest) a w:=by
 refine wpListIn_plain hg fun K' Hc=>?_
 unfold Pg
 refine ⟨by simp[Pf,H2],?_⟩
 rw[Pe F _ _ (by rw[H2];intro c H9;cases H9)]
 rcases hI.next (P:=P) o.type with ⟨h0,H1⟩ | ⟨n,b,v,L',w',h1,H1,h3,h4,h5,h6,h7⟩
 ·simp[execOp,H2,Kr,H1,P0]
  exact Hc _ _ (Hs h0)
 ·obtain ⟨A,c,rfl,_,_⟩:=xO h4
  simp[execOp,H2,Kr,H1,P0]
  exact Hc _ _ (Hu n b A c L' w' h1 h3 h4 h5 h6 h7)
end
/-! A map while a range over a function goes on -/
theorem FMap.keep2 {A B:World} {r:Nat} {l:List Fil} (h:FMap A r l) (hr:∀ es c,A.heap[r]?=some (.map es c)→B.heap[r]?=some (.map es c)) (hk:∀ p x,A.cell? p=some x→B.cell? p=some x):FMap B r l:=by
 obtain ⟨es,c,hb,hs,he⟩:=h
 exact ⟨es,c,hr _ _ hb,hs,he.keep hk⟩
theorem FMap.moves {A B:World} {r n:Nat} {l:List Fil} (h:FMap A r l) (hm:Moves (zad (fun _ _=>False) n) A B) (hr:r<n):FMap B r l:=by
 refine h.keep2 (fun es c hb=>hm.same _ _ hb ?_) (fun p x hc=>hm.cell hc fun o ho Hw=>?_)
 ·rintro (h | ⟨h,_⟩)
  ·exact h
  ·omega
 ·rintro (h | ⟨_,h⟩)
  ·exact h
  ·rw[Hw] at h;cases h
theorem Bs.moves {A B:World} {n:Nat} {v:Value} {b:List UInt8} (h:Bs A v b) (hm:Moves (zad (fun _ _=>False) n) A B):Bs B v b:=by
 refine SlR.keep h fun p x hc=>hm.cell hc fun o ho Hw=>?_
 rintro (h | ⟨_,h⟩)
 ·exact h
 ·rw[Hw] at h;cases h
theorem Kept.mt {K:Nat→Obj→Prop} {A B C:World} {r:Nat} (h:Kept K A B) (hm:MT B C r) (hr:∀ o,A.heap[r]?=some o→¬ K r o):Kept K A C :=
 ⟨Pj h.size (Pn hm.size.symm),fun k o hk ho=>by
   have Hk:=h.same k o hk ho
   refine (hm.block k (fun e=>?_)).trans Hk
   subst e
   exact hr o hk ho⟩
open Go.RowKit Go.Mv Go.Shelf
def zfS (fs:List Fil):Nat→List (Nat×Fil)
 | 0=>[]
 | k+1=>(k,fs.getD k ([],[]))::zfS fs k
theorem zm4 (fs:List Fil):∀ k,k≤fs.length→(zfS fs k).map (·.2)=(fs.take k).reverse
 | 0,_=>rfl
 | k+1,h=>by
  rw[zfS,Pd,zm4 fs k (by omega),List.take_succ_eq_append_getElem (by omega),List.reverse_append]
  simp[P7,P8 (show k<fs.length by omega)]
theorem zsV {wo A B:World} {n:Nat} (h:Hold wo A) (hk:Kept (zad (fun _ o=>o.isCells=true) n) A B):Hold wo B:=fun q u hq=>by
 refine hk.cell (h q u hq) fun o ho=>?_
 obtain ⟨o',Kw,Hw⟩:=cells_of_cell (h q u hq);rw[ho] at Kw
 cases Kw
 exact .inl Hw
attribute [local go_sem] Ph in
theorem zqC (wo W0:World) (v:Value) (fs:List Fil) (hF:Fs wo v fs) (J6:fs.length≤4000000) (hH:Hold wo W0) (B:Nat) (hB:Boxed W0 B 22 v) (h1:∀ p u,wo.cell? p=some u→p.block<W0.heap.size) :
  Seq Tryz.prog 210 #[.pointer (some ⟨B,0,none⟩)] (fun (x:Nat×Fil) av W=>∃ C d,av = #[.int .i64 x.1,.agg #[sv x.2.1,.slice C x.2.2.length d]]∧Bs W (.slice C x.2.2.length d) x.2.2) (fun _ o=>o.isCells=true) (fun _ _=>False) (zfS fs fs.length) W0:=by
 intro l J Jx hJ Jf hY h0;obtain ⟨A,c,rfl,Hd,Kl⟩:=Fs.open_ hF
 refine (callsIn_wd (ro:=none) (n:=9)).1 ?_
 refine callsIn_of_wp Tryz.func210 rfl trivial ?_ rfl
 simp only[Tryz.ntmps210,P5,xC,P3,Pk,Pl,Pp,Po,P1,P4,xI,P2];have J2:=zhd hF;clear hF;obtain ⟨all,Hh⟩:∃ all,zfS fs fs.length=all:=⟨_,rfl⟩
 rw[Hh] at hY ⊢
 have HA:=zhd Hh;have c1:=hB.cell;clear Hh
 gi_wp2
 clear c1
 gi_loopw [3] (fun j W=>∃ (z:Int) (H3:List (Nat×Fil)),j=.int .i64 z∧-1≤z∧z<fs.length∧Hid (all=H3++zfS fs (z+1).toNat)∧Hid (J H3 W)∧Hold wo W∧Boxed W B 22 (.slice A fs.length c)∧W0.heap.size≤W.heap.size) (fun j _=>(intOf j+1).toNat)
 case atStart=>exact ⟨(fs.length:Int)-1,[],by go_num,by omega,by omega,by rw[show ((fs.length:Int)-1+1).toNat=fs.length from by omega];exact HA.out.symm,h0,hH,hB,xN _⟩
 case round =>
  obtain ⟨z,H3,rfl,Jm,Jn,HP,HJ,HH,bB,K1⟩:=hrel
  by_cases hz:0≤z
  ·obtain ⟨k,rfl⟩:=Int.eq_ofNat_of_zero_le hz
   have HZ:k<fs.length:=by omega
   obtain ⟨_,b,H7,rfl,hc⟩:=(J2.out.keep HH).at_ (by omega);obtain ⟨Kn,B2,d2,Ko,H6⟩:=hc k HZ;have Ho:=HP.out
   rw[show ((k:Int)+1).toNat=k+1 from by omega,zfS,show fs.getD k ([],[])=fs[k] from by simp[P7,P8 HZ]] at Ho
   have K4:=zhd Ho;have J3:=zhd hY;have HV:=zhd H6;clear hc Ho hY H6
   generalize fs[k]=x at *
   have hy:=J3.out H3 (k,x) _ K4.out wr #[.int .i64 (k:Int),.agg #[sv x.1,.slice B2 x.2.length d2]] HJ.out K1 ⟨B2,d2,rfl,HV.out⟩;have Hy:=zhd hy;have KW:=zhd HH;have c1:=bB.cell;clear hy HH
   simp only[sv] at *
   gi_wp2
   refine zbb Hy.out ?_
   rintro e W' ⟨Hx,⟨rfl,hj⟩ | ⟨rfl,hj⟩⟩
   ·refine ⟨true,rfl,?_⟩
    have d1:Boxed W' B 22 (.slice (some ⟨b,H7,none⟩) fs.length c):=Hx.boxed bB (.inl rfl)
    have J9:=Pj K1 Hx.size;have KX:=zhd (zsV KW.out Hx);have K2:=zhd hj
    have Ky:all=(H3++[(k,x)])++zfS fs k:=by rw[Pa];exact K4.out
    have J4:=zhd Ky;clear hj Hx Ky Hy Kn Ko c1
    gi_wp2
    exact ⟨⟨(k:Int)-1,H3++[(k,x)],by go_num,by omega,by omega,by rw[show ((k:Int)-1+1).toNat=k from by omega];exact J4.out,K2.out,KX.out,d1,J9⟩,by simp[intOf]⟩
   ·refine ⟨false,rfl,?_⟩
    have K2:=zhd hj;clear hj Hx Kn Ko c1
    gi_wp2
    refine bodyPost_ret (results_none rfl _ _ _) rfl ?_
    refine ⟨⟨_,rfl⟩,.inr ⟨H3++[(k,x)],?_,K2.out⟩⟩
    exact ⟨zfS fs k,by rw[Pa];exact K4.out.symm⟩
  ·obtain rfl:z = -1:=by omega
   have Ho:=HP.out
   rw[show ((-1:Int)+1).toNat=0 from rfl,show zfS fs 0=[] from rfl,List.append_nil] at Ho
   subst Ho;clear HP hY
   gi_wp2
   refine bodyPost_end (results_none rfl _ _ _) rfl ?_
   exact ⟨⟨_,rfl⟩,.inl HJ.out⟩
theorem zss (A:Option Addr) (n c:Nat) (w:World):Calls Tryz.prog 173 #[.slice A n c] w fun e w'=>e=.returned (.func (.func 210) #[] #[.pointer (some ⟨w.heap.size,0,none⟩)])∧w.alloc (.cells #[.slice A n c] 22)=w':=by
 go_enter Tryz.func173,Tryz.ntmps173
 go_wp2
 go_ret
 exact ⟨rfl,rfl⟩
theorem FMap.putObj {W:World} {r D:Nat} {l:List Fil} (h:FMap W r l) (hD:r≠D) {o:Obj} (hK:W.heap[D]?=some o) (hc:o.isCells=false) (o':Obj):FMap (W.putObj D o') r l :=
 h.keep2 (fun _ _ hb=>(World.putObj_heap_other hD).trans hb) (fun _ _ H9=>zcd H9 hK hc o')
def zg8 (H3:List (Nat×Fil)):List Fil:=H3.foldl (fun m x=>zbt x.2.1 x.2.2 m) []
theorem zpy (H3:List (Nat×Fil)) (x:Nat×Fil):zg8 (H3++[x])=zbt x.2.1 x.2.2 (zg8 H3):=by unfold zg8;rw[List.foldl_append];rfl
theorem zre (fs:List Fil):zg8 (zfS fs fs.length)=zcM fs:=by
 have h1:∀ (l:List (Nat×Fil)) (m:List Fil),l.foldl (fun m x=>zbt x.2.1 x.2.2 m) m=(l.map (·.2)).foldl (fun m p=>zbt p.1 p.2 m) m:=by
  intro l
  induction l with
  | nil=>intro m;rfl
  | cons a l ih=>intro m;rw[P6,Pd,P6,ih]
 have h2:∀ l:List Fil,l.foldr (fun p m=>zbt p.1 p.2 m) []=zcM l:=by
  intro l
  induction l with
  | nil=>rfl
  | cons a l ih=>rw[List.foldr_cons,ih];rfl
 unfold zg8;rw[h1,zm4 fs _ (xN _),List.take_length,List.foldl_reverse,h2]
def TfI (w:World) (H3:List (Nat×Fil)) (X:World):Prop:=FMap X w.heap.size (zg8 H3)∧Boxed X (w.heap.size+1) 160 (.map (some w.heap.size))∧Ext w X
attribute [local go_sem] Ph in
theorem zp3 (v:Value) (fs:List Fil) (w:World) (hF:Fs w v fs) (hl:fs.length≤2000000):Calls Tryz.prog 148 #[v] w fun e w'=>∃ r,e=.returned (.map (some r))∧FMap w' r (zcM fs)∧w.heap.size≤r∧Ext w w':=by
 obtain ⟨A,c,rfl,_,_⟩:=Fs.open_ hF;have HF:=zhd hF;clear hF;have Ku:=@run_makeMap Tryz.prog
 refine (callsIn_wd (ro:=none) (n:=9)).1 ?_
 refine callsIn_of_wp_marks Tryz.func148 rfl trivial ?_ rfl
 simp only[Tryz.ntmps148,P5,xC,P3,Pk,Pl,Pp,Po,P1,P4,xI,P2]
 gi_wp2_with (refine ⟨trivial,?_⟩;gi_at_call 173;refine (callsIn_wd.2 (zss _ _ _ _)).mono ?_;rintro e w' ⟨rfl,rfl⟩)
 have q1:Boxed (((w.alloc (.map #[] 0)).alloc (.cells #[.map (some w.heap.size)] 160)).alloc (.cells #[.slice A fs.length c] 22)) (w.heap.size+1) 160 (.map (some w.heap.size)):=by
  have:=(Boxed.new (w.alloc (.map #[] 0)) 160 (.map (some w.heap.size))).alloc (.cells #[.slice A fs.length c] 22)
  rwa [xS] at this
 have q2:Boxed (((w.alloc (.map #[] 0)).alloc (.cells #[.map (some w.heap.size)] 160)).alloc (.cells #[.slice A fs.length c] 22)) (w.heap.size+1+1) 22 (.slice A fs.length c):=by
  have:=Boxed.new ((w.alloc (.map #[] 0)).alloc (.cells #[.map (some w.heap.size)] 160)) 22 (.slice A fs.length c)
  rwa [xS,xS] at this
 have Kk:Ext w (((w.alloc (.map #[] 0)).alloc (.cells #[.map (some w.heap.size)] 160)).alloc (.cells #[.slice A fs.length c] 22)):=xA (xA (xA (xR _) _) _) _
 have q0:FMap (((w.alloc (.map #[] 0)).alloc (.cells #[.map (some w.heap.size)] 160)).alloc (.cells #[.slice A fs.length c] 22)) w.heap.size []:=(FMap.new w).ext (xA (xA (xR _) _) _)
 have h0:TfI w [] (((w.alloc (.map #[] 0)).alloc (.cells #[.map (some w.heap.size)] 160)).alloc (.cells #[.slice A fs.length c] 22)):=⟨q0,q1,Kk⟩
 have Jl:(((w.alloc (.map #[] 0)).alloc (.cells #[.map (some w.heap.size)] 160)).alloc (.cells #[.slice A fs.length c] 22)).heap.size=w.heap.size+3:=by simp
 clear q0 q1 Ku
 generalize ((w.alloc (.map #[] 0)).alloc (.cells #[.map (some w.heap.size)] 160)).alloc (.cells #[.slice A fs.length c] 22)=w3 at *
 refine zbN (a:=⟨_,_⟩) rfl (enters_of Tryz.func210 (by kernel_rfl) rfl)
  (fun W1 hb hs=>zqC w W1 _ fs HF.out (by omega) (fun q u hq=>Ext.cell (xT Kk hb) hq) (w.heap.size+1+1) (q2.kept (row:=none) (Ext.grown hb none) (by simp)) (fun p u hq=>by have:=Pt _ _ hq;omega))
  (fun k o h=>h.elim) (fun k o h=>h) (fun x av W h=>by obtain ⟨C,d,rfl,_⟩:=h;rfl)
  (TfI w) (fun _ _ _=>False) ?hI (fun _ _ _ _ h _=>h) h0
  (fun x a' W=>∃ nb C d,a'=⟨#[.slice A fs.length c,undef,.map none,.pointer (some ⟨w.heap.size+1,0,none⟩),undef,.pointer (some ⟨nb,0,none⟩),.map (some w.heap.size),.slice A fs.length c,.func (.func 210) #[] #[.pointer (some ⟨w.heap.size+1+1,0,none⟩)],.int .i64 x.1,.agg #[sv x.2.1,.slice C x.2.2.length d],undef,undef,undef,undef,undef,undef],[]⟩∧Blk W nb 51 #[sv x.2.1,.slice C x.2.2.length d]∧Bs W (.slice C x.2.2.length d) x.2.2)
  ?hAx ?assign ?body ?done ?stop
 case hI =>
  rintro s X Y ⟨hf,hb,hE⟩ hm
  refine ⟨hf.moves hm (by omega),hm.boxed hb ?_,hm.belowOf hE ?_ (xN _)⟩
  ·rintro (h | h)
   ·exact h
   ·cases h.2
  ·rintro k o hk (h | h)
   ·exact h
   ·have:=h.1;omega
 case hAx =>
  rintro x a' X Y ⟨nb,C,d,rfl,hb,H6⟩ hm
  refine ⟨nb,C,d,rfl,hm.same _ _ hb ?_,Bs.moves H6 hm⟩
  rintro (h | h)
  ·exact h
  ·cases h.2
 case assign =>
  rintro l' H3 x Kd W av K' hx ⟨hf,hb,hE⟩ K1 ⟨C,d,rfl,H6⟩ hK
  simp only[sv] at *
  gi_wp2
  exact hK _ _ (Kept.refl.alloc _) ⟨hf.ext (xA (xR _) _),hb.alloc _,xA hE _⟩ ⟨_,C,d,rfl,Ps _ _ _,Bs.ext H6 (xA (xR _) _)⟩
 case body =>
  rintro l' H3 ⟨j,n,b⟩ Kd a' W hx Ji hr ⟨hf,hb,hE⟩ K1 ⟨nb,C,d,rfl,Jb,H6⟩
  dsimp only at *
  obtain ⟨g0,g1⟩:=zhW Jb;have c1:=hb.cell
  simp only[sv] at *
  gi_wp2_with (gi_at_mapUpdate;refine ziU rfl (.tmp 11) (.tmp 13) (.tmp 15) rfl Tryz.underlying160 Tryz.underlying9 w.heap.size (zg8 H3) rfl hf n rfl _ b rfl H6 ?_;intro W2 Hj H4)
  refine ⟨Kept.mt Kept.refl H4 ?_,by rw[zpy];exact Hj,H4.blk hb,H4.ext hE (xN _)⟩
  rintro o ho (h | h)
  ·obtain ⟨es,cc,hh,_⟩:=hf
   rw[hh] at ho
   cases ho
   cases h
  ·have:=h.1
   omega
 case done =>
  rintro D W hD ⟨hf,hb,hE⟩ hK;have hc:=hb.cell
  gi_wp2
  refine zbc hK _ (results_tmp rfl _ _ _) ?_
  exact ⟨w.heap.size,rfl,by rw[←zre];exact hf.putObj (by omega) hK rfl _,xN _,zaq hE (by omega) _⟩
 case stop =>
  rintro D cd H3 W _ _ h _
  exact h.elim
theorem mcDDeeda0 {P:Prop} (h:P:=by
 go_wp2_with (at_lookup;refine zcT rfl (.tmp 7) (.tmp 9) true rfl Tryz.underlying160 Tryz.underlying9 (zgM _) r l rfl HM.out n rfl ?_;rw[Hm.out];intro A1 c1 Hd;simp only[Option.getD_none,Option.isSome_none,if_true,P3])
 refine bodyPost_end (results_none rfl _ _ _) rfl ?_
 exact ⟨rfl,HM.out,HG.out⟩):P:=h
structure Mg (w w':World) (r:Nat):Prop where
 os:w'.os=w.os
 tape:w'.tape=w.tape
 output:w'.output=w.output
 size:w.heap.size≤w'.heap.size
 block:∀ k,k<w.heap.size→k≠r→w'.heap[k]?=w.heap[k]?
 no:∀ cs t f,w.heap[r]?≠some (.cells cs t f)
theorem zt6 {w:World} {r:Nat} {l:List Fil} (h:FMap w r l):∀ cs t f,w.heap[r]?≠some (.cells cs t f):=by
 obtain ⟨es,c,hb,_⟩:=h;intro cs t f e;rw[hb] at e
 cases e
theorem Mg.of_ext {w w':World} {r:Nat} {l:List Fil} (h:Ext w w') (hm:FMap w r l):Mg w w' r:=⟨h.os,h.tape,h.output,h.size,fun k hk _=>h.block k hk,zt6 hm⟩
theorem MT.mg {w w':World} {r:Nat} (h:MT w w' r):Mg w w' r:=⟨h.os,h.tape,h.output,Pn h.size.symm,fun k _ hk=>h.block k hk,h.no⟩
theorem Mg.trans {a b c:World} {r:Nat} (h:Mg a b r) (k:Mg b c r):Mg a c r:=⟨k.os.trans h.os,k.tape.trans h.tape,k.output.trans h.output,Pj h.size k.size,fun i hi Kv=>(k.block i (Pm hi h.size) Kv).trans (h.block i hi Kv),h.no⟩
theorem Mg.cell {w w':World} {r:Nat} (h:Mg w w' r) {p:Addr} {u:Value} (hc:w.cell? p=some u):w'.cell? p=some u:=by
 have:p.block≠r:=by
  intro e
  unfold Pu at hc
  rw[e] at hc
  split at hc
  ·rename_i h1
   exact h.no _ _ _ h1
  ·cases hc
 have HZ:=Pt _ _ hc
 unfold Pu at hc ⊢
 rw[h.block _ HZ this]
 exact hc
theorem Mg.qs {w w':World} {r:Nat} (h:Mg w w' r) {v:Value} {l:List Oq} (hq:Qs w v l):Qs w' v l:=by
 obtain ⟨xs,h1,h2⟩:=hq
 exact ⟨xs,SlR.keep h1 fun _ _ hc=>h.cell hc,h2.keep zcQ (h2.fresh zcQ) fun _ _ hc _=>h.cell hc⟩
theorem Mg.ext {w0 w w':World} {r:Nat} (h:Mg w w' r) (hE:Ext w0 w) (hr:w0.heap.size≤r):Ext w0 w' :=
 ⟨h.os.trans hE.os,h.tape.trans hE.tape,h.output.trans hE.output,Pj hE.size h.size,fun k hk=>(h.block k (Pm hk hE.size) (by omega)).trans (hE.block k hk)⟩
theorem zgM (w:World):(zeroValue 38).run Tryz.prog w=.ok (.slice none 0 0) w:=by kernel_rfl
def zf0 (w:World) (r:Nat) (l:List Fil) (e:Ending) (w':World):Prop:=e=.returned (.tuple #[])∧FMap w' r l∧Mg w w' r
theorem zqI (r:Nat) (l:List Fil) (o:Oq) (v:Value) (w:World) (hM:FMap w r l) (hB:Bs w v o.b):Calls Tryz.prog 193 #[.map (some r),.agg #[.int .u8 o.k,sv o.n,sv o.t,v]] w (zf0 w r (zbt o.n [] l)):=by
 obtain ⟨k,n,t,b⟩:=o
 dsimp only at *
 obtain ⟨A,c,rfl,_,_⟩:=xO hB
 have hX:Ext w (w.alloc (.cells #[.int .u8 k,sv n,sv t,.slice A b.length c] 86)):=xA (xR _) _
 obtain ⟨g0,g1,g2,g3⟩:=blk4 (Ps w 86 #[.int .u8 k,sv n,sv t,.slice A b.length c]);have HM:=zhd (hM.ext hX);have HG:=zhd (Mg.of_ext hX hM);clear hX hM hB
 simp only[sv] at *
 go_enter Tryz.func193,Tryz.ntmps193
 go_wp2_with (at_mapUpdate;refine zgg rfl (.tmp 4) (.tmp 6) (.const (.slice none 0 0)) rfl Tryz.underlying160 Tryz.underlying9 r l rfl HM.out n rfl _ [] rfl (SlR.nil _ 1) ?_;intro w2 Hj H4)
 refine bodyPost_end (results_none rfl _ _ _) rfl ?_
 exact ⟨rfl,Hj,HG.out.trans H4.mg⟩
theorem zqL (r:Nat) (l:List Fil) (o:Oq) (v:Value) (w:World) (hM:FMap w r l) (hB:Bs w v o.b):Calls Tryz.prog 197 #[.map (some r),.agg #[.int .u8 o.k,sv o.n,sv o.t,v]] w (zf0 w r (zbg o.n l)):=by
 obtain ⟨k,n,t,b⟩:=o
 dsimp only at *
 obtain ⟨A,c,rfl,_,_⟩:=xO hB
 have hX:Ext w (w.alloc (.cells #[.int .u8 k,sv n,sv t,.slice A b.length c] 86)):=xA (xR _) _
 obtain ⟨g0,g1,g2,g3⟩:=blk4 (Ps w 86 #[.int .u8 k,sv n,sv t,.slice A b.length c]);have HM:=zhd (hM.ext hX);have HG:=zhd (Mg.of_ext hX hM);clear hX hM hB
 simp only[sv] at *
 go_enter Tryz.func197,Tryz.ntmps197
 go_wp2_with (at_delete;refine zgf rfl (.tmp 4) (.tmp 6) rfl Tryz.underlying160 Tryz.underlying9 r l rfl HM.out n rfl ?_;intro w2 Hj H4)
 refine bodyPost_end (results_none rfl _ _ _) rfl ?_
 exact ⟨rfl,Hj,HG.out.trans H4.mg⟩
theorem zqK (r:Nat) (l:List Fil) (o:Oq) (v:Value) (w:World) (hM:FMap w r l) (hB:Bs w v o.b):Calls Tryz.prog 196 #[.map (some r),.agg #[.int .u8 o.k,sv o.n,sv o.t,v]] w (zf0 w r (match zah o.n l with | none=>l | some b=>zbt o.t b (zbg o.n l))):=by
 obtain ⟨k,n,t,b⟩:=o
 dsimp only at *
 obtain ⟨A,c,rfl,_,_⟩:=xO hB
 have hX:Ext w (w.alloc (.cells #[.int .u8 k,sv n,sv t,.slice A b.length c] 86)):=xA (xR _) _
 have Hi:=Ps w 86 #[.int .u8 k,sv n,sv t,.slice A b.length c];obtain ⟨g0,g1,g2,g3⟩:=blk4 Hi;have HM:=zhd (hM.ext hX);have HG:=zhd (Mg.of_ext hX hM);have Ke:=zhd Hi;clear hX hM hB Hi
 simp only[sv] at *
 cases hg:zah n l with
 | none =>
  have Hm:=zhd hg;clear hg
  go_enter Tryz.func196,Tryz.ntmps196
  exact mcDDeeda0
 | some fb =>
  have Hm:=zhd hg;clear hg
  go_enter Tryz.func196,Tryz.ntmps196
  go_wp2_with (first
   | (at_lookup;refine zcT rfl (.tmp 7) (.tmp 9) true rfl Tryz.underlying160 Tryz.underlying9 (zgM _) r l rfl HM.out n rfl ?_;rw[Hm.out];intro A1 c1 Hd;simp only[Pq,Pr,if_true] at Hd ⊢)
   | (at_delete;refine zgf rfl (.tmp 14) (.tmp 16) rfl Tryz.underlying160 Tryz.underlying9 r l rfl HM.out n rfl ?_;intro w2 Hj H4;have k2:=(blk4 (H4.blk Ke.out)).2.2.1)
   | (at_mapUpdate;refine zgg rfl (.tmp 17) (.tmp 19) (.tmp 20) rfl Tryz.underlying160 Tryz.underlying9 r _ rfl Hj t rfl _ fb rfl (H4.bs Hd) ?_;intro w3 Hp He))
  refine bodyPost_end (results_none rfl _ _ _) rfl ?_
  exact ⟨rfl,Hp,HG.out.trans (H4.mg.trans He.mg)⟩
theorem zos {P:Program} {T K E:TypeId} {w:World} {o:Oper} {a:Act} {K':Act→World→Prop} {Q:Exit→Act→World→Prop} (m x v:Operand) (H2:o.op=Pw T m x v) (hT:P.underlying T=some (.map K E)) (hK:P.underlying K=some .string)
  (r:Nat) (l:List Fil) (hm:a.eval m=.map (some r)) (hF:FMap w r l) (n:List UInt8) (hx:a.eval x=sv n) (u:Value) (b:List UInt8) (hv:a.eval v=u) (hb:Bs w u b)
  (h:∀ w',FMap w' r (zbt n b l)→MT w w' r→K' (a.put o.dst undef) w'):Pi P o a w K' Q:=by
 obtain ⟨w',H1,h1,h2⟩:=hF.update hT hK n hb;unfold Pi
 simp[execOp,H2,hm,hx,hv,H1,P0]
 exact h w' h1 h2
theorem zqJ (r:Nat) (l:List Fil) (o:Oq) (v:Value) (w:World) (hM:FMap w r l) (hB:Bs w v o.b) (hl:((zah o.n l).getD []).length+o.b.length≤70000000):Calls Tryz.prog 194 #[.map (some r),.agg #[.int .u8 o.k,sv o.n,sv o.t,v]] w (zf0 w r (match zah o.n l with | none=>l | some b=>zbt o.n (b++o.b) l)):=by
 obtain ⟨k,n,t,b⟩:=o
 dsimp only at *
 obtain ⟨A,c,rfl,_,_⟩:=xO hB
 have hX:Ext w (w.alloc (.cells #[.int .u8 k,sv n,sv t,.slice A b.length c] 86)):=xA (xR _) _
 have Hi:=Ps w 86 #[.int .u8 k,sv n,sv t,.slice A b.length c];obtain ⟨g0,g1,g2,g3⟩:=blk4 Hi;have HM:=zhd (hM.ext hX);have HG:=zhd (Mg.of_ext hX hM);have Ke:=zhd Hi;have HB:=zhd (hB.ext hX);clear hX hM hB Hi
 simp only[sv] at *
 cases hg:zah n l with
 | none =>
  have Hm:=zhd hg;clear hg hl
  go_enter Tryz.func194,Tryz.ntmps194
  exact mcDDeeda0
 | some fb =>
  rw[hg] at hl;simp only[Pq] at hl;have Hm:=zhd hg;have HL:=zhd hl;clear hg hl
  go_enter Tryz.func194,Tryz.ntmps194
  go_wp2_with (at_lookup;refine zcT rfl (.tmp 7) (.tmp 9) true rfl Tryz.underlying160 Tryz.underlying9 (zgM _) r l rfl HM.out n rfl ?_;rw[Hm.out];intro A1 c1 Hd;simp only[Pq,Pr,if_true] at Hd ⊢)
  have KU:=zhd Hd;clear Hd
  refine wp_region_held_drew (S:=fun W=>W.cell? ⟨w.heap.size,1,none⟩=some (.string ⟨n.toArray⟩)∧W.cell? ⟨w.heap.size,3,none⟩=some (.slice A b.length c)) (by kernel_rfl) ⟨g1,g3⟩ (fun _=>?_)
  refine tkN 0 rfl ?_;refine tkN 1 rfl ?_;refine tkN 2 rfl ?_;refine tkN 3 rfl ?_;refine tkN 4 rfl ?_;refine tkN 5 rfl ?_
  refine ar1 6 rfl (fun K hK=>?_)
  go_simp
  have X6:Ext (w.alloc (.cells #[.int .u8 k,.string ⟨n.toArray⟩,.string ⟨t.toArray⟩,.slice A b.length c] 86)) ((w.alloc (.cells #[.int .u8 k,.string ⟨n.toArray⟩,.string ⟨t.toArray⟩,.slice A b.length c] 86)).alloc (.cells #[.slice A1 fb.length c1,.slice A b.length c] 38)).drew:=xD (xA (xR _) _)
  have Kx:Parts ((w.alloc (.cells #[.int .u8 k,.string ⟨n.toArray⟩,.string ⟨t.toArray⟩,.slice A b.length c] 86)).alloc (.cells #[.slice A1 fb.length c1,.slice A b.length c] 38)).drew (.slice (some ⟨w.heap.size+1,0,none⟩) 2 2) [fb,b]:=by
   have:=Parts.ext (zu1 KU.out HB.out) (xD (xR _))
   rwa [xS] at this
  have J1:=zhd X6;have KZ:=zhd Kx;have Hq:=zhd g1;have Kh:=zhd g3
  refine shK hK _ _ ⟨X6.cell g1,X6.cell g3⟩ (fun _=>?_)
  clear X6 Kx g0 g1 g2 g3
  refine ar1 7 rfl (fun K hK=>?_)
  go_simp
  refine (zej _ [fb,b] _ KZ.out (by have:=HL.out;simp;omega)).mono ?_
  rintro e w7 ⟨v7,rfl,Ka,e7⟩
  rw[show [fb,b].flatten=fb++b from by simp] at Ka
  have Km:Bs w7 v7 (fb++b):=xW Ka
  have KV:=zhd Km;have Hn:=zhd (xT J1.out e7);clear Ka e7 Km
  refine shK hK _ _ ⟨Hn.out.cell Hq.out,Hn.out.cell Kh.out⟩ (fun _=>?_)
  refine ar1 8 rfl (fun K hK=>?_)
  refine zos (.tmp 14) (.tmp 16) (.tmp 21) (by rfl) Tryz.underlying160 Tryz.underlying9 r l (by rfl) (HM.out.ext Hn.out) n (by rfl) _ (fb++b) (by rfl) KV.out ?_
  intro w8 J5 K9
  refine shK hK _ _ ⟨K9.cell (Hn.out.cell Hq.out),K9.cell (Hn.out.cell Kh.out)⟩ (fun _=>?_)
  refine wpAnyH_done (by kernel_rfl) ?_ _;go_wp2_with fail
  refine bodyPost_end (results_none rfl _ _ _) rfl ?_
  exact ⟨rfl,J5,HG.out.trans ((Mg.of_ext Hn.out HM.out).trans K9.mg)⟩
def ddMap:Array MapEntry:=#[{ key:=.int .u8 1,val:=.func (.func 193) #[] #[],born:=0 },{ key:=.int .u8 2,val:=.func (.func 194) #[] #[],born:=1 },
 { key:=.int .u8 3,val:=.func (.func 196) #[] #[],born:=2 },{ key:=.int .u8 4,val:=.func (.func 197) #[] #[],born:=3 }]
theorem zlZ (w:World) (es:Array MapEntry) (c:Nat) (n:Int) (v:Value) (hn:Instr.findNow (.int .u8) (.int .u8 n) es.toList 0=some none) :
  (Instr.mapUpdate 207 (.map (some w.heap.size)) (.int .u8 n) v).run Tryz.prog (w.alloc (.map es c))=.ok () (w.alloc (.map (es.push { key:=.int .u8 n,val:=v,born:=c }) (c+1))) :=
 zdT w .u8 Tryz.underlying207 Tryz.underlying5 es c n v hn
theorem zka (w:World):Calls Tryz.prog 165 #[] w fun e w'=>e=.returned (.map (some w.heap.size))∧w.alloc (.map ddMap 4)=w':=by
 have Ku:=@run_makeMap Tryz.prog;have h0:=zlZ w #[] 0 1 (.func (.func 193) #[] #[]) rfl;have h1:=zlZ w #[{ key:=.int .u8 1,val:=.func (.func 193) #[] #[],born:=0 }] 1 2 (.func (.func 194) #[] #[]) rfl;have h2:=zlZ w #[{ key:=.int .u8 1,val:=.func (.func 193) #[] #[],born:=0 },{ key:=.int .u8 2,val:=.func (.func 194) #[] #[],born:=1 }] 2 3 (.func (.func 196) #[] #[]) rfl;have h3:=zlZ w #[{ key:=.int .u8 1,val:=.func (.func 193) #[] #[],born:=0 },{ key:=.int .u8 2,val:=.func (.func 194) #[] #[],born:=1 },{ key:=.int .u8 3,val:=.func (.func 196) #[] #[],born:=2 }] 3 4 (.func (.func 197) #[] #[]) rfl;simp only[P1,xI,P2,Pk] at h0 h1 h2 h3
 go_enter Tryz.func165,Tryz.ntmps165
 go_wp2
 go_ret
 exact ⟨rfl,rfl⟩
def zdL (k:Int):Value:=if k=1 then .func (.func 193) #[] #[] else if k=2 then .func (.func 194) #[] #[] else if k=3 then .func (.func 196) #[] #[] else if k=4 then .func (.func 197) #[] #[] else .nilFunc
theorem zh2 (k:Int) (W:World) (r:Nat) (h:W.heap[r]?=some (.map ddMap 4)) :
  (Instr.lookup 207 (.map (some r)) (.int .u8 k) false).run Tryz.prog W=.ok (zdL k) W:=by
 have key:∃ f,Instr.findNow (.int .u8) (.int .u8 k) ddMap.toList 0=some f∧(f.map (·.2)).getD .nilFunc=zdL k:=by
  by_cases h1:k=1
  ·subst h1;exact ⟨_,rfl,rfl⟩
  by_cases h2:k=2
  ·subst h2;exact ⟨_,rfl,rfl⟩
  by_cases h3:k=3
  ·subst h3;exact ⟨_,rfl,rfl⟩
  by_cases h4:k=4
  ·subst h4;exact ⟨_,rfl,rfl⟩
  refine ⟨none,?_,?_⟩
  ·have e1:(k==1)=false:=by simp[h1]
   have e2:(k==2)=false:=by simp[h2]
   have e3:(k==3)=false:=by simp[h3]
   have e4:(k==4)=false:=by simp[h4]
   simp[ddMap,Instr.findNow,Instr.sameNow,e1,e2,e3,e4]
  ·simp[zdL,h1,h2,h3,h4]
 obtain ⟨f,hf,hv⟩:=key
 have:=zgG (P:=Tryz.prog) W .u8 Tryz.underlying207 Tryz.underlying5 ddMap 4 k .nilFunc (by kernel_rfl) h f hf
 rw[this,hv]
theorem mcDDonea0 {P:Prop} (h:P:=by
 all_goals
  refine wpIn_goto ?_
  try simp only[Exit.then]
  refine zag (by simp) ⟨⟨q1,_,_,zbh l1 ⟨ok,on,ot,ob⟩,_,_,_,_,_,_,_,_,_,_,_,_,_,_,_,_,_,_,_,_,_,?_,rfl⟩,by simp[lenOf]⟩
  refine ⟨Hp,?_,Kf.out,Hl.out.trans He,by have h9:=zed l1 ⟨ok,on,ot,ob⟩;have:=K5.out;dsimp only at h9;omega,Ks⟩
  first
   | exact Qs.tail (He.qs HX.out) _ (fun _=>rfl)
   | (have h9:=Qs.tail (He.qs HX.out) (some ⟨b,H7,none⟩) (fun h=>by omega);rwa [show c1-1=0 from by omega] at h9)):P:=h
theorem Qs.tail {W:World} {b H7 c:Nat} {o:Oq} {q:List Oq} (h:Qs W (.slice (some ⟨b,H7,none⟩) (o::q).length c) (o::q)) (A:Option Addr) (hA:0<q.length→A=some ⟨b,H7+4,none⟩):Qs W (.slice A q.length (c-1)) q:=by
 obtain ⟨xs,h1,h2⟩:=h;obtain ⟨hl,A',c',e,g1,g2,g3⟩:=h1
 cases e
 have hx:xs.length=(q.length+1)*4:=by rw[hl];rfl
 refine ⟨xs.drop 4,⟨by rw[Pb,hx];omega,A,c-1,rfl,by simp at g1;omega,by omega,fun hn=>?_⟩,by rw[Pb,hx];omega,fun k hk=>?_⟩
 ·obtain ⟨b',Jc,e',hc⟩:=g3 (Nat.succ_pos _)
  cases e'
  refine ⟨b,H7+4,hA hn,fun j u hu=>?_⟩
  rw[P9] at hu
  have:=hc (4+j) u hu
  rwa [←Nat.add_assoc] at this
 ·have:=h2.2 (k+1) (by simpa using hk)
  have e:(fun i=>if i<4 then (xs.drop 4)[k*4+i]? else none)=fun i=>if i<4 then xs[(k+1)*4+i]? else none:=by
   funext i
   split
   ·rw[P9]
    congr 1
    omega
   ·rfl
  rw[e]
  simpa using this
theorem ztY (r:Nat) (l:List Fil) (o:Oq) (v:Value) (w:World) (hM:FMap w r l) (hB:Bs w v o.b) (hk:o.k=1):Calls Tryz.prog 193 #[.map (some r),.agg #[.int .u8 o.k,sv o.n,sv o.t,v]] w (zf0 w r (zbh l o)):=by
 have:=zqI r l o v w hM hB
 unfold zbh
 rwa [if_pos hk]
theorem ztZ (r:Nat) (l:List Fil) (o:Oq) (v:Value) (w:World) (hM:FMap w r l) (hB:Bs w v o.b) (hl:tot l+o.b.length≤70000000) (hk:o.k=2):Calls Tryz.prog 194 #[.map (some r),.agg #[.int .u8 o.k,sv o.n,sv o.t,v]] w (zf0 w r (zbh l o)):=by
 have:=zqJ r l o v w hM hB (by have:=zpn o.n l;omega)
 unfold zbh
 rwa [if_neg (by omega),if_pos hk]
theorem zt0 (r:Nat) (l:List Fil) (o:Oq) (v:Value) (w:World) (hM:FMap w r l) (hB:Bs w v o.b) (hk:o.k=3):Calls Tryz.prog 196 #[.map (some r),.agg #[.int .u8 o.k,sv o.n,sv o.t,v]] w (zf0 w r (zbh l o)):=by
 have:=zqK r l o v w hM hB
 unfold zbh
 rwa [if_neg (by omega),if_neg (by omega),if_pos hk]
theorem zt1 (r:Nat) (l:List Fil) (o:Oq) (v:Value) (w:World) (hM:FMap w r l) (hB:Bs w v o.b) (hk:o.k=4):Calls Tryz.prog 197 #[.map (some r),.agg #[.int .u8 o.k,sv o.n,sv o.t,v]] w (zf0 w r (zbh l o)):=by
 have:=zqL r l o v w hM hB
 unfold zbh
 rwa [if_neg (by omega),if_neg (by omega),if_neg (by omega),if_pos hk]
theorem zpi {l:List Fil} {o:Oq} (h1:o.k≠1) (h2:o.k≠2) (h3:o.k≠3) (h4:o.k≠4):zbh l o=l:=by
 unfold zbh;rw[if_neg h1,if_neg h2,if_neg h3,if_neg h4]
theorem zoG (f:Nat) (W:World):(binOp BinOp.neq 206 (.func (.func f) #[] #[]) .nilFunc).run Tryz.prog W=.ok (.bool true) W:=by
 have h:∀ d:Nat,(Pv (d+1) 206 (.func (.func f) #[] #[]) .nilFunc).run Tryz.prog W=.ok false W:=fun d=>by
  simp[Pv,run_underlying Tryz.underlying206]
 simp only[binOp]
 simp[Py,Px,h 9999]
theorem zoH (W:World):(binOp BinOp.neq 206 .nilFunc .nilFunc).run Tryz.prog W=.ok (.bool false) W:=by
 have h:∀ d:Nat,(Pv (d+1) 206 .nilFunc .nilFunc).run Tryz.prog W=.ok true W:=fun d=>by
  simp[Pv,run_underlying Tryz.underlying206]
 simp only[binOp]
 simp[Py,Px,h 9999]
def lenOf:Value→Nat
 | .slice _ n _=>n
 | _=>0
structure DnI (r:Nat) (T:List Fil) (w:World) (q:List Oq) (v:Value) (l:List Fil) (W:World):Prop where
 fm:FMap W r l
 qs:Qs W v q
 ft:q.foldl zbh l=T
 mg:Mg w W r
 bb:tot l+zaG q≤70000000
 ll:q.length≤2000000
def DnR (r:Nat) (T:List Fil) (w:World) (a:Act) (W:World):Prop :=
 ∃ (q:List Oq) (A:Option Addr) (c:Nat) (l:List Fil) (u5 u6 u7 u8 u9 KB KC KD KE KF KH KI KJ KK KL KM KN KO KP KQ KR:Value),Hid (DnI r T w q (.slice A q.length c) l W)∧a=⟨#[.map (some r),.slice A q.length c,undef,undef,.map none,u5,u6,u7,u8,u9,KB,KC,KD,KE,KF,KH,KI,KJ,KK,KL,KM,KN,KO,KP,KQ,KR],[]⟩
theorem zqH (r:Nat) (l:List Fil) (q:List Oq) (vq:Value) (w:World) (hM:FMap w r l) (hQ:Qs w vq q) (hb:tot l+zaG q≤70000000) (hl:q.length≤2000000) :
  Calls Tryz.prog 149 #[.map (some r),vq] w fun e w'=>e=.returned (.map (some r))∧FMap w' r (q.foldl zbh l)∧Mg w w' r:=by
 obtain ⟨A,c,rfl,_,_⟩:=Qs.open_ hQ;obtain ⟨T,hT⟩:∃ T,q.foldl zbh l=T:=⟨_,rfl⟩
 have H0:=zhd (show DnI r T w q (.slice A q.length c) l w from ⟨hM,hQ,hT,Mg.of_ext (xR _) hM,hb,hl⟩)
 rw[hT];clear hM hQ hT hb
 refine (callsIn_wd (ro:=none) (n:=9)).1 ?_
 refine callsIn_of_wp Tryz.func149 rfl trivial ?_ rfl
 simp only[Tryz.ntmps149,P5,xC,P3,Pk,Pl,Pp,Po,P1,P4,xI,P2]
 gi_wp2
 refine zbl 0 (DnR r T w) (fun a _=>lenOf (a.tmps.getD 1 undef)) rfl (fun l' h=>by cases l' <;> first | exact absurd rfl h | rfl) ?_ ?_
 ·intro Hf
  have Hr:=zhd Hf;clear Hf
  gi_wp2
  refine wpIn_label ?_
  gi_step
  gi_step
  exact Hr.out _ _ ⟨q,A,c,l,_,_,_,_,_,_,_,_,_,_,_,_,_,_,_,_,_,_,_,_,_,H0,rfl⟩
 ·clear H0 hl
  rintro a w1 ⟨q1,A1,c1,l1,u5,u6,u7,u8,u9,KB,KC,KD,KE,KF,KH,KI,KJ,KK,KL,KM,KN,KO,KP,KQ,KR,HI,rfl⟩
  cases q1 with
  | nil =>
   gi_wp2
   refine zat ?_
   go_ret
   have:=HI.out.ft
   exact ⟨rfl,by rw[←this];exact HI.out.fm,HI.out.mg⟩
  | cons o q1 =>
   obtain ⟨_,b,H7,rfl,hc⟩:=HI.out.qs.at_ (by simp);obtain ⟨k0,k1,k2,B,d,k3,H6⟩:=hc 0 (by simp);simp only[List.getElem_cons_zero,Nat.zero_mul,Nat.add_zero] at k0 k1 k2 k3 H6;have HY:=HI.out.ll
   have hz:(((q1.length:Nat):Int)+1==0)=false:=by simp;omega
   have HV:=zhd H6;obtain ⟨_,_,e,Jg,Jh⟩:=Qs.open_ HI.out.qs
   cases e
   clear hc H6;obtain ⟨ok,on,ot,ob⟩:=o
   dsimp only at *
   simp only[xC] at *
   gi_wp2
   refine zc8 (S:=fun W=>W.cell? ⟨b,H7,none⟩=some (.int .u8 ok)) (by kernel_rfl) k0 (fun _=>?_)
   refine tkN 1 rfl ?_;refine tkN 2 rfl ?_;refine tkN 3 rfl ?_;refine tkN 4 rfl ?_
   refine ar1 0 rfl (fun K hK=>?_)
   go_simp
   refine (zka _).mono ?_
   rintro e w2 ⟨rfl,Kc⟩
   have H5:Ext w1 w2:=by rw[←Kc];exact xA (xD (xR _)) _
   have HD:w2.heap[w1.drew.heap.size]?=some (.map ddMap 4):=by rw[←Kc];exact World.alloc_heap_new _ _
   have J7:=zh2 ok w2 _ HD;clear Kc HD
   generalize w1.drew.heap.size=N at *
   have e0:=H5.cell k0
   refine shK hK _ _ e0 (fun _=>?_)
   refine ar1 5 rfl (fun K hK=>?_)
   go_simp
   refine shK hK _ _ e0 (fun _=>?_)
   refine tkN 6 rfl ?_;refine wpAnyH_done (by kernel_rfl) ?_ _
   refine zdR ?_
   have f1:w2.cell? ⟨b,H7+1,none⟩=some (.string ⟨on.toArray⟩):=H5.cell k1
   have f2:w2.cell? ⟨b,H7+2,none⟩=some (.string ⟨ot.toArray⟩):=H5.cell k2
   have f3:=H5.cell k3;have Jd:=zhd H5;have Hg:=zhd (HI.out.fm.ext H5);have HS:=zhd (Bs.ext HV.out H5);have HX:=zhd (HI.out.qs.ext H5);have Hl:=zhd (HI.out.mg.trans (Mg.of_ext H5 HI.out.fm));have Kf:=zhd HI.out.ft
   have Kz:tot l1+(ob.length+zaG q1)≤70000000:=by have:=HI.out.bb;rw[zbJ] at this;exact this
   have K5:=zhd Kz
   have Ks:q1.length≤2000000:=by omega
   clear J7 k0 k1 k2 k3 H5 HV HI Kz;have Jj:=zoG;have Jk:=zoH
   by_cases hk1:ok=1
   ·have hd:zdL ok=.func (.func 193) #[] #[]:=by subst hk1;rfl
    have HK:=zhd hk1;rw[hd];clear hk1 hd
    gi_wp2_with (refine ⟨trivial,?_⟩;gi_at_call 193;refine (callsIn_wd.2 (ztY r l1 ⟨ok,on,ot,ob⟩ _ w2 Hg.out HS.out HK.out)).mono ?_;rintro e w3 ⟨rfl,Hp,He⟩)
    all_goals exact mcDDonea0
   by_cases Hk:ok=2
   ·have hd:zdL ok=.func (.func 194) #[] #[]:=by subst Hk;rfl
    have HK:=zhd Hk;rw[hd];clear Hk hd
    gi_wp2_with (refine ⟨trivial,?_⟩;gi_at_call 194;refine (callsIn_wd.2 (ztZ r l1 ⟨ok,on,ot,ob⟩ _ w2 Hg.out HS.out (by have:=K5.out;dsimp only;omega) HK.out)).mono ?_;rintro e w3 ⟨rfl,Hp,He⟩)
    all_goals exact mcDDonea0
   by_cases hk3:ok=3
   ·have hd:zdL ok=.func (.func 196) #[] #[]:=by subst hk3;rfl
    have HK:=zhd hk3;rw[hd];clear hk3 hd
    gi_wp2_with (refine ⟨trivial,?_⟩;gi_at_call 196;refine (callsIn_wd.2 (zt0 r l1 ⟨ok,on,ot,ob⟩ _ w2 Hg.out HS.out HK.out)).mono ?_;rintro e w3 ⟨rfl,Hp,He⟩)
    all_goals exact mcDDonea0
   by_cases hk4:ok=4
   ·have hd:zdL ok=.func (.func 197) #[] #[]:=by subst hk4;rfl
    have HK:=zhd hk4;rw[hd];clear hk4 hd
    gi_wp2_with (refine ⟨trivial,?_⟩;gi_at_call 197;refine (callsIn_wd.2 (zt1 r l1 ⟨ok,on,ot,ob⟩ _ w2 Hg.out HS.out HK.out)).mono ?_;rintro e w3 ⟨rfl,Hp,He⟩)
    all_goals exact mcDDonea0
   have hd:zdL ok=.nilFunc:=by unfold zdL;rw[if_neg hk1,if_neg Hk,if_neg hk3,if_neg hk4]
   rw[hd];clear hd
   gi_wp2
   all_goals
    refine wpIn_goto ?_
    try simp only[Exit.then]
    refine zag (by simp) ⟨⟨q1,_,_,l1,_,_,_,_,_,_,_,_,_,_,_,_,_,_,_,_,_,_,_,_,_,?_,rfl⟩,by simp[lenOf]⟩
    refine ⟨Hg.out,?_,by have h9:=Kf.out;rw[P6,zpi hk1 Hk hk3 hk4] at h9;exact h9,Hl.out,by have:=K5.out;omega,Ks⟩
    first
     | exact Qs.tail HX.out _ (fun _=>rfl)
     | (have h9:=Qs.tail HX.out (some ⟨b,H7,none⟩) (fun h=>by omega);rwa [show c1-1=0 from by omega] at h9)
theorem zju (v:Value) (d:Dk) (w:World) (hD:DkV w v d) (HY:d.fs.length≤2000000) (K8:d.q.length≤2000000) (hb:tot d.fs+zaG d.q≤70000000) :
  Calls Tryz.prog 115 #[v] w fun e w'=>∃ r,e=.returned (.map (some r))∧FMap w' r (zbE d.fs d.q)∧w.heap.size≤r∧Ext w w':=by
 obtain ⟨vf,vq,rfl,hF,hQ⟩:=hD;obtain ⟨A,c,rfl,_,_⟩:=Fs.open_ hF;obtain ⟨B,e2,rfl,_,_⟩:=Qs.open_ hQ
 have H8:Ext w (w.alloc (.cells #[.slice A d.fs.length c,.slice B d.q.length e2,.int .i64 d.quota,.int .i64 d.fuse,.bool d.dead] 25)):=xA (xR _) _
 have Hv:=Ps w 25 #[.slice A d.fs.length c,.slice B d.q.length e2,.int .i64 d.quota,.int .i64 d.fuse,.bool d.dead];have HF:=zhd (hF.ext H8);have HQ:=zhd (hQ.ext H8);have HW:=zhd H8;have KT:=zhd Hv;have HB:=zhd hb;clear hF hQ H8 Hv hb;obtain ⟨g0,g1,g2,g3,g4⟩:=zac KT.out
 go_enter Tryz.func115,Tryz.ntmps115
 go_wp2_with fail
 refine wp_region_held_drew (S:=fun W=>W.cell? ⟨w.heap.size,0,none⟩=some (.slice A d.fs.length c)∧W.cell? ⟨w.heap.size,1,none⟩=some (.slice B d.q.length e2)) (by kernel_rfl) ⟨g0,g1⟩ (fun _=>?_)
 refine tkN 0 rfl ?_;refine tkN 1 rfl ?_;refine tkN 3 rfl ?_;refine tkN 4 rfl ?_
 refine ar1 2 rfl (fun K hK=>?_)
 go_simp
 refine (zp3 _ d.fs _ (Fs.ext HF.out (xD (xR _))) HY).mono ?_
 rintro e w1 ⟨r,rfl,Hz,K0,Ht⟩;have Hb:=xT (xD (xR _)) Ht;have K3:=zhd Hz;have Ha:=zhd Hb;have Kg:=zhd g0;have Hq:=zhd g1
 have hr:w.heap.size≤r:=Pj HW.out.size K0
 clear g0 g1 g2 g3 g4 Hz Hb Ht K0
 refine shK hK _ _ ⟨Ha.out.cell Kg.out,Ha.out.cell Hq.out⟩ (fun _=>?_)
 refine ar1 5 rfl (fun K hK=>?_)
 go_simp
 refine (zqH r (zcM d.fs) d.q _ w1 K3.out (HQ.out.ext Ha.out) (by have:=ziu d.fs;have:=HB.out;omega) K8).mono ?_
 rintro e w2 ⟨rfl,H4,Kp⟩;have Hg:=zhd H4;have Hl:=zhd Kp;clear H4 Kp
 refine shK hK _ _ ⟨Hl.out.cell (Ha.out.cell Kg.out),Hl.out.cell (Ha.out.cell Hq.out)⟩ (fun _=>?_)
 refine tkN 6 rfl ?_;refine wpAnyH_done (by kernel_rfl) ?_ _;go_wp2_with fail;go_ret
 exact ⟨r,rfl,Hg.out,hr,Hl.out.ext (xT HW.out Ha.out) hr⟩
def zha (W:World) (r i:Nat):Nat:=match W.heap[i]?,W.heap[r]? with
 | some (.mapIter _ _ HR _),some (.map es _)=>(es.toList.filter fun e=>!HR.contains e.born).length
 | _,_=>0
theorem FIt.left {W:World} {r i:Nat} {l L:List Fil} (h:FIt W r i l L):zha W r i=L.length:=by
 obtain ⟨es,Kj,KA,HR,c0,Z,h1,h2,h3,h4,h5,Je,h6,h7,h8,h9⟩:=h;unfold zha;rw[h2,h1];dsimp only;rw[h6,h9,Pc,List.filter_map,Pc];rfl
structure UsI (r i:Nat) (l:List Fil) (w:World) (n:Nat) (W:World):Prop where
 ex:∃ L,FIt W r i l L∧n+tot L=tot l
 e:Ext w W
theorem znk (r:Nat) (l:List Fil) (w:World) (hM:FMap w r l) (hb:tot l≤2000000000):Calls Tryz.prog 135 #[.map (some r)] w fun e w'=>e=.returned (.int .i64 (tot l))∧Ext w w':=by
 go_enter Tryz.func135,Tryz.ntmps135
 go_wp2_with (at_range;refine zkZ rfl (.tmp 5) rfl Tryz.underlying160 r l rfl hM ?_;intro w1 Kq Hb)
 have HU:=zhd (show UsI r w.heap.size l w 0 w1 from ⟨⟨l,Kq,by omega⟩,Hb⟩)
 clear Kq Hb hM
 go_frame
 go_loopw [2,4] (fun n b wr=>∃ k:Nat,n=.int .i64 k∧Hid (UsI r w.heap.size l w k wr)) (fun _ _ wr=>zha wr r w.heap.size)
 case atStart=>exact ⟨0,rfl,HU⟩
 case round =>
  obtain ⟨k,rfl,HI⟩:=hrel;obtain ⟨L,hI,ht⟩:=HI.out.ex;have HE:=zhd HI.out.e;have Ki:=zhd hI.left;clear HI HU
  go_wp2_with (at_next;refine zlR rfl (.tmp 6) rfl r w.heap.size l L rfl hI ?_ ?_)
  ·intro hL
   subst hL
   have hk:k=tot l:=by simp[tot] at ht ⊢;omega
   subst hk;go_wp2_with fail;go_ret
   exact ⟨rfl,HE.out⟩
  ·intro n b A c L' w2 hp K6 Kl H4 J8 K7
   have Kb:=zni hp;rw[zcZ] at Kb;dsimp only at Kb;have Kt:=hp.length_eq;rw[xC] at Kt
   have KY:=zhd (show zha w2 r w.heap.size<zha wr r w.heap.size by rw[K6.left,Ki.out];omega)
   have J0:=zhd (show UsI r w.heap.size l w (k+b.length) w2 from ⟨⟨L',K6,by omega⟩,H4.ext HE.out (xN _)⟩)
   have hk:k+b.length≤2000000000:=by omega
   clear hI K6 H4 hp Kt Kb ht Ki HE Kl J8
   simp only[sv] at K7 ⊢
   go_wp2_with fail
   go_roundw
   case rel=>exact ⟨k+b.length,by go_num,J0⟩
   case measure=>exact KY.out
theorem zsn (v:Value) (d:Dk) (w:World) (hD:DkV w v d) (HY:d.fs.length≤2000000) (K8:d.q.length≤2000000) (hb:tot d.fs+zaG d.q≤70000000) :
  Calls Tryz.prog 192 #[v] w fun e w'=>e=.returned (.int .i64 (tot d.now))∧Ext w w':=by
 obtain ⟨vf,vq,rfl,hF,hQ⟩:=hD;obtain ⟨A,c,rfl,_,_⟩:=Fs.open_ hF;obtain ⟨B,e2,rfl,_,_⟩:=Qs.open_ hQ
 have H8:Ext w (w.alloc (.cells #[.slice A d.fs.length c,.slice B d.q.length e2,.int .i64 d.quota,.int .i64 d.fuse,.bool d.dead] 25)):=xA (xR _) _
 have Hv:=Ps w 25 #[.slice A d.fs.length c,.slice B d.q.length e2,.int .i64 d.quota,.int .i64 d.fuse,.bool d.dead]
 have hc:=zju _ d _ (show DkV _ _ d from ⟨_,_,rfl,hF.ext H8,hQ.ext H8⟩) HY K8 hb
 have HC:=zhd hc;have HW:=zhd H8;have Ja:=zfX d.fs d.q
 have HO:tot d.now=tot (zbE d.fs d.q):=zfF d.fs d.q
 have HN:=zhd HO
 have HT:=zhd (show tot (zbE d.fs d.q)≤2000000000 by omega)
 clear hF hQ H8 hc Ja HO hb;obtain ⟨g0,g1,g2,g3,g4⟩:=zac Hv;clear Hv
 go_enter Tryz.func192,Tryz.ntmps192
 go_wp2_with fail
 refine HC.out.mono ?_
 rintro e w1 ⟨r,rfl,Hz,K0,Hb⟩;have K3:=zhd Hz;have Ha:=zhd (xT HW.out Hb);clear Hz K0 Hb g0 g1 g2 g3 g4 HC;go_wp2_with fail
 refine (znk r _ w1 K3.out HT.out).mono ?_
 rintro e w2 ⟨rfl,H5⟩;go_wp2_with fail;go_ret
 exact ⟨by rw[HN.out];rfl,xT Ha.out H5⟩
end Go.Proofs.YtgonhdeochgkoaaGreatDoor
