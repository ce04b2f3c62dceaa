/- Merged: ChunkB One4 One5 Eith1 Eith2 -/
import Derived.Test.YtgonhdeochgkoaaGreatDoorZt11
set_option linter.all false
set_option maxHeartbeats 8000000
set_option maxRecDepth 100000
namespace Go.Proofs.YtgonhdeochgkoaaGreatDoor
open Go.RowKit Go.Mv Go.Shelf
attribute [local go_sem] Oper.semAt_some
def zbk (n:Nat) (bs:List UInt8):List (List UInt8) :=
 if h:bs=[]∨n=0 then [] else bs.take n::zbk n (bs.drop n)
termination_by bs.length
decreasing_by
 have:0<bs.length:=List.length_pos_iff.2 (fun e=>h (.inl e))
 have:n≠0:=fun e=>h (.inr e)
 simp;omega
theorem zfG (n:Nat):zbk n []=[]:=by rw[zbk];simp
theorem zfb (n:Nat) (bs:List UInt8) (hn:0<n) (h:0<bs.length):zbk n bs=bs.take n::zbk n (bs.drop n):=by
 rw[zbk,dif_neg]
 rintro (e | e)
 ·rw[e] at h;simp at h
 ·omega
theorem zrh (n:Nat) (hn:0<n):∀ (i:Nat) (bs:List UInt8),(i*n<bs.length→(zbk n bs)[i]?=some ((bs.drop (i*n)).take n))∧(bs.length≤i*n→(zbk n bs).length≤i):=by
 intro i
 induction i with
 | zero =>
  intro bs
  refine ⟨fun h=>?_,fun h=>?_⟩
  ·rw[zfb n bs hn (by omega),Nat.zero_mul]
   rfl
  ·have:bs=[]:=List.eq_nil_of_length_eq_zero (by omega)
   rw[this,zfG]
   exact Nat.le_refl _
 | succ i ih =>
  intro bs
  have hm:(i+1)*n=n+i*n:=by rw[Nat.add_mul,Nat.one_mul,Nat.add_comm]
  rcases Nat.eq_zero_or_pos bs.length with h0 | h0
  ·have:bs=[]:=List.eq_nil_of_length_eq_zero h0
   subst this
   exact ⟨fun h=>by simp at h,fun _=>by rw[zfG];simp⟩
  ·obtain ⟨h1,h2⟩:=ih (bs.drop n)
   rw[List.length_drop] at h1 h2;rw[zfb n bs hn h0,hm]
   refine ⟨fun h=>?_,fun h=>?_⟩
   ·rw[List.getElem?_cons_succ,h1 (by omega),List.drop_drop]
   ·have:=h2 (by omega)
    rw[List.length_cons];omega
theorem zev {wo:World} {b off m c:Nat} {bs:List UInt8} (h:Bs wo (.slice (some ⟨b,off,none⟩) m c) bs) (k n:Nat) (hk:k+n≤bs.length):Bs wo (.slice (some ⟨b,off+k,none⟩) n n) ((bs.drop k).take n):=by
 obtain ⟨h0,A,c',e,h1,h2,h3⟩:=h
 cases e
 unfold Bs
 have hl:((bs.drop k).take n).length=n:=by rw[List.length_take,List.length_drop];omega
 rw[hl]
 refine ⟨by rw[List.length_map,hl];omega,_,n,rfl,Nat.le_refl _,by omega,fun hn=>?_⟩
 obtain ⟨b',off',e',hc⟩:=h3 (by omega)
 cases e'
 refine ⟨b,off+k,rfl,fun j u hu=>?_⟩
 rw[Nat.add_assoc]
 refine hc (k+j) u ?_
 rw[←hu,List.getElem?_map,List.getElem?_map,List.getElem?_take,List.getElem?_drop]
 have hj:j<n:=by
  have:=(List.getElem?_eq_some_iff.1 hu).1
  rw[List.length_map,hl] at this
  exact this
 rw[if_pos hj]
theorem zhj (n:Nat) (hn0:0<n) (hn8:n≤8) (wo W0:World) (v:Value) (bs:List UInt8) (hbs:Bs wo v bs) (hlen:bs.length≤2000000) (bx bn:Nat) (hB1:Boxed W0 bx 38 v) (hB2:Boxed W0 bn 3 (.int .i64 n)) :
  Seq Tryz.prog 198 #[.pointer (some ⟨bx,0,none⟩),.pointer (some ⟨bn,0,none⟩)]
   (fun (p:List UInt8) av _=>∃ b off,av = #[.slice (some ⟨b,off,none⟩) p.length p.length]∧Bs wo (.slice (some ⟨b,off,none⟩) p.length p.length) p∧0<p.length∧p.length≤n) (fun k o=>(k=bx∧o.ty=some 38)∨(k=bn∧o.ty=some 3)) (fun _ _=>False) (zbk n bs) W0:=by
 intro l J Jx hJ hJx hY h0;obtain ⟨A,c,rfl,h1,h2⟩:=SlR.open_ hbs
 refine (callsIn_wd (ro:=none) (n:=9)).1 ?_
 refine callsIn_of_wp Tryz.func198 rfl trivial ?_ rfl
 simp only[Tryz.ntmps198,List.size_toArray,List.length_cons,List.length_nil,Nat.reduceAdd,Nat.reduceSub,Array.replicate_succ,Array.replicate_zero,List.push_toArray,List.append_toArray,List.nil_append,List.cons_append];have Hes:=zhd hbs;clear hbs
 gi_wp2
 gi_loopw [4] (fun j W=>∃ (i k:Nat),j=.int .i64 k∧Hid (i*n=k)∧k≤bs.length+n∧Hid (J ((zbk n bs).take i) W)∧Boxed W bx 38 (.slice A bs.length c)∧Boxed W bn 3 (.int .i64 n)∧W0.heap.size≤W.heap.size) (fun j _=>bs.length+16-(intOf j).toNat)
 case atStart=>exact ⟨0,0,rfl,by show 0*n=0;rw[Nat.zero_mul],by omega,h0,hB1,hB2,Nat.le_refl _⟩
 case round =>
  obtain ⟨i,k,rfl,Hk,hkl,HJ,b1,b2,hsz⟩:=hrel;have c1:=b1.cell;have c2:=b2.cell;obtain ⟨hat,hend⟩:=zrh n hn0 i bs;rw[Hk.out] at hat hend
  by_cases hlt:k<bs.length
  ·have hes':=Hes.out
   obtain ⟨hx,b,off,rfl,hc⟩:=Bs.at_ hes' (by omega);clear hc hx;obtain ⟨m,hm⟩:∃ m,min n (bs.length-k)=m:=⟨_,rfl⟩
   have hmn:m≤n:=by omega
   have hm0:0<m:=by omega
   have hml:k+m≤bs.length:=by omega
   obtain ⟨p,hp⟩:∃ p,(bs.drop k).take n=p:=⟨_,rfl⟩
   have hpl:p.length=m:=by rw[←hp,List.length_take,List.length_drop,hm]
   have hpb:=zev hes' k m hml
   have hpe:(bs.drop k).take m=p:=by
    rw[←hp]
    rcases Nat.le_total n (bs.length-k) with h | h
    ·rw[show m=n from by omega]
    ·rw[List.take_of_length_le (by rw[List.length_drop];omega),List.take_of_length_le (by rw[List.length_drop];omega)]
   rw[hpe] at hpb;have Hp:=zhd hpb;have hgi:=hat hlt;rw[hp] at hgi;obtain ⟨hil,hge⟩:=List.getElem?_eq_some_iff.1 hgi
   have htk:(zbk n bs).take (i+1)=(zbk n bs).take i++[p]:=by rw[List.take_succ_eq_append_getElem hil,hge]
   have Htk:=zhd htk
   have hsp:zbk n bs=(zbk n bs).take i++p::(zbk n bs).drop (i+1):=by rw[←hge,←List.drop_eq_getElem_cons hil,List.take_append_drop]
   have Hsp:=zhd hsp
   have hk1:(i+1)*n=k+n:=by have:=Hk.out;rw[Nat.add_mul,Nat.one_mul,this]
   have Hk1:=zhd hk1;have Hm:=zhd hm;clear htk hsp hes' hat hend hgi hil hge hpe hpb hp hk1 hm
   gi_wp2
   gi_region
   have hif:(if bs.length-k<n then ((bs.length-k:Nat):Int) else (n:Int))=(m:Int):=by have:=Hm.out;split <;> omega
   rw[hif];clear hif
   have hy:=hY ((zbk n bs).take i) p ((zbk n bs).drop (i+1)) Hsp.out wr.drew #[.slice (some ⟨b,off+k,none⟩) p.length p.length] (hJ _ _ _ HJ.out (Moves.refl.drew)) hsz ⟨b,off+k,rfl,by rw[hpl];exact Hp.out,by omega,by omega⟩
   rw[hpl] at hy;have Hy:=zhd hy;have Hpl:=zhd hpl
   have b1':Boxed wr.drew bx 38 (.slice (some ⟨b,off,none⟩) bs.length c):=b1
   have b2':Boxed wr.drew bn 3 (.int .i64 n):=b2
   have hkm:(k:Int)+(m:Int)≤(bs.length:Int):=by omega
   have hmc:(k:Int)+(m:Int)≤(c:Int):=by omega
   clear hy hY hpl c1 c2;have c1:=b1'.cell;have c2:=b2'.cell
   gi_wp2
   refine zbf Hy.out ?_
   rintro e W' ⟨hk',⟨rfl,hj⟩ | ⟨rfl,hj⟩⟩
   ·refine ⟨true,rfl,?_⟩
    have d1:Boxed W' bx 38 (.slice (some ⟨b,off,none⟩) bs.length c):=hk'.boxed b1' (.inl (.inl ⟨rfl,rfl⟩))
    have d2:Boxed W' bn 3 (.int .i64 n):=hk'.boxed b2' (.inl (.inr ⟨rfl,rfl⟩))
    have e2:=d2.cell
    have hs':W0.heap.size≤W'.heap.size:=Nat.le_trans hsz hk'.size
    have HJ3:=zhd hj
    have hkn:(k:Int)+(n:Int)≤4000000:=by omega
    clear hj hk' c1 c2
    gi_wp2
    refine ⟨⟨i+1,k+n,by go_num,Hk1.out,by omega,?_,d1,d2,hs'⟩,by simp[intOf];omega⟩
    show J _ _;rw[Htk.out];exact HJ3.out
   ·refine ⟨false,rfl,?_⟩
    have HJ3:=zhd hj;clear hj hk' c1 c2
    gi_wp2
    refine bodyPost_ret (results_none rfl _ _ _) rfl ?_
    refine ⟨⟨_,rfl⟩,.inr ⟨(zbk n bs).take (i+1),?_,?_⟩⟩
    ·exact List.take_prefix _ _
    ·rw[Htk.out];exact HJ3.out
  ·have hC:(zbk n bs).take i=zbk n bs:=List.take_of_length_le (hend (by omega))
   have HC2:=zhd hC
   have hki:¬ ((k:Int)<(bs.length:Int)):=by omega
   clear hC hat hend
   gi_wp2
   refine bodyPost_end (results_none rfl _ _ _) rfl ?_
   exact ⟨⟨_,rfl⟩,.inl (by have:=HJ.out;rw[HC2.out] at this;exact this)⟩
theorem zg5 (A:Option Addr) (m c n:Nat) (hn:0<n) (w:World):Calls Tryz.prog 168 #[.slice A m c,.int .i64 n] w fun e w' =>
  e=.returned (.func (.func 198) #[] #[.pointer (some ⟨w.heap.size,0,none⟩),.pointer (some ⟨w.heap.size+1,0,none⟩)]) ∧
  (w.alloc (.cells #[.slice A m c] 38)).alloc (.cells #[.int .i64 n] 3)=w':=by
 have hn1:¬ ((n:Int)<1):=by omega
 go_enter Tryz.func168,Tryz.ntmps168
 go_wp2
 go_ret
 exact ⟨rfl,rfl⟩
attribute [local go_sem] Oper.semAt_some
variable {T:Tab}
def zcr (T:Tab) (b:List UInt8) (p:Nat):List (Nat×Ent) :=
 if h:b.length<15 then [] else
  match zc7 T (b.take 15) with
  | none=>[]
  | some e=>(p+15,e)::zcr T (b.drop 15) (p+15)
termination_by b.length
decreasing_by
 simp;omega
theorem zgD {b:List UInt8} {p:Nat} (h:b.length<15):zcr T b p=[]:=by rw[zcr,dif_pos h]
theorem zhM {b:List UInt8} {p:Nat} (h:¬ b.length<15) (hn:zc7 T (b.take 15)=none):zcr T b p=[]:=by rw[zcr,dif_neg h,hn]
theorem zhN {b:List UInt8} {p:Nat} {e:Ent} (h:¬ b.length<15) (hn:zc7 T (b.take 15)=some e):zcr T b p=(p+15,e)::zcr T (b.drop 15) (p+15):=by rw[zcr,dif_neg h,hn]
def RcK (bo n0:Nat) (k:Nat) (o:Obj):Prop:=o.isCells=true∧k≠bo∧(k<n0∨o.ty≠some 79)
theorem Hold.keptR {wo W W':World} {bo n0 n:Nat} (h:Hold wo W) (hbo:wo.heap.size≤bo) (hn0:wo.heap.size≤n0) (hk:Kept (zab (RcK bo n0) n) W W'):Hold wo W':=by
 intro p u hp;have hlt:=World.block_lt_of_cell? wo p hp;have hc:=h p u hp;obtain ⟨o,ho,hcells⟩:=cells_of_cell hc
 refine hk.cell hc (fun o' ho'=>.inl ?_)
 rw[ho] at ho';cases ho'
 exact ⟨hcells,by omega,.inl (by omega)⟩
theorem znr (wo W0:World) (v:Value) (bs:List UInt8) (hbs:Bs wo v bs) (hlen:bs.length≤2000000) (hH:Hold wo W0) (hT:TabW T wo) (B bo n0:Nat) (hB:Boxed W0 B 38 v) (hBo:B≠bo) (h1:wo.heap.size≤bo) (h2:wo.heap.size≤n0) :
  Seq Tryz.prog 297 #[.pointer (some ⟨B,0,none⟩)]
   (fun (x:Nat×Ent) av _=>av = #[.int .i64 x.1,.agg #[.int .i64 x.2.t,.int .i64 x.2.k,.int .i64 x.2.v]]∧x.1≤bs.length) (RcK bo n0) (fun _ _=>False) (zcr T (bs.drop 6) 6) W0:=by
 intro l J Jx hJ hJx hY h0;obtain ⟨A,c,rfl,hb1,hb2⟩:=SlR.open_ hbs
 refine (callsIn_wd (ro:=none) (n:=9)).1 ?_
 refine callsIn_of_wp Tryz.func297 rfl trivial ?_ rfl
 simp only[Tryz.ntmps297,List.size_toArray,List.length_cons,List.length_nil,Nat.reduceAdd,Nat.reduceSub,Array.replicate_succ,Array.replicate_zero,List.push_toArray,List.append_toArray,List.nil_append,List.cons_append];have Hes:=zhd hbs;have HTT:=zhd hT;clear hbs hT;obtain ⟨all,hall⟩:∃ all,zcr T (bs.drop 6) 6=all:=⟨_,rfl⟩
 rw[hall] at hY ⊢
 have HA:=zhd hall;clear hall
 gi_wp2
 gi_loopw [3] (fun j W=>∃ (k:Nat) (pre:List (Nat×Ent)),j=.int .i64 k∧k≤bs.length+15∧Hid (all=pre++zcr T (bs.drop k) k)∧Hid (J pre W)∧Hold wo W∧Boxed W B 38 (.slice A bs.length c)∧W0.heap.size≤W.heap.size) (fun j _=>bs.length+30-(intOf j).toNat)
 case atStart=>exact ⟨6,[],rfl,by omega,HA.out.symm,h0,hH,hB,Nat.le_refl _⟩
 case round =>
  obtain ⟨k,pre,rfl,hkl,HP,HJ,HH,bB,hsz⟩:=hrel;have c1:=bB.cell
  by_cases hlt:k+15≤bs.length
  ·obtain ⟨_,b,off,rfl,hc⟩:=Bs.at_ Hes.out (by omega)
   have hpart:=zev Hes.out k 15 hlt;obtain ⟨p,hp⟩:∃ p,(bs.drop k).take 15=p:=⟨_,rfl⟩
   have hpl:p.length=15:=by rw[←hp,List.length_take,List.length_drop];omega
   rw[hp] at hpart
   have hnot:¬ (bs.drop k).length<15:=by rw[List.length_drop];omega
   have hdd:(bs.drop k).drop 15=bs.drop (k+15):=by rw[List.drop_drop]
   have hBp:Bs wr (.slice (some ⟨b,off+k,none⟩) 15 (c-k)) p:=SlR.keep (SlR.capd hpart (by rw[hpl];omega) (by omega)) HH
   have hTr:TabW T wr:=HTT.out.hold HH
   have key:=zq7 (T:=T) _ p wr hBp hpl hTr;have hPP:=HP.out
   cases ht:zc7 T p with
   | none =>
    rw[ht] at key
    rw[zhM hnot (by rw[hp];exact ht),List.append_nil] at hPP
    subst hPP;have Key:=zhd key
    have hkc:(k:Int)+15≤(c:Int):=by omega
    clear key ht hBp hpart hp hc hdd hnot hY
    gi_wp2
    refine ⟨trivial,?_⟩
    refine (callsIn_wd.2 Key.out).mono ?_
    rintro e w1 ⟨rfl,hE1⟩;have hJ1:=zhd (hJ _ wr (w1.alloc (.cells #[.int .i64 0,.int .i64 0,.int .i64 0] 79)) HJ.out ((Moves.refl.below hE1 (Nat.le_refl _)).alloc _));clear hE1
    gi_wp2
    refine ⟨fun f h=>(by cases h),?_⟩
    gi_wp2
    refine bodyPost_ret (results_none rfl _ _ _) rfl ?_
    exact ⟨⟨_,rfl⟩,.inl hJ1.out⟩
   | some x =>
    rw[ht] at key
    rw[zhN hnot (by rw[hp];exact ht),hdd] at hPP
    have Key:=zhd key;have HPP:=zhd hPP
    have hkc:(k:Int)+15≤(c:Int):=by omega
    have Hno:=zhd hY;clear key ht hBp hpart hp hc hdd hnot hY hPP
    gi_wp2
    refine ⟨trivial,?_⟩
    refine (callsIn_wd.2 Key.out).mono ?_
    rintro e w1 ⟨rfl,hE1⟩;have hb3:=Blk.new w1 79 #[.int .i64 x.t,.int .i64 x.k,.int .i64 x.v]
    have hX1:Ext wr (w1.alloc (.cells #[.int .i64 x.t,.int .i64 x.k,.int .i64 x.v] 79)):=Ext.alloc hE1 _
    have hJ1:=hJ pre wr (w1.alloc (.cells #[.int .i64 x.t,.int .i64 x.k,.int .i64 x.v] 79)) HJ.out ((Moves.refl.below hE1 (Nat.le_refl _)).alloc _)
    have hsz1:W0.heap.size≤(w1.alloc (.cells #[.int .i64 x.t,.int .i64 x.k,.int .i64 x.v] 79)).heap.size:=Nat.le_trans hsz hX1.size
    have hB1:Boxed (w1.alloc (.cells #[.int .i64 x.t,.int .i64 x.k,.int .i64 x.v] 79)) B 38 (.slice (some ⟨b,off,none⟩) bs.length c):=bB.kept (row:=none) (Ext.grown hX1 none) (by simp)
    have hH1:Hold wo (w1.alloc (.cells #[.int .i64 x.t,.int .i64 x.k,.int .i64 x.v] 79)):=fun q u hq=>Ext.cell hX1 (HH q u hq)
    have hy:=Hno.out pre (k+15,x) _ HPP.out _ #[.int .i64 ((k+15:Nat):Int),.agg #[.int .i64 x.t,.int .i64 x.k,.int .i64 x.v]] hJ1 hsz1 ⟨rfl,by show k+15≤bs.length;omega⟩
    have Hy:=zhd hy;have HH1:=zhd hH1;obtain ⟨g0,g1,g2,f0,f1,f2⟩:=za7 hb3;clear hy hJ1 hE1 hH1 c1 hX1 hb3;have c1:=hB1.cell
    gi_wp2
    refine zbf Hy.out ?_
    rintro e W' ⟨hk',⟨rfl,hj⟩ | ⟨rfl,hj⟩⟩
    ·refine ⟨true,rfl,?_⟩
     have d1:Boxed W' B 38 (.slice (some ⟨b,off,none⟩) bs.length c):=hk'.boxed hB1 (.inl ⟨rfl,hBo,.inr (by intro h;cases h)⟩)
     have e1:=d1.cell
     have hs':W0.heap.size≤W'.heap.size:=Nat.le_trans hsz1 hk'.size
     have HH2:=zhd (Hold.keptR HH1.out h1 h2 hk');have HJ3:=zhd hj
     have hsp:all=(pre++[(k+15,x)])++zcr T (bs.drop (k+15)) (k+15):=by rw[List.append_assoc];exact HPP.out
     have Hsp:=zhd hsp;clear hj hk' c1 g0 g1 g2 f0 f1 f2 hsp Hy
     gi_wp2
     exact ⟨⟨k+15,pre++[(k+15,x)],by go_num,by omega,Hsp.out,HJ3.out,HH2.out,d1,hs'⟩,by simp[intOf];omega⟩
    ·refine ⟨false,rfl,?_⟩
     have HJ3:=zhd hj;clear hj hk' c1 g0 g1 g2 f0 f1 f2
     gi_wp2
     refine bodyPost_ret (results_none rfl _ _ _) rfl ?_
     refine ⟨⟨_,rfl⟩,.inr ⟨pre++[(k+15,x)],?_,HJ3.out⟩⟩
     exact ⟨zcr T (bs.drop (k+15)) (k+15),by rw[List.append_assoc];exact HPP.out.symm⟩
  ·have hnil:zcr T (bs.drop k) k=[]:=zgD (by rw[List.length_drop];omega)
   have hPP:=HP.out;rw[hnil,List.append_nil] at hPP;subst hPP
   have hki:¬ ((k:Int)+15≤(bs.length:Int)):=by omega
   clear hnil HP hY
   gi_wp2
   refine bodyPost_end (results_none rfl _ _ _) rfl ?_
   exact ⟨⟨_,rfl⟩,.inl HJ.out⟩
theorem mcOne5a0 {P:Prop} (h:P:=by
 go_enter Tryz.func295,Tryz.ntmps295
 go_wp2_with fail
 refine Key.out.mono ?_
 rintro e w1 ⟨vr,rfl,-,hE1⟩;have hb1:=hb0.ext hE1;obtain ⟨g0,g1,g2,f0,f1,f2⟩:=za7 hb1;go_wp2_with fail
 exact bodyPost_ret (zes _ _ _ _ _ rfl rfl (zbo hb1 _ _ _) rfl) rfl ⟨_,rfl,hrow0 _,zcC (Ext.trans hX hE1) (Nat.le_refl _) _ _ _⟩):P:=h
attribute [local go_sem] Oper.semAt_some
variable {T:Tab}
def zhx:Nat→List (Nat×Ent)→Nat
 | d,[]=>d
 | _,x::l=>zhx x.1 l
theorem zp8 (l:List (Nat×Ent)) (x:Nat×Ent):∀ d,zhx d (l++[x])=x.1:=by
 induction l with
 | nil=>intro d;rfl
 | cons y l ih=>intro d;exact ih _
def zcu (T:Tab) (b:List UInt8):zgi :=
 if b.length<6∨b.getD 0 0≠1 then ⟨11,0,[],0,(0,0)⟩
 else if (zat ((b.drop 1).take 5)).1=0∧(zat ((b.drop 1).take 5)).2.1≠0 then ⟨0,(zat ((b.drop 1).take 5)).2.1,(zcr T (b.drop 6) 6).map (·.2),zhx 6 (zcr T (b.drop 6) 6),(0,0)⟩
 else ⟨11,0,[],0,(0,0)⟩
theorem zut:Tryz.prog.underlying 121=some (.struct (Tryz.prog.fieldsOf 121)):=by kernel_rfl
theorem zes (tmps:Array Value) (W:World) (b:Nat) (cs:Array Value) (u:Value) (h2:tmps.getD 2 undef=.pointer (some ⟨b,0,none⟩)) (h3:tmps.getD 3 undef=u) (hb:Blk W b 121 cs) (hs:cs.size=3):(results Tryz.f295 tmps).run Tryz.prog W=.ok (.tuple #[.agg cs,u]) W:=by
 have hl:=hb.load (P:=Tryz.prog) zut rfl (by rw[hs];kernel_rfl)
 have h2':tmps[2]?.getD undef=.pointer (some ⟨b,0,none⟩):=by simpa using h2
 have h3':tmps[3]?.getD undef=u:=by simpa using h3
 simp[results,Tryz.results295,h2',h3',asAddr,hl]
theorem zsl (b:List UInt8):∀ p,(zcr T b p).length*15≤b.length:=by
 generalize hn:b.length=n
 induction n using Nat.strongRecOn generalizing b with
 | _ n ih =>
  intro p
  by_cases h:b.length<15
  ·rw[zgD h];simp
  ·cases ht:zc7 T (b.take 15) with
   | none=>rw[zhM h ht];simp
   | some e =>
    have:=ih (b.drop 15).length (by rw[List.length_drop];omega) (b.drop 15) rfl (p+15)
    rw[zhN h ht,List.length_cons];rw[List.length_drop] at this;omega
theorem zrx (W:World) (x:Ent):Es (W.alloc (.cells #[.int .i64 x.t,.int .i64 x.k,.int .i64 x.v] 79)) (.slice (some ⟨W.heap.size,0,none⟩) 1 1) [x]:=by
 refine ⟨by simp[zaq,Ent.cells],_,1,rfl,Nat.le_refl _,by simp[maxLen],fun _=>⟨W.heap.size,0,rfl,fun j u hu=>?_⟩⟩
 rw[Nat.zero_add]
 exact (Blk.new W 79 #[.int .i64 x.t,.int .i64 x.k,.int .i64 x.v]).cell j (by simpa [zaq,Ent.cells] using hu)
def ScI (w:World) (f:Nat) (pre:List (Nat×Ent)) (X:World):Prop:=∃ vl,Blk X w.heap.size 121 #[.int .i64 f,vl,.int .i64 (zhx 6 pre:Nat)]∧OwnE X w.heap.size vl (pre.map (·.2))∧Ext w X
theorem zq5 (v:Value) (bs:List UInt8) (w:World) (hB:Bs w v bs) (h:(zcu T bs).err=11):Calls Tryz.prog 295 #[v] w (zg8 w (zcu T bs)):=by
 obtain ⟨A,c,rfl,h1,h2⟩:=SlR.open_ hB;have hb0:=Blk.new w 121 #[.int .i64 0,.slice none 0 0,.int .i64 0]
 have hX:Ext w (w.alloc (.cells #[.int .i64 0,.slice none 0 0,.int .i64 0] 121)):=Ext.alloc (Ext.refl _) _
 have hlk:zcu T bs=⟨11,0,[],0,(0,0)⟩:=by
  unfold zcu at h ⊢
  split
  ·rfl
  ·rename_i hn
   rw[if_neg hn] at h
   split
   ·rename_i h3;rw[if_pos h3] at h;cases h
   ·rfl
 rw[hlk]
 have hrow0:∀ W:World,W.ownsRow w.heap.size 79 3 (.slice none 0 0) ([]:List Ent).length (zaq []):=fun W=>World.ownsRow_nil _ _ _ _
 by_cases hlen:bs.length<6
 ·have hll:((bs.length:Int)<6):=by omega
  clear hlk h hB;obtain ⟨g0,g1,g2,f0,f1,f2⟩:=za7 hb0
  go_enter Tryz.func295,Tryz.ntmps295
  go_wp2_with fail
  exact bodyPost_ret (zes _ _ _ _ _ rfl rfl hb0 rfl) rfl ⟨_,rfl,hrow0 _,hX⟩
 ·have hll:¬ ((bs.length:Int)<6):=by omega
  obtain ⟨_,b,off,rfl,hc⟩:=Bs.at_ hB (by omega);have hc0:=hc 0 (by omega);obtain ⟨x0,hx0⟩:∃ x0,bs[0]'(by omega)=x0:=⟨_,rfl⟩;rw[hx0] at hc0
  have hgd:bs.getD 0 0=x0:=by rw[←hx0];simp[List.getD_eq_getElem?_getD,List.getElem?_eq_getElem (show 0<bs.length by omega)]
  have hc0':=zdf hc0 (.cells #[.int .i64 0,.slice none 0 0,.int .i64 0] 121);rw[Nat.add_zero] at hc0'
  by_cases hx:x0=1
  ·have hx1:((x0.toNat:Int) != 1)=false:=by rw[hx];rfl
   have hpart:=zev hB 1 5 (by omega);obtain ⟨p,hp⟩:∃ p,(bs.drop 1).take 5=p:=⟨_,rfl⟩
   have hpl:p.length=5:=by rw[←hp,List.length_take,List.length_drop];omega
   rw[hp] at hpart
   have hBp:Bs w (.slice (some ⟨b,off+1,none⟩) 5 (c-1)) p:=SlR.capd hpart (by rw[hpl];omega) (by omega)
   have key:=zdz _ p _ (hBp.ext hX) (by omega)
   have hbad:(zat p).1≠0∨(zat p).2.1=0:=by
    unfold zcu at h
    rw[if_neg (by rw[hgd,hx];intro h;rcases h with h | h;exact hlen h;exact h rfl)] at h
    rw[hp] at h
    by_cases h1:(zat p).1=0
    ·by_cases h2:(zat p).2.1=0
     ·exact .inr h2
     ·rw[if_pos ⟨h1,h2⟩] at h;cases h
    ·exact .inl h1
   rcases htl:zat p with ⟨e1,t,rest⟩
   rw[htl] at key hbad;have Key:=zhd key
   have hcc:(6:Int)≤(c:Int):=by omega
   clear key htl hp hpl hpart hBp hlk h hB hc hc0 hx0 hgd hlen hx
   rcases hbad with h1 | h1
   ·have hne:((e1:Int) != 0)=true:=by simpa using h1
    clear h1
    exact mcOne5a0
   ·by_cases he:e1=0
    ·dsimp only at h1
     subst h1 he
     exact mcOne5a0
    ·have hne:((e1:Int) != 0)=true:=by simpa using he
     clear h1 he
     exact mcOne5a0
  ·have hx1:((x0.toNat:Int) != 1)=true:=by
    rw[bne_iff_ne];intro h
    apply hx
    apply UInt8.toNat_inj.1
    show x0.toNat=1
    omega
   clear hlk h hB hc hc0 hx0 hgd hlen hx;obtain ⟨g0,g1,g2,f0,f1,f2⟩:=za7 hb0
   go_enter Tryz.func295,Tryz.ntmps295
   go_wp2_with fail
   exact bodyPost_ret (zes _ _ _ _ _ rfl rfl hb0 rfl) rfl ⟨_,rfl,hrow0 _,hX⟩
theorem zoJ (A:Option Addr) (n c:Nat) (w:World):Calls Tryz.prog 296 #[.slice A n c] w fun e w'=>e=.returned (.func (.func 297) #[] #[.pointer (some ⟨w.heap.size,0,none⟩)])∧w.alloc (.cells #[.slice A n c] 38)=w':=by
 go_enter Tryz.func296,Tryz.ntmps296
 go_wp2
 go_ret
 exact ⟨rfl,rfl⟩
theorem zs4 (v:Value) (bs:List UInt8) (w:World) (hB:Bs w v bs) (hl:bs.length≤2000000) (hT:TabW T w) (h:(zcu T bs).err≠11):Calls Tryz.prog 295 #[v] w (zg8 w (zcu T bs)):=by
 obtain ⟨A,c,rfl,h1,h2⟩:=SlR.open_ hB;have hb0:=Blk.new w 121 #[.int .i64 0,.slice none 0 0,.int .i64 0]
 have hX:Ext w (w.alloc (.cells #[.int .i64 0,.slice none 0 0,.int .i64 0] 121)):=Ext.alloc (Ext.refl _) _
 unfold zcu at h ⊢
 by_cases hd:bs.length<6∨bs.getD 0 0≠1
 ·rw[if_pos hd] at h;exact absurd rfl h
 rw[if_neg hd] at h ⊢
 by_cases hf:(zat ((bs.drop 1).take 5)).1=0∧(zat ((bs.drop 1).take 5)).2.1≠0
 case neg=>rw[if_neg hf] at h;exact absurd rfl h
 rw[if_pos hf]
 have hlen:6≤bs.length:=by
  rcases Nat.lt_or_ge bs.length 6 with q | q
  ·exact absurd (Or.inl q) hd
  ·exact q
 have hgd:bs.getD 0 0=1:=by
  by_cases q:bs.getD 0 0=1
  ·exact q
  ·exact absurd (Or.inr q) hd
 obtain ⟨_,b,off,rfl,hc⟩:=Bs.at_ hB (by omega);have hc0:=hc 0 (by omega)
 have hx0:bs[0]'(by omega)=1:=by rw[←hgd];simp[List.getD_eq_getElem?_getD,List.getElem?_eq_getElem (show 0<bs.length by omega)]
 rw[hx0] at hc0
 have hc0':(w.alloc (.cells #[.int .i64 0,.slice none 0 0,.int .i64 0] 121)).cell? ⟨b,off,none⟩=some (.int .u8 1):=zdf hc0 _
 have hpart:=zev hB 1 5 (by omega);obtain ⟨p,hp⟩:∃ p,(bs.drop 1).take 5=p:=⟨_,rfl⟩
 have hpl:p.length=5:=by rw[←hp,List.length_take,List.length_drop];omega
 rw[hp] at hpart hf ⊢
 have hBp:Bs w (.slice (some ⟨b,off+1,none⟩) 5 (c-1)) p:=SlR.capd hpart (by rw[hpl];omega) (by omega)
 have key:=zdz _ p _ (hBp.ext hX) (by omega)
 rcases htl:zat p with ⟨e1,t,rest⟩
 rw[htl] at key hf;obtain ⟨rfl,ht0⟩:=hf;have Key:=zhd key
 have hcc:(6:Int)≤(c:Int):=by omega
 have hll:¬ ((bs.length:Int)<6):=by omega
 have ht1:((t:Int)==0)=false:=by rw[beq_eq_false_iff_ne];dsimp only at ht0;omega
 obtain ⟨L,hL⟩:∃ L,zcr T (bs.drop 6) 6=L:=⟨_,rfl⟩;have HB:=zhd hB;have HT:=zhd hT;dsimp only;rw[hL];have HL:=zhd hL;clear key htl hp hpl hpart hBp h hB hc hc0 hx0 hgd hlen hd hT ht0 hL
 have hw0:w.heap.size<(w.alloc (.cells #[.int .i64 0,.slice none 0 0,.int .i64 0] 121)).heap.size:=hb0.lt
 refine (callsIn_wd (ro:=none) (n:=9)).1 ?_
 refine callsIn_of_wp_marks Tryz.func295 rfl trivial ?_ rfl
 simp only[Tryz.ntmps295,List.size_toArray,List.length_cons,List.length_nil,Nat.reduceAdd,Nat.reduceSub,Array.replicate_succ,Array.replicate_zero,List.push_toArray,List.append_toArray,List.nil_append,List.cons_append]
 gi_wp2_with (refine ⟨trivial,?_⟩;gi_at_call 167;refine (callsIn_wd.2 Key.out).mono ?_;rintro e w1 ⟨vr,rfl,-,hE1⟩;have hb1:=hb0.ext hE1;have HE1:=zhd hE1;clear hE1;obtain ⟨g0,g1,g2,f0,f1,f2⟩:=za7 hb1)
 have hb2:=zbo hb1 (.int .i64 t) (.slice none 0 0) (.int .i64 6)
 have hE2:Ext w (((w1.setCell ⟨w.heap.size,0,none⟩ (.int .i64 t)).setCell ⟨w.heap.size,1,none⟩ (.slice none 0 0)).setCell ⟨w.heap.size,2,none⟩ (.int .i64 6)):=zcC (Ext.trans hX HE1.out) (Nat.le_refl _) _ _ _
 clear g0 g1 g2 f0 f1 f2 hb1 HE1
 generalize (((w1.setCell ⟨w.heap.size,0,none⟩ (.int .i64 t)).setCell ⟨w.heap.size,1,none⟩ (.slice none 0 0)).setCell ⟨w.heap.size,2,none⟩ (.int .i64 6))=w2 at *
 refine ⟨trivial,?_⟩
 refine (callsIn_wd.2 (zoJ _ _ _ _)).mono ?_
 rintro e w3 ⟨rfl,rfl⟩
 have qB:Boxed (w2.alloc (.cells #[.slice (some ⟨b,off,none⟩) bs.length c] 38)) w2.heap.size 38 (.slice (some ⟨b,off,none⟩) bs.length c):=Boxed.new _ _ _
 have hE3:Ext w (w2.alloc (.cells #[.slice (some ⟨b,off,none⟩) bs.length c] 38)):=Ext.alloc hE2 _
 have hb3:=hb2.alloc (.cells #[.slice (some ⟨b,off,none⟩) bs.length c] 38)
 have h0:ScI w t [] (w2.alloc (.cells #[.slice (some ⟨b,off,none⟩) bs.length c] 38)):=⟨_,hb3,World.ownsRow_nil _ _ _ _,hE3⟩
 have hbw:w.heap.size<w2.heap.size:=hb2.lt
 have hs3:(w2.alloc (.cells #[.slice (some ⟨b,off,none⟩) bs.length c] 38)).heap.size=w2.heap.size+1:=by simp
 clear hb2 hb3 hE2
 gi_wp2
 generalize w2.alloc (.cells #[.slice (some ⟨b,off,none⟩) bs.length c] 38)=w3 at *
 refine zdU (fun TT hTT=>?_)
 refine zbO (a:=⟨TT,[]⟩) (by subst hTT;rfl) (enters_of Tryz.func297 (by kernel_rfl) rfl)
  (fun W1 hb hs=>znr (T:=T) w W1 _ bs HB.out hl (fun q u hq=>Ext.cell (Ext.trans hE3 hb) hq) HT.out w2.heap.size w.heap.size w.heap.size (qB.kept (row:=none) (Ext.grown hb none) (by simp)) (by omega) (Nat.le_refl _) (Nat.le_refl _))
  (fun k o h=>h.elim) (fun k o h=>h.1) (fun x av W h=>by rw[h.1];rfl)
  (ScI w t) (fun _ _ _=>False) ?hI (fun _ _ _ _ h _=>h) h0
  (fun x a' W=>∃ q,Blk W q 79 #[.int .i64 x.2.t,.int .i64 x.2.k,.int .i64 x.2.v]∧a'=⟨(((TT.setIfInBounds 36 (.int .i64 x.1)).setIfInBounds 37 (.agg #[.int .i64 x.2.t,.int .i64 x.2.k,.int .i64 x.2.v])).setIfInBounds 6 (.int .i64 x.1)).setIfInBounds 7 (.pointer (some ⟨q,0,none⟩)),[]⟩)
  ?hAx ?assign ?body ?done (fun _ _ _ _ _ _ h _=>h.elim)
 case hI =>
  rintro s X Y ⟨v1,hv,hr,hB⟩ hm
  refine ⟨v1,hm.same _ _ hv ?_,hm.ownsRow hr ?_,hm.belowOf hB ?_ (Nat.le_refl _)⟩
  ·rintro (h | h)
   ·exact h
   ·cases h.2
  ·rintro k cur _ (h | h)
   ·exact h
   ·cases h.2
  ·rintro k o hk (h | h)
   ·exact h
   ·have:=h.1;omega
 case hAx =>
  rintro x a' X Y ⟨q,hq,rfl⟩ hm
  refine ⟨q,hm.same _ _ hq ?_,rfl⟩
  rintro (h | h)
  ·exact h
  ·cases h.2
 case assign =>
  rintro l' pre x post W av K' hx hi hsz ⟨rfl,hx1⟩ hK;obtain ⟨v1,hv,hr,hB⟩:=hi
  have Hi:Hid (ScI w t pre (W.alloc (.cells #[.int .i64 x.2.t,.int .i64 x.2.k,.int .i64 x.2.v] 79))):=⟨v1,hv.alloc _,hr.alloc _,Ext.alloc hB _⟩
  have HQ:=zhd (Blk.new W 79 #[.int .i64 x.2.t,.int .i64 x.2.k,.int .i64 x.2.v]);have Hx:=zhd hx;clear hx hv hr hB;subst hTT
  gi_wp2
  exact hK _ _ (Kept.refl.alloc _) Hi.out ⟨W.heap.size,HQ.out,rfl⟩
 case body =>
  rintro l' pre x post a' W hx hl' hr ⟨v1,hv,hrow,hB⟩ hsz ⟨q,hq,rfl⟩
  have hpl:(pre.map (·.2)).length+1≤200000:=by
   have h3:=zsl (T:=T) (bs.drop 6) 6;rw[hx,List.length_append,List.length_cons,List.length_drop] at h3;rw[List.length_map];omega
  have hsn:(pre++[x]).map (·.2)=pre.map (·.2)++[x.2]:=by simp
  have hlp:zhx 6 (pre++[x])=x.1:=zp8 pre x 6
  have Hsn:=zhd hsn;have Hlp:=zhd hlp;have Hx:=zhd hx;clear hx hsn hlp
  generalize pre.map (·.2)=P at *
  generalize zhx 6 pre=lp at *
  obtain ⟨A1,cc1,rfl,_,_⟩:=SlR.open_ (SlR.of_own hrow);have hne:=hv.not_row (e:=79) (by decide) hrow;obtain ⟨g0,g1,g2,_,_,_⟩:=za7 hv;obtain ⟨p0,p1,p2,_,_,_⟩:=za7 hq;obtain ⟨i0,hi,hz0,hz1,hz2⟩:=info_parts zht;have hes1:=zrx W x.2
  have hrow1:OwnE (W.alloc (.cells #[.int .i64 x.2.t,.int .i64 x.2.k,.int .i64 x.2.v] 79)) w.heap.size (.slice A1 P.length cc1) P:=hrow.alloc _
  have hv1:=hv.alloc (.cells #[.int .i64 x.2.t,.int .i64 x.2.k,.int .i64 x.2.v] 79)
  have hbW:w.heap.size≤(W.alloc (.cells #[.int .i64 x.2.t,.int .i64 x.2.k,.int .i64 x.2.v] 79)).heap.size:=Nat.le_of_lt hv1.lt
  subst hTT
  gi_wp2_with (gi_at_builtin;refine zbX _ rfl (.tmp 39) (.tmp 41) 54 rfl w.heap.size 79 i0 _ 3 24 Tryz.underlying54 hi hz0 hz1 hz2 rfl (by decide) _ P.length (zaq P) rfl hrow1 _ 1 (zaq [x.2]) rfl hes1 (zhI _) (by unfold maxLen;omega) (by omega) hbW ?_;intro v' w4 hown' hgrow;obtain ⟨A5,c5,rfl,_,_⟩:=SlR.open_ (SlR.of_own hown');have hv4:=hv1.kept hgrow hne;obtain ⟨y0,y1,y2,z0,z1,z2⟩:=za7 hv4)
  have o1:=hown'.kept (zaa w4 w.heap.size 1 (.slice A5 (P.length+1) c5)) (.inr (hv4.not_row (by decide) hown').symm);have hv5:=hv4.set 1 (.slice A5 (P.length+1) c5);have o2:=o1.kept (zaa _ w.heap.size 2 (.int .i64 x.1)) (.inr (hv5.not_row (by decide) o1).symm);have hv6:=hv5.set 2 (.int .i64 x.1)
  refine ⟨(((Kept.refl.alloc _).grown hgrow (fun k o ek ho=>?_)).setCell (fun o ho _=>?_) _).setCell (fun o ho _=>?_) _,.slice A5 (P.length+1) c5,?_,?_,?_⟩
  ·obtain ⟨cur,hc'⟩:=zcs hrow ek
   rw[ho] at hc';cases hc'
   rintro (⟨_,_,h⟩ | ⟨_,h⟩)
   ·rcases h with h | h
    ·have:=(hrow.lt k ek).1
     omega
    ·exact h rfl
   ·cases h
  ·rw[show W.heap[w.heap.size]?=_ from hv] at ho;cases ho
   rintro (⟨_,h,_⟩ | ⟨_,h⟩)
   ·exact h rfl
   ·cases h
  ·rw[show W.heap[w.heap.size]?=_ from hv] at ho;cases ho
   rintro (⟨_,h,_⟩ | ⟨_,h⟩)
   ·exact h rfl
   ·cases h
  ·rw[Hlp.out]
   exact hv6
  ·rw[Hsn.out]
   have hl1:P.length+1=(P++[x.2]).length:=by simp
   rw[hl1] at o2 ⊢
   unfold OwnE
   have hec:zaq (P++[x.2])=zaq P++zaq [x.2]:=by simp[zaq]
   rw[hec]
   exact o2
  ·have hE4:Ext w w4:=Ext.grownOwn (Ext.alloc hB (.cells #[.int .i64 x.2.t,.int .i64 x.2.k,.int .i64 x.2.v] 79)) hrow1 hgrow
   exact (Below.setCell (p:=⟨w.heap.size,1,none⟩) hE4 (Nat.le_refl _) _).setCell (p:=⟨w.heap.size,2,none⟩) (Nat.le_refl _) _
 case done =>
  rintro D W hD ⟨v1,hv,hrow,hB⟩ hK;rw[HL.out] at hv hrow;obtain ⟨P,hP⟩:∃ P,L.map (·.2)=P:=⟨_,rfl⟩;obtain ⟨lp,hlp⟩:∃ lp,zhx 6 L=lp:=⟨_,rfl⟩;rw[hP] at hrow;rw[hlp] at hv;have HP:=zhd hP;have Hlp:=zhd hlp;clear hP hlp;obtain ⟨A1,cc1,rfl,_,_⟩:=SlR.open_ (SlR.of_own hrow);obtain ⟨g0,g1,g2,f0,f1,f2⟩:=za7 hv;subst hTT
  gi_wp2
  have hb9:Blk (zdt W w.heap.size (.int .i64 t) (.slice A1 P.length cc1) (.int .i64 lp)) w.heap.size 121 #[.int .i64 t,.slice A1 P.length cc1,.int .i64 lp]:=zbo hv _ _ _
  have ho9:=zef hv (by decide:(121:TypeId)≠79) hrow (.int .i64 t) (.slice A1 P.length cc1) (.int .i64 lp)
  have hE9:Ext w (zdt W w.heap.size (.int .i64 t) (.slice A1 P.length cc1) (.int .i64 lp)):=zcC hB (Nat.le_refl _) _ _ _
  have hK9:(zdt W w.heap.size (.int .i64 t) (.slice A1 P.length cc1) (.int .i64 lp)).heap[D]?=some (.deferred (some [])):=zaC (zaC (zaC hK rfl ⟨w.heap.size,0,none⟩ _) rfl ⟨w.heap.size,1,none⟩ _) rfl ⟨w.heap.size,2,none⟩ _
  have hbp:Blk ((zdt W w.heap.size (.int .i64 t) (.slice A1 P.length cc1) (.int .i64 lp)).putObj D (.deferred none)) w.heap.size 121 #[.int .i64 t,.slice A1 P.length cc1,.int .i64 lp]:=(World.putObj_heap_other (by omega)).trans hb9
  refine zbg hK9 (.tuple #[.agg #[.int .i64 t,.slice A1 P.length cc1,.int .i64 lp],.int .i64 0]) (zes _ _ _ _ _ rfl rfl hbp rfl) ?_
  refine ⟨.slice A1 P.length cc1,by rw[Hlp.out],?_,zar hE9 (by omega) _⟩
  dsimp only;rw[HP.out]
  exact ownsRow_putObj ho9 (.deferred none) hK9 rfl
theorem zq4 (v:Value) (bs:List UInt8) (w:World) (hB:Bs w v bs) (hl:bs.length≤2000000) (hT:TabW T w):Calls Tryz.prog 295 #[v] w (zg8 w (zcu T bs)):=by
 by_cases h:(zcu T bs).err=11
 ·exact zq5 v bs w hB h
 ·exact zs4 v bs w hB hl hT h
open Go.RowKit Go.Mv
variable {T:Tab}
theorem ziG {fn:Func} {p q:Tmp} (hr:fn.results = #[.cell p 121,.tmp q]) (tmps:Array Value) (W:World) (b:Nat) (cs:Array Value) (u:Value) (hp:tmps.getD p undef=.pointer (some ⟨b,0,none⟩)) (hq:tmps.getD q undef=u) (hb:Blk W b 121 cs) (hs:cs.size=3):(results fn tmps).run Tryz.prog W=.ok (.tuple #[.agg cs,u]) W:=by
 have hl:=hb.load (P:=Tryz.prog) zut rfl (by rw[hs];kernel_rfl)
 have hp':tmps[p]?.getD undef=.pointer (some ⟨b,0,none⟩):=by simpa using hp
 have hq':tmps[q]?.getD undef=u:=by simpa using hq
 simp[results,hr,hp',hq',asAddr,hl]
def fmtMap:Array MapEntry:=#[{ key:=.int .i64 1,val:=.iface 228 (.agg #[]),born:=0 },{ key:=.int .i64 2,val:=.iface 229 (.agg #[]),born:=1 }]
theorem zvO (w:World) (es:Array MapEntry) (c:Nat) (n:Int) (v:Value) (hn:Instr.findNow (.int .i64) (.int .i64 n) es.toList 0=some none) :
  (Instr.mapUpdate 197 (.map (some w.heap.size)) (.int .i64 n) v).run Tryz.prog (w.alloc (.map es c))=.ok () (w.alloc (.map (es.push { key:=.int .i64 n,val:=v,born:=c }) (c+1))) :=
 zdX w .i64 Tryz.underlying197 Tryz.underlying3 es c n v hn
theorem zgx (w:World):Calls Tryz.prog 156 #[] w fun e w'=>e=.returned (.map (some w.heap.size))∧w.alloc (.map fmtMap 2)=w':=by
 have hmm:=@run_makeMap Tryz.prog;have h0:=zvO w #[] 0 1 (.iface 228 (.agg #[])) rfl;have h1:=zvO w #[{ key:=.int .i64 1,val:=.iface 228 (.agg #[]),born:=0 }] 1 2 (.iface 229 (.agg #[])) rfl;simp only[List.push_toArray,List.nil_append,List.cons_append,Nat.reduceAdd] at h0 h1
 go_enter Tryz.func156,Tryz.ntmps156
 go_wp2
 go_ret
 exact ⟨rfl,rfl⟩
theorem zmY (f:Int):Instr.findNow (.int .i64) (.int .i64 f) fmtMap.toList 0=some (if f=1 then some (0,.iface 228 (.agg #[])) else if f=2 then some (1,.iface 229 (.agg #[])) else none):=by
 by_cases h1:f=1
 ·subst h1;rfl
 ·by_cases h2:f=2
  ·subst h2;rfl
  ·have e1:(f==1)=false:=by simp[h1]
   have e2:(f==2)=false:=by simp[h2]
   rw[if_neg h1,if_neg h2]
   simp[fmtMap,Instr.findNow,Instr.sameNow,e1,e2]
theorem ztB (W:World) (r:Nat) (h:W.heap[r]?=some (.map fmtMap 2)) (f:Int) :
  (Instr.lookup 197 (.map (some r)) (.int .i64 f) true).run Tryz.prog W=.ok (.tuple #[if f=1 then .iface 228 (.agg #[]) else if f=2 then .iface 229 (.agg #[]) else .nilIface,.bool (decide (f=1∨f=2))]) W ∧
  (Instr.lookup 197 (.map (some r)) (.int .i64 f) false).run Tryz.prog W=.ok (if f=1 then .iface 228 (.agg #[]) else if f=2 then .iface 229 (.agg #[]) else .nilIface) W:=by
 have k1:=zh4 (P:=Tryz.prog) W .i64 Tryz.underlying197 Tryz.underlying3 fmtMap 2 f .nilIface (by kernel_rfl) h _ (zmY f);have k2:=zgX (P:=Tryz.prog) W .i64 Tryz.underlying197 Tryz.underlying3 fmtMap 2 f .nilIface (by kernel_rfl) h _ (zmY f);rw[k1,k2]
 by_cases h1:f=1
 ·subst h1;exact ⟨rfl,rfl⟩
 ·by_cases h2:f=2
  ·subst h2;exact ⟨rfl,rfl⟩
  ·simp[h1,h2]
theorem mth (w:World) :
  (method 272 228 (.agg #[]) "moult/either.file").run Tryz.prog w=.ok (292,.agg #[]) w∧(method 272 229 (.agg #[]) "moult/either.file").run Tryz.prog w=.ok (299,.agg #[]) w ∧
  (method 272 228 (.agg #[]) "moult/either.scan").run Tryz.prog w=.ok (294,.agg #[]) w∧(method 272 229 (.agg #[]) "moult/either.scan").run Tryz.prog w=.ok (301,.agg #[]) w ∧
  (method 272 228 (.agg #[]) "moult/either.more").run Tryz.prog w=.ok (293,.agg #[]) w∧(method 272 229 (.agg #[]) "moult/either.more").run Tryz.prog w=.ok (300,.agg #[]) w:=by
 refine ⟨?_,?_,?_,?_,?_,?_⟩ <;> kernel_rfl
theorem zvT (w:World):(w.alloc (.map fmtMap 2)).heap[w.heap.size]?=some (.map fmtMap 2):=World.alloc_heap_new _ _
def zcj (T:Tab) (b:List UInt8) (f:Int):zgi:=if f=1 then zcu T b else if f=2 then zcQ b else ⟨2,0,[],0,(0,0)⟩
theorem zox (v:Value) (bs:List UInt8) (w:World) (hB:Bs w v bs) (hl:bs.length≤2000000) (hT:TabW T w):Calls Tryz.prog 294 #[.agg #[],v] w (zg8 w (zcu T bs)):=by
 have hX0:Ext w (w.alloc (.cells #[] 228)):=Ext.alloc (Ext.refl _) _
 have hX:Ext w ((w.alloc (.cells #[] 228)).alloc (.cells #[.int .i64 0,.slice none 0 0,.int .i64 0] 121)):=Ext.alloc hX0 _
 have hb:=Blk.new (w.alloc (.cells #[] 228)) 121 #[.int .i64 0,.slice none 0 0,.int .i64 0];rw[World.size_alloc] at hb;have key:=zhd (zq4 (T:=T) v bs _ (hB.ext hX) hl (hT.ext hX));obtain ⟨A,c,rfl,_,_⟩:=SlR.open_ hB;clear hB hT;obtain ⟨r,hr⟩:∃ r,zcu T bs=r:=⟨_,rfl⟩
 rw[hr] at key ⊢
 go_enter Tryz.func294,Tryz.ntmps294
 go_wp2_with fail
 refine key.out.mono ?_
 rintro e w1 ⟨vl,rfl,ho1,hE1⟩
 have ho1':OwnE w1 _ vl r.log:=ho1
 obtain ⟨A1,c1,rfl,_,_⟩:=SlR.open_ ho1'.es;have hb1:=hb.ext hE1;obtain ⟨g0,g1,g2,f0,f1,f2⟩:=za7 hb1;go_wp2_with fail;have ho2:=zef hb1 (by decide:(121:TypeId)≠79) ho1 (.int .i64 r.first) (.slice A1 r.log.length c1) (.int .i64 r.used)
 refine bodyPost_ret (ziG rfl _ _ _ _ _ rfl rfl (zbo hb1 _ _ _) rfl) rfl ⟨_,rfl,zaj ho2 hX.size,zcC (Ext.trans hX hE1) (Nat.le_succ _) _ _ _⟩
theorem zmp (v:Value) (bs:List UInt8) (w:World) (hB:Bs w v bs) (hl:bs.length≤2000000):Calls Tryz.prog 301 #[.agg #[],v] w (zg8 w (zcQ bs)):=by
 have hX0:Ext w (w.alloc (.cells #[] 229)):=Ext.alloc (Ext.refl _) _
 have hX:Ext w ((w.alloc (.cells #[] 229)).alloc (.cells #[.int .i64 0,.slice none 0 0,.int .i64 0] 121)):=Ext.alloc hX0 _
 have hb:=Blk.new (w.alloc (.cells #[] 229)) 121 #[.int .i64 0,.slice none 0 0,.int .i64 0];rw[World.size_alloc] at hb;have key:=zhd (zs5 v bs _ (hB.ext hX) hl);obtain ⟨A,c,rfl,_,_⟩:=SlR.open_ hB;clear hB;obtain ⟨r,hr⟩:∃ r,zcQ bs=r:=⟨_,rfl⟩
 rw[hr] at key ⊢
 go_enter Tryz.func301,Tryz.ntmps301
 go_wp2_with fail
 refine key.out.mono ?_
 rintro e w1 ⟨vl,rfl,ho1,hE1⟩
 have ho1':OwnE w1 _ vl r.log:=ho1
 obtain ⟨A1,c1,rfl,_,_⟩:=SlR.open_ ho1'.es;have hb1:=hb.ext hE1;obtain ⟨g0,g1,g2,f0,f1,f2⟩:=za7 hb1;go_wp2_with fail;have ho2:=zef hb1 (by decide:(121:TypeId)≠79) ho1 (.int .i64 r.first) (.slice A1 r.log.length c1) (.int .i64 r.used)
 refine bodyPost_ret (ziG rfl _ _ _ _ _ rfl rfl (zbo hb1 _ _ _) rfl) rfl ⟨_,rfl,zaj ho2 hX.size,zcC (Ext.trans hX hE1) (Nat.le_succ _) _ _ _⟩
theorem mcEith2a0 {P:Prop} (h:P:=by
 rw[hr] at key ⊢
 go_enter Tryz.func119,Tryz.ntmps119
 go_wp2_with (go_at_call 156;refine (zgx _).mono ?_;rintro e w' ⟨rfl,rfl⟩)
 refine key.out.mono ?_
 rintro e w1 ⟨vl,rfl,ho1,hE1⟩
 have ho1':OwnE w1 _ vl r.log:=ho1
 obtain ⟨A1,c1,rfl,_,_⟩:=SlR.open_ ho1'.es;have hb2:=hb1.ext hE1;obtain ⟨g0,g1,g2,f0,f1,f2⟩:=za7 hb2;go_wp2_with fail;have ho2:=zef hb2 (by decide:(121:TypeId)≠79) ho1 (.int .i64 r.first) (.slice A1 r.log.length c1) (.int .i64 r.used)
 exact bodyPost_ret (ziG rfl _ _ _ _ _ rfl rfl (zbo hb2 _ _ _) rfl) rfl ⟨_,rfl,zaj ho2 hX.size,zcC (Ext.trans hX hE1) (Nat.le_refl _) _ _ _⟩):P:=h
attribute [local go_sem] Oper.semAt_some
variable {T:Tab}
theorem zss {b:List UInt8} {f:Int} (h:¬ (f=1∨f=2)):zcj T b f=⟨2,0,[],0,(0,0)⟩:=by
 unfold zcj
 rw[if_neg (fun q=>h (.inl q)),if_neg (fun q=>h (.inr q))]
theorem zq6 (v:Value) (bs:List UInt8) (f:Int) (w:World) (hB:Bs w v bs) (hl:bs.length≤2000000) (hT:TabW T w):Calls Tryz.prog 119 #[v,.int .i64 f] w (zg8 w (zcj T bs f)):=by
 have hb:=Blk.new w 121 #[.int .i64 0,.slice none 0 0,.int .i64 0]
 have hX0:Ext w (w.alloc (.cells #[.int .i64 0,.slice none 0 0,.int .i64 0] 121)):=Ext.alloc (Ext.refl _) _
 have hX:Ext w ((w.alloc (.cells #[.int .i64 0,.slice none 0 0,.int .i64 0] 121)).alloc (.map fmtMap 2)):=Ext.alloc hX0 _
 have hb1:=hb.alloc (.map fmtMap 2);obtain ⟨hlk,_⟩:=ztB _ _ (zvT (w.alloc (.cells #[.int .i64 0,.slice none 0 0,.int .i64 0] 121))) f;rw[World.size_alloc] at hlk;obtain ⟨A,c,rfl,_,_⟩:=SlR.open_ hB
 by_cases h1:f=1
 ·subst h1
  have hr:zcj T bs 1=zcu T bs:=rfl
  rw[hr];have key:=zhd (zox (T:=T) _ bs _ (hB.ext hX) hl (hT.ext hX));clear hB hT hr;simp only[if_true,true_or,decide_true] at hlk
  have hm:=fun w=>(mth w).2.2.1
  obtain ⟨r,hr⟩:∃ r,zcu T bs=r:=⟨_,rfl⟩
  exact mcEith2a0
 ·by_cases h2:f=2
  ·subst h2
   have hr:zcj T bs 2=zcQ bs:=rfl
   rw[hr];have key:=zhd (zmp _ bs _ (hB.ext hX) hl);clear hB hT hr
   have hlk':(Instr.lookup 197 (.map (some (w.heap.size+1))) (.int .i64 2) true).run Tryz.prog ((w.alloc (.cells #[.int .i64 0,.slice none 0 0,.int .i64 0] 121)).alloc (.map fmtMap 2))=.ok (.tuple #[.iface 229 (.agg #[]),.bool true]) ((w.alloc (.cells #[.int .i64 0,.slice none 0 0,.int .i64 0] 121)).alloc (.map fmtMap 2)):=hlk
   have hm:=fun w=>(mth w).2.2.2.1
   clear hlk h1;obtain ⟨r,hr⟩:∃ r,zcQ bs=r:=⟨_,rfl⟩
   exact mcEith2a0
  ·have hr:zcj T bs f=⟨2,0,[],0,(0,0)⟩:=zss (by omega)
   rw[hr]
   have hd:decide (f=1∨f=2)=false:=by simp[h1,h2]
   rw[if_neg h1,if_neg h2,hd] at hlk;clear hB hT hd hr;obtain ⟨g0,g1,g2,f0,f1,f2⟩:=za7 hb1
   go_enter Tryz.func119,Tryz.ntmps119
   go_wp2_with (go_at_call 156;refine (zgx _).mono ?_;rintro e w' ⟨rfl,rfl⟩)
   exact bodyPost_ret (ziG rfl _ _ _ _ _ rfl rfl hb1 rfl) rfl ⟨_,rfl,World.ownsRow_nil _ _ _ _,hX⟩
end Go.Proofs.YtgonhdeochgkoaaGreatDoor
