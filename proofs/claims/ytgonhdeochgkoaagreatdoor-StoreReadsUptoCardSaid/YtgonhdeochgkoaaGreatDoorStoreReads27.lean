/- Merged: Chunk4 SayP ReadsP -/
import Derived.Test.YtgonhdeochgkoaaGreatDoorStoreReads26
set_option linter.all false
set_option maxHeartbeats 8000000
set_option maxRecDepth 100000
namespace Go.Proofs.YtgonhdeochgkoaaGreatDoor
open Go.RowKit Go.Mv Go.Shelf
attribute [local go_sem] Oper.semAt_some
def zbT (l:List Sg4):List Int:=l.flatMap fun s=>[s.seq,s.fmt,s.first,s.count]
theorem zf1 (l:List Sg4):(zbT l).length=4*l.length:=by
 induction l with
 | nil=>rfl
 | cons s l ih=>rw[show zbT (s::l)=s.seq::s.fmt::s.first::s.count::zbT l from rfl];simp[ih];omega
theorem zl1 (es:List Sg4) (i:Nat) (h:i<es.length):(zbT es).drop (i*4)=es[i].seq::es[i].fmt::es[i].first::es[i].count::(zbT es).drop (i*4+4):=by
 induction es generalizing i with
 | nil=>simp at h
 | cons e es ih =>
  rw[show zbT (e::es)=e.seq::e.fmt::e.first::e.count::zbT es from rfl]
  cases i with
  | zero=>rfl
  | succ i =>
   have:=ih i (by simpa using h)
   rw[show (i+1)*4=i*4+1+1+1+1 from by omega]
   simpa using this
theorem zr1 {wo:World} {b off n c:Nat} {es:List Sg4} (h:Is wo (.slice (some ⟨b,off,none⟩) n c) (zbT es)) (i:Nat) (hi:i<es.length) :
  Is wo (.slice (some ⟨b,off+i*4,none⟩) 4 4) [es[i].seq,es[i].fmt,es[i].first,es[i].count]:=by
 have hl:=zf1 es
 obtain ⟨h0,A,c',e,h1,h2,h3⟩:=h
 cases e
 obtain ⟨b',off',e',hc⟩:=h3 (by omega)
 cases e'
 refine ⟨by simp,_,4,rfl,Nat.le_refl _,by simp[maxLen],fun _=>⟨b,off+i*4,rfl,fun j u hu=>?_⟩⟩
 have hd:=zl1 es i hi
 have hj:j<4:=by
  have:=(List.getElem?_eq_some_iff.1 hu).1
  simpa using this
 rw[Nat.add_assoc]
 refine hc (i*4+j) u ?_
 rw[←hu,←List.getElem?_drop,←List.map_drop,hd]
 match j,hj with
 | 0,_=>rfl
 | 1,_=>rfl
 | 2,_=>rfl
 | 3,_=>rfl
theorem ziq (wo W0:World) (v:Value) (es:List Sg4) (hes:Is wo v (zbT es)) (hlen:es.length≤2000000) (bs bn:Nat) (hB1:Boxed W0 bs 96 v) (hB2:Boxed W0 bn 3 (.int .i64 4)) :
  Seq Tryz.prog 140 #[.pointer (some ⟨bs,0,none⟩),.pointer (some ⟨bn,0,none⟩)]
   (fun (e:Sg4) av _=>∃ b off,av = #[.slice (some ⟨b,off,none⟩) 4 4]∧Is wo (.slice (some ⟨b,off,none⟩) 4 4) [e.seq,e.fmt,e.first,e.count]) (fun k o=>(k=bs∧o.ty=some 96)∨(k=bn∧o.ty=some 3)) (fun _ _=>False) es W0:=by
 intro l J Jx hJ hJx hY h0
 have hL:=zf1 es
 obtain ⟨A,c,rfl,h1,h2⟩:=SlR.open_ hes
 rw[hL] at *
 refine (callsIn_wd (ro:=none) (n:=9)).1 ?_
 refine callsIn_of_wp Tryz.func140 rfl trivial ?_ rfl
 simp only[Tryz.ntmps140,List.size_toArray,List.length_cons,List.length_nil,Nat.reduceAdd,Nat.reduceSub,Array.replicate_succ,Array.replicate_zero,List.push_toArray,List.append_toArray,List.nil_append,List.cons_append]
 have Hes:=zhd hes
 clear hL hes
 gi_wp2
 gi_loopw [4] (fun j W=>∃ (i:Nat),j=.int .i64 (i*4:Nat)∧i≤es.length∧Hid (J (es.take i) W)∧Boxed W bs 96 (.slice A (4*es.length) c)∧Boxed W bn 3 (.int .i64 4)∧W0.heap.size≤W.heap.size) (fun j _=>4*es.length+5-(intOf j).toNat)
 case atStart=>exact ⟨0,rfl,Nat.zero_le _,h0,hB1,hB2,Nat.le_refl _⟩
 case round =>
  obtain ⟨i,rfl,hk,HJ,b1,b2,hsz⟩:=hrel
  have c1:=b1.cell
  have c2:=b2.cell
  by_cases hlt:i<es.length
  ·have hes':=Hes.out
   obtain ⟨hx,b,off,rfl,hc⟩:=Is.at_ hes' (by rw[zf1];omega)
   clear hc hx
   have hp:=zr1 hes' i hlt
   have Hp:=zhd hp
   have hkk:(i*4:Nat)<4*es.length:=by omega
   have hk3:(i*4:Nat)+4≤4*es.length:=by omega
   have htk:es.take (i+1)=es.take i++[es[i]]:=List.take_succ_eq_append_getElem hlt
   have Htk:=zhd htk
   have hsp:es=es.take i++es[i]::es.drop (i+1):=by rw[←List.drop_eq_getElem_cons hlt,List.take_append_drop]
   have Hsp:=zhd hsp
   clear hp htk hsp hes'
   have hi3:((i*4:Nat):Int)=(i:Int)*4:=by omega
   obtain ⟨k,hkd⟩:∃ k,i*4=k:=⟨_,rfl⟩
   have Hkd:=zhd hkd
   rw[hkd] at hkk hk3 Hp
   simp only[hkd]
   clear hi3 hkd
   gi_wp2
   gi_region
   have hmin:min (4:Int) ((4*es.length-k:Nat):Int)=4:=by omega
   have hk4:((k:Int)+4).toNat-k=4:=by omega
   have HMIN:=zhd hmin
   have HK4:=zhd hk4
   clear hmin hk4
   have hy:=hY (es.take i) es[i] (es.drop (i+1)) Hsp.out wr.drew #[.slice (some ⟨b,off+k,none⟩) 4 4] (hJ _ _ _ HJ.out (Moves.refl.drew)) hsz ⟨b,off+k,rfl,Hp.out⟩
   have Hy:=zhd hy
   have b1':Boxed wr.drew bs 96 (.slice (some ⟨b,off,none⟩) (4*es.length) c):=b1
   have b2':Boxed wr.drew bn 3 (.int .i64 4):=b2
   clear hy hY
   gi_wp2
   rw[HMIN.out,HK4.out]
   refine zaZ Hy.out ?_
   rintro e W' ⟨hk',⟨rfl,hj⟩ | ⟨rfl,hj⟩⟩
   ·refine ⟨true,rfl,?_⟩
    have d1:Boxed W' bs 96 (.slice (some ⟨b,off,none⟩) (4*es.length) c):=hk'.boxed b1' (.inl (.inl ⟨rfl,rfl⟩))
    have d2:Boxed W' bn 3 (.int .i64 4):=hk'.boxed b2' (.inl (.inr ⟨rfl,rfl⟩))
    have e2:=d2.cell
    have hs':W0.heap.size≤W'.heap.size:=Nat.le_trans hsz hk'.size
    have HJ3:=zhd hj
    clear hj hk' c1 c2
    gi_wp2
    refine ⟨⟨i+1,?_,by omega,?_,d1,d2,hs'⟩,by simp[intOf];omega⟩
    ·have:=Hkd.out
     rw[show (i+1)*4=k+4 from by omega];go_num
    ·show J _ _;rw[Htk.out];exact HJ3.out
   ·refine ⟨false,rfl,?_⟩
    have HJ3:=zhd hj
    clear hj hk' c1 c2
    gi_wp2
    refine bodyPost_ret (results_none rfl _ _ _) rfl ?_
    refine ⟨⟨_,rfl⟩,.inr ⟨es.take (i+1),?_,?_⟩⟩
    ·exact List.take_prefix _ _
    ·rw[Htk.out];exact HJ3.out
  ·have hC:es.take i=es:=List.take_of_length_le (by omega)
   have hi3:4*es.length≤i*4:=by omega
   have hi4:¬ (((i*4:Nat):Int)<((4*es.length:Nat):Int)):=by omega
   obtain ⟨k,hkd⟩:∃ k,i*4=k:=⟨_,rfl⟩
   have HC2:=zhd hC
   have hk6:k≤4*es.length:=by omega
   rw[hkd] at hi3
   simp only[hkd]
   clear hC hi4 hkd
   gi_wp2
   refine bodyPost_end (results_none rfl _ _ _) rfl ?_
   exact ⟨⟨_,rfl⟩,.inl (by have:=HJ.out;rw[HC2.out] at this;exact this)⟩
theorem zik (A:Option Addr) (n c:Nat) (w:World):Calls Tryz.prog 104 #[.slice A n c,.int .i64 4] w fun e w' =>
  e=.returned (.func (.func 140) #[] #[.pointer (some ⟨w.heap.size,0,none⟩),.pointer (some ⟨w.heap.size+1,0,none⟩)]) ∧
  (w.alloc (.cells #[.slice A n c] 96)).alloc (.cells #[.int .i64 4] 3)=w':=by
 go_enter Tryz.func104,Tryz.ntmps104
 go_wp2
 go_ret
 exact ⟨rfl,rfl⟩
open Go.RowKit Go.Mv
def zmk (m:Mf):List (Int×Int×Int):=(if m.sq=0 then [] else [(4,m.sq,m.sf)])++m.segs.map zaN
theorem zmR (m:Mf):zbh m=(1,0,0)::zmk m:=rfl
theorem zsh {m:Mf} {x:Int×Int×Int} (h:x∈zmk m):zli m x.1 x.2.1 x.2.2:=by
 unfold zmk at h
 rcases List.mem_append.1 h with h | h
 ·split at h
  ·cases h
  ·rename_i hq
   rw[List.mem_singleton] at h
   subst h
   exact .snap hq
 ·obtain ⟨s,hs,rfl⟩:=List.mem_map.1 h
  obtain ⟨j,hj,rfl⟩:=List.mem_iff_getElem.1 hs
  exact .seg j hj
theorem zbj (n:List UInt8):∀ fs:List Fil,zaF fs (some n)=zai n fs
 | []=>rfl
 | p::fs=>by rw[zmE,zai,zbj n fs]
theorem zsg {fs:List Fil} (h:(zaK fs).err≠0):((zaK fs).err=42↔zaF fs (some [77])=none)∧((zaK fs).err=42∨(zaK fs).err=130)∧(zaK fs).t=zdV∧(zaK fs).m=mf0:=by
 unfold zaK at h ⊢
 rw[zhL] at h ⊢
 cases hb:zaF fs (some [77]) with
 | none=>exact ⟨⟨fun _=>rfl,fun _=>rfl⟩,.inl rfl,rfl,rfl⟩
 | some b =>
  rw[hb] at h
  dsimp only at h ⊢
  have key:∀ {R:Rd},R=zbs 130→((R.err=42↔some b=none)∧(R.err=42∨R.err=130)∧R.t=zdV∧R.m=mf0):=by
   rintro R rfl
   exact ⟨⟨fun h=>(by cases h),fun h=>(by cases h)⟩,.inr rfl,rfl,rfl⟩
  cases hm:zbv b with
  | none=>exact key rfl
  | some m =>
   rw[hm] at h
   dsimp only at h ⊢
   cases hs:zcn fs m with
   | none=>exact key rfl
   | some s =>
    rw[hs] at h
    dsimp only at h ⊢
    split at h
    ·exact absurd rfl h
    ·rename_i hc
     rw[if_neg hc]
     exact key rfl
theorem zi8 {fs:List Fil} {b:List UInt8} {m:Mf} (hb:zaF fs (some [77])=some b) (hm:zbv b=some m) (h:zcn fs m=none∨∃ s∈m.segs,zay fs s=none):(zaK fs).err=130:=by
 unfold zaK
 rw[zhL,hb]
 dsimp only
 rw[hm]
 dsimp only
 cases hs:zcn fs m with
 | none=>rfl
 | some st =>
  rcases h with h | ⟨s,hsm,he⟩
  ·rw[hs] at h;cases h
  ·dsimp only
   rw[if_neg]
   ·rfl
   ·intro hc
    rw[Bool.and_eq_true] at hc
    obtain ⟨y,hy⟩:=zlN hc.1 s hsm
    rw[he] at hy
    cases hy
def zaV (fs:List Fil) (n:List UInt8):List Fil:=fs.filter fun p=>!decide (p.1=n)
def zcu (fs:List Fil) (n:List UInt8):List Fil:=fs.map fun p=>if p.1=n then (n,[9]) else p
theorem zdk (n x:List UInt8):∀ fs:List Fil,zai x (zaV fs n)=if x=n then none else zai x fs
 | []=>by simp[zaV,zai]
 | p::fs=>by
  have ih:=zdk n x fs
  unfold zaV at ih ⊢
  rw[List.filter_cons,zai]
  by_cases hp:p.1=n
  ·rw[if_neg (by simp[hp]),ih]
   by_cases hx:x=n
   ·rw[if_pos hx,if_pos hx]
   ·rw[if_neg hx,if_neg hx,if_neg (fun e:p.1=x=>hx (e.symm.trans hp))]
  ·rw[if_pos (by simp[hp]),zai,ih]
   by_cases he:p.1=x
   ·rw[if_pos he,if_pos he,if_neg (he ▸ hp)]
   ·rw[if_neg he,if_neg he]
theorem zeO (n x:List UInt8):∀ fs:List Fil,zai x (zcu fs n)=if x=n then (zai n fs).map (fun _=>[9]) else zai x fs
 | []=>by simp[zcu,zai]
 | p::fs=>by
  have ih:=zeO n x fs
  unfold zcu at ih ⊢
  rw[List.map_cons,zai,ih,zai,zai]
  by_cases hp:p.1=n
  ·rw[if_pos hp]
   by_cases hx:x=n
   ·rw[if_pos hx.symm,if_pos hx,if_pos hp];rfl
   ·rw[if_neg (Ne.symm hx),if_neg hx,if_neg hx,if_neg (fun e:p.1=x=>hx (e.symm.trans hp))]
  ·rw[if_neg hp]
   by_cases he:p.1=x
   ·rw[if_pos he,if_pos he,if_neg (fun e=>hp (he.trans e))]
   ·rw[if_neg he,if_neg he,if_neg hp]
theorem zhb {b:List UInt8} (h:b.length<4):zbm rT b=none:=by
 unfold zbm
 rw[if_neg]
 intro e
 have:=congrArg List.length e
 rw[zhG,List.length_drop] at this
 omega
theorem znj {b:List UInt8} (h:b.length<4):zbv b=none:=by
 unfold zbv
 rw[zhb h]
theorem znk {b:List UInt8} (h:b.length<2) (f:Int):zdd b f=none:=by
 have:zdN b f=none:=by
  unfold zdN zfy zdI
  split
  ·first | rfl | rw[if_pos h]
  ·first | rfl | rw[if_neg (by omega)]
 unfold zdd
 rw[this]
theorem zgG {m:Mf} {j:Nat} {k s f:Int} (h:(zbh m)[j]?=some (k,s,f)):(j=0∧(k,s,f)=(1,0,0))∨(0<j∧zli m k s f):=by
 rw[zmR] at h
 cases j with
 | zero=>left;simp at h;exact ⟨rfl,by rw[←h.1,←h.2.1,←h.2.2]⟩
 | succ j =>
  right
  rw[List.getElem?_cons_succ] at h
  have:=zsh (List.mem_of_getElem? h)
  exact ⟨Nat.succ_pos j,this⟩
theorem zk1 {fs:List Fil} {t:Tup} {m:Mf} (h:zaK fs=⟨0,t,m⟩) {j:Nat} {k s f:Int} (hj:(zbh m)[j]?=some (k,s,f)) {n:List UInt8} (hn:zav k s f=some n) :
  (zaK (zaV fs n)).err≠0∧((zaK (zaV fs n)).err=42↔j=0):=by
 obtain ⟨b,st,hb,hm,hst,hlog,_,_⟩:=zj9 h
 rcases zgG hj with ⟨rfl,e⟩ | ⟨h0,hth⟩
 ·obtain ⟨rfl,rfl,rfl⟩:k=1∧s=0∧f=0:=by simpa using e
  obtain rfl:n=[77]:=by
   have h1:some [77]=some n:=hn
   exact (Option.some.inj h1).symm
  have:zaK (zaV fs [77])=zbs 42:=by
   unfold zaK
   rw[zhL,zbj,zdk,if_pos rfl]
  rw[this]
  exact ⟨by decide,⟨fun _=>rfl,fun _=>rfl⟩⟩
 ·have hck:=(zdJ hm).1
  obtain ⟨hk,_,_⟩:=zj2 hck hth
  have hnM:=zku hk hn
  have hb':zaF (zaV fs n) (some [77])=some b:=by rw[zbj,zdk,if_neg (Ne.symm hnM),←zbj,hb]
  have h130:(zaK (zaV fs n)).err=130:=by
   refine zi8 hb' hm ?_
   cases hth with
   | snap hq =>
    left
    unfold zcn
    rw[if_neg hq,hn,zbj,zdk,if_pos rfl]
   | seg i hi =>
    right
    refine ⟨m.segs[i],List.getElem_mem hi,?_⟩
    unfold zay
    rw[hn,zbj,zdk,if_pos rfl]
  rw[h130]
  exact ⟨by decide,⟨fun h=>(by cases h),fun h=>(by omega)⟩⟩
theorem zoM (f:Int):(zbW rT [9] f).err≠0∨(zbW rT [9] f).log=[]:=by
 by_cases h1:f=1
 ·subst h1;left;decide +kernel
 ·by_cases h2:f=2
  ·subst h2;left;decide +kernel
  ·left
   unfold zbW
   simp[h1,h2]
theorem zry {fs:List Fil} {s:Sg4} (hb:zaF fs (zav 3 s.seq s.fmt)=some [9]) (hc:(1≤s.count∧s.count≤4)∨s.count = -1):zay fs s=none:=by
 rw[zis hb,if_pos]
 unfold zbJ
 rcases zoM s.fmt with h | h
 ·simp[h]
 ·rw[h]
  have:zbB 0 s.count=true:=by
   unfold zbB
   simp only[Bool.or_eq_true,Bool.and_eq_true,decide_eq_true_eq]
   omega
  simp[this]
theorem zkE {m:Mf} (hm:zaD m=true) {i:Nat} (hi:i<m.segs.length):(1≤m.segs[i].count∧m.segs[i].count≤4)∨m.segs[i].count = -1:=by
 obtain ⟨_,_,_,_,_,h6⟩:=zdi hm
 have:=(zgj (h6 i hi)).2.2.2.2
 omega
theorem zoF {fs:List Fil} {t:Tup} {m:Mf} (h:zaK fs=⟨0,t,m⟩) {j:Nat} {k s f:Int} (hj:(zbh m)[j]?=some (k,s,f)) {n:List UInt8} (hn:zav k s f=some n) :
  (zaK (zcu fs n)).err=130:=by
 obtain ⟨b,st,hb,hm,hst,hlog,_,_⟩:=zj9 h
 rcases zgG hj with ⟨rfl,e⟩ | ⟨h0,hth⟩
 ·obtain ⟨rfl,rfl,rfl⟩:k=1∧s=0∧f=0:=by simpa using e
  obtain rfl:n=[77]:=by
   have h1:some [77]=some n:=hn
   exact (Option.some.inj h1).symm
  unfold zaK
  rw[zhL,zbj,zeO,if_pos rfl,←zbj,hb]
  dsimp only[Option.map]
  rw[znj (by simp)]
  rfl
 ·have hck:=(zdJ hm).1
  obtain ⟨hk,_,_⟩:=zj2 hck hth
  have hnM:=zku hk hn
  have hb':zaF (zcu fs n) (some [77])=some b:=by rw[zbj,zeO,if_neg (Ne.symm hnM),←zbj,hb]
  refine zi8 hb' hm ?_
  cases hth with
  | snap hq =>
   left
   have hs:=hst
   unfold zcn at hs ⊢
   rw[if_neg hq] at hs ⊢
   rw[hn] at hs ⊢
   rw[zbj] at hs ⊢
   rw[zeO,if_pos rfl]
   cases hg:zai n fs with
   | none=>rfl
   | some c=>exact znk (by simp) _
  | seg i hi =>
   right
   refine ⟨m.segs[i],List.getElem_mem hi,?_⟩
   obtain ⟨y,hy⟩:=zlN hlog m.segs[i] (List.getElem_mem hi)
   unfold zay at hy
   rw[hn] at hy
   cases hg:zaF fs (some n) with
   | none=>rw[hg] at hy;cases hy
   | some c =>
    refine zry (by rw[hn,zbj,zeO,if_pos rfl,←zbj,hg];rfl) (zkE hck hi)
theorem znv {fs:List Fil} {m:Mf} (hm:zaD m=true) {i:Nat} (hi:i<m.segs.length) {y:List Ent} (h:zay fs m.segs[i]=some y):1≤y.length∧y.length≤4:=by
 have h1:=(ztD h).2
 have h2:=zkE hm hi
 unfold zbB at h1
 simp only[Bool.or_eq_false_iff,Bool.and_eq_false_iff,decide_eq_false_iff_not] at h1
 omega
def zen (fs:List Fil) (l:List Sg4):Nat:=(l.map fun s=>((zay fs s).getD []).length).sum
theorem zkr {fs:List Fil} {index:Int}:∀ {l:List Sg4} {last:Int} {out:List Ent} {r},zdM fs index l last out=some r→r.2.length≤out.length+zen fs l
 | [],last,out,r,h=>by
  unfold zdM at h
  cases h
  simp[zen]
 | s::l,last,out,r,h=>by
  unfold zdM at h
  cases he:zay fs s with
  | none=>rw[he] at h;cases h
  | some x =>
   rw[he] at h
   have ih:=zkr h
   unfold zen at ih ⊢
   rw[List.map_cons,List.sum_cons,he]
   rw[List.length_append,List.length_drop] at ih
   simp only[Option.getD_some]
   omega
theorem zs0 {fs:List Fil} {m:Mf} {index:Int}:(zd5 fs m index).1.length≤zen fs m.segs:=by
 unfold zd5
 cases hg:zdM fs index m.segs (index+1) [] with
 | none=>simp
 | some r =>
  have:=zkr hg
  simpa using this
end Go.Proofs.YtgonhdeochgkoaaGreatDoor
