/- Merged -/
import Derived.Test.YtgonhdeochgkoaaGreatDoorZx17
import Derived.Test.YtgonhdeochgkoaaGreatDoorZx22
set_option linter.all false
set_option maxHeartbeats 8000000
set_option maxRecDepth 100000
namespace Go.Proofs.YtgonhdeochgkoaaGreatDoor
open Go.RowKit Go.Mv
variable {T:Tab}
theorem zmk (v:Value) (bs:List UInt8) (w:World) (h:Bs w v bs) (hl:4≤bs.length) (HL:bs.length≤100000) (hT:TabW T w):Calls Tryz.prog 102 #[v] w fun e w' =>
  (match zaM T bs with
  | some p=>∃ A c,e=.returned (.tuple #[.slice A p.length c,.bool true])∧OwnB w' w.heap.size (.slice A p.length c) p
  | none=>e=.returned (.tuple #[.slice none 0 0,.bool false]))∧Ext w w':=by
 obtain ⟨A,c,rfl,h1,h2⟩:=xO h;obtain ⟨_,b,H0,rfl,hc⟩:=Bs.at_ h (by omega);obtain ⟨n,hn⟩:∃ n,bs.length-4=n:=⟨_,rfl⟩
 have Ho:bs.length=n+4:=by omega
 have H9:=Bs.take h n (by omega);have H5:=Bs.cut h n (by omega) rfl
 rw[show bs.length-n=4 from by omega] at H5
 have HN:n≤100000:=by omega
 have Hh:(bs.take n).length=n:=by rw[List.length_take];omega
 have He:(bs.drop n).length=4:=by rw[List.length_drop];omega
 unfold zaM;rw[hn];obtain ⟨p,hp⟩:∃ p,bs.take n=p:=⟨_,rfl⟩;obtain ⟨g,hg⟩:∃ g,bs.drop n=g:=⟨_,rfl⟩
 rw[hp] at H9 Hh ⊢
 rw[hg] at H5 He ⊢
 have Hi:=zhh (T:=T) 0 p (by decide);obtain ⟨sm,Hj⟩:∃ sm,zce T 0 p=sm:=⟨_,rfl⟩
 rw[Hj] at Hi ⊢
 have HT:=zhd hT;have H6:=zhd H9;have Hk:=zhd H5;have Hm:=zhd Hj;obtain ⟨f0,f1,f2,f3,hf⟩:∃ f0 f1 f2 f3:UInt8,zc1 sm=[f0,f1,f2,f3]:=⟨_,_,_,_,rfl⟩;have Hf:=zhd hf;rw[hf];have HS:=zhd Hh;have HR:=zhd He
 rw[Ho] at h1 ⊢
 clear hc h H9 H5 hp hg Hj hT hn hl HL He Ho hf;subst Hh
 have HW:(p.length:Int)≤(c:Int):=by omega
 have HG:¬ (c=p.length):=by omega
 have HX:(p.length:Int)≤(p.length:Int)+4:=by omega
 have hX:Ext w (w.alloc (.cells #[.slice (some ⟨b,H0,none⟩) p.length c] 38)):=xA (xR _) _
 by_cases heq:[f0,f1,f2,f3]=g
 all_goals
  have Hl:=zhd heq
 ·rw[if_pos heq]
  clear heq
  go_enter Tryz.func102,Tryz.ntmps102
  go_wp2_with fail
  refine (zen (T:=T) w.heap.size _ c p _ (Boxed.new w _ _).cell (H6.out.ext hX) (by omega) (HT.out.ext hX)).mono ?_
  rw[Hm.out];rintro e w1 ⟨rfl,Ha⟩;have X1:=xT hX Ha;go_wp2_with fail
  refine (zdW sm Hi _).mono ?_
  rw[Hf.out];rintro e w2 ⟨rfl,Hb⟩;simp only[List.map_cons,List.map_nil,bv];have X2:=xT X1 Hb
  have hb3:Blk (w2.alloc (.cells #[.int .u8 (f0.toNat:Int),.int .u8 (f1.toNat:Int),.int .u8 (f2.toNat:Int),.int .u8 (f3.toNat:Int)] 140)) w2.heap.size 140 ([f0,f1,f2,f3].map bv).toArray:=Blk.new w2 _ _
  have X3:Ext w (w2.alloc (.cells #[.int .u8 (f0.toNat:Int),.int .u8 (f1.toNat:Int),.int .u8 (f2.toNat:Int),.int .u8 (f3.toNat:Int)] 140)):=xA X2 _
  have h4:Bs (w2.alloc (.cells #[.int .u8 (f0.toNat:Int),.int .u8 (f1.toNat:Int),.int .u8 (f2.toNat:Int),.int .u8 (f3.toNat:Int)] 140)) (.slice (some ⟨w2.heap.size,0,none⟩) 4 4) [f0,f1,f2,f3]:=zdy hb3 rfl (by simp[maxLen])
  go_wp2_with fail
  refine wp_region_held_drew (S:=fun _=>True) (by kernel_rfl) trivial (fun _=>?_)
  refine tkN 0 rfl ?_;refine tkN 1 rfl ?_;refine tkN 2 rfl ?_;refine tkN 3 rfl ?_
  refine ar1 4 rfl (fun K hK=>?_)
  go_simp
  have Hc:=zbk _ _ _ _ _ (h4.ext (xD (xR _))) (Hk.out.ext (xD X3))
  refine Hc.mono ?_
  rw[decide_eq_true Hl.out];rintro e w4 ⟨rfl,rfl⟩
  try (go_wp2_with fail)
  refine shK hK _ _ trivial (fun _=>?_)
  refine tkN 5 rfl ?_;refine wpAnyH_done (by kernel_rfl) ?_ _;go_wp2_with fail
  refine (ziC _ p _ (H6.out.ext (xD X3)) (by omega)).mono ?_
  rintro e w5 ⟨A5,c5,rfl,HO,HF⟩;go_wp2_with fail
  go_ret2
  exact ⟨⟨A5,c5,rfl,zai HO (xD X3).size⟩,xT (xD X3) HF⟩
 ·rw[if_neg heq]
  clear heq
  go_enter Tryz.func102,Tryz.ntmps102
  go_wp2_with fail
  refine (zen (T:=T) w.heap.size _ c p _ (Boxed.new w _ _).cell (H6.out.ext hX) (by omega) (HT.out.ext hX)).mono ?_
  rw[Hm.out];rintro e w1 ⟨rfl,Ha⟩;have X1:=xT hX Ha;go_wp2_with fail
  refine (zdW sm Hi _).mono ?_
  rw[Hf.out];rintro e w2 ⟨rfl,Hb⟩;simp only[List.map_cons,List.map_nil,bv];have X2:=xT X1 Hb
  have hb3:Blk (w2.alloc (.cells #[.int .u8 (f0.toNat:Int),.int .u8 (f1.toNat:Int),.int .u8 (f2.toNat:Int),.int .u8 (f3.toNat:Int)] 140)) w2.heap.size 140 ([f0,f1,f2,f3].map bv).toArray:=Blk.new w2 _ _
  have X3:Ext w (w2.alloc (.cells #[.int .u8 (f0.toNat:Int),.int .u8 (f1.toNat:Int),.int .u8 (f2.toNat:Int),.int .u8 (f3.toNat:Int)] 140)):=xA X2 _
  have h4:Bs (w2.alloc (.cells #[.int .u8 (f0.toNat:Int),.int .u8 (f1.toNat:Int),.int .u8 (f2.toNat:Int),.int .u8 (f3.toNat:Int)] 140)) (.slice (some ⟨w2.heap.size,0,none⟩) 4 4) [f0,f1,f2,f3]:=zdy hb3 rfl (by simp[maxLen])
  go_wp2_with fail
  refine wp_region_held_drew (S:=fun _=>True) (by kernel_rfl) trivial (fun _=>?_)
  refine tkN 0 rfl ?_;refine tkN 1 rfl ?_;refine tkN 2 rfl ?_;refine tkN 3 rfl ?_
  refine ar1 4 rfl (fun K hK=>?_)
  go_simp
  have Hc:=zbk _ _ _ _ _ (h4.ext (xD (xR _))) (Hk.out.ext (xD X3))
  refine Hc.mono ?_
  rw[decide_eq_false Hl.out];rintro e w4 ⟨rfl,rfl⟩
  try (go_wp2_with fail)
  refine shK hK _ _ trivial (fun _=>?_)
  refine tkN 5 rfl ?_;refine wpAnyH_done (by kernel_rfl) ?_ _;go_wp2_with fail
  go_ret2
  exact ⟨rfl,xD X3⟩
theorem zmj (v:Value) (bs:List UInt8) (w:World) (h:Bs w v bs) (hl:bs.length<4):Calls Tryz.prog 102 #[v] w fun e w'=>e=.returned (.tuple #[.slice none 0 0,.bool false])∧Ext w w':=by
 obtain ⟨A,c,rfl,h1,h2⟩:=xO h
 have hw:wrap64 ((bs.length:Int)-4)=(bs.length:Int)-4:=by unfold wrap64;omega
 have hn:(bs.length:Int)-4<0:=by omega
 have HN:(bs.length:Int)<4:=by omega
 go_enter Tryz.func102,Tryz.ntmps102
 go_wp2_with fail
 go_ret2
 exact ⟨rfl,xR _⟩
open Go.RowKit Go.Mv Go.Shelf
attribute [local go_sem] Oper.semAt_some
def zca (l:List Sg4):List Int:=l.flatMap fun s=>[s.seq,s.fmt,s.first,s.count]
theorem zgn (l:List Sg4):(zca l).length=4*l.length:=by
 induction l with
 | nil=>rfl
 | cons s l ih=>rw[show zca (s::l)=s.seq::s.fmt::s.first::s.count::zca l from rfl];simp[ih];omega
theorem zmR (es:List Sg4) (i:Nat) (h:i<es.length):(zca es).drop (i*4)=es[i].seq::es[i].fmt::es[i].first::es[i].count::(zca es).drop (i*4+4):=by
 induction es generalizing i with
 | nil=>simp at h
 | cons e es ih =>
  rw[show zca (e::es)=e.seq::e.fmt::e.first::e.count::zca es from rfl]
  cases i with
  | zero=>rfl
  | succ i =>
   have:=ih i (by simpa using h)
   rw[show (i+1)*4=i*4+1+1+1+1 from by omega]
   simpa using this
theorem ztg {wo:World} {b H0 n c:Nat} {es:List Sg4} (h:Is wo (.slice (some ⟨b,H0,none⟩) n c) (zca es)) (i:Nat) (hi:i<es.length) :
  Is wo (.slice (some ⟨b,H0+i*4,none⟩) 4 4) [es[i].seq,es[i].fmt,es[i].first,es[i].count]:=by
 have hl:=zgn es;obtain ⟨h0,A,c',e,h1,h2,h3⟩:=h
 cases e
 obtain ⟨b',HQ,e',hc⟩:=h3 (by omega)
 cases e'
 refine ⟨by simp,_,4,rfl,xN _,by simp[maxLen],fun _=>⟨b,H0+i*4,rfl,fun j u hu=>?_⟩⟩
 have hd:=zmR es i hi
 have hj:j<4:=by
  have:=(List.getElem?_eq_some_iff.1 hu).1
  simpa using this
 rw[Nat.add_assoc]
 refine hc (i*4+j) u ?_
 rw[←hu,←List.getElem?_drop,←List.map_drop,hd]
 match j,hj with
 | 0,_=>rfl
 | 1,_=>rfl
 | 2,_=>rfl
 | 3,_=>rfl
theorem zi2 (wo W0:World) (v:Value) (es:List Sg4) (Hd:Is wo v (zca es)) (HM:es.length≤2000000) (bs bn:Nat) (HD:Boxed W0 bs 96 v) (HE:Boxed W0 bn 3 (.int .i64 4)) :
  Seq Tryz.prog 140 #[.pointer (some ⟨bs,0,none⟩),.pointer (some ⟨bn,0,none⟩)]
   (fun (e:Sg4) av _=>∃ b H0,av = #[.slice (some ⟨b,H0,none⟩) 4 4]∧Is wo (.slice (some ⟨b,H0,none⟩) 4 4) [e.seq,e.fmt,e.first,e.count]) (fun k o=>(k=bs∧o.ty=some 96)∨(k=bn∧o.ty=some 3)) (fun _ _=>False) es W0:=by
 intro l J Jx hJ HU hY h0;have hL:=zgn es;obtain ⟨A,c,rfl,h1,h2⟩:=xO Hd
 rw[hL] at *
 refine (callsIn_wd (ro:=none) (n:=9)).1 ?_
 refine callsIn_of_wp Tryz.func140 rfl trivial ?_ rfl
 simp only[Tryz.ntmps140,List.size_toArray,xC,List.length_nil,Nat.reduceAdd,Nat.reduceSub,Array.replicate_succ,Array.replicate_zero,List.push_toArray,List.append_toArray,xI,List.cons_append];have Hw:=zhd Hd;clear hL Hd
 gi_wp2
 gi_loopw [4] (fun j W=>∃ (i:Nat),j=.int .i64 (i*4:Nat)∧i≤es.length∧Hid (J (es.take i) W)∧Boxed W bs 96 (.slice A (4*es.length) c)∧Boxed W bn 3 (.int .i64 4)∧W0.heap.size≤W.heap.size) (fun j _=>4*es.length+5-(intOf j).toNat)
 case atStart=>exact ⟨0,rfl,Nat.zero_le _,h0,HD,HE,xN _⟩
 case round =>
  obtain ⟨i,rfl,hk,HJ,b1,b2,Hs⟩:=hrel;have c1:=b1.cell;have c2:=b2.cell
  by_cases hlt:i<es.length
  ·have H2:=Hw.out
   obtain ⟨hx,b,H0,rfl,hc⟩:=Is.at_ H2 (by rw[zgn];omega);clear hc hx;have hp:=ztg H2 i hlt;have Hp:=zhd hp
   have HK:(i*4:Nat)<4*es.length:=by omega
   have HI:(i*4:Nat)+4≤4*es.length:=by omega
   have Ht:es.take (i+1)=es.take i++[es[i]]:=List.take_succ_eq_append_getElem hlt
   have Hn:=zhd Ht
   have Hr:es=es.take i++es[i]::es.drop (i+1):=by rw[←List.drop_eq_getElem_cons hlt,List.take_append_drop]
   have Hz:=zhd Hr;clear hp Ht Hr H2
   have Hg:((i*4:Nat):Int)=(i:Int)*4:=by omega
   obtain ⟨k,H1⟩:∃ k,i*4=k:=⟨_,rfl⟩;have Hx:=zhd H1;rw[H1] at HK HI Hp;simp only[H1];clear Hg H1
   gi_wp2
   gi_region
   have H4:min (4:Int) ((4*es.length-k:Nat):Int)=4:=by omega
   have Hq:((k:Int)+4).toNat-k=4:=by omega
   have H8:=zhd H4;have Hv:=zhd Hq;clear H4 Hq;have hy:=hY (es.take i) es[i] (es.drop (i+1)) Hz.out wr.drew #[.slice (some ⟨b,H0+k,none⟩) 4 4] (hJ _ _ _ HJ.out (Moves.refl.drew)) Hs ⟨b,H0+k,rfl,Hp.out⟩;have Hy:=zhd hy
   have HA:Boxed wr.drew bs 96 (.slice (some ⟨b,H0,none⟩) (4*es.length) c):=b1
   have HB:Boxed wr.drew bn 3 (.int .i64 4):=b2
   clear hy hY
   gi_wp2
   rw[H8.out,Hv.out]
   refine zbb Hy.out ?_
   rintro e W' ⟨H3,⟨rfl,hj⟩ | ⟨rfl,hj⟩⟩
   ·refine ⟨true,rfl,?_⟩
    have d1:Boxed W' bs 96 (.slice (some ⟨b,H0,none⟩) (4*es.length) c):=H3.boxed HA (.inl (.inl ⟨rfl,rfl⟩))
    have d2:Boxed W' bn 3 (.int .i64 4):=H3.boxed HB (.inl (.inr ⟨rfl,rfl⟩))
    have e2:=d2.cell
    have HP:W0.heap.size≤W'.heap.size:=Nat.le_trans Hs H3.size
    have H7:=zhd hj;clear hj H3 c1 c2
    gi_wp2
    refine ⟨⟨i+1,?_,by omega,?_,d1,d2,HP⟩,by simp[intOf];omega⟩
    ·have:=Hx.out
     rw[show (i+1)*4=k+4 from by omega];go_num
    ·show J _ _;rw[Hn.out];exact H7.out
   ·refine ⟨false,rfl,?_⟩
    have H7:=zhd hj;clear hj H3 c1 c2
    gi_wp2
    refine bodyPost_ret (results_none rfl _ _ _) rfl ?_
    refine ⟨⟨_,rfl⟩,.inr ⟨es.take (i+1),?_,?_⟩⟩
    ·exact List.take_prefix _ _
    ·rw[Hn.out];exact H7.out
  ·have hC:es.take i=es:=List.take_of_length_le (by omega)
   have Hg:4*es.length≤i*4:=by omega
   have HH:¬ (((i*4:Nat):Int)<((4*es.length:Nat):Int)):=by omega
   obtain ⟨k,H1⟩:∃ k,i*4=k:=⟨_,rfl⟩;have Hu:=zhd hC
   have HV:k≤4*es.length:=by omega
   rw[H1] at Hg;simp only[H1];clear hC HH H1
   gi_wp2
   refine bodyPost_end (results_none rfl _ _ _) rfl ?_
   exact ⟨⟨_,rfl⟩,.inl (by have:=HJ.out;rw[Hu.out] at this;exact this)⟩
theorem ziV (A:Option Addr) (n c:Nat) (w:World):Calls Tryz.prog 104 #[.slice A n c,.int .i64 4] w fun e w' =>
  e=.returned (.func (.func 140) #[] #[.pointer (some ⟨w.heap.size,0,none⟩),.pointer (some ⟨w.heap.size+1,0,none⟩)]) ∧
  (w.alloc (.cells #[.slice A n c] 96)).alloc (.cells #[.int .i64 4] 3)=w':=by
 go_enter Tryz.func104,Tryz.ntmps104
 go_wp2
 go_ret
 exact ⟨rfl,rfl⟩
end Go.Proofs.YtgonhdeochgkoaaGreatDoor
