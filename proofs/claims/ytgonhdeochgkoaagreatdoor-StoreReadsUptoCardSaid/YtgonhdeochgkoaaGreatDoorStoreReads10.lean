/- Merged: One4 One5 Eith1 Eith2 Eith3 Eith4 Eith5 Eith6 BackP EithP EithQ HarmP SnapP State -/
import Derived.Test.YtgonhdeochgkoaaGreatDoorStoreReads9
import Derived.Deep.QuietTactic
import Derived.BigQuiet
import Derived.Deep.RegionHeld3
set_option linter.all false
set_option maxHeartbeats 8000000
set_option maxRecDepth 100000
namespace Go.Proofs.YtgonhdeochgkoaaGreatDoor
open Go.RowKit Go.Mv Go.Shelf
attribute [local go_sem] Oper.semAt_some
variable {T:Tab}
def zb0 (T:Tab) (b:List UInt8) (p:Nat):List (Nat×Ent) :=
 if h:b.length<15 then [] else
  match zcO T (b.take 15) with
  | none=>[]
  | some e=>(p+15,e)::zb0 T (b.drop 15) (p+15)
termination_by b.length
decreasing_by
 simp;omega
theorem zf2 {b:List UInt8} {p:Nat} (h:b.length<15):zb0 T b p=[]:=by rw[zb0,dif_pos h]
theorem zgX {b:List UInt8} {p:Nat} (h:¬ b.length<15) (hn:zcO T (b.take 15)=none):zb0 T b p=[]:=by rw[zb0,dif_neg h,hn]
theorem zgY {b:List UInt8} {p:Nat} {e:Ent} (h:¬ b.length<15) (hn:zcO T (b.take 15)=some e):zb0 T b p=(p+15,e)::zb0 T (b.drop 15) (p+15):=by rw[zb0,dif_neg h,hn]
def RcK (bo n0:Nat) (k:Nat) (o:Obj):Prop:=o.isCells=true∧k≠bo∧(k<n0∨o.ty≠some 79)
theorem Hold.keptR {wo W W':World} {bo n0 n:Nat} (h:Hold wo W) (hbo:wo.heap.size≤bo) (hn0:wo.heap.size≤n0) (hk:Kept (zab (RcK bo n0) n) W W'):Hold wo W':=by
 intro p u hp
 have hlt:=World.block_lt_of_cell? wo p hp
 have hc:=h p u hp
 obtain ⟨o,ho,hcells⟩:=cells_of_cell hc
 refine hk.cell hc (fun o' ho'=>.inl ?_)
 rw[ho] at ho';cases ho'
 exact ⟨hcells,by omega,.inl (by omega)⟩
theorem zl4 (wo W0:World) (v:Value) (bs:List UInt8) (hbs:Bs wo v bs) (hlen:bs.length≤2000000) (hH:Hold wo W0) (hT:TabW T wo) (B bo n0:Nat) (hB:Boxed W0 B 38 v) (hBo:B≠bo) (h1:wo.heap.size≤bo) (h2:wo.heap.size≤n0) :
  Seq Tryz.prog 297 #[.pointer (some ⟨B,0,none⟩)]
   (fun (x:Nat×Ent) av _=>av = #[.int .i64 x.1,.agg #[.int .i64 x.2.t,.int .i64 x.2.k,.int .i64 x.2.v]]∧x.1≤bs.length) (RcK bo n0) (fun _ _=>False) (zb0 T (bs.drop 6) 6) W0:=by
 intro l J Jx hJ hJx hY h0
 obtain ⟨A,c,rfl,hb1,hb2⟩:=SlR.open_ hbs
 refine (callsIn_wd (ro:=none) (n:=9)).1 ?_
 refine callsIn_of_wp Tryz.func297 rfl trivial ?_ rfl
 simp only[Tryz.ntmps297,List.size_toArray,List.length_cons,List.length_nil,Nat.reduceAdd,Nat.reduceSub,Array.replicate_succ,Array.replicate_zero,List.push_toArray,List.append_toArray,List.nil_append,List.cons_append]
 have Hes:=zhd hbs
 have HTT:=zhd hT
 clear hbs hT
 obtain ⟨all,hall⟩:∃ all,zb0 T (bs.drop 6) 6=all:=⟨_,rfl⟩
 rw[hall] at hY ⊢
 have HA:=zhd hall
 clear hall
 gi_wp2
 gi_loopw [3] (fun j W=>∃ (k:Nat) (pre:List (Nat×Ent)),j=.int .i64 k∧k≤bs.length+15∧Hid (all=pre++zb0 T (bs.drop k) k)∧Hid (J pre W)∧Hold wo W∧Boxed W B 38 (.slice A bs.length c)∧W0.heap.size≤W.heap.size) (fun j _=>bs.length+30-(intOf j).toNat)
 case atStart=>exact ⟨6,[],rfl,by omega,HA.out.symm,h0,hH,hB,Nat.le_refl _⟩
 case round =>
  obtain ⟨k,pre,rfl,hkl,HP,HJ,HH,bB,hsz⟩:=hrel
  have c1:=bB.cell
  by_cases hlt:k+15≤bs.length
  ·obtain ⟨_,b,off,rfl,hc⟩:=Bs.at_ Hes.out (by omega)
   have hpart:=zd3 Hes.out k 15 hlt
   obtain ⟨p,hp⟩:∃ p,(bs.drop k).take 15=p:=⟨_,rfl⟩
   have hpl:p.length=15:=by rw[←hp,List.length_take,List.length_drop];omega
   rw[hp] at hpart
   have hnot:¬ (bs.drop k).length<15:=by rw[List.length_drop];omega
   have hdd:(bs.drop k).drop 15=bs.drop (k+15):=by rw[List.drop_drop]
   have hBp:Bs wr (.slice (some ⟨b,off+k,none⟩) 15 (c-k)) p:=SlR.keep (SlR.capd hpart (by rw[hpl];omega) (by omega)) HH
   have hTr:TabW T wr:=HTT.out.hold HH
   have key:=zpo (T:=T) _ p wr hBp hpl hTr
   have hPP:=HP.out
   cases ht:zcO T p with
   | none =>
    rw[ht] at key
    rw[zgX hnot (by rw[hp];exact ht),List.append_nil] at hPP
    subst hPP
    have Key:=zhd key
    have hkc:(k:Int)+15≤(c:Int):=by omega
    clear key ht hBp hpart hp hc hdd hnot hY
    gi_wp2
    refine ⟨trivial,?_⟩
    refine (callsIn_wd.2 Key.out).mono ?_
    rintro e w1 ⟨rfl,hE1⟩
    have hJ1:=zhd (hJ _ wr (w1.alloc (.cells #[.int .i64 0,.int .i64 0,.int .i64 0] 79)) HJ.out ((Moves.refl.below hE1 (Nat.le_refl _)).alloc _))
    clear hE1
    gi_wp2
    refine ⟨fun f h=>(by cases h),?_⟩
    gi_wp2
    refine bodyPost_ret (results_none rfl _ _ _) rfl ?_
    exact ⟨⟨_,rfl⟩,.inl hJ1.out⟩
   | some x =>
    rw[ht] at key
    rw[zgY hnot (by rw[hp];exact ht),hdd] at hPP
    have Key:=zhd key
    have HPP:=zhd hPP
    have hkc:(k:Int)+15≤(c:Int):=by omega
    have Hno:=zhd hY
    clear key ht hBp hpart hp hc hdd hnot hY hPP
    gi_wp2
    refine ⟨trivial,?_⟩
    refine (callsIn_wd.2 Key.out).mono ?_
    rintro e w1 ⟨rfl,hE1⟩
    have hb3:=Blk.new w1 79 #[.int .i64 x.t,.int .i64 x.k,.int .i64 x.v]
    have hX1:Ext wr (w1.alloc (.cells #[.int .i64 x.t,.int .i64 x.k,.int .i64 x.v] 79)):=Ext.alloc hE1 _
    have hJ1:=hJ pre wr (w1.alloc (.cells #[.int .i64 x.t,.int .i64 x.k,.int .i64 x.v] 79)) HJ.out ((Moves.refl.below hE1 (Nat.le_refl _)).alloc _)
    have hsz1:W0.heap.size≤(w1.alloc (.cells #[.int .i64 x.t,.int .i64 x.k,.int .i64 x.v] 79)).heap.size:=Nat.le_trans hsz hX1.size
    have hB1:Boxed (w1.alloc (.cells #[.int .i64 x.t,.int .i64 x.k,.int .i64 x.v] 79)) B 38 (.slice (some ⟨b,off,none⟩) bs.length c):=bB.kept (row:=none) (Ext.grown hX1 none) (by simp)
    have hH1:Hold wo (w1.alloc (.cells #[.int .i64 x.t,.int .i64 x.k,.int .i64 x.v] 79)):=fun q u hq=>Ext.cell hX1 (HH q u hq)
    have hy:=Hno.out pre (k+15,x) _ HPP.out _ #[.int .i64 ((k+15:Nat):Int),.agg #[.int .i64 x.t,.int .i64 x.k,.int .i64 x.v]] hJ1 hsz1 ⟨rfl,by show k+15≤bs.length;omega⟩
    have Hy:=zhd hy
    have HH1:=zhd hH1
    obtain ⟨g0,g1,g2,f0,f1,f2⟩:=za4 hb3
    clear hy hJ1 hE1 hH1 c1 hX1 hb3
    have c1:=hB1.cell
    gi_wp2
    refine zaZ Hy.out ?_
    rintro e W' ⟨hk',⟨rfl,hj⟩ | ⟨rfl,hj⟩⟩
    ·refine ⟨true,rfl,?_⟩
     have d1:Boxed W' B 38 (.slice (some ⟨b,off,none⟩) bs.length c):=hk'.boxed hB1 (.inl ⟨rfl,hBo,.inr (by intro h;cases h)⟩)
     have e1:=d1.cell
     have hs':W0.heap.size≤W'.heap.size:=Nat.le_trans hsz1 hk'.size
     have HH2:=zhd (Hold.keptR HH1.out h1 h2 hk')
     have HJ3:=zhd hj
     have hsp:all=(pre++[(k+15,x)])++zb0 T (bs.drop (k+15)) (k+15):=by rw[List.append_assoc];exact HPP.out
     have Hsp:=zhd hsp
     clear hj hk' c1 g0 g1 g2 f0 f1 f2 hsp Hy
     gi_wp2
     exact ⟨⟨k+15,pre++[(k+15,x)],by go_num,by omega,Hsp.out,HJ3.out,HH2.out,d1,hs'⟩,by simp[intOf];omega⟩
    ·refine ⟨false,rfl,?_⟩
     have HJ3:=zhd hj
     clear hj hk' c1 g0 g1 g2 f0 f1 f2
     gi_wp2
     refine bodyPost_ret (results_none rfl _ _ _) rfl ?_
     refine ⟨⟨_,rfl⟩,.inr ⟨pre++[(k+15,x)],?_,HJ3.out⟩⟩
     exact ⟨zb0 T (bs.drop (k+15)) (k+15),by rw[List.append_assoc];exact HPP.out.symm⟩
  ·have hnil:zb0 T (bs.drop k) k=[]:=zf2 (by rw[List.length_drop];omega)
   have hPP:=HP.out
   rw[hnil,List.append_nil] at hPP
   subst hPP
   have hki:¬ ((k:Int)+15≤(bs.length:Int)):=by omega
   clear hnil HP hY
   gi_wp2
   refine bodyPost_end (results_none rfl _ _ _) rfl ?_
   exact ⟨⟨_,rfl⟩,.inl HJ.out⟩
theorem mcOne50 {P:Prop} (h:P:=by
 go_enter Tryz.func295,Tryz.ntmps295
 go_wp2_with fail
 refine Key.out.mono ?_
 rintro e w1 ⟨vr,rfl,-,hE1⟩
 have hb1:=hb0.ext hE1
 obtain ⟨g0,g1,g2,f0,f1,f2⟩:=za4 hb1
 go_wp2_with fail
 exact bodyPost_ret (zdZ _ _ _ _ _ rfl rfl (za5 hb1 _ _ _) rfl) rfl ⟨_,rfl,hrow0 _,zcf (Ext.trans hX hE1) (Nat.le_refl _) _ _ _⟩):P:=h
attribute [local go_sem] Oper.semAt_some
variable {T:Tab}
def zgI:Nat→List (Nat×Ent)→Nat
 | d,[]=>d
 | _,x::l=>zgI x.1 l
theorem zot (l:List (Nat×Ent)) (x:Nat×Ent):∀ d,zgI d (l++[x])=x.1:=by
 induction l with
 | nil=>intro d;rfl
 | cons y l ih=>intro d;exact ih _
def zb2 (T:Tab) (b:List UInt8):zfI :=
 if b.length<6∨b.getD 0 0≠1 then ⟨11,0,[],0,(0,0)⟩
 else if (zaq ((b.drop 1).take 5)).1=0∧(zaq ((b.drop 1).take 5)).2.1≠0 then ⟨0,(zaq ((b.drop 1).take 5)).2.1,(zb0 T (b.drop 6) 6).map (·.2),zgI 6 (zb0 T (b.drop 6) 6),(0,0)⟩
 else ⟨11,0,[],0,(0,0)⟩
theorem zsu:Tryz.prog.underlying 121=some (.struct (Tryz.prog.fieldsOf 121)):=by kernel_rfl
theorem zdZ (tmps:Array Value) (W:World) (b:Nat) (cs:Array Value) (u:Value) (h2:tmps.getD 2 undef=.pointer (some ⟨b,0,none⟩)) (h3:tmps.getD 3 undef=u) (hb:Blk W b 121 cs) (hs:cs.size=3):(results Tryz.f295 tmps).run Tryz.prog W=.ok (.tuple #[.agg cs,u]) W:=by
 have hl:=hb.load (P:=Tryz.prog) zsu rfl (by rw[hs];kernel_rfl)
 have h2':tmps[2]?.getD undef=.pointer (some ⟨b,0,none⟩):=by simpa using h2
 have h3':tmps[3]?.getD undef=u:=by simpa using h3
 simp[results,Tryz.results295,h2',h3',asAddr,hl]
theorem zqw (b:List UInt8):∀ p,(zb0 T b p).length*15≤b.length:=by
 generalize hn:b.length=n
 induction n using Nat.strongRecOn generalizing b with
 | _ n ih =>
  intro p
  by_cases h:b.length<15
  ·rw[zf2 h];simp
  ·cases ht:zcO T (b.take 15) with
   | none=>rw[zgX h ht];simp
   | some e =>
    have:=ih (b.drop 15).length (by rw[List.length_drop];omega) (b.drop 15) rfl (p+15)
    rw[zgY h ht,List.length_cons]
    rw[List.length_drop] at this
    omega
theorem zpM (W:World) (x:Ent):Es (W.alloc (.cells #[.int .i64 x.t,.int .i64 x.k,.int .i64 x.v] 79)) (.slice (some ⟨W.heap.size,0,none⟩) 1 1) [x]:=by
 refine ⟨by simp[zam,Ent.cells],_,1,rfl,Nat.le_refl _,by simp[maxLen],fun _=>⟨W.heap.size,0,rfl,fun j u hu=>?_⟩⟩
 rw[Nat.zero_add]
 exact (Blk.new W 79 #[.int .i64 x.t,.int .i64 x.k,.int .i64 x.v]).cell j (by simpa [zam,Ent.cells] using hu)
def ScI (w:World) (f:Nat) (pre:List (Nat×Ent)) (X:World):Prop:=∃ vl,Blk X w.heap.size 121 #[.int .i64 f,vl,.int .i64 (zgI 6 pre:Nat)]∧OwnE X w.heap.size vl (pre.map (·.2))∧Ext w X
theorem zpm (v:Value) (bs:List UInt8) (w:World) (hB:Bs w v bs) (h:(zb2 T bs).err=11):Calls Tryz.prog 295 #[v] w (zgt w (zb2 T bs)):=by
 obtain ⟨A,c,rfl,h1,h2⟩:=SlR.open_ hB
 have hb0:=Blk.new w 121 #[.int .i64 0,.slice none 0 0,.int .i64 0]
 have hX:Ext w (w.alloc (.cells #[.int .i64 0,.slice none 0 0,.int .i64 0] 121)):=Ext.alloc (Ext.refl _) _
 have hlk:zb2 T bs=⟨11,0,[],0,(0,0)⟩:=by
  unfold zb2 at h ⊢
  split
  ·rfl
  ·rename_i hn
   rw[if_neg hn] at h
   split
   ·rename_i h3;rw[if_pos h3] at h;cases h
   ·rfl
 rw[hlk]
 have hrow0:∀ W:World,W.ownsRow w.heap.size 79 3 (.slice none 0 0) ([]:List Ent).length (zam []):=fun W=>World.ownsRow_nil _ _ _ _
 by_cases hlen:bs.length<6
 ·have hll:((bs.length:Int)<6):=by omega
  clear hlk h hB
  obtain ⟨g0,g1,g2,f0,f1,f2⟩:=za4 hb0
  go_enter Tryz.func295,Tryz.ntmps295
  go_wp2_with fail
  exact bodyPost_ret (zdZ _ _ _ _ _ rfl rfl hb0 rfl) rfl ⟨_,rfl,hrow0 _,hX⟩
 ·have hll:¬ ((bs.length:Int)<6):=by omega
  obtain ⟨_,b,off,rfl,hc⟩:=Bs.at_ hB (by omega)
  have hc0:=hc 0 (by omega)
  obtain ⟨x0,hx0⟩:∃ x0,bs[0]'(by omega)=x0:=⟨_,rfl⟩
  rw[hx0] at hc0
  have hgd:bs.getD 0 0=x0:=by rw[←hx0];simp[List.getD_eq_getElem?_getD,List.getElem?_eq_getElem (show 0<bs.length by omega)]
  have hc0':=zcV hc0 (.cells #[.int .i64 0,.slice none 0 0,.int .i64 0] 121)
  rw[Nat.add_zero] at hc0'
  by_cases hx:x0=1
  ·have hx1:((x0.toNat:Int) != 1)=false:=by rw[hx];rfl
   have hpart:=zd3 hB 1 5 (by omega)
   obtain ⟨p,hp⟩:∃ p,(bs.drop 1).take 5=p:=⟨_,rfl⟩
   have hpl:p.length=5:=by rw[←hp,List.length_take,List.length_drop];omega
   rw[hp] at hpart
   have hBp:Bs w (.slice (some ⟨b,off+1,none⟩) 5 (c-1)) p:=SlR.capd hpart (by rw[hpl];omega) (by omega)
   have key:=zde _ p _ (hBp.ext hX) (by omega)
   have hbad:(zaq p).1≠0∨(zaq p).2.1=0:=by
    unfold zb2 at h
    rw[if_neg (by rw[hgd,hx];intro h;rcases h with h | h;exact hlen h;exact h rfl)] at h
    rw[hp] at h
    by_cases h1:(zaq p).1=0
    ·by_cases h2:(zaq p).2.1=0
     ·exact .inr h2
     ·rw[if_pos ⟨h1,h2⟩] at h;cases h
    ·exact .inl h1
   rcases htl:zaq p with ⟨e1,t,rest⟩
   rw[htl] at key hbad
   have Key:=zhd key
   have hcc:(6:Int)≤(c:Int):=by omega
   clear key htl hp hpl hpart hBp hlk h hB hc hc0 hx0 hgd hlen hx
   rcases hbad with h1 | h1
   ·have hne:((e1:Int) != 0)=true:=by simpa using h1
    clear h1
    exact mcOne50
   ·by_cases he:e1=0
    ·dsimp only at h1
     subst h1 he
     exact mcOne50
    ·have hne:((e1:Int) != 0)=true:=by simpa using he
     clear h1 he
     exact mcOne50
  ·have hx1:((x0.toNat:Int) != 1)=true:=by
    rw[bne_iff_ne]
    intro h
    apply hx
    apply UInt8.toNat_inj.1
    show x0.toNat=1
    omega
   clear hlk h hB hc hc0 hx0 hgd hlen hx
   obtain ⟨g0,g1,g2,f0,f1,f2⟩:=za4 hb0
   go_enter Tryz.func295,Tryz.ntmps295
   go_wp2_with fail
   exact bodyPost_ret (zdZ _ _ _ _ _ rfl rfl hb0 rfl) rfl ⟨_,rfl,hrow0 _,hX⟩
theorem zm9 (A:Option Addr) (n c:Nat) (w:World):Calls Tryz.prog 296 #[.slice A n c] w fun e w'=>e=.returned (.func (.func 297) #[] #[.pointer (some ⟨w.heap.size,0,none⟩)])∧w.alloc (.cells #[.slice A n c] 38)=w':=by
 go_enter Tryz.func296,Tryz.ntmps296
 go_wp2
 go_ret
 exact ⟨rfl,rfl⟩
theorem zq9 (v:Value) (bs:List UInt8) (w:World) (hB:Bs w v bs) (hl:bs.length≤2000000) (hT:TabW T w) (h:(zb2 T bs).err≠11):Calls Tryz.prog 295 #[v] w (zgt w (zb2 T bs)):=by
 obtain ⟨A,c,rfl,h1,h2⟩:=SlR.open_ hB
 have hb0:=Blk.new w 121 #[.int .i64 0,.slice none 0 0,.int .i64 0]
 have hX:Ext w (w.alloc (.cells #[.int .i64 0,.slice none 0 0,.int .i64 0] 121)):=Ext.alloc (Ext.refl _) _
 unfold zb2 at h ⊢
 by_cases hd:bs.length<6∨bs.getD 0 0≠1
 ·rw[if_pos hd] at h;exact absurd rfl h
 rw[if_neg hd] at h ⊢
 by_cases hf:(zaq ((bs.drop 1).take 5)).1=0∧(zaq ((bs.drop 1).take 5)).2.1≠0
 case neg=>rw[if_neg hf] at h;exact absurd rfl h
 rw[if_pos hf]
 have hlen:6≤bs.length:=by
  rcases Nat.lt_or_ge bs.length 6 with q | q
  ·exact absurd (Or.inl q) hd
  ·exact q
 have hgd:bs.getD 0 0=1:=by
  by_cases q:bs.getD 0 0=1
  ·exact q
  ·exact absurd (Or.inr q) hd
 obtain ⟨_,b,off,rfl,hc⟩:=Bs.at_ hB (by omega)
 have hc0:=hc 0 (by omega)
 have hx0:bs[0]'(by omega)=1:=by rw[←hgd];simp[List.getD_eq_getElem?_getD,List.getElem?_eq_getElem (show 0<bs.length by omega)]
 rw[hx0] at hc0
 have hc0':(w.alloc (.cells #[.int .i64 0,.slice none 0 0,.int .i64 0] 121)).cell? ⟨b,off,none⟩=some (.int .u8 1):=zcV hc0 _
 have hpart:=zd3 hB 1 5 (by omega)
 obtain ⟨p,hp⟩:∃ p,(bs.drop 1).take 5=p:=⟨_,rfl⟩
 have hpl:p.length=5:=by rw[←hp,List.length_take,List.length_drop];omega
 rw[hp] at hpart hf ⊢
 have hBp:Bs w (.slice (some ⟨b,off+1,none⟩) 5 (c-1)) p:=SlR.capd hpart (by rw[hpl];omega) (by omega)
 have key:=zde _ p _ (hBp.ext hX) (by omega)
 rcases htl:zaq p with ⟨e1,t,rest⟩
 rw[htl] at key hf
 obtain ⟨rfl,ht0⟩:=hf
 have Key:=zhd key
 have hcc:(6:Int)≤(c:Int):=by omega
 have hll:¬ ((bs.length:Int)<6):=by omega
 have ht1:((t:Int)==0)=false:=by rw[beq_eq_false_iff_ne];dsimp only at ht0;omega
 obtain ⟨L,hL⟩:∃ L,zb0 T (bs.drop 6) 6=L:=⟨_,rfl⟩
 have HB:=zhd hB
 have HT:=zhd hT
 dsimp only
 rw[hL]
 have HL:=zhd hL
 clear key htl hp hpl hpart hBp h hB hc hc0 hx0 hgd hlen hd hT ht0 hL
 have hw0:w.heap.size<(w.alloc (.cells #[.int .i64 0,.slice none 0 0,.int .i64 0] 121)).heap.size:=hb0.lt
 refine (callsIn_wd (ro:=none) (n:=9)).1 ?_
 refine callsIn_of_wp_marks Tryz.func295 rfl trivial ?_ rfl
 simp only[Tryz.ntmps295,List.size_toArray,List.length_cons,List.length_nil,Nat.reduceAdd,Nat.reduceSub,Array.replicate_succ,Array.replicate_zero,List.push_toArray,List.append_toArray,List.nil_append,List.cons_append]
 gi_wp2_with (refine ⟨trivial,?_⟩;gi_at_call 167;refine (callsIn_wd.2 Key.out).mono ?_;rintro e w1 ⟨vr,rfl,-,hE1⟩;have hb1:=hb0.ext hE1;have HE1:=zhd hE1;clear hE1;obtain ⟨g0,g1,g2,f0,f1,f2⟩:=za4 hb1)
 have hb2:=za5 hb1 (.int .i64 t) (.slice none 0 0) (.int .i64 6)
 have hE2:Ext w (((w1.setCell ⟨w.heap.size,0,none⟩ (.int .i64 t)).setCell ⟨w.heap.size,1,none⟩ (.slice none 0 0)).setCell ⟨w.heap.size,2,none⟩ (.int .i64 6)):=zcf (Ext.trans hX HE1.out) (Nat.le_refl _) _ _ _
 clear g0 g1 g2 f0 f1 f2 hb1 HE1
 generalize (((w1.setCell ⟨w.heap.size,0,none⟩ (.int .i64 t)).setCell ⟨w.heap.size,1,none⟩ (.slice none 0 0)).setCell ⟨w.heap.size,2,none⟩ (.int .i64 6))=w2 at *
 refine ⟨trivial,?_⟩
 refine (callsIn_wd.2 (zm9 _ _ _ _)).mono ?_
 rintro e w3 ⟨rfl,rfl⟩
 have qB:Boxed (w2.alloc (.cells #[.slice (some ⟨b,off,none⟩) bs.length c] 38)) w2.heap.size 38 (.slice (some ⟨b,off,none⟩) bs.length c):=Boxed.new _ _ _
 have hE3:Ext w (w2.alloc (.cells #[.slice (some ⟨b,off,none⟩) bs.length c] 38)):=Ext.alloc hE2 _
 have hb3:=hb2.alloc (.cells #[.slice (some ⟨b,off,none⟩) bs.length c] 38)
 have h0:ScI w t [] (w2.alloc (.cells #[.slice (some ⟨b,off,none⟩) bs.length c] 38)):=⟨_,hb3,World.ownsRow_nil _ _ _ _,hE3⟩
 have hbw:w.heap.size<w2.heap.size:=hb2.lt
 have hs3:(w2.alloc (.cells #[.slice (some ⟨b,off,none⟩) bs.length c] 38)).heap.size=w2.heap.size+1:=by simp
 clear hb2 hb3 hE2
 gi_wp2
 generalize w2.alloc (.cells #[.slice (some ⟨b,off,none⟩) bs.length c] 38)=w3 at *
 refine zdz (fun TT hTT=>?_)
 refine zbu (a:=⟨TT,[]⟩) (by subst hTT;rfl) (enters_of Tryz.func297 (by kernel_rfl) rfl)
  (fun W1 hb hs=>zl4 (T:=T) w W1 _ bs HB.out hl (fun q u hq=>Ext.cell (Ext.trans hE3 hb) hq) HT.out w2.heap.size w.heap.size w.heap.size (qB.kept (row:=none) (Ext.grown hb none) (by simp)) (by omega) (Nat.le_refl _) (Nat.le_refl _))
  (fun k o h=>h.elim) (fun k o h=>h.1) (fun x av W h=>by rw[h.1];rfl)
  (ScI w t) (fun _ _ _=>False) ?hI (fun _ _ _ _ h _=>h) h0
  (fun x a' W=>∃ q,Blk W q 79 #[.int .i64 x.2.t,.int .i64 x.2.k,.int .i64 x.2.v]∧a'=⟨(((TT.setIfInBounds 36 (.int .i64 x.1)).setIfInBounds 37 (.agg #[.int .i64 x.2.t,.int .i64 x.2.k,.int .i64 x.2.v])).setIfInBounds 6 (.int .i64 x.1)).setIfInBounds 7 (.pointer (some ⟨q,0,none⟩)),[]⟩)
  ?hAx ?assign ?body ?done (fun _ _ _ _ _ _ h _=>h.elim)
 case hI =>
  rintro s X Y ⟨v1,hv,hr,hB⟩ hm
  refine ⟨v1,hm.same _ _ hv ?_,hm.ownsRow hr ?_,hm.belowOf hB ?_ (Nat.le_refl _)⟩
  ·rintro (h | h)
   ·exact h
   ·cases h.2
  ·rintro k cur _ (h | h)
   ·exact h
   ·cases h.2
  ·rintro k o hk (h | h)
   ·exact h
   ·have:=h.1;omega
 case hAx =>
  rintro x a' X Y ⟨q,hq,rfl⟩ hm
  refine ⟨q,hm.same _ _ hq ?_,rfl⟩
  rintro (h | h)
  ·exact h
  ·cases h.2
 case assign =>
  rintro l' pre x post W av K' hx hi hsz ⟨rfl,hx1⟩ hK
  obtain ⟨v1,hv,hr,hB⟩:=hi
  have Hi:Hid (ScI w t pre (W.alloc (.cells #[.int .i64 x.2.t,.int .i64 x.2.k,.int .i64 x.2.v] 79))):=⟨v1,hv.alloc _,hr.alloc _,Ext.alloc hB _⟩
  have HQ:=zhd (Blk.new W 79 #[.int .i64 x.2.t,.int .i64 x.2.k,.int .i64 x.2.v])
  have Hx:=zhd hx
  clear hx hv hr hB
  subst hTT
  gi_wp2
  exact hK _ _ (Kept.refl.alloc _) Hi.out ⟨W.heap.size,HQ.out,rfl⟩
 case body =>
  rintro l' pre x post a' W hx hl' hr ⟨v1,hv,hrow,hB⟩ hsz ⟨q,hq,rfl⟩
  have hpl:(pre.map (·.2)).length+1≤200000:=by
   have h3:=zqw (T:=T) (bs.drop 6) 6
   rw[hx,List.length_append,List.length_cons,List.length_drop] at h3
   rw[List.length_map]
   omega
  have hsn:(pre++[x]).map (·.2)=pre.map (·.2)++[x.2]:=by simp
  have hlp:zgI 6 (pre++[x])=x.1:=zot pre x 6
  have Hsn:=zhd hsn
  have Hlp:=zhd hlp
  have Hx:=zhd hx
  clear hx hsn hlp
  generalize pre.map (·.2)=P at *
  generalize zgI 6 pre=lp at *
  obtain ⟨A1,cc1,rfl,_,_⟩:=SlR.open_ (SlR.of_own hrow)
  have hne:=hv.not_row (e:=79) (by decide) hrow
  obtain ⟨g0,g1,g2,_,_,_⟩:=za4 hv
  obtain ⟨p0,p1,p2,_,_,_⟩:=za4 hq
  obtain ⟨i0,hi,hz0,hz1,hz2⟩:=info_parts zgE
  have hes1:=zpM W x.2
  have hrow1:OwnE (W.alloc (.cells #[.int .i64 x.2.t,.int .i64 x.2.k,.int .i64 x.2.v] 79)) w.heap.size (.slice A1 P.length cc1) P:=hrow.alloc _
  have hv1:=hv.alloc (.cells #[.int .i64 x.2.t,.int .i64 x.2.k,.int .i64 x.2.v] 79)
  have hbW:w.heap.size≤(W.alloc (.cells #[.int .i64 x.2.t,.int .i64 x.2.k,.int .i64 x.2.v] 79)).heap.size:=Nat.le_of_lt hv1.lt
  subst hTT
  gi_wp2_with (gi_at_builtin;refine zbC _ rfl (.tmp 39) (.tmp 41) 54 rfl w.heap.size 79 i0 _ 3 24 Tryz.underlying54 hi hz0 hz1 hz2 rfl (by decide) _ P.length (zam P) rfl hrow1 _ 1 (zam [x.2]) rfl hes1 (zgT _) (by unfold maxLen;omega) (by omega) hbW ?_;intro v' w4 hown' hgrow;obtain ⟨A5,c5,rfl,_,_⟩:=SlR.open_ (SlR.of_own hown');have hv4:=hv1.kept hgrow hne;obtain ⟨y0,y1,y2,z0,z1,z2⟩:=za4 hv4)
  have o1:=hown'.kept (zaa w4 w.heap.size 1 (.slice A5 (P.length+1) c5)) (.inr (hv4.not_row (by decide) hown').symm)
  have hv5:=hv4.set 1 (.slice A5 (P.length+1) c5)
  have o2:=o1.kept (zaa _ w.heap.size 2 (.int .i64 x.1)) (.inr (hv5.not_row (by decide) o1).symm)
  have hv6:=hv5.set 2 (.int .i64 x.1)
  refine ⟨(((Kept.refl.alloc _).grown hgrow (fun k o ek ho=>?_)).setCell (fun o ho _=>?_) _).setCell (fun o ho _=>?_) _,.slice A5 (P.length+1) c5,?_,?_,?_⟩
  ·obtain ⟨cur,hc'⟩:=zb1 hrow ek
   rw[ho] at hc';cases hc'
   rintro (⟨_,_,h⟩ | ⟨_,h⟩)
   ·rcases h with h | h
    ·have:=(hrow.lt k ek).1
     omega
    ·exact h rfl
   ·cases h
  ·rw[show W.heap[w.heap.size]?=_ from hv] at ho;cases ho
   rintro (⟨_,h,_⟩ | ⟨_,h⟩)
   ·exact h rfl
   ·cases h
  ·rw[show W.heap[w.heap.size]?=_ from hv] at ho;cases ho
   rintro (⟨_,h,_⟩ | ⟨_,h⟩)
   ·exact h rfl
   ·cases h
  ·rw[Hlp.out]
   exact hv6
  ·rw[Hsn.out]
   have hl1:P.length+1=(P++[x.2]).length:=by simp
   rw[hl1] at o2 ⊢
   unfold OwnE
   have hec:zam (P++[x.2])=zam P++zam [x.2]:=by simp[zam]
   rw[hec]
   exact o2
  ·have hE4:Ext w w4:=Ext.grownOwn (Ext.alloc hB (.cells #[.int .i64 x.2.t,.int .i64 x.2.k,.int .i64 x.2.v] 79)) hrow1 hgrow
   exact (Below.setCell (p:=⟨w.heap.size,1,none⟩) hE4 (Nat.le_refl _) _).setCell (p:=⟨w.heap.size,2,none⟩) (Nat.le_refl _) _
 case done =>
  rintro D W hD ⟨v1,hv,hrow,hB⟩ hK
  rw[HL.out] at hv hrow
  obtain ⟨P,hP⟩:∃ P,L.map (·.2)=P:=⟨_,rfl⟩
  obtain ⟨lp,hlp⟩:∃ lp,zgI 6 L=lp:=⟨_,rfl⟩
  rw[hP] at hrow
  rw[hlp] at hv
  have HP:=zhd hP
  have Hlp:=zhd hlp
  clear hP hlp
  obtain ⟨A1,cc1,rfl,_,_⟩:=SlR.open_ (SlR.of_own hrow)
  obtain ⟨g0,g1,g2,f0,f1,f2⟩:=za4 hv
  subst hTT
  gi_wp2
  have hb9:Blk (zc9 W w.heap.size (.int .i64 t) (.slice A1 P.length cc1) (.int .i64 lp)) w.heap.size 121 #[.int .i64 t,.slice A1 P.length cc1,.int .i64 lp]:=za5 hv _ _ _
  have ho9:=zdR hv (by decide:(121:TypeId)≠79) hrow (.int .i64 t) (.slice A1 P.length cc1) (.int .i64 lp)
  have hE9:Ext w (zc9 W w.heap.size (.int .i64 t) (.slice A1 P.length cc1) (.int .i64 lp)):=zcf hB (Nat.le_refl _) _ _ _
  have hK9:(zc9 W w.heap.size (.int .i64 t) (.slice A1 P.length cc1) (.int .i64 lp)).heap[D]?=some (.deferred (some [])):=zaw (zaw (zaw hK rfl ⟨w.heap.size,0,none⟩ _) rfl ⟨w.heap.size,1,none⟩ _) rfl ⟨w.heap.size,2,none⟩ _
  have hbp:Blk ((zc9 W w.heap.size (.int .i64 t) (.slice A1 P.length cc1) (.int .i64 lp)).putObj D (.deferred none)) w.heap.size 121 #[.int .i64 t,.slice A1 P.length cc1,.int .i64 lp]:=(World.putObj_heap_other (by omega)).trans hb9
  refine za0 hK9 (.tuple #[.agg #[.int .i64 t,.slice A1 P.length cc1,.int .i64 lp],.int .i64 0]) (zdZ _ _ _ _ _ rfl rfl hbp rfl) ?_
  refine ⟨.slice A1 P.length cc1,by rw[Hlp.out],?_,zan hE9 (by omega) _⟩
  dsimp only
  rw[HP.out]
  exact ownsRow_putObj ho9 (.deferred none) hK9 rfl
theorem zpl (v:Value) (bs:List UInt8) (w:World) (hB:Bs w v bs) (hl:bs.length≤2000000) (hT:TabW T w):Calls Tryz.prog 295 #[v] w (zgt w (zb2 T bs)):=by
 by_cases h:(zb2 T bs).err=11
 ·exact zpm v bs w hB h
 ·exact zq9 v bs w hB hl hT h
open Go.RowKit Go.Mv
variable {T:Tab}
theorem zhP {fn:Func} {p q:Tmp} (hr:fn.results = #[.cell p 121,.tmp q]) (tmps:Array Value) (W:World) (b:Nat) (cs:Array Value) (u:Value) (hp:tmps.getD p undef=.pointer (some ⟨b,0,none⟩)) (hq:tmps.getD q undef=u) (hb:Blk W b 121 cs) (hs:cs.size=3):(results fn tmps).run Tryz.prog W=.ok (.tuple #[.agg cs,u]) W:=by
 have hl:=hb.load (P:=Tryz.prog) zsu rfl (by rw[hs];kernel_rfl)
 have hp':tmps[p]?.getD undef=.pointer (some ⟨b,0,none⟩):=by simpa using hp
 have hq':tmps[q]?.getD undef=u:=by simpa using hq
 simp[results,hr,hp',hq',asAddr,hl]
def fmtMap:Array MapEntry:=#[{ key:=.int .i64 1,val:=.iface 228 (.agg #[]),born:=0 },{ key:=.int .i64 2,val:=.iface 229 (.agg #[]),born:=1 }]
theorem ztI (w:World) (es:Array MapEntry) (c:Nat) (n:Int) (v:Value) (hn:Instr.findNow (.int .i64) (.int .i64 n) es.toList 0=some none) :
  (Instr.mapUpdate 197 (.map (some w.heap.size)) (.int .i64 n) v).run Tryz.prog (w.alloc (.map es c))=.ok () (w.alloc (.map (es.push { key:=.int .i64 n,val:=v,born:=c }) (c+1))) :=
 zdD w .i64 Tryz.underlying197 Tryz.underlying3 es c n v hn
theorem zfV (w:World):Calls Tryz.prog 156 #[] w fun e w'=>e=.returned (.map (some w.heap.size))∧w.alloc (.map fmtMap 2)=w':=by
 have hmm:=@run_makeMap Tryz.prog
 have h0:=ztI w #[] 0 1 (.iface 228 (.agg #[])) rfl
 have h1:=ztI w #[{ key:=.int .i64 1,val:=.iface 228 (.agg #[]),born:=0 }] 1 2 (.iface 229 (.agg #[])) rfl
 simp only[List.push_toArray,List.nil_append,List.cons_append,Nat.reduceAdd] at h0 h1
 go_enter Tryz.func156,Tryz.ntmps156
 go_wp2
 go_ret
 exact ⟨rfl,rfl⟩
theorem zlC (f:Int):Instr.findNow (.int .i64) (.int .i64 f) fmtMap.toList 0=some (if f=1 then some (0,.iface 228 (.agg #[])) else if f=2 then some (1,.iface 229 (.agg #[])) else none):=by
 by_cases h1:f=1
 ·subst h1;rfl
 ·by_cases h2:f=2
  ·subst h2;rfl
  ·have e1:(f==1)=false:=by simp[h1]
   have e2:(f==2)=false:=by simp[h2]
   rw[if_neg h1,if_neg h2]
   simp[fmtMap,Instr.findNow,Instr.sameNow,e1,e2]
theorem zrD (W:World) (r:Nat) (h:W.heap[r]?=some (.map fmtMap 2)) (f:Int) :
  (Instr.lookup 197 (.map (some r)) (.int .i64 f) true).run Tryz.prog W=.ok (.tuple #[if f=1 then .iface 228 (.agg #[]) else if f=2 then .iface 229 (.agg #[]) else .nilIface,.bool (decide (f=1∨f=2))]) W ∧
  (Instr.lookup 197 (.map (some r)) (.int .i64 f) false).run Tryz.prog W=.ok (if f=1 then .iface 228 (.agg #[]) else if f=2 then .iface 229 (.agg #[]) else .nilIface) W:=by
 have k1:=zhf (P:=Tryz.prog) W .i64 Tryz.underlying197 Tryz.underlying3 fmtMap 2 f .nilIface (by kernel_rfl) h _ (zlC f)
 have k2:=zgi (P:=Tryz.prog) W .i64 Tryz.underlying197 Tryz.underlying3 fmtMap 2 f .nilIface (by kernel_rfl) h _ (zlC f)
 rw[k1,k2]
 by_cases h1:f=1
 ·subst h1;exact ⟨rfl,rfl⟩
 ·by_cases h2:f=2
  ·subst h2;exact ⟨rfl,rfl⟩
  ·simp[h1,h2]
theorem mth (w:World) :
  (method 272 228 (.agg #[]) "moult/either.file").run Tryz.prog w=.ok (292,.agg #[]) w∧(method 272 229 (.agg #[]) "moult/either.file").run Tryz.prog w=.ok (299,.agg #[]) w ∧
  (method 272 228 (.agg #[]) "moult/either.scan").run Tryz.prog w=.ok (294,.agg #[]) w∧(method 272 229 (.agg #[]) "moult/either.scan").run Tryz.prog w=.ok (301,.agg #[]) w ∧
  (method 272 228 (.agg #[]) "moult/either.more").run Tryz.prog w=.ok (293,.agg #[]) w∧(method 272 229 (.agg #[]) "moult/either.more").run Tryz.prog w=.ok (300,.agg #[]) w:=by
 refine ⟨?_,?_,?_,?_,?_,?_⟩ <;> kernel_rfl
theorem ztN (w:World):(w.alloc (.map fmtMap 2)).heap[w.heap.size]?=some (.map fmtMap 2):=World.alloc_heap_new _ _
def zbW (T:Tab) (b:List UInt8) (f:Int):zfI:=if f=1 then zb2 T b else if f=2 then zcv b else ⟨2,0,[],0,(0,0)⟩
theorem zmY (v:Value) (bs:List UInt8) (w:World) (hB:Bs w v bs) (hl:bs.length≤2000000) (hT:TabW T w):Calls Tryz.prog 294 #[.agg #[],v] w (zgt w (zb2 T bs)):=by
 have hX0:Ext w (w.alloc (.cells #[] 228)):=Ext.alloc (Ext.refl _) _
 have hX:Ext w ((w.alloc (.cells #[] 228)).alloc (.cells #[.int .i64 0,.slice none 0 0,.int .i64 0] 121)):=Ext.alloc hX0 _
 have hb:=Blk.new (w.alloc (.cells #[] 228)) 121 #[.int .i64 0,.slice none 0 0,.int .i64 0]
 rw[World.size_alloc] at hb
 have key:=zhd (zpl (T:=T) v bs _ (hB.ext hX) hl (hT.ext hX))
 obtain ⟨A,c,rfl,_,_⟩:=SlR.open_ hB
 clear hB hT
 obtain ⟨r,hr⟩:∃ r,zb2 T bs=r:=⟨_,rfl⟩
 rw[hr] at key ⊢
 go_enter Tryz.func294,Tryz.ntmps294
 go_wp2_with fail
 refine key.out.mono ?_
 rintro e w1 ⟨vl,rfl,ho1,hE1⟩
 have ho1':OwnE w1 _ vl r.log:=ho1
 obtain ⟨A1,c1,rfl,_,_⟩:=SlR.open_ ho1'.es
 have hb1:=hb.ext hE1
 obtain ⟨g0,g1,g2,f0,f1,f2⟩:=za4 hb1
 go_wp2_with fail
 have ho2:=zdR hb1 (by decide:(121:TypeId)≠79) ho1 (.int .i64 r.first) (.slice A1 r.log.length c1) (.int .i64 r.used)
 refine bodyPost_ret (zhP rfl _ _ _ _ _ rfl rfl (za5 hb1 _ _ _) rfl) rfl ⟨_,rfl,zah ho2 hX.size,zcf (Ext.trans hX hE1) (Nat.le_succ _) _ _ _⟩
theorem zk8 (v:Value) (bs:List UInt8) (w:World) (hB:Bs w v bs) (hl:bs.length≤2000000):Calls Tryz.prog 301 #[.agg #[],v] w (zgt w (zcv bs)):=by
 have hX0:Ext w (w.alloc (.cells #[] 229)):=Ext.alloc (Ext.refl _) _
 have hX:Ext w ((w.alloc (.cells #[] 229)).alloc (.cells #[.int .i64 0,.slice none 0 0,.int .i64 0] 121)):=Ext.alloc hX0 _
 have hb:=Blk.new (w.alloc (.cells #[] 229)) 121 #[.int .i64 0,.slice none 0 0,.int .i64 0]
 rw[World.size_alloc] at hb
 have key:=zhd (zra v bs _ (hB.ext hX) hl)
 obtain ⟨A,c,rfl,_,_⟩:=SlR.open_ hB
 clear hB
 obtain ⟨r,hr⟩:∃ r,zcv bs=r:=⟨_,rfl⟩
 rw[hr] at key ⊢
 go_enter Tryz.func301,Tryz.ntmps301
 go_wp2_with fail
 refine key.out.mono ?_
 rintro e w1 ⟨vl,rfl,ho1,hE1⟩
 have ho1':OwnE w1 _ vl r.log:=ho1
 obtain ⟨A1,c1,rfl,_,_⟩:=SlR.open_ ho1'.es
 have hb1:=hb.ext hE1
 obtain ⟨g0,g1,g2,f0,f1,f2⟩:=za4 hb1
 go_wp2_with fail
 have ho2:=zdR hb1 (by decide:(121:TypeId)≠79) ho1 (.int .i64 r.first) (.slice A1 r.log.length c1) (.int .i64 r.used)
 refine bodyPost_ret (zhP rfl _ _ _ _ _ rfl rfl (za5 hb1 _ _ _) rfl) rfl ⟨_,rfl,zah ho2 hX.size,zcf (Ext.trans hX hE1) (Nat.le_succ _) _ _ _⟩
theorem mcEith20 {P:Prop} (h:P:=by
 rw[hr] at key ⊢
 go_enter Tryz.func119,Tryz.ntmps119
 go_wp2_with (go_at_call 156;refine (zfV _).mono ?_;rintro e w' ⟨rfl,rfl⟩)
 refine key.out.mono ?_
 rintro e w1 ⟨vl,rfl,ho1,hE1⟩
 have ho1':OwnE w1 _ vl r.log:=ho1
 obtain ⟨A1,c1,rfl,_,_⟩:=SlR.open_ ho1'.es
 have hb2:=hb1.ext hE1
 obtain ⟨g0,g1,g2,f0,f1,f2⟩:=za4 hb2
 go_wp2_with fail
 have ho2:=zdR hb2 (by decide:(121:TypeId)≠79) ho1 (.int .i64 r.first) (.slice A1 r.log.length c1) (.int .i64 r.used)
 exact bodyPost_ret (zhP rfl _ _ _ _ _ rfl rfl (za5 hb2 _ _ _) rfl) rfl ⟨_,rfl,zah ho2 hX.size,zcf (Ext.trans hX hE1) (Nat.le_refl _) _ _ _⟩):P:=h
attribute [local go_sem] Oper.semAt_some
variable {T:Tab}
theorem zqB {b:List UInt8} {f:Int} (h:¬ (f=1∨f=2)):zbW T b f=⟨2,0,[],0,(0,0)⟩:=by
 unfold zbW
 rw[if_neg (fun q=>h (.inl q)),if_neg (fun q=>h (.inr q))]
theorem zpn (v:Value) (bs:List UInt8) (f:Int) (w:World) (hB:Bs w v bs) (hl:bs.length≤2000000) (hT:TabW T w):Calls Tryz.prog 119 #[v,.int .i64 f] w (zgt w (zbW T bs f)):=by
 have hb:=Blk.new w 121 #[.int .i64 0,.slice none 0 0,.int .i64 0]
 have hX0:Ext w (w.alloc (.cells #[.int .i64 0,.slice none 0 0,.int .i64 0] 121)):=Ext.alloc (Ext.refl _) _
 have hX:Ext w ((w.alloc (.cells #[.int .i64 0,.slice none 0 0,.int .i64 0] 121)).alloc (.map fmtMap 2)):=Ext.alloc hX0 _
 have hb1:=hb.alloc (.map fmtMap 2)
 obtain ⟨hlk,_⟩:=zrD _ _ (ztN (w.alloc (.cells #[.int .i64 0,.slice none 0 0,.int .i64 0] 121))) f
 rw[World.size_alloc] at hlk
 obtain ⟨A,c,rfl,_,_⟩:=SlR.open_ hB
 by_cases h1:f=1
 ·subst h1
  have hr:zbW T bs 1=zb2 T bs:=rfl
  rw[hr]
  have key:=zhd (zmY (T:=T) _ bs _ (hB.ext hX) hl (hT.ext hX))
  clear hB hT hr
  simp only[if_true,true_or,decide_true] at hlk
  have hm:=fun w=>(mth w).2.2.1
  obtain ⟨r,hr⟩:∃ r,zb2 T bs=r:=⟨_,rfl⟩
  exact mcEith20
 ·by_cases h2:f=2
  ·subst h2
   have hr:zbW T bs 2=zcv bs:=rfl
   rw[hr]
   have key:=zhd (zk8 _ bs _ (hB.ext hX) hl)
   clear hB hT hr
   have hlk':(Instr.lookup 197 (.map (some (w.heap.size+1))) (.int .i64 2) true).run Tryz.prog ((w.alloc (.cells #[.int .i64 0,.slice none 0 0,.int .i64 0] 121)).alloc (.map fmtMap 2))=.ok (.tuple #[.iface 229 (.agg #[]),.bool true]) ((w.alloc (.cells #[.int .i64 0,.slice none 0 0,.int .i64 0] 121)).alloc (.map fmtMap 2)):=hlk
   have hm:=fun w=>(mth w).2.2.2.1
   clear hlk h1
   obtain ⟨r,hr⟩:∃ r,zcv bs=r:=⟨_,rfl⟩
   exact mcEith20
  ·have hr:zbW T bs f=⟨2,0,[],0,(0,0)⟩:=zqB (by omega)
   rw[hr]
   have hd:decide (f=1∨f=2)=false:=by simp[h1,h2]
   rw[if_neg h1,if_neg h2,hd] at hlk
   clear hB hT hd hr
   obtain ⟨g0,g1,g2,f0,f1,f2⟩:=za4 hb1
   go_enter Tryz.func119,Tryz.ntmps119
   go_wp2_with (go_at_call 156;refine (zfV _).mono ?_;rintro e w' ⟨rfl,rfl⟩)
   exact bodyPost_ret (zhP rfl _ _ _ _ _ rfl rfl hb1 rfl) rfl ⟨_,rfl,World.ownsRow_nil _ _ _ _,hX⟩
structure Sta where
 idx:Int
 term:Int
 sum:Int
 lvl:Int
 fin:Bool
def Sta.ok (s:Sta):Bool :=
 if s.idx=0 then decide (s.term=0∧s.sum=0∧s.lvl=1∧s.fin=false)
 else (if s.fin=true then decide (s.lvl=2) else decide (s.lvl=1∨s.lvl=2))&&zaC s.idx&&decide (0<s.term)&&zaC s.term&&zaC s.sum
def Sta.finI (s:Sta):Int:=if s.fin=true then 1 else 0
def Sta.ints (s:Sta):List Int:=[s.idx,s.term,s.sum,s.lvl,s.finI]
theorem Sta.okP {s:Sta} (h:s.ok=true):zaC s.idx=true∧zaC s.term=true∧zaC s.sum=true∧(s.lvl=1∨s.lvl=2):=by
 unfold Sta.ok at h
 split at h
 ·rename_i h0
  have:=of_decide_eq_true h
  obtain ⟨h1,h2,h3,h4⟩:=this
  rw[h0,h1,h2,h3]
  exact ⟨by decide,by decide,by decide,.inl rfl⟩
 ·simp only[Bool.and_eq_true] at h
  obtain ⟨⟨⟨⟨h1,h2⟩,h3⟩,h4⟩,h5⟩:=h
  refine ⟨h2,h4,h5,?_⟩
  split at h1
  ·exact .inr (of_decide_eq_true h1)
  ·exact of_decide_eq_true h1
theorem Sta.finP (s:Sta):s.finI=0∨s.finI=1:=by unfold Sta.finI;split <;> simp
theorem Sta.nums {s:Sta} (h:s.ok=true):zax s.ints=true:=by
 obtain ⟨h1,h2,h3,h4⟩:=Sta.okP h
 have h5:zaC s.lvl=true:=by rcases h4 with e | e <;> rw[e] <;> decide
 have h6:zaC s.finI=true:=by rcases s.finP with e | e <;> rw[e] <;> decide
 simp[zax,Sta.ints,h1,h2,h3,h5,h6]
def zbI (z:Nat×Nat) (t:List UInt8):List UInt8 :=
 if h:t=[] then [] else t.take 4++(zbb (zaz z (t.take 4))++zbI (zaz z (t.take 4)) (t.drop 4))
termination_by t.length
decreasing_by
 have:0<t.length:=List.length_pos_iff.2 h
 simp;omega
theorem ziw (z:Nat×Nat):zbI z []=[]:=by rw[zbI];simp
theorem zhM (z:Nat×Nat) (t:List UInt8) (h:0<t.length):zbI z t=t.take 4++(zbb (zaz z (t.take 4))++zbI (zaz z (t.take 4)) (t.drop 4)):=by
 rw[zbI,dif_neg (fun e=>by rw[e] at h;simp at h)]
theorem ziv (z:Nat×Nat) (t:List UInt8):(zbI z t).length=t.length+(t.length+3) / 4*4:=by
 generalize hn:t.length=n
 induction n using Nat.strongRecOn generalizing z t with
 | _ n ih =>
  rcases Nat.eq_zero_or_pos t.length with h | h
  ·have:t=[]:=List.eq_nil_of_length_eq_zero h
   subst this
   rw[ziw]
   simp at hn
   subst hn
   rfl
  ·have h1:=ih (t.drop 4).length (by simp;omega) (zaz z (t.take 4)) (t.drop 4) rfl
   rw[zhM z t h,List.length_append,List.length_append,h1,zeN,List.length_take,List.length_drop]
   omega
theorem zpQ (p:Nat×Nat):∃ a b c d,zbb p=[a,b,c,d]:=⟨_,_,_,_,rfl⟩
theorem mcState0 {P:Prop} (h:P:=by
 refine tkN 0 rfl ?_
 refine tkN 1 rfl ?_
 refine tkN 2 rfl ?_
 refine tkN 3 rfl ?_
 refine tkS 4 rfl ?_
 refine tkS 5 rfl ?_
 refine tkS 6 rfl ?_
 refine tkN 7 rfl ?_
 refine tkN 8 rfl ?_
 refine wpAnyH_done (by kernel_rfl) ?_ _
 go_wp2_with fail
 go_ret
 refine ⟨ret_bool ?_,Ext.trans hX (Ext.drew (Ext.refl _))⟩
 rw[Hf.out]
 simp_all
 try (intro h;omega)):P:=h
theorem zfB:Tryz.prog.underlying 53=some (.struct (Tryz.prog.fieldsOf 53)):=by kernel_rfl
theorem zth:Tryz.prog.stoodInHeld 53=false:=by kernel_rfl
theorem zmf:Tryz.prog.eqGuardType Tryz.prog.depth 53=false:=by kernel_rfl
def zfg (a b:Sta):Bool:=a.idx==b.idx&&a.term==b.term&&a.sum==b.sum&&a.lvl==b.lvl&&a.fin==b.fin
theorem zt6 (a b:Sta):zfg a b=true↔a=b:=by
 cases a;cases b
 simp[zfg,and_assoc]
theorem zkG (a b:Sta) (W:World):(Op.equalIn 10000 53 (.agg #[.int .i64 a.idx,.int .i64 a.term,.int .i64 a.sum,.int .i64 a.lvl,.bool a.fin]) (.agg #[.int .i64 b.idx,.int .i64 b.term,.int .i64 b.sum,.int .i64 b.lvl,.bool b.fin])).run Tryz.prog W=.ok (zfg a b) W:=by
 rw[run_equalIn_struct W 9999 53 _ _ zfB zth]
 unfold zfg
 cases h0:(a.idx==b.idx) <;> cases h1:(a.term==b.term) <;> cases h2:(a.sum==b.sum) <;> cases h3:(a.lvl==b.lvl) <;> cases h4:(a.fin==b.fin) <;> simp[go_sem,h0,h1,h2,h3,h4]
theorem zmW (n:Int) (w:World):Calls Tryz.prog 113 #[.int .i64 n] w fun e w'=>e=.returned (.bool (zaC n))∧w=w':=by
 by_cases h0:n<0
 ·go_enter Tryz.func113,Tryz.ntmps113
  go_wp2
  go_ret
  exact ⟨ret_bool (by simp[zaC];omega),rfl⟩
 ·have h0':0≤n:=by omega
  go_enter Tryz.func113,Tryz.ntmps113
  go_wp2
  go_ret
  exact ⟨ret_bool (by simp[zaC];omega),rfl⟩
theorem zkg (w:World):Calls Tryz.prog 107 #[] w fun e w'=>e=.returned (.agg #[.int .i64 0,.int .i64 0,.int .i64 0,.int .i64 1,.bool false])∧Ext w w':=by
 go_enter Tryz.func107,Tryz.ntmps107
 go_wp2
 refine bodyPost_ret (results_cell_row rfl _ _ _ 53 _ _ _ rfl (heap_alloc_new _ _) zfB rfl (by kernel_rfl)) rfl ⟨rfl,Ext.alloc (Ext.refl _) _⟩
theorem zgr (w:World):Calls Tryz.prog 114 #[] w fun e w'=>e=.returned (.agg #[.int .i64 0,.int .i64 0,.int .i64 0,.int .i64 1,.bool false])∧Ext w w':=by
 go_enter Tryz.func114,Tryz.ntmps114
 go_wp2
 refine bodyPost_ret (results_cell_row rfl _ _ _ 53 _ _ _ rfl (heap_alloc_new _ _) zfB rfl (by kernel_rfl)) rfl ⟨rfl,Ext.alloc (Ext.refl _) _⟩
theorem zhA (s:Sta) (w:World):Calls Tryz.prog 201 #[.agg #[.int .i64 s.idx,.int .i64 s.term,.int .i64 s.sum,.int .i64 s.lvl,.bool s.fin]] w fun e w'=>e=.returned (.int .i64 s.finI)∧Ext w w':=by
 cases hf:s.fin
 ·have h:s.finI=0:=by unfold Sta.finI;rw[hf];rfl
  go_enter Tryz.func201,Tryz.ntmps201
  go_wp2
  go_ret
  exact ⟨by rw[h];rfl,Ext.alloc (Ext.refl _) _⟩
 ·have h:s.finI=1:=by unfold Sta.finI;rw[hf];rfl
  go_enter Tryz.func201,Tryz.ntmps201
  go_wp2
  go_ret
  exact ⟨by rw[h];rfl,Ext.alloc (Ext.refl _) _⟩
theorem zad {W:World} {b:Nat} {t:TypeId} {a v u x y:Value} (h:Blk W b t #[a,v,u,x,y]):W.cell? ⟨b,0,none⟩=some a∧W.cell? ⟨b,1,none⟩=some v∧W.cell? ⟨b,2,none⟩=some u∧W.cell? ⟨b,3,none⟩=some x∧W.cell? ⟨b,4,none⟩=some y :=
 ⟨h.cell 0 rfl,h.cell 1 rfl,h.cell 2 rfl,h.cell 3 rfl,h.cell 4 rfl⟩
theorem zcC (s:Sta) (w:World):Calls Tryz.prog 145 #[.agg #[.int .i64 s.idx,.int .i64 s.term,.int .i64 s.sum,.int .i64 s.lvl,.bool s.fin]] w fun e w'=>e=.returned (.bool s.ok)∧Ext w w':=by
 have hX:Ext w (w.alloc (.cells #[.int .i64 s.idx,.int .i64 s.term,.int .i64 s.sum,.int .i64 s.lvl,.bool s.fin] 53)):=Ext.alloc (Ext.refl _) _
 have hb:=Blk.new w 53 #[.int .i64 s.idx,.int .i64 s.term,.int .i64 s.sum,.int .i64 s.lvl,.bool s.fin]
 by_cases h0:s.idx=0
 ·have e0:(s.idx==0)=true:=by rw[h0];rfl
  have heq:=zkG s ⟨0,0,0,1,false⟩
  have hgd:=zmf
  have hok:s.ok=zfg s ⟨0,0,0,1,false⟩:=by
   unfold Sta.ok zfg
   rw[if_pos h0,h0]
   rw[Bool.eq_iff_iff]
   simp[and_assoc]
  have Hok:=zhd hok
  clear hok h0
  dsimp only at heq
  go_enter Tryz.func145,Tryz.ntmps145
  go_wp2_with fail
  go_region_held3 (fun w'=>w'.cell? ⟨w.heap.size,0,none⟩=some (.int .i64 s.idx)∧w'.cell? ⟨w.heap.size,1,none⟩=some (.int .i64 s.term)∧w'.cell? ⟨w.heap.size,2,none⟩=some (.int .i64 s.sum)∧w'.cell? ⟨w.heap.size,3,none⟩=some (.int .i64 s.lvl)∧w'.cell? ⟨w.heap.size,4,none⟩=some (.bool s.fin)) (first | go_keep | (refine ⟨?_,?_,?_,?_,?_⟩ <;> assumption))
   (first | (go_at_call 107;refine (zkg _).mono ?_;rintro e w1 ⟨rfl,hE1⟩;have hE':Ext (w.alloc (.cells #[.int .i64 s.idx,.int .i64 s.term,.int .i64 s.sum,.int .i64 s.lvl,.bool s.fin] 53)) w1:=Ext.trans (Ext.drew (Ext.refl _)) hE1;obtain ⟨g0,g1,g2,g3,g4⟩:=zad (hb.ext hE')))
  go_wp2_with fail
  go_ret
  exact ⟨by rw[Hok.out];rfl,Ext.trans hX hE'⟩
 ·have e0:(s.idx==0)=false:=by rw[beq_eq_false_iff_ne];exact h0
  cases hf:s.fin with
  | true =>
   have hok:s.ok=((s.lvl==2)&&zaC s.idx&&decide (0<s.term)&&zaC s.term&&zaC s.sum):=by
    unfold Sta.ok
    rw[if_neg h0,if_pos hf]
    congr 4
   have Hok:=zhd hok
   clear hok h0
   go_enter Tryz.func145,Tryz.ntmps145
   go_wp2_with (go_at_call 170;refine (zgS _ _).mono ?_;rintro e w1 ⟨rfl,rfl⟩)
   all_goals
    go_ret
    refine ⟨ret_bool ?_,Ext.alloc (Ext.refl _) _⟩
    rw[Hok.out]
    simp_all
    try (intro h;omega)
  | false =>
   have hok:s.ok=(decide (s.lvl=1∨s.lvl=2)&&zaC s.idx&&decide (0<s.term)&&zaC s.term&&zaC s.sum):=by
    unfold Sta.ok
    rw[if_neg h0,if_neg (by rw[hf];simp)]
   have Hok:=zhd hok
   clear hok h0
   go_enter Tryz.func145,Tryz.ntmps145
   go_wp2_with (go_at_call 170;refine (zgS _ _).mono ?_;rintro e w1 ⟨rfl,rfl⟩)
   all_goals
    go_ret
    refine ⟨ret_bool ?_,Ext.alloc (Ext.refl _) _⟩
    rw[Hok.out]
    simp_all
    try (intro h;omega)
def zld (s:Sta):Bool:=zaC s.idx&&zaC s.term&&zaC s.sum&&((s.term==0)==(s.idx==0))&&(s.lvl==1||s.lvl==2)&&(!s.fin||s.lvl==2)&&(decide (0<s.idx)||zfg s ⟨0,0,0,1,false⟩)
theorem zrC (s:Sta):zld s=s.ok:=by
 obtain ⟨i,t,u,l,b⟩:=s
 unfold zld Sta.ok zfg
 dsimp only
 by_cases hi:i=0
 ·subst hi
  rw[if_pos rfl,Bool.eq_iff_iff]
  simp only[Bool.and_eq_true,Bool.or_eq_true,beq_iff_eq,decide_eq_true_eq,Bool.not_eq_true',zaC]
  constructor
  ·rintro ⟨_,h⟩
   rcases h with h | ⟨⟨⟨⟨_,h1⟩,h2⟩,h3⟩,h4⟩
   ·omega
   ·exact ⟨h1,h2,h3,h4⟩
  ·rintro ⟨rfl,rfl,rfl,rfl⟩
   simp
 ·rw[if_neg hi]
  have e1:(i==0)=false:=by simpa using hi
  have hip:zaC i=true→decide (0<i)=true:=fun h=>decide_eq_true (by have:=numB_true.1 h;omega)
  cases hn:zaC i with
  | false=>simp
  | true =>
   cases ht:zaC t with
   | false=>simp
   | true =>
    have h0:=numB_true.1 ht
    by_cases t0:t=0
    ·subst t0
     simp[e1]
    ·have e2:(t==0)=false:=by simpa using t0
     have e3:decide (0<t)=true:=decide_eq_true (by omega)
     rw[e1,e2,e3,hip hn]
     cases hu:zaC u with
     | false=>simp
     | true =>
      cases b
      ·simp
       rw[Bool.eq_iff_iff]
       simp
      ·by_cases l2:l=2
       ·simp[l2]
       ·simp[l2]
theorem zo9 (i t u l:Int) (b:Bool) (w:World):Calls Tryz.prog 67 #[.agg #[.int .i64 i,.int .i64 t,.int .i64 u,.int .i64 l,.bool b]] w fun e w'=>e=.returned (.bool (zld ⟨i,t,u,l,b⟩))∧Ext w w':=by
 have hX:Ext w (w.alloc (.cells #[.int .i64 i,.int .i64 t,.int .i64 u,.int .i64 l,.bool b] 53)):=Ext.alloc (Ext.refl _) _
 have hb:=Blk.new w 53 #[.int .i64 i,.int .i64 t,.int .i64 u,.int .i64 l,.bool b]
 have Hf:Hid (zld ⟨i,t,u,l,b⟩=(zaC i&&zaC t&&zaC u&&((t==0)==(i==0))&&(l==1||l==2)&&(!b||l==2)&&(decide (0<i)||zfg ⟨i,t,u,l,b⟩ ⟨0,0,0,1,false⟩))):=rfl
 have heq:=zkG ⟨i,t,u,l,b⟩ ⟨0,0,0,1,false⟩
 have hgd:=zmf
 dsimp only at heq
 go_enter Tryz.func67,Tryz.ntmps67
 go_wp2_with (go_at_call 113;refine (zmW _ _).mono ?_;rintro e w1 ⟨rfl,rfl⟩)
 all_goals try (go_ret;refine ⟨ret_bool ?_,Ext.alloc (Ext.refl _) _⟩;rw[Hf.out];simp_all;done)
 ·subst l
  obtain rfl:b=false:=by simp_all
  by_cases hi:0<i
  ·skip
   refine wp_region_held_drew (S:=(fun w'=>w'.cell? ⟨w.heap.size,0,none⟩=some (.int .i64 i)∧w'.cell? ⟨w.heap.size,1,none⟩=some (.int .i64 t)∧w'.cell? ⟨w.heap.size,2,none⟩=some (.int .i64 u)∧w'.cell? ⟨w.heap.size,3,none⟩=some (.int .i64 1)∧w'.cell? ⟨w.heap.size,4,none⟩=some (.bool false))) (by kernel_rfl) (zad (hb.ext (Ext.drew (Ext.refl _)))) (fun _=>?_)
   exact mcState0
  ·skip
   refine wp_region_held_drew (S:=(fun w'=>w'.cell? ⟨w.heap.size,0,none⟩=some (.int .i64 i)∧w'.cell? ⟨w.heap.size,1,none⟩=some (.int .i64 t)∧w'.cell? ⟨w.heap.size,2,none⟩=some (.int .i64 u)∧w'.cell? ⟨w.heap.size,3,none⟩=some (.int .i64 1)∧w'.cell? ⟨w.heap.size,4,none⟩=some (.bool false))) (by kernel_rfl) (zad (hb.ext (Ext.drew (Ext.refl _)))) (fun _=>?_)
   refine tkN 0 rfl ?_
   refine tkN 1 rfl ?_
   refine tkN 2 rfl ?_
   refine tkN 3 rfl ?_
   refine tkN 4 rfl ?_
   refine ar1 5 rfl (fun K hK=>?_)
   go_simp
   refine (zgr _).mono ?_
   rintro e w1 ⟨rfl,hE1⟩
   have hE':Ext (w.alloc (.cells #[.int .i64 i,.int .i64 t,.int .i64 u,.int .i64 1,.bool false] 53)) w1:=Ext.trans (Ext.drew (Ext.refl _)) hE1
   try (go_wp2_with fail)
   refine shK hK _ _ (zad (hb.ext hE')) (fun _=>?_)
   refine tkN 6 rfl ?_
   refine tkN 7 rfl ?_
   refine tkN 8 rfl ?_
   refine wpAnyH_done (by kernel_rfl) ?_ _
   go_wp2_with fail
   go_ret
   refine ⟨ret_bool ?_,Ext.trans hX hE'⟩
   rw[Hf.out]
   simp_all
   try (intro h;omega)
 ·try subst l
  try subst b
  by_cases hi:0<i
  ·skip
   refine wp_region_held_drew (S:=(fun w'=>w'.cell? ⟨w.heap.size,0,none⟩=some (.int .i64 i)∧w'.cell? ⟨w.heap.size,1,none⟩=some (.int .i64 t)∧w'.cell? ⟨w.heap.size,2,none⟩=some (.int .i64 u)∧w'.cell? ⟨w.heap.size,3,none⟩=some (.int .i64 2)∧w'.cell? ⟨w.heap.size,4,none⟩=some (.bool true))) (by kernel_rfl) (zad (hb.ext (Ext.drew (Ext.refl _)))) (fun _=>?_)
   exact mcState0
  ·skip
   refine wp_region_held_drew (S:=(fun w'=>w'.cell? ⟨w.heap.size,0,none⟩=some (.int .i64 i)∧w'.cell? ⟨w.heap.size,1,none⟩=some (.int .i64 t)∧w'.cell? ⟨w.heap.size,2,none⟩=some (.int .i64 u)∧w'.cell? ⟨w.heap.size,3,none⟩=some (.int .i64 2)∧w'.cell? ⟨w.heap.size,4,none⟩=some (.bool true))) (by kernel_rfl) (zad (hb.ext (Ext.drew (Ext.refl _)))) (fun _=>?_)
   refine tkN 0 rfl ?_
   refine tkN 1 rfl ?_
   refine tkN 2 rfl ?_
   refine tkN 3 rfl ?_
   refine tkN 4 rfl ?_
   refine ar1 5 rfl (fun K hK=>?_)
   go_simp
   refine (zgr _).mono ?_
   rintro e w1 ⟨rfl,hE1⟩
   have hE':Ext (w.alloc (.cells #[.int .i64 i,.int .i64 t,.int .i64 u,.int .i64 2,.bool true] 53)) w1:=Ext.trans (Ext.drew (Ext.refl _)) hE1
   try (go_wp2_with fail)
   refine shK hK _ _ (zad (hb.ext hE')) (fun _=>?_)
   refine tkN 6 rfl ?_
   refine tkN 7 rfl ?_
   refine tkN 8 rfl ?_
   refine wpAnyH_done (by kernel_rfl) ?_ _
   go_wp2_with fail
   go_ret
   refine ⟨ret_bool ?_,Ext.trans hX hE'⟩
   rw[Hf.out]
   simp_all
   try (intro h;omega)
 ·subst l
  obtain rfl:b=false:=by simp_all
  by_cases hi:0<i
  ·skip
   refine wp_region_held_drew (S:=(fun w'=>w'.cell? ⟨w.heap.size,0,none⟩=some (.int .i64 i)∧w'.cell? ⟨w.heap.size,1,none⟩=some (.int .i64 t)∧w'.cell? ⟨w.heap.size,2,none⟩=some (.int .i64 u)∧w'.cell? ⟨w.heap.size,3,none⟩=some (.int .i64 2)∧w'.cell? ⟨w.heap.size,4,none⟩=some (.bool false))) (by kernel_rfl) (zad (hb.ext (Ext.drew (Ext.refl _)))) (fun _=>?_)
   exact mcState0
  ·skip
   refine wp_region_held_drew (S:=(fun w'=>w'.cell? ⟨w.heap.size,0,none⟩=some (.int .i64 i)∧w'.cell? ⟨w.heap.size,1,none⟩=some (.int .i64 t)∧w'.cell? ⟨w.heap.size,2,none⟩=some (.int .i64 u)∧w'.cell? ⟨w.heap.size,3,none⟩=some (.int .i64 2)∧w'.cell? ⟨w.heap.size,4,none⟩=some (.bool false))) (by kernel_rfl) (zad (hb.ext (Ext.drew (Ext.refl _)))) (fun _=>?_)
   refine tkN 0 rfl ?_
   refine tkN 1 rfl ?_
   refine tkN 2 rfl ?_
   refine tkN 3 rfl ?_
   refine tkN 4 rfl ?_
   refine ar1 5 rfl (fun K hK=>?_)
   go_simp
   refine (zgr _).mono ?_
   rintro e w1 ⟨rfl,hE1⟩
   have hE':Ext (w.alloc (.cells #[.int .i64 i,.int .i64 t,.int .i64 u,.int .i64 2,.bool false] 53)) w1:=Ext.trans (Ext.drew (Ext.refl _)) hE1
   try (go_wp2_with fail)
   refine shK hK _ _ (zad (hb.ext hE')) (fun _=>?_)
   refine tkN 6 rfl ?_
   refine tkN 7 rfl ?_
   refine tkN 8 rfl ?_
   refine wpAnyH_done (by kernel_rfl) ?_ _
   go_wp2_with fail
   go_ret
   refine ⟨ret_bool ?_,Ext.trans hX hE'⟩
   rw[Hf.out]
   simp_all
   try (intro h;omega)
theorem zo8 (s:Sta) (w:World):Calls Tryz.prog 67 #[.agg #[.int .i64 s.idx,.int .i64 s.term,.int .i64 s.sum,.int .i64 s.lvl,.bool s.fin]] w fun e w'=>e=.returned (.bool s.ok)∧Ext w w':=by
 rw[←zrC s]
 exact zo9 s.idx s.term s.sum s.lvl s.fin w
end Go.Proofs.YtgonhdeochgkoaaGreatDoor
