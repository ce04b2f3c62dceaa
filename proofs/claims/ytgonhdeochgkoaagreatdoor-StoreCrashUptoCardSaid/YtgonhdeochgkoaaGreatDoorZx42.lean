/- Merged -/
import Derived.Test.YtgonhdeochgkoaaGreatDoorZx32
import Derived.Test.YtgonhdeochgkoaaGreatDoorZx41
set_option linter.all false
set_option maxHeartbeats 8000000
set_option maxRecDepth 100000
open Go.Act renaming put→P0
open Option renaming isSome→P1,getD→P2
open Go.Mv.Blk renaming new→P3
open Go.Lib renaming bytesWorld→P4,run_convert_string_bytes→P5
open List renaming length_nil→P6
namespace Go.Proofs.YtgonhdeochgkoaaGreatDoor
open Go.RowKit Go.Mv Go.Shelf
theorem mcStCrasha0 {P:Prop} (h:P:=by
 have Gx:(i9:Int)<(km.length:Int):=by omega
 obtain ⟨_,bk,ok,Gt,Jf⟩:=SlR.at_ (SlR.ext HK.out HX.out) (by omega);subst Gt;obtain ⟨⟨ik,is,Ku⟩,JS⟩:∃ x,km[i9]?=some x:=⟨_,List.getElem?_eq_getElem hlt⟩;obtain ⟨i0,i1,i2⟩:=idCells_get JS;have y0:=Jf _ _ i0;have y1:=Jf _ _ i1;have y2:=Jf _ _ i2;rw[←Nat.add_assoc] at y1 y2;have J3:=G2.out i9 (by omega) _ _ _ JS;obtain ⟨g0,_,_,_,_⟩:=zac (Ha.out.ext HX.out);obtain ⟨c0,_,_,_,_⟩:=zac (Hs.out.ext HX.out);have Gm:=zhd J3;have GC:=zhd (And.intro JQ JR);have Ja:=zhd hlt;clear Jf i0 i1 i2 JS J3 JQ JR;go_wp2_with fail
 refine wp_region_held_drew (S:=fun W=>W.cell? ⟨w.heap.size,0,none⟩=some (.slice A d.fs.length c)∧W.cell? ⟨cb,0,none⟩=some (.slice AL L.length cL)∧W.cell? ⟨bk,ok+i9*3,none⟩=some (.int .u8 ik)∧W.cell? ⟨bk,ok+i9*3+1,none⟩=some (.int .i64 is)∧W.cell? ⟨bk,ok+i9*3+2,none⟩=some (.int .i64 Ku)) (by kernel_rfl) ⟨g0,c0,y0,y1,y2⟩ (fun _=>?_)
 refine zaa (i:=0) (v:=?_) rfl (by kernel_rfl) (by kernel_rfl) (by kernel_rfl) (fun _ _ _ h=>h) (by rfl) (by assumption) (fun w hw=>?_) ?_
 rotate_left
 ·(try dsimp only at hw);go_simp;try with_reducible rfl
 try simp only[P0,sA,sZ,sS]
 refine zaa (i:=1) (v:=?_) rfl (by kernel_rfl) (by kernel_rfl) (by kernel_rfl) (fun _ _ _ h=>h) (by rfl) (by assumption) (fun w hw=>?_) ?_
 rotate_left
 ·(try dsimp only at hw);go_simp;try with_reducible rfl
 try simp only[P0,sA,sZ,sS]
 refine zaa (i:=2) (v:=?_) rfl (by kernel_rfl) (by kernel_rfl) (by kernel_rfl) (fun _ _ _ h=>h) (by rfl) (by assumption) (fun w hw=>?_) ?_
 rotate_left
 ·(try dsimp only at hw);go_simp;try with_reducible rfl
 try simp only[P0,sA,sZ,sS]
 refine zaa (i:=3) (v:=?_) rfl (by kernel_rfl) (by kernel_rfl) (by kernel_rfl) (fun _ _ _ h=>h) (by rfl) (by assumption) (fun w hw=>?_) ?_
 rotate_left
 ·(try dsimp only at hw);go_simp;try with_reducible rfl
 try simp only[P0,sA,sZ,sS]
 refine zaa (i:=4) (v:=?_) rfl (by kernel_rfl) (by kernel_rfl) (by kernel_rfl) (fun _ _ _ h=>h) (by rfl) (by assumption) (fun w hw=>?_) ?_
 rotate_left
 ·(try dsimp only at hw);go_simp;try with_reducible rfl
 try simp only[P0,sA,sZ,sS]
 refine zaa (i:=5) (v:=?_) rfl (by kernel_rfl) (by kernel_rfl) (by kernel_rfl) (fun _ _ _ h=>h) (by rfl) (by assumption) (fun w hw=>?_) ?_
 rotate_left
 ·(try dsimp only at hw);go_simp;try with_reducible rfl
 try simp only[P0,sA,sZ,sS]
 refine zaa (i:=7) (v:=?_) rfl (by kernel_rfl) (by kernel_rfl) (by kernel_rfl) (fun _ _ _ h=>h) (by rfl) (by assumption) (fun w hw=>?_) ?_
 rotate_left
 ·(try dsimp only at hw);go_simp;try with_reducible rfl
 try simp only[P0,sA,sZ,sS]
 refine zaa (i:=8) (v:=?_) rfl (by kernel_rfl) (by kernel_rfl) (by kernel_rfl) (fun _ _ _ h=>h) (by rfl) (by assumption) (fun w hw=>?_) ?_
 rotate_left
 ·(try dsimp only at hw);go_simp;try with_reducible rfl
 try simp only[P0,sA,sZ,sS]
 refine zaa (i:=9) (v:=?_) rfl (by kernel_rfl) (by kernel_rfl) (by kernel_rfl) (fun _ _ _ h=>h) (by rfl) (by assumption) (fun w hw=>?_) ?_
 rotate_left
 ·(try dsimp only at hw);go_simp;try with_reducible rfl
 try simp only[P0,sA,sZ,sS]
 refine zaa (i:=10) (v:=?_) rfl (by kernel_rfl) (by kernel_rfl) (by kernel_rfl) (fun _ _ _ h=>h) (by rfl) (by assumption) (fun w hw=>?_) ?_
 rotate_left
 ·(try dsimp only at hw);go_simp;try with_reducible rfl
 try simp only[P0,sA,sZ,sS]
 refine zaa (i:=11) (v:=?_) rfl (by kernel_rfl) (by kernel_rfl) (by kernel_rfl) (fun _ _ _ h=>h) (by rfl) (by assumption) (fun w hw=>?_) ?_
 rotate_left
 ·(try dsimp only at hw);go_simp;try with_reducible rfl
 try simp only[P0,sA,sZ,sS]
 refine zaa (i:=12) (v:=?_) rfl (by kernel_rfl) (by kernel_rfl) (by kernel_rfl) (fun _ _ _ h=>h) (by rfl) (by assumption) (fun w hw=>?_) ?_
 rotate_left
 ·(try dsimp only at hw);go_simp;try with_reducible rfl
 try simp only[P0,sA,sZ,sS]
 refine ar1 6 rfl (fun K hK=>?_)
 go_simp
 refine (zdZ _ d.fs ik is Ku _ (Hb.out.ext (xT Kd.out (xT HX.out (xD (xR _))))) (Kc.out.ext (xT HX.out (xD (xR _)))) (by omega)).mono ?_
 rintro e wa ⟨rfl,KV⟩;have HU:=xT (xD (xR _)) KV
 refine shK hK _ _ ⟨HU.cell g0,HU.cell c0,HU.cell y0,HU.cell y1,HU.cell y2⟩ (fun _=>?_)
 refine ar1 13 rfl (fun K hK=>?_)
 go_simp
 refine (zdZ _ L ik is Ku wa (Hb.out.ext (xT Kd.out (xT HX.out HU))) (HQ.out.ext (xT HX.out HU)) (by omega)).mono ?_
 rintro e w9 ⟨rfl,KW⟩;have Hg:=xT HU KW
 refine shK hK _ _ ⟨Hg.cell g0,Hg.cell c0,Hg.cell y0,Hg.cell y1,Hg.cell y2⟩ (fun _=>?_)
 refine zaa (i:=14) (v:=?_) rfl (by kernel_rfl) (by kernel_rfl) (by kernel_rfl) (fun _ _ _ h=>h) (by rfl) (by assumption) (fun w hw=>?_) ?_
 rotate_left
 ·(try dsimp only at hw);go_simp;try with_reducible rfl
 try simp only[P0,sA,sZ,sS]
 refine zaa (i:=15) (v:=?_) rfl (by kernel_rfl) (by kernel_rfl) (by kernel_rfl) (fun _ _ _ h=>h) (by rfl) (by assumption) (fun w hw=>?_) ?_
 rotate_left
 ·(try dsimp only at hw);go_simp;try with_reducible rfl
 try simp only[P0,sA,sZ,sS]
 refine wpAnyH_done (by kernel_rfl) ?_ _;have Kl:=zhd (xT HX.out Hg);have Kr:=Gm.out;clear Hg HU KV KW y0 y1 y2 g0 c0
 rcases zeo d.fs (zas ik is Ku) with ⟨h1,h2⟩ | ⟨p,hp,h1,h2⟩
 ·rw[h1]
  clear h1 h2 Kr
  generalize zb4 L (zas ik is Ku)=zz
  go_wp2_with fail
  refine wp_region_held_drew (S:=fun _=>True) (by kernel_rfl) trivial (fun _=>?_)
  refine zaa (i:=0) (v:=?_) rfl (by kernel_rfl) (by kernel_rfl) (by kernel_rfl) (fun _ _ _ h=>h) (by rfl) (by assumption) (fun w hw=>?_) ?_
  rotate_left
  ·(try dsimp only at hw);go_simp;try with_reducible rfl
  try simp only[P0,sA,sZ,sS]
  refine zaa (i:=1) (v:=?_) rfl (by kernel_rfl) (by kernel_rfl) (by kernel_rfl) (fun _ _ _ h=>h) (by rfl) (by assumption) (fun w hw=>?_) ?_
  rotate_left
  ·(try dsimp only at hw);go_simp;try with_reducible rfl
  try simp only[P0,sA,sZ,sS]
  refine zaa (i:=2) (v:=?_) rfl (by kernel_rfl) (by kernel_rfl) (by kernel_rfl) (fun _ _ _ h=>h) (by rfl) (by assumption) (fun w hw=>?_) ?_
  rotate_left
  ·(try dsimp only at hw);go_simp;try with_reducible rfl
  try simp only[P0,sA,sZ,sS]
  refine tkS 3 rfl ?_;refine tkS 4 rfl ?_;refine tkS 5 rfl ?_;refine tkS 6 rfl ?_;refine tkS 7 rfl ?_;refine tkS 8 rfl ?_;refine tkS 9 rfl ?_;refine tkS 10 rfl ?_;refine tkS 11 rfl ?_;refine tkS 12 rfl ?_;refine tkS 13 rfl ?_;refine tkS 14 rfl ?_;refine tkS 15 rfl ?_;refine tkS 16 rfl ?_;refine tkS 17 rfl ?_;refine tkS 18 rfl ?_;refine tkS 19 rfl ?_;refine tkS 20 rfl ?_;refine tkS 21 rfl ?_
  refine zaa (i:=22) (v:=?_) rfl (by kernel_rfl) (by kernel_rfl) (by kernel_rfl) (fun _ _ _ h=>h) (by rfl) (by assumption) (fun w hw=>?_) ?_
  rotate_left
  ·(try dsimp only at hw);go_simp;try with_reducible rfl
  try simp only[P0,sA,sZ,sS]
  refine wpAnyH_done (by kernel_rfl) ?_ _;go_wp2_with fail
  go_roundw
  case rel=>exact ⟨i9+1,by omega,by have:=Ja.out;omega,by go_num,xD Kl.out⟩
  case measure=>simp[intOf];have:=Ja.out;omega
 ·rcases zeo L (zas ik is Ku) with ⟨h3,h4⟩ | ⟨q,hq,h3,h4⟩
  ·rw[h2,h4] at Kr;cases Kr
  ·rw[h2,h4] at Kr
   have Gg:=Option.some.inj Kr;rw[h1,h3];obtain ⟨_,b1,o1,G3,JJ⟩:=(Kc.out.ext Kl.out).at_ (by omega);obtain ⟨_,b2,o2,G4,JK⟩:=(HQ.out.ext Kl.out).at_ (by omega);obtain ⟨n1,B1,d1,c1,G5⟩:=JJ p hp;obtain ⟨n2,B2,d2,e1,JB⟩:=JK q hq;rw[Gg] at e1 JB;obtain ⟨g0,_,_,_,_⟩:=zac (Ha.out.ext Kl.out);obtain ⟨c0,_,_,_,_⟩:=zac (Hs.out.ext Kl.out);rw[G3] at g0;rw[G4] at c0;have J1:=za7 (P:=Tryz.prog) w9.drew 38 9 5 Tryz.underlying38 Tryz.underlying5 Tryz.underlying9 (SlR.ext G5 (xD (xR _)));have J2:=za7 (P:=Tryz.prog) w9.drew 38 9 5 Tryz.underlying38 Tryz.underlying5 Tryz.underlying9 (SlR.ext JB (xD (xR _)))
   have GJ:(p:Int)<(d.fs.length:Int):=by omega
   have GM:(q:Int)<(L.length:Int):=by omega
   have GN:¬ (q:Int)<0:=by omega
   have GK:(0:Int)≤(p:Int):=by omega
   clear JJ JK G5 JB h1 h2 h3 h4 Kr Gg n1 n2 G3 G4
   generalize d.fs[p].2=xb at *
   go_wp2_with fail
   refine wp_region_held_drew (S:=fun W=>W.cell? ⟨w.heap.size,0,none⟩=some (.slice (some ⟨b1,o1,none⟩) d.fs.length c)∧W.cell? ⟨cb,0,none⟩=some (.slice (some ⟨b2,o2,none⟩) L.length cL)∧W.cell? ⟨b1,o1+p*2+1,none⟩=some (.slice B1 xb.length d1)∧W.cell? ⟨b2,o2+q*2+1,none⟩=some (.slice B2 xb.length d2)∧(convert 38 9 (.slice B1 xb.length d1)).run Tryz.prog W=.ok (.string ⟨xb.toArray⟩) W∧(convert 38 9 (.slice B2 xb.length d2)).run Tryz.prog W=.ok (.string ⟨xb.toArray⟩) W) (by kernel_rfl) ⟨g0,c0,c1,e1,J1,J2⟩ (fun _=>?_)
   clear g0 c0 c1 e1 J1 J2
   refine zaa (i:=0) (v:=?_) rfl (by kernel_rfl) (by kernel_rfl) (by kernel_rfl) (fun _ _ _ h=>h) (by rfl) (by assumption) (fun w hw=>?_) ?_
   rotate_left
   ·(try dsimp only at hw);go_simp;try with_reducible rfl
   try simp only[P0,sA,sZ,sS]
   refine zaa (i:=1) (v:=?_) rfl (by kernel_rfl) (by kernel_rfl) (by kernel_rfl) (fun _ _ _ h=>h) (by rfl) (by assumption) (fun w hw=>?_) ?_
   rotate_left
   ·(try dsimp only at hw);go_simp;try with_reducible rfl
   try simp only[P0,sA,sZ,sS]
   refine zaa (i:=2) (v:=?_) rfl (by kernel_rfl) (by kernel_rfl) (by kernel_rfl) (fun _ _ _ h=>h) (by rfl) (by assumption) (fun w hw=>?_) ?_
   rotate_left
   ·(try dsimp only at hw);go_simp;try with_reducible rfl
   try simp only[P0,sA,sZ,sS]
   refine zaa (i:=3) (v:=?_) rfl (by kernel_rfl) (by kernel_rfl) (by kernel_rfl) (fun _ _ _ h=>h) (by rfl) (by assumption) (fun w hw=>?_) ?_
   rotate_left
   ·(try dsimp only at hw);go_simp;try with_reducible rfl
   try simp only[P0,sA,sZ,sS]
   refine zaa (i:=4) (v:=?_) rfl (by kernel_rfl) (by kernel_rfl) (by kernel_rfl) (fun _ _ _ h=>h) (by rfl) (by assumption) (fun w hw=>?_) ?_
   rotate_left
   ·(try dsimp only at hw);go_simp;try with_reducible rfl
   try simp only[P0,sA,sZ,sS]
   refine zaa (i:=5) (v:=?_) rfl (by kernel_rfl) (by kernel_rfl) (by kernel_rfl) (fun _ _ _ h=>h) (by rfl) (by assumption) (fun w hw=>?_) ?_
   rotate_left
   ·(try dsimp only at hw);go_simp;try with_reducible rfl
   try simp only[P0,sA,sZ,sS]
   refine zaa (i:=6) (v:=?_) rfl (by kernel_rfl) (by kernel_rfl) (by kernel_rfl) (fun _ _ _ h=>h) (by rfl) (by assumption) (fun w hw=>?_) ?_
   rotate_left
   ·(try dsimp only at hw);go_simp;try with_reducible rfl
   try simp only[P0,sA,sZ,sS]
   refine zaa (i:=7) (v:=?_) rfl (by kernel_rfl) (by kernel_rfl) (by kernel_rfl) (fun _ _ _ h=>h) (by rfl) (by assumption) (fun w hw=>?_) ?_
   rotate_left
   ·(try dsimp only at hw);go_simp;try with_reducible rfl
   try simp only[P0,sA,sZ,sS]
   refine zaa (i:=8) (v:=?_) rfl (by kernel_rfl) (by kernel_rfl) (by kernel_rfl) (fun _ _ _ h=>h) (by rfl) (by assumption) (fun w hw=>?_) ?_
   rotate_left
   ·(try dsimp only at hw);go_simp;try with_reducible rfl
   try simp only[P0,sA,sZ,sS]
   refine zaa (i:=9) (v:=?_) rfl (by kernel_rfl) (by kernel_rfl) (by kernel_rfl) (fun _ _ _ h=>h) (by rfl) (by assumption) (fun w hw=>?_) ?_
   rotate_left
   ·(try dsimp only at hw);go_simp;try with_reducible rfl
   try simp only[P0,sA,sZ,sS]
   refine zaa (i:=10) (v:=?_) rfl (by kernel_rfl) (by kernel_rfl) (by kernel_rfl) (fun _ _ _ h=>h) (by rfl) (by assumption) (fun w hw=>?_) ?_
   rotate_left
   ·(try dsimp only at hw);go_simp;try with_reducible rfl
   try simp only[P0,sA,sZ,sS]
   refine zaa (i:=11) (v:=?_) rfl (by kernel_rfl) (by kernel_rfl) (by kernel_rfl) (fun _ _ _ h=>h) (by rfl) (by assumption) (fun w hw=>?_) ?_
   rotate_left
   ·(try dsimp only at hw);go_simp;try with_reducible rfl
   try simp only[P0,sA,sZ,sS]
   refine zaa (i:=12) (v:=?_) rfl (by kernel_rfl) (by kernel_rfl) (by kernel_rfl) (fun _ _ _ h=>h) (by rfl) (by assumption) (fun w hw=>?_) ?_
   rotate_left
   ·(try dsimp only at hw);go_simp;try with_reducible rfl
   try simp only[P0,sA,sZ,sS]
   refine zaa (i:=13) (v:=?_) rfl (by kernel_rfl) (by kernel_rfl) (by kernel_rfl) (fun _ _ _ h=>h) (by rfl) (by assumption) (fun w hw=>?_) ?_
   rotate_left
   ·(try dsimp only at hw);go_simp;try with_reducible rfl
   try simp only[P0,sA,sZ,sS]
   refine zaa (i:=14) (v:=?_) rfl (by kernel_rfl) (by kernel_rfl) (by kernel_rfl) (fun _ _ _ h=>h) (by rfl) (by assumption) (fun w hw=>?_) ?_
   rotate_left
   ·(try dsimp only at hw);go_simp;try with_reducible rfl
   try simp only[P0,sA,sZ,sS]
   refine zaa (i:=15) (v:=?_) rfl (by kernel_rfl) (by kernel_rfl) (by kernel_rfl) (fun _ _ _ h=>h) (by rfl) (by assumption) (fun w hw=>?_) ?_
   rotate_left
   ·(try dsimp only at hw);go_simp;try with_reducible rfl
   try simp only[P0,sA,sZ,sS]
   refine zaa (i:=16) (v:=?_) rfl (by kernel_rfl) (by kernel_rfl) (by kernel_rfl) (fun _ _ _ h=>h) (by rfl) (by assumption) (fun w hw=>?_) ?_
   rotate_left
   ·(try dsimp only at hw);go_simp;try with_reducible rfl
   try simp only[P0,sA,sZ,sS]
   refine zaa (i:=17) (v:=?_) rfl (by kernel_rfl) (by kernel_rfl) (by kernel_rfl) (fun _ _ _ h=>h) (by rfl) (by assumption) (fun w hw=>?_) ?_
   rotate_left
   ·(try dsimp only at hw);go_simp;try with_reducible rfl
   try simp only[P0,sA,sZ,sS]
   refine zaa (i:=18) (v:=?_) rfl (by kernel_rfl) (by kernel_rfl) (by kernel_rfl) (fun _ _ _ h=>h) (by rfl) (by assumption) (fun w hw=>?_) ?_
   rotate_left
   ·(try dsimp only at hw);go_simp;try with_reducible rfl
   try simp only[P0,sA,sZ,sS]
   refine zaa (i:=19) (v:=?_) rfl (by kernel_rfl) (by kernel_rfl) (by kernel_rfl) (fun _ _ _ h=>h) (by rfl) (by assumption) (fun w hw=>?_) ?_
   rotate_left
   ·(try dsimp only at hw);go_simp;try with_reducible rfl
   try simp only[P0,sA,sZ,sS]
   refine zaa (i:=20) (v:=?_) rfl (by kernel_rfl) (by kernel_rfl) (by kernel_rfl) (fun _ _ _ h=>h) (by rfl) (by assumption) (fun w hw=>?_) ?_
   rotate_left
   ·(try dsimp only at hw);go_simp;try with_reducible rfl
   try simp only[P0,sA,sZ,sS]
   refine zaa (i:=21) (v:=?_) rfl (by kernel_rfl) (by kernel_rfl) (by kernel_rfl) (fun _ _ _ h=>h) (by rfl) (by assumption) (fun w hw=>?_) ?_
   rotate_left
   ·(try dsimp only at hw);go_simp;try with_reducible rfl
   try simp only[P0,sA,sZ,sS]
   refine zaa (i:=22) (v:=?_) rfl (by kernel_rfl) (by kernel_rfl) (by kernel_rfl) (fun _ _ _ h=>h) (by rfl) (by assumption) (fun w hw=>?_) ?_
   rotate_left
   ·(try dsimp only at hw);go_simp;try with_reducible rfl
   try simp only[P0,sA,sZ,sS]
   refine wpAnyH_done (by kernel_rfl) ?_ _;go_wp2_with fail
   go_roundw
   case rel=>exact ⟨i9+1,by omega,by have:=Ja.out;omega,by go_num,xD Kl.out⟩
   case measure=>simp[intOf];have:=Ja.out;omega):P:=h
theorem mcStCrasha1 {P:Prop} (h:P:=by
 obtain ⟨S0,GA,rfl,_,_⟩:=(OwnS.sgs Kt).open_
 dsimp only[P1,P2,mf0,P6]
 have KI:=zhd (xT HT.out (xT HO (xA (xR _) (.cells #[.int .i64 0,.int .i64 0,.int .i64 0,.int .i64 0,.int .i64 0,.slice S0 0 GA] 30))));clear H6 HO Kt;go_wp2_with fail
 refine (zbP _ (Hb.out.ext KI.out)).mono ?_
 rintro e wz ⟨rfl,Hh⟩;go_wp2_with fail;go_ret
 exact ⟨rfl,xT KI.out Hh⟩):P:=h
theorem mcStCrasha2 {P:Prop} (h:P:=by
 go_wp2_with fail
 refine (zbP _ (Hb.out.ext KK.out)).mono ?_
 rintro e wz ⟨rfl,Hh⟩;go_wp2_with fail;go_ret
 exact ⟨rfl,xT KK.out Hh⟩):P:=h
theorem Rt.crash {d:Dk} (h:Rt d) (hq:d.q=[]) {fuse:Int} (hf:0≤fuse):Rt ⟨d.fs,[],d.quota,fuse,false⟩:=by
 obtain ⟨h1,h2,h3,h4,h5⟩:=h
 refine ⟨h1,(fun o ho=>by cases ho),by simp,hf,?_⟩
 have e:Dk.now ⟨d.fs,[],d.quota,fuse,false⟩=d.now:=by unfold Dk.now;rw[hq]
 rw[e]
 exact h5
theorem zns (v:Value) (d:Dk) (m:Mf) (vs:Value) (fuse keep torn:Int) (w:World) (hS:StW w) (hD:DkV w v d) (JP:d.fuse≤9223372036854775807) (hG:Sgs w vs m.segs)
  (Gv:d.fs.length≤2000000) (Gw:d.q.length≤2000000) (GH:m.segs.length≤2000000) (Gu:fuse≤9223372036854775807) :
  Calls Tryz.prog 3 #[v,.agg #[.int .i64 m.next,.int .i64 m.term,.int .i64 m.vote,.int .i64 m.sq,.int .i64 m.sf,vs],.int .i64 fuse,.int .i64 keep,.int .i64 torn] w fun e w'=>e=.returned (.bool true)∧Ext w w':=by
 obtain ⟨vf,vq,rfl,hF,hQ⟩:=hD;obtain ⟨A,c,rfl,_,_⟩:=Fs.open_ hF;obtain ⟨B,e2,rfl,_,_⟩:=Qs.open_ hQ;obtain ⟨C,c2,rfl,_,_⟩:=hG.open_;obtain ⟨W0,Jd⟩:∃ W0,(w.alloc (.cells #[.slice A d.fs.length c,.slice B d.q.length e2,.int .i64 d.quota,.int .i64 d.fuse,.bool d.dead] 25)).alloc (.cells #[.int .i64 m.next,.int .i64 m.term,.int .i64 m.vote,.int .i64 m.sq,.int .i64 m.sf,.slice C m.segs.length c2] 30)=W0:=⟨_,rfl⟩
 have Jb:Ext w W0:=by rw[←Jd];exact xA (xA (xR _) _) _
 have JF:Blk W0 w.heap.size 25 #[.slice A d.fs.length c,.slice B d.q.length e2,.int .i64 d.quota,.int .i64 d.fuse,.bool d.dead]:=by rw[←Jd];exact (P3 w _ _).alloc _
 have JG:Blk W0 (w.heap.size+1) 30 #[.int .i64 m.next,.int .i64 m.term,.int .i64 m.vote,.int .i64 m.sq,.int .i64 m.sf,.slice C m.segs.length c2]:=by
  rw[←Jd]
  have:=P3 (w.alloc (.cells #[.slice A d.fs.length c,.slice B d.q.length e2,.int .i64 d.quota,.int .i64 d.fuse,.bool d.dead] 25)) 30 #[.int .i64 m.next,.int .i64 m.term,.int .i64 m.vote,.int .i64 m.sq,.int .i64 m.sf,.slice C m.segs.length c2]
  rw[xS] at this
  exact this
 have JN:DkV W0 (.agg #[.slice A d.fs.length c,.slice B d.q.length e2,.int .i64 d.quota,.int .i64 d.fuse,.bool d.dead]) d:=⟨_,_,rfl,hF.ext Jb,hQ.ext Jb⟩
 have key:=znQ _ d W0 JN Gv Gw;have H0:=zhd key;have Hb:=zhd hS;have J9:=zhd hF;have Gn:=zhd hQ;have KN:=zhd hG;have HD:=zhd JN;have Ha:=zhd JF;have Hr:=zhd JG;have HE:=zhd Jb;obtain ⟨g0,g1,g2,g3,g4⟩:=zac JF;obtain ⟨j0,j1,j2,j3,j4,j5⟩:=zan JG;clear hS hF hQ hG key Jb JN JF JG JP
 go_enter Tryz.func3,Tryz.ntmps3
 go_wp2_with fail;clear Jd
 refine H0.out.mono ?_
 rintro e w1 ⟨rfl,KT⟩;have Jm:=zhd (xT HE.out KT);have Js:=zhd KT;clear H0 g0 g1 g2 g3 g4 j0 j1 j2 j3 j4 j5;obtain ⟨g0,g1,g2,g3,g4⟩:=zac (Ha.out.ext KT);obtain ⟨j0,j1,j2,j3,j4,j5⟩:=zan (Hr.out.ext KT);clear KT
 rcases hg:zcq d with _ | _
 case true =>
  go_wp2_with fail
  refine (zbP _ (Hb.out.ext Jm.out)).mono ?_
  rintro e wz ⟨rfl,Hh⟩;go_wp2_with fail;go_ret
  exact ⟨rfl,xT Jm.out Hh⟩
 obtain ⟨m1,m2,m3,m4⟩:=zmu hg;have GI:=zdP d;have key:=zjZ _ d w1 (HD.out.ext Js.out) (by omega) (by omega) (by omega);have H0:=zhd key;clear hg key;go_wp2_with fail
 refine H0.out.mono ?_
 rintro e w2 ⟨rfl,JC⟩;have KK:=zhd (xT Jm.out JC);have J8:=zhd (xT Js.out JC);clear H0 g0 g1 g2 g3 g4 j0 j1 j2 j3 j4 j5 JC;obtain ⟨g0,g1,g2,g3,g4⟩:=zac (Ha.out.ext J8.out);obtain ⟨j0,j1,j2,j3,j4,j5⟩:=zan (Hr.out.ext J8.out)
 rcases hr:d.right with _ | _
 case false =>
  exact mcStCrasha2
 have Gp:=zhd ((zij d).1 hr);clear hr
 rcases hdd:d.dead with _ | _
 case true =>
  rw[hdd] at g4;clear hdd
  exact mcStCrasha2
 rw[hdd] at g4;have Gl:=zhd hdd;clear hdd
 by_cases hq0:d.q=[]
 case neg =>
  have GO:(0:Int)<(d.q.length:Int):=by have:=List.length_pos_iff.2 hq0;omega
  exact mcStCrasha2
 rw[hq0,P6] at g1;have Jv:=zhd hq0;clear hq0;have key:=zk0 m _ w2 (KN.out.ext KK.out)
 rcases hc:zax m with _ | _
 case false =>
  rw[hc,if_neg (by decide)] at key;have H0:=zhd key;clear key hc;go_wp2_with fail
  refine H0.out.mono ?_
  rintro e w3 ⟨rfl,Km⟩;have Kj:=zhd (xT KK.out Km);clear H0 g0 g1 g2 g3 g4 j0 j1 j2 j3 j4 j5 Km;go_wp2_with fail
  refine (zbP _ (Hb.out.ext Kj.out)).mono ?_
  rintro e wz ⟨rfl,Hh⟩;go_wp2_with fail;go_ret
  exact ⟨rfl,xT Kj.out Hh⟩
 rw[hc,if_pos rfl] at key;have H0:=zhd key;have HC:=zhd hc;clear key hc;go_wp2_with fail
 refine H0.out.mono ?_
 rintro e w3 ⟨rfl,Km⟩;have Kj:=zhd (xT KK.out Km);have Jt:=zhd (xT J8.out Km);clear H0 g0 g1 g2 g3 g4 j0 j1 j2 j3 j4 j5 Km
 by_cases hf0:fuse<0
 case pos =>
  go_wp2_with fail
  refine (zbP _ (Hb.out.ext Kj.out)).mono ?_
  rintro e wz ⟨rfl,Hh⟩;go_wp2_with fail;go_ret
  exact ⟨rfl,xT Kj.out Hh⟩
 have Je:=Ha.out.ext Jt.out;have G8:=Hr.out.ext Jt.out;obtain ⟨g0,g1,g2,g3,g4⟩:=zac Je;obtain ⟨f0,f1,f2,f3,f4⟩:=za4 Je
 have HS:Blk (w3.setCell ⟨w.heap.size,3,none⟩ (.int .i64 fuse)) w.heap.size 25 #[.slice A d.fs.length c,.slice B 0 e2,.int .i64 d.quota,.int .i64 fuse,.bool false]:=by
  have:=Je.set 3 (.int .i64 fuse)
  rw[Jv.out,Gl.out] at this
  exact this
 have JI:=G8.other (by omega:w.heap.size+1≠w.heap.size) 3 (.int .i64 fuse)
 have Ko:Ext w (w3.setCell ⟨w.heap.size,3,none⟩ (.int .i64 fuse)):=Below.setCell (p:=⟨w.heap.size,3,none⟩) Kj.out (xN _) _
 have Gh:Qs (w3.setCell ⟨w.heap.size,3,none⟩ (.int .i64 fuse)) (.slice B 0 e2) []:=by
  have h:=Gn.out.ext Ko;rw[Jv.out] at h
  exact h
 have Gb:DkV (w3.setCell ⟨w.heap.size,3,none⟩ (.int .i64 fuse)) (.agg #[.slice A d.fs.length c,.slice B 0 e2,.int .i64 d.quota,.int .i64 fuse,.bool false]) ⟨d.fs,[],d.quota,fuse,false⟩:=⟨_,_,rfl,J9.out.ext Ko,Gh⟩
 have J4:=Gp.out.crash Jv.out (fuse:=fuse) (by omega);obtain ⟨b,hb⟩:=zrz HC.out;have GE:=zkr hb;have GF:=zk9 HC.out;have GP:=zfl HC.out
 have JV:Sy 30 30000 ⟨d.fs,[],d.quota,fuse,false⟩:=⟨by simpa using m1,by show tot d.fs+0≤30000;omega,Gu⟩
 have Ks:=KN.out.ext Ko;obtain ⟨s0,s1,s2,s3,s4⟩:=zac HS;obtain ⟨j0,j1,j2,j3,j4,j5⟩:=zan JI
 have key:=zhT _ ⟨d.fs,[],d.quota,fuse,false⟩ 90000 m _ _ (Hb.out.ext Ko) Gb (JV.sz (by omega) (by omega)) (by omega) Ks (by omega) (by omega) (fun b' h=>by have:=zkr h;omega)
 have H0:=zhd key;have Kx:=zhd HS;have KB:=zhd JI;have G1:=zhd Ko;have Jw:=zhd J4;have Gq:=zhd JV;have HB:=zhd hb;clear Je G8 HS JI Ko Gh Gb J4 JV hb Ks Ha Hr Js J8 Jt key;go_wp2_with fail;clear s0 s1 s2 s3 s4 g0 g1 g2 g3 g4 f0 f1 f2 f3 f4 j0 j1 j2 j3 j4 j5
 generalize w3.setCell ⟨w.heap.size,3,none⟩ (.int .i64 fuse)=w4 at *
 refine H0.out.mono ?_
 rintro e w5 ⟨u,rfl,ho,JD⟩;have Hj:=Gq.out.swap b (zaD (zaO m));rw[←znc HB.out] at Hj;obtain ⟨Jh,Kq⟩:=znC Jw.out rfl HB.out keep torn;obtain ⟨⟨o,pe⟩,hP⟩:∃ r,zd5 ⟨d.fs,[],d.quota,fuse,false⟩ m=r:=⟨_,rfl⟩;rw[hP] at ho Hj Jh Kq;rw[hP]
 dsimp only at ho Hj Jh Kq ⊢
 obtain ⟨A4,c4,B4,e4,rfl,Ge,Gf⟩:=ho
 have KY:Ext w5 (w5.alloc (.cells #[.slice A4 o.fs.length c4,.slice B4 o.q.length e4,.int .i64 o.quota,.int .i64 o.fuse,.bool o.dead] 25)):=xA (xR _) _
 have Kp:=P3 w5 25 #[.slice A4 o.fs.length c4,.slice B4 o.q.length e4,.int .i64 o.quota,.int .i64 o.fuse,.bool o.dead]
 have Gd:DkV (w5.alloc (.cells #[.slice A4 o.fs.length c4,.slice B4 o.q.length e4,.int .i64 o.quota,.int .i64 o.fuse,.bool o.dead] 25)) (.agg #[.slice A4 o.fs.length c4,.slice B4 o.q.length e4,.int .i64 o.quota,.int .i64 o.fuse,.bool o.dead]) o:=⟨_,_,rfl,(OwnF.fs Ge).ext KY,(OwnQ.qs Gf).ext KY⟩
 have key:=zoU _ o keep torn _ Gd ((zij o).2 Jh) (by have:=Hj.l;omega) (by have:=Hj.t;omega);have Ga:=Hj.crash keep torn;have H6:=zhd key;have G0:=zhd (xT G1.out (xT JD KY));have Ju:=zhd (xT JD KY);have JZ:=zhd Kq;clear H0 JD Ge Gf hP KY Hj Gd Jh Kq key;obtain ⟨o0,o1,o2,o3,o4⟩:=zac Kp;clear Kp;go_wp2_with fail
 refine H6.out.mono ?_
 rintro e w6 ⟨⟨u6,rfl,Gc⟩,Jc⟩;obtain ⟨L,hL⟩:∃ L,zba o.fs (zbw o.q keep torn)=L:=⟨_,rfl⟩;rw[hL] at Gc Ga;have K9:=JZ;rw[hL] at K9;obtain ⟨JJ,JK⟩:=Ga;obtain ⟨vL,vQ,rfl,Jg,JU⟩:=Gc
 dsimp only at Jg JU ⊢
 obtain ⟨AL,cL,rfl,_,_⟩:=Fs.open_ Jg;obtain ⟨BL,eL,rfl,_,_⟩:=Qs.open_ JU
 dsimp only[P6]
 have KZ:Ext w6 (w6.alloc (.cells #[.slice AL L.length cL,.slice BL 0 eL,.int .i64 o.quota,.int .i64 0,.bool false] 25)):=xA (xR _) _
 have K1:=P3 w6 25 #[.slice AL L.length cL,.slice BL 0 eL,.int .i64 o.quota,.int .i64 0,.bool false];have Hs:=zhd K1;have Ha:=zhd (Kx.out.ext (xT Ju.out (xT Jc KZ)));have Hr:=zhd (KB.out.ext (xT Ju.out (xT Jc KZ)));have Jo:=zhd (xT G0.out (xT Jc KZ));have HQ:=zhd (Jg.ext KZ);obtain ⟨cb,G9⟩:∃ cb,w6.heap.size=cb:=⟨_,rfl⟩;rw[G9] at Hs;clear H6 o0 o1 o2 o3 o4 Jc K1 Jg JU KZ hL JZ G1 Ju Kx KB G0;obtain ⟨g0,g1,g2,g3,g4⟩:=zac Ha.out;obtain ⟨c0,c1,Jx,c3,Jy⟩:=zac Hs.out;obtain ⟨j0,j1,j2,j3,j4,j5⟩:=zan Hr.out;have key:=zl8 m _ _ (KN.out.ext Jo.out);rw[HB.out] at key;have H0:=zhd key;clear key;go_wp2_with fail;clear G9
 refine H0.out.mono ?_
 rintro e w8 ⟨⟨vb,rfl,Kp⟩,Kn⟩
 dsimp only[P1,P2] at Kp ⊢
 have HS:Bs w8 vb b:=xW Kp
 obtain ⟨Ab,GD,rfl,_,_⟩:=xO HS;have JY:=zhd HS;have K3:=zhd (Ha.out.ext Kn);have Ky:=zhd (Hr.out.ext Kn);have KD:=zhd (Hs.out.ext Kn);have KF:=zhd (HQ.out.ext Kn);have J6:=zhd (xT Jo.out Kn);clear H0 Kn Kp HS g0 g1 g2 g3 g4 c0 c1 Jx c3 Jy j0 j1 j2 j3 j4 j5 Ha Hr Hs HQ Jo;obtain ⟨g0,g1,g2,g3,g4⟩:=zac K3.out
 have Hi:=zlc _ d.fs _ (Hb.out.ext J6.out) (J9.out.ext J6.out) (by omega) (fun f hf=>by have:=zcy hf;omega)
 obtain ⟨Wn,KX⟩:∃ x,zao d.fs (some [77])=x:=⟨_,rfl⟩;rw[KX] at Hi
 have KP:=zhd (show ∀ x,Wn=some x→x.length≤100000 from fun x hx=>by
  rcases zeo d.fs (some [77]) with ⟨_,h⟩ | ⟨k,hk,_,h⟩
  ·rw[KX,hx] at h;cases h
  ·rw[KX,hx] at h
   have h2:=zcy (List.getElem_mem hk);rw[←Option.some.inj h] at h2
   omega)
 have HL:=zhd Hi;clear Hi;go_wp2_with fail
 refine HL.out.mono ?_
 rintro e w9 ⟨rfl,Hg⟩;have KC:=zhd (JY.out.ext Hg);have Kv:=zhd (K3.out.ext Hg);have Kz:=zhd (Ky.out.ext Hg);have K7:=zhd (KD.out.ext Hg);have K8:=zhd (KF.out.ext Hg);have Jp:=zhd (xT J6.out Hg);clear HL Hg g0 g1 g2 g3 g4 K3 Ky KD KF J6 JY;obtain ⟨c0,c1,Jx,c3,Jy⟩:=zac K7.out
 have Hi:=zlc _ L _ (Hb.out.ext Jp.out) K8.out (by omega) (fun f hf=>by have:=zcy hf;omega)
 obtain ⟨Nn,G6⟩:∃ x,zao L (some [77])=x:=⟨_,rfl⟩;have Kq:=K9.out;obtain ⟨Jz,HN,Hl,HM,H7,H8⟩:=Kq;rw[G6] at Hi Jz HN Hl HM H7 H8
 try dsimp only at HN H7 H8 Hl
 rw[KX] at HN H7 H8;have HL:=zhd Hi;have Jl:=zhd Jz;have K2:=zhd HN;have Ht:=zhd Hl;have Hu:=zhd HM;have Hv:=zhd H7;have Hw:=zhd H8;clear Hi Jz HN Hl HM H7 H8 G6 KX;go_wp2_with fail
 refine HL.out.mono ?_
 rintro e JX ⟨rfl,Hf⟩;have HS:=KC.out.ext Hf;have Hm:=zhd (Kv.out.ext Hf);have Hc:=zhd (Kz.out.ext Hf);have Hn:=zhd (K7.out.ext Hf);have Ho:=zhd (K8.out.ext Hf);have H5:=zhd (xT Jp.out Hf);have JM:=za7 (P:=Tryz.prog) JX 38 9 5 Tryz.underlying38 Tryz.underlying5 Tryz.underlying9 (HS);clear HL Hf HS c0 c1 Jx c3 Jy Kv Kz K7 K8 Jp KC K9;obtain ⟨j0,j1,j2,j3,j4,j5⟩:=zan Hc.out
 by_cases hfr:Nn=some b
 case pos =>
  subst hfr;have HZ:=zhd (Ht.out rfl);have KQ:=zhd (Hu.out rfl);clear Jl K2 Ht Hu Hv Hw
  generalize Wn.isSome=wb
  generalize Wn.getD []=wg
  dsimp only[P1,P2]
  unfold sv;have key:=zjl m _ JX (KN.out.ext H5.out) (by omega);have H0:=zhd key;clear key
  rcases wb with _ | _
  all_goals
   go_wp2_with fail
  all_goals
   refine H0.out.mono ?_
   rintro e wk ⟨vk,rfl,hk,H1⟩;have JT:=zmA m;obtain ⟨Ak,ck,rfl,_,_⟩:=xO (xW hk)
   have HK:=zhd (show SlR wk 3 (.slice Ak (zaO m).length ck) (zaO m).length (idCells (zaO m)) from xW hk)
   have Ha:=zhd (Hm.out.ext H1);have Hr:=zhd (Hc.out.ext H1);have Hs:=zhd (Hn.out.ext H1);have HQ:=zhd (Ho.out.ext H1);have Kd:=zhd (xT H5.out H1);have Kc:=zhd (J9.out.ext Kd.out);clear H0 hk H1 j0 j1 j2 j3 j4 j5 JM Hm Hc Hn Ho H5;go_wp2_with fail;have G2:=HZ;clear HZ
   generalize zaO m=km at *
   go_loopw [25] (fun i wr=>∃ i9:Nat,1≤i9∧i9≤km.length∧i=.int .i64 i9∧Hid (Ext wk wr)) (fun i _=>km.length-(intOf i).toNat)
   case atStart=>exact ⟨1,xN _,JT,rfl,xR _⟩
   case round =>
    obtain ⟨i9,JQ,JR,rfl,HX⟩:=hrel
    by_cases hlt:i9<km.length
    case pos =>
     exact mcStCrasha0
    case neg =>
     obtain rfl:i9=km.length:=by omega
     have Hd:=zhd (xT Kd.out HX.out);have Ke:=zhd (Hr.out.ext HX.out);have Hz:=zhd (Ha.out.ext HX.out);have HF:=zhd (Hs.out.ext HX.out);have HI:=zhd (Kc.out.ext HX.out);obtain ⟨c0,_,_,_,_⟩:=zac HF.out
     have key:=ze0 _ L _ (Hb.out.ext Hd.out) (HQ.out.ext HX.out) (by omega) (fun f hf=>by have:=zcy hf;omega)
     have H0:=zhd key;clear key HX Ha Hs Kc HQ HK;go_wp2_with fail
     refine H0.out.mono ?_
     obtain ⟨⟨er,t,tm⟩,hR⟩:∃ r,zbB L=r:=⟨_,rfl⟩;rw[hR];rintro e HY ⟨vl,vg,rfl,HV,Kh,H2⟩
     dsimp only at HV Kh ⊢
     obtain ⟨Al,lc,rfl,_,_⟩:=xO HV;obtain ⟨Ag,gc,rfl,_,_⟩:=Sgs.open_ Kh
     have Hq:Ext HY ((HY.alloc (.cells #[.int .i64 t.s.idx,.int .i64 t.s.term,.int .i64 t.s.sum,.int .i64 t.s.lvl,.bool t.s.fin,.slice Al t.log.length lc,.int .i64 t.term,.int .i64 t.vote] 56)).alloc (.cells #[.int .i64 tm.next,.int .i64 tm.term,.int .i64 tm.vote,.int .i64 tm.sq,.int .i64 tm.sf,.slice Ag tm.segs.length gc] 30)):=xA (xA (xR _) _) _
     have pT:=zhd ((P3 HY 56 #[.int .i64 t.s.idx,.int .i64 t.s.term,.int .i64 t.s.sum,.int .i64 t.s.lvl,.bool t.s.fin,.slice Al t.log.length lc,.int .i64 t.term,.int .i64 t.vote]).alloc (.cells #[.int .i64 tm.next,.int .i64 tm.term,.int .i64 tm.vote,.int .i64 tm.sq,.int .i64 tm.sf,.slice Ag tm.segs.length gc] 30));have Kg:=P3 (HY.alloc (.cells #[.int .i64 t.s.idx,.int .i64 t.s.term,.int .i64 t.s.sum,.int .i64 t.s.lvl,.bool t.s.fin,.slice Al t.log.length lc,.int .i64 t.term,.int .i64 t.vote] 56)) 30 #[.int .i64 tm.next,.int .i64 tm.term,.int .i64 tm.vote,.int .i64 tm.sq,.int .i64 tm.sf,.slice Ag tm.segs.length gc];rw[xS] at Kg;have pM:=zhd Kg;have He:=zhd (xT Hd.out (xT H2 Hq));have K4:=zhd (Hz.out.ext (xT H2 Hq));have Kb:=zhd (HI.out.ext (xT H2 Hq));have KO:=zhd (Ke.out.ext (xT H2 Hq));have J7:=zhd (Es.ext HV Hq);have HR:=zhd hR;clear H0 H2 Hq Kg HV Kh hR Hd Hz HF HI c0;obtain ⟨t0,t1,t2,t3,t4,t5,t6,t7⟩:=zbW pT.out
     by_cases her:er=0
     case neg =>
      have JO:(er != 0)=true:=by simpa using her
      clear her;go_wp2_with fail
      refine (zbP _ (Hb.out.ext He.out)).mono ?_
      rintro e wz ⟨rfl,Hh⟩;go_wp2_with fail;go_ret
      exact ⟨rfl,xT He.out Hh⟩
     have JO:(er != 0)=false:=by simpa using her
     subst her;obtain ⟨Gi,Gj,Gk⟩:=KQ.out _ _ HR.out;have key:=zo1 t _ _ J7.out;rw[Gi] at key;have H0:=zhd key;have Gr:=zhd Gj;have Gs:=zhd Gk;clear key Gi Gj Gk;go_wp2_with fail
     refine H0.out.mono ?_
     rintro e J5 ⟨rfl,H4⟩;have KL:=zhd (xT He.out H4);clear H0 t0 t1 t2 t3 t4 t5 t6 t7;obtain ⟨t0,t1,t2,t3,t4,t5,t6,t7⟩:=zbW (pT.out.ext H4);obtain ⟨j0,j1,j2,j3,j4,j5⟩:=zan (KO.out.ext H4);rw[Gr.out] at t6;rw[Gs.out] at t7;clear H4;go_wp2_with fail
     refine (zbP _ (Hb.out.ext KL.out)).mono ?_
     rintro e wz ⟨rfl,Hh⟩;go_wp2_with fail;go_ret
     exact ⟨rfl,xT KL.out Hh⟩
 case neg =>
  obtain rfl:=K2.out hfr
  have GL:(pe==0)=false:=by
   have h:=Jl.out
   by_cases e:pe=0
   ·exact absurd (h e) hfr
   ·simpa using e
  have Hk:=zhd (Hv.out hfr);have H3:=zhd (Hw.out hfr);clear Jl K2 Ht Hu Hv Hw;have key:=zjl m _ JX (KN.out.ext H5.out) (by omega);have H0:=zhd key;clear key
  cases Nn with
  | none =>
   have HP:([]:List UInt8).length≤100000:=by decide
   dsimp only[P1,P2] at Hk H3 ⊢
   unfold sv;go_wp2_with fail
   refine H0.out.mono ?_
   rintro e H9 ⟨GB,rfl,_,H1⟩;have Hx:=zhd (Hm.out.ext H1);have Hy:=zhd (Hc.out.ext H1);have HA:=zhd (Hn.out.ext H1);have HG:=zhd (Ho.out.ext H1);have HJ:=zhd (xT H5.out H1)
   have JL:(convert 9 38 (.string ⟨([]:List UInt8).toArray⟩)).run Tryz.prog H9=.ok (.slice (some ⟨H9.heap.size,0,none⟩) ([]:List UInt8).length (grownCap H9 ([]:List UInt8).length 0 5)) (P4 H9 5 ⟨([]:List UInt8).toArray⟩):=by
    have h:=P5 (P:=Tryz.prog) H9 9 38 5 ⟨([]:List UInt8).toArray⟩ Tryz.underlying9 Tryz.underlying38 Tryz.underlying5
    rw[show (⟨([]:List UInt8).toArray⟩:ByteArray).size=([]:List UInt8).length from by show ([]:List UInt8).toArray.size=_;simp] at h
    exact h
   have K1:=zow H9 ([]:List UInt8) (by have:=HP;omega);have Hp:=zmp H9 ([]:List UInt8);have key:=zk4 _ ([]:List UInt8) _ K1 (by have:=HP;omega);obtain ⟨R,Kf⟩:∃ R,zbe ([]:List UInt8)=R:=⟨_,rfl⟩;rw[Kf] at key;have H6:=zhd key;have Kk:=zhd Kf;have K5:=zhd (Hx.out.ext Hp);have K6:=zhd (Hy.out.ext Hp);have Ka:=zhd (HA.out.ext Hp);have HH:=zhd (HG.out.ext Hp);have HT:=zhd (xT HJ.out Hp)
   generalize P4 H9 5 ⟨([]:List UInt8).toArray⟩=w12 at *
   clear key Kf H1 Hp K1 j0 j1 j2 j3 j4 j5 JM Hm Hc Hn Ho H5 H0 Hx Hy HA HG HJ;go_wp2_with fail
   refine H6.out.mono ?_
   rintro e Ji ⟨vm,rfl,Kt,HO⟩
   obtain rfl:R=none:=by rw[←Kk.out];exact zji (by show (0:Nat)<4;decide)
   exact mcStCrasha1
  | some nb =>
   have Gy:(nb==b)=false:=by
    have:¬ nb=b:=fun e=>hfr (congrArg some e)
    simpa using this
   have HP:nb.length≤100000:=KP.out nb rfl
   dsimp only[P1,P2] at Hk H3 ⊢
   unfold sv;go_wp2_with fail
   refine H0.out.mono ?_
   rintro e H9 ⟨GB,rfl,_,H1⟩;have Hx:=zhd (Hm.out.ext H1);have Hy:=zhd (Hc.out.ext H1);have HA:=zhd (Hn.out.ext H1);have HG:=zhd (Ho.out.ext H1);have HJ:=zhd (xT H5.out H1)
   have JL:(convert 9 38 (.string ⟨nb.toArray⟩)).run Tryz.prog H9=.ok (.slice (some ⟨H9.heap.size,0,none⟩) nb.length (grownCap H9 nb.length 0 5)) (P4 H9 5 ⟨nb.toArray⟩):=by
    have h:=P5 (P:=Tryz.prog) H9 9 38 5 ⟨nb.toArray⟩ Tryz.underlying9 Tryz.underlying38 Tryz.underlying5
    rw[show (⟨nb.toArray⟩:ByteArray).size=nb.length from by show nb.toArray.size=_;simp] at h
    exact h
   have K1:=zow H9 nb (by have:=HP;omega);have Hp:=zmp H9 nb;have key:=zk4 _ nb _ K1 (by have:=HP;omega);obtain ⟨R,Kf⟩:∃ R,zbe nb=R:=⟨_,rfl⟩;rw[Kf] at key;have H6:=zhd key;have Kk:=zhd Kf;have K5:=zhd (Hx.out.ext Hp);have K6:=zhd (Hy.out.ext Hp);have Ka:=zhd (HA.out.ext Hp);have HH:=zhd (HG.out.ext Hp);have HT:=zhd (xT HJ.out Hp)
   generalize P4 H9 5 ⟨nb.toArray⟩=w12 at *
   clear key Kf H1 Hp K1 j0 j1 j2 j3 j4 j5 JM Hm Hc Hn Ho H5 H0 Hx Hy HA HG HJ;go_wp2_with fail
   refine H6.out.mono ?_
   rintro e Ji ⟨vm,rfl,Kt,HO⟩
   cases R with
   | none =>
    exact mcStCrasha1
   | some n =>
    dsimp only[P1,P2] at Kt ⊢
    have Ks:=OwnS.sgs Kt;obtain ⟨S,sc,rfl,_,_⟩:=Ks.open_
    have JE:Ext Ji (Ji.alloc (.cells #[.int .i64 n.next,.int .i64 n.term,.int .i64 n.vote,.int .i64 n.sq,.int .i64 n.sf,.slice S n.segs.length sc] 30)):=xA (xR _) _
    have G7:=P3 Ji 30 #[.int .i64 n.next,.int .i64 n.term,.int .i64 n.vote,.int .i64 n.sq,.int .i64 n.sf,.slice S n.segs.length sc];have hx:=xT HO JE;have GG:=zk9 (zd1 Kk.out).1;have GQ:=zfl (zd1 Kk.out).1;have key:=zjl n _ _ (Ks.ext JE) (by omega);have Kw:=zhd (K5.out.ext hx);have KA:=zhd (K6.out.ext hx);have KE:=zhd (Ka.out.ext hx);have KH:=zhd (HH.out.ext hx);have KJ:=zhd (xT HT.out hx);have K0:=zhd (Hk.out n Kk.out);have KR:=zhd (H3.out n Kk.out);obtain ⟨j0,j1,j2,j3,j4,j5⟩:=zan G7;have H0:=zhd key;clear key Kt Ks JE G7 hx HO H6 K5 K6 Ka HH HT Hk H3;go_wp2_with fail
    refine H0.out.mono ?_
    rintro e wk ⟨vk,rfl,hk,H1⟩;have JT:=zmA n;obtain ⟨Ak,ck,rfl,_,_⟩:=xO (xW hk)
    have HK:=zhd (show SlR wk 3 (.slice Ak (zaO n).length ck) (zaO n).length (idCells (zaO n)) from xW hk)
    have Ha:=zhd (Kw.out.ext H1);have Hr:=zhd (KA.out.ext H1);have Hs:=zhd (KE.out.ext H1);have HQ:=zhd (KH.out.ext H1);have Kd:=zhd (xT KJ.out H1);have Kc:=zhd (J9.out.ext Kd.out);clear H0 hk H1 j0 j1 j2 j3 j4 j5 Kw KA KE KH KJ;go_wp2_with fail;have G2:=K0;clear K0
    generalize zaO n=km at *
    go_loopw [25] (fun i wr=>∃ i9:Nat,1≤i9∧i9≤km.length∧i=.int .i64 i9∧Hid (Ext wk wr)) (fun i _=>km.length-(intOf i).toNat)
    case atStart=>exact ⟨1,xN _,JT,rfl,xR _⟩
    case round =>
     obtain ⟨i9,JQ,JR,rfl,HX⟩:=hrel
     by_cases hlt:i9<km.length
     case pos =>
      exact mcStCrasha0
     case neg =>
      obtain rfl:i9=km.length:=by omega
      have Hd:=zhd (xT Kd.out HX.out);have Ke:=zhd (Hr.out.ext HX.out);have Hz:=zhd (Ha.out.ext HX.out);have HF:=zhd (Hs.out.ext HX.out);have HI:=zhd (Kc.out.ext HX.out);obtain ⟨c0,_,_,_,_⟩:=zac HF.out
      have key:=ze0 _ L _ (Hb.out.ext Hd.out) (HQ.out.ext HX.out) (by omega) (fun f hf=>by have:=zcy hf;omega)
      have H0:=zhd key;clear key HX Ha Hs Kc HQ HK;go_wp2_with fail
      refine H0.out.mono ?_
      obtain ⟨⟨er,t,tm⟩,hR⟩:∃ r,zbB L=r:=⟨_,rfl⟩;rw[hR];rintro e HY ⟨vl,vg,rfl,HV,Kh,H2⟩
      dsimp only at HV Kh ⊢
      obtain ⟨Al,lc,rfl,_,_⟩:=xO HV;obtain ⟨Ag,gc,rfl,_,_⟩:=Sgs.open_ Kh
      have Hq:Ext HY ((HY.alloc (.cells #[.int .i64 t.s.idx,.int .i64 t.s.term,.int .i64 t.s.sum,.int .i64 t.s.lvl,.bool t.s.fin,.slice Al t.log.length lc,.int .i64 t.term,.int .i64 t.vote] 56)).alloc (.cells #[.int .i64 tm.next,.int .i64 tm.term,.int .i64 tm.vote,.int .i64 tm.sq,.int .i64 tm.sf,.slice Ag tm.segs.length gc] 30)):=xA (xA (xR _) _) _
      have pT:=zhd ((P3 HY 56 #[.int .i64 t.s.idx,.int .i64 t.s.term,.int .i64 t.s.sum,.int .i64 t.s.lvl,.bool t.s.fin,.slice Al t.log.length lc,.int .i64 t.term,.int .i64 t.vote]).alloc (.cells #[.int .i64 tm.next,.int .i64 tm.term,.int .i64 tm.vote,.int .i64 tm.sq,.int .i64 tm.sf,.slice Ag tm.segs.length gc] 30));have Kg:=P3 (HY.alloc (.cells #[.int .i64 t.s.idx,.int .i64 t.s.term,.int .i64 t.s.sum,.int .i64 t.s.lvl,.bool t.s.fin,.slice Al t.log.length lc,.int .i64 t.term,.int .i64 t.vote] 56)) 30 #[.int .i64 tm.next,.int .i64 tm.term,.int .i64 tm.vote,.int .i64 tm.sq,.int .i64 tm.sf,.slice Ag tm.segs.length gc];rw[xS] at Kg;have pM:=zhd Kg;have He:=zhd (xT Hd.out (xT H2 Hq));have K4:=zhd (Hz.out.ext (xT H2 Hq));have Kb:=zhd (HI.out.ext (xT H2 Hq));have KO:=zhd (Ke.out.ext (xT H2 Hq));have J7:=zhd (Es.ext HV Hq);have HR:=zhd hR;clear H0 H2 Hq Kg HV Kh hR Hd Hz HF HI c0
      have key:=ze0 _ d.fs _ (Hb.out.ext He.out) Kb.out (by omega) (fun f hf=>by have:=zcy hf;omega)
      rw[←KR.out,HR.out] at key;have H0:=zhd key;clear key;obtain ⟨g0,_,_,_,_⟩:=zac K4.out;go_wp2_with fail
      refine H0.out.mono ?_
      rintro e J5 ⟨GS,GR,rfl,HW,Ki,H4⟩
      dsimp only at HW Ki ⊢
      obtain ⟨Jk,JW,rfl,_,_⟩:=xO HW;obtain ⟨Jj,JA,rfl,_,_⟩:=Sgs.open_ Ki
      have J0:Ext J5 ((J5.alloc (.cells #[.int .i64 t.s.idx,.int .i64 t.s.term,.int .i64 t.s.sum,.int .i64 t.s.lvl,.bool t.s.fin,.slice Jk t.log.length JW,.int .i64 t.term,.int .i64 t.vote] 56)).alloc (.cells #[.int .i64 tm.next,.int .i64 tm.term,.int .i64 tm.vote,.int .i64 tm.sq,.int .i64 tm.sf,.slice Jj tm.segs.length JA] 30)):=xA (xA (xR _) _) _
      have qT:=zhd ((P3 J5 56 #[.int .i64 t.s.idx,.int .i64 t.s.term,.int .i64 t.s.sum,.int .i64 t.s.lvl,.bool t.s.fin,.slice Jk t.log.length JW,.int .i64 t.term,.int .i64 t.vote]).alloc (.cells #[.int .i64 tm.next,.int .i64 tm.term,.int .i64 tm.vote,.int .i64 tm.sq,.int .i64 tm.sf,.slice Jj tm.segs.length JA] 30));have JH:=P3 (J5.alloc (.cells #[.int .i64 t.s.idx,.int .i64 t.s.term,.int .i64 t.s.sum,.int .i64 t.s.lvl,.bool t.s.fin,.slice Jk t.log.length JW,.int .i64 t.term,.int .i64 t.vote] 56)) 30 #[.int .i64 tm.next,.int .i64 tm.term,.int .i64 tm.vote,.int .i64 tm.sq,.int .i64 tm.sf,.slice Jj tm.segs.length JA];rw[xS] at JH;have qM:=zhd JH;have Jn:=zhd (xT He.out (xT H4 J0));have Jq:=zhd (Es.ext J7.out (xT H4 J0));have Jr:=zhd (Es.ext HW J0);have Gz:=zhd (pT.out.ext (xT H4 J0));clear H0 H4 J0 JH HW Ki He K4 Kb J7 pT g0;obtain ⟨t0,t1,t2,t3,t4,t5,t6,t7⟩:=zbW Gz.out;obtain ⟨k0,k1,k2,k3,k4,k5,k6,k7⟩:=zbW qT.out;have key:=zqr t t _ _ _ Jq.out Jr.out;rw[zpP] at key;have H0:=zhd key;clear key;go_wp2_with fail
      refine H0.out.mono ?_
      rintro e GT ⟨rfl,KU⟩;have KM:=zhd (xT Jn.out KU);clear H0 KU t0 t1 t2 t3 t4 t5 t6 t7 k0 k1 k2 k3 k4 k5 k6 k7;go_wp2_with fail
      refine (zbP _ (Hb.out.ext KM.out)).mono ?_
      rintro e wz ⟨rfl,Hh⟩;go_wp2_with fail;go_ret
      exact ⟨rfl,xT KM.out Hh⟩
end Go.Proofs.YtgonhdeochgkoaaGreatDoor
