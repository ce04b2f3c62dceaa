/- Merged -/
import Derived.Test.YteggfecbjgbndaaGreatDoorZy21
import Derived.Defers
import Derived.Recover
set_option linter.all false
set_option maxHeartbeats 8000000
set_option maxRecDepth 100000
open Go.Proofs.Tryz
open List renaming length->N
open Go.Value renaming int->B,slice->D,pointer->J,agg->M
open Go.IntKind renaming i64->C,u8->L
open Go.Obj renaming cells->E
open Go.Proofs.Tryz renaming prog->F
open Go.Mv renaming aN->G
open Option renaming none->H,some->I
open Go.RowKit.Below renaming heap_setCell->P0,setCell->P1
open Go.Mv.Blk renaming new->P2
open Array renaming replicate->P3
open List renaming getElem?_eq_getElem->P4,getElem?_append_right->P5,getElem?_append_left->P6,take_length->P7
open Bool renaming false_eq_true->P8,and_eq_true->P9,or_eq_true->Pa
namespace Go.Proofs.YteggfecbjgbndaaGreatDoor
open Go.RowKit Go.Mv
variable {fs:List Fil} {xs:List Value} {P:Prop} {W:World}
theorem mcSt1a0(h:P:=by
 have Ht:(r.err==0)=true:=by simpa using he
 have K0:((r.first:Int)==s.first)=true:=by simpa using hf
 have He:=G he;have Hf:=G hf;clear he hf;go_wp2_with fail
 with_reducible refine(iK _ _).mono ?_
 rintro e6 w6⟨rfl,rfl⟩;cases hcb:dU r.log.length s.count with
 |true=>
  obtain rfl:none=R:=by rw[<-HR.out,if_pos (by unfold eZ;simp[hcb])]
  have Hi:(((r.log.length:Nat):Int)==s.count)=false:=by
   unfold dU at hcb;simp only[Pa,P9,decide_eq_true_eq]at hcb;simp;omega
  by_cases c1:s.count = -1
  ·have K9:(s.count == -1)=true:=by simpa using c1
   have HH:r.log.length<1\/4<r.log.length:=by
    unfold dU at hcb;simp only[Pa,P9,decide_eq_true_eq]at hcb;omega
   clear c1;by_cases n1:r.log.length<1
   ·have Ke:¬((1:Int)<=(r.log.length:Int)):=by omega
    clear n1 HH;go_wp2_with fail
    try rw[decide_eq_false (show ¬((r.log.length:Int)<=4) by omega)]
    with_reducible refine(fG _ _).mono ?_
    rintro e6 w6⟨rfl,rfl⟩;exact⟨rfl,rfl,HE.out⟩
   have Ke:(1:Int)<=(r.log.length:Int):=by omega
   have Ku:¬((r.log.length:Int)<=4):=by omega
   clear n1 HH;go_wp2_with fail
   try rw[decide_eq_false (show ¬((r.log.length:Int)<=4) by omega)]
   with_reducible refine(fG _ _).mono ?_
   rintro e6 w6⟨rfl,rfl⟩;exact⟨rfl,rfl,HE.out⟩
  have K9:(s.count == -1)=false:=by simpa using c1
  clear c1;go_wp2_with fail
  with_reducible refine(fG _ _).mono ?_
  rintro e6 w6⟨rfl,rfl⟩;exact⟨rfl,rfl,HE.out⟩
 |false=>
  obtain rfl:some r.log=R:=by rw[<-HR.out,if_neg (by unfold eZ;simp[He.out,Hf.out,hcb])]
  by_cases ce:(r.log.length:Int)=s.count
  ·have Hi:(((r.log.length:Nat):Int)==s.count)=true:=by simpa using ce
   clear ce;go_wp2_with fail
   with_reducible refine(iK _ _).mono ?_
   rintro e6 w6⟨rfl,rfl⟩;go_wp2_with fail;go_ret;exact⟨⟨_,rfl,HO.out⟩,HE.out⟩
  ·have Hi:(((r.log.length:Nat):Int)==s.count)=false:=by simpa using ce
   have hh:s.count = -1/\1<=r.log.length/\r.log.length<=4:=by
    unfold dU at hcb;simp only[Bool.or_eq_false_iff,Bool.and_eq_false_iff,decide_eq_false_iff_not]at hcb;omega
   have K9:(s.count == -1)=true:=by simpa using hh.1
   have Ke:(1:Int)<=(r.log.length:Int):=by omega
   have Ku:(r.log.length:Int)<=4:=by omega
   clear hh ce;go_wp2_with fail
   with_reducible refine(iK _ _).mono ?_
   rintro e6 w6⟨rfl,rfl⟩;go_wp2_with fail;go_ret;exact⟨⟨_,rfl,HO.out⟩,HE.out⟩):P:=h
theorem mcSt1a1(h:P:=by
 go_wp2_with fail
 with_reducible refine(fG _ _).mono ?_
 rintro e6 w6⟨rfl,rfl⟩;exact⟨rfl,rfl,HE.out⟩):P:=h
def pan(e:Int):Ending:=.panicked [{ v:=.iface 45 (B C e),recovered:=false }]
theorem iK(e:Int)(w:World):Calls F 36 #[.bool true,B C e] w λa w'=>a=.returned (.tuple #[])/\w=w':=by
 go_enter func36,ntmps36
 go_wp2;go_end0;exact⟨rfl,rfl⟩
theorem fG(e:Int)(w:World):Calls F 36 #[.bool false,B C e] w λa w'=>a=pan e/\w=w':=by
 go_enter func36,ntmps36
 go_wp2;exact⟨rfl,rfl,rfl⟩
def Nd(w:World)(r:Option (List UInt8))(e:Int)(a:Ending)(w':World):Prop:=(match r with
 |some b=>∃v,a=.returned v/\Bs w' v b
 |none=>a=pan e)/\Ext w w'
theorem nY(v:Value)(fs:List Fil)(k s f e:Int)(w:World)(J:StW w)(j:Fs w v fs)(hl:N fs<=4000000):Calls F 35 #[v,M #[B L k,B C s,B C f],B C e] w (Nd w (bu fs (aE k s f)) e):=by
 obtain⟨A,c,rfl,h1,h2⟩:=Fs.open_ j;have d:Ext w (w.alloc (E #[B L k,B C s,B C f] 32)):=xA (xR _) _;have key:=MX _ fs k s f _ (J.ext d) (j.ext d) hl;obtain⟨r,J⟩:∃r,aE k s f=r:=⟨_,rfl⟩;rw[J]at key⊢;obtain⟨J,J,J⟩:=ez (P2 w 32 #[B L k,B C s,B C f]);have H1:=G key;have t:=G (j.ext d);have m:=G d;obtain⟨R,d⟩:∃R,bu fs r=R:=⟨_,rfl⟩;rw[d];unfold bu at d;have l:=G d;by_cases a:eb fs r<0
 ·obtain rfl:none=R:=by have:=l.out;rwa[if_pos a]at this
  obtain⟨x,hx⟩:∃x,eb fs r=x:=⟨_,rfl⟩;rw[hx]at H1 a;go_enter func35,ntmps35
  go_wp2_with fail
  refine H1.mono ?_;rintro e1 o⟨rfl,H3⟩;have H:¬(0<=x):=by omega
  have g:=G (xT m H3);go_wp2_with fail
  rw[decide_eq_false (show ¬(0<=x) by omega)];with_reducible refine(fG _ _).mono ?_
  rintro e2 K⟨rfl,rfl⟩;exact⟨rfl,rfl,g.out⟩
 ·obtain⟨i,n,Kb⟩:=AD fs r a;have h:=l.out;rw[if_neg a,n]at h;rw[show((i:Int).toNat)=i from by omega,P4 Kb]at h;obtain rfl:some fs[i].2=R:=h;rw[n]at H1;obtain⟨y,a⟩:∃y,fs[i].2=y:=⟨_,rfl⟩;rw[a];have z:=G a;go_enter func35,ntmps35
  go_wp2_with fail
  refine H1.mono ?_;rintro e1 o⟨rfl,H3⟩;have H3:Ext _ o:=H3;have g:=G (xT m H3);have H:(0:Int)<=(i:Int):=by omega
  obtain⟨_,b,a,rfl,hc⟩:=(t.ext H3).at_ (by omega);obtain⟨a,p,I,d,a⟩:=hc i Kb;have h:(i:Int)<(N fs:Int):=by omega
  rw[z.out]at a d;have q:=G a;go_wp2_with fail
  with_reducible refine(iK _ _).mono ?_
  rintro e2 K⟨rfl,rfl⟩;go_wp2_with fail;go_ret;exact⟨⟨D p y.length I,rfl,q.out⟩,g.out⟩
def Cg(w:World)(r:Option (List Ent))(a:Ending)(w':World):Prop:=(match r with
 |some x=>∃v,a=.returned v/\OwnE w' w.heap.size v x
 |none=>a=pan 130)/\Ext w w'
theorem Da(v:Value)(fs:List Fil)(s:Sg4)(w:World)(o:StW w)(l:Fs w v fs)(hl:N fs<=4000000)(hn:bu fs (aE 3 s.seq s.fmt)=none):
  Calls F 48 #[v,M #[B C s.seq,B C s.fmt,B C s.first,B C s.count]] w λn w'=>n=pan 130/\Ext w w':=by
 obtain⟨A,c,rfl,h1,h2⟩:=Fs.open_ l;have n:Ext w (w.alloc (E #[B C s.seq,B C s.fmt,B C s.first,B C s.count] 36)):=xA (xR _) _;have Hl:=P2 w 36 #[B C s.seq,B C s.fmt,B C s.first,B C s.count];have key:=λW (h:Ext w W)=>nY (D A fs.length c) fs 3 s.seq s.fmt 130 W (o.ext h) (l.ext h) hl;rw[hn]at key;have H1:=G key;have b:=G n;have m:=G Hl;obtain⟨f,g,p,q⟩:=aM Hl;go_enter func48,ntmps48
 go_wp2_with fail
 refine wp_region_held_drew (S:=λW=>W.cell? ⟨w.heap.size,0,H⟩=I (B C s.seq)/\W.cell? ⟨w.heap.size,1,H⟩=I (B C s.fmt)) (by kernel_rfl) ⟨f,g⟩ (λ_=>?_);refine ab 0 ?_;refine ab 1 ?_;refine ab 2 ?_;refine ab 3 ?_;refine ab 4 ?_;refine ab 5 ?_;refine ab 7 ?_;refine ab 8 ?_;refine AllReadyH.two (i:=6) (j:=13) rfl rfl (by kernel_rfl) (by rfl) (by rfl) (λK d=>?_) (λK d=>?_)
 ·go_simp;refine(H1 _ (xD b.out)).mono ?_;rintro e r⟨rfl,a⟩;exact⟨rfl,rfl,xT b (xT (xD (xR _)) a)⟩
 ·go_simp;have k:Ext w ((w.alloc (E #[B C s.seq,B C s.fmt,B C s.first,B C s.count] 36)).alloc (E #[B C 0,D none 0 0,B C 0] 90)).drew:=xD (xA b _);obtain⟨f,g,p,q⟩:=aM (m.ext (xD (xA (xR _) (E #[B C 0,D none 0 0,B C 0] 90))));refine af d _ _ ⟨f,g⟩ (λ_=>?_);refine ah 6 (λK d=>?_);go_simp;refine(H1 _ k).mono ?_;rintro e r⟨rfl,a⟩;exact⟨rfl,rfl,xT k a⟩
def eZ(s:Sg4)(r:zgM):Bool:=decide (r.err≠0)||decide (r.first≠s.first)||dU r.log.length s.count
theorem ES{s:Sg4}{b:List UInt8}(h:bu fs (aE 3 s.seq s.fmt)=I b):bw fs s=if eZ s (bY rT b s.fmt)then none else some (bY rT b s.fmt).log:=by
 unfold bw eZ;rw[h];dsimp only;by_cases h1:(bY rT b s.fmt).err≠0
 ·simp[h1]
 ·by_cases h2:(bY rT b s.fmt).first≠s.first
  ·simp[h1,h2]
  ·cases h3:dU (bY rT b s.fmt).log.length s.count<;>simp[h1,h2,h3]
theorem Db(v:Value)(fs:List Fil)(s:Sg4)(b:List UInt8)(w:World)(hS:StW w)(hF:Fs w v fs)(hl:N fs<=4000000)(hn:bu fs (aE 3 s.seq s.fmt)=I b)(H5:N b<=2000000):
  Calls F 48 #[v,M #[B C s.seq,B C s.fmt,B C s.first,B C s.count]] w (Cg w (bw fs s)):=by
 rw[ES hn];obtain⟨A,c,rfl,h1,h2⟩:=Fs.open_ hF;have hX:Ext w (w.alloc (E #[B C s.seq,B C s.fmt,B C s.first,B C s.count] 36)):=xA (xR _) _;have Hl:=P2 w 36 #[B C s.seq,B C s.fmt,B C s.first,B C s.count];have key:=λW (h:Ext w W)=>nY (D A fs.length c) fs 3 s.seq s.fmt 130 W (hS.ext h) (hF.ext h) hl;rw[hn]at key;have Hn:=λW (u:Value) (h:Ext w W) (hB:Bs W u b)=>Ia (T:=rT) u b s.fmt W hB H5 (hS.ext h).tab;obtain⟨r,hr⟩:∃r,bY rT b s.fmt=r:=⟨_,rfl⟩;rw[hr]at Hn⊢;have H1:=G key;have Hk:=G Hn;have HX:=G hX;have HM:=G Hl;obtain⟨a,d,f,g⟩:=aM Hl;obtain⟨R,hR⟩:∃R,(if eZ s r then none else some r.log)=R:=⟨_,rfl⟩;rw[hR];have HR:=G hR;clear hX Hl key Hn hF hS hn hr H5 hR;go_enter func48,ntmps48
 go_wp2_with fail
 refine wp_region_held_drew (S:=λW=>W.cell? ⟨w.heap.size,0,H⟩=I (B C s.seq)/\W.cell? ⟨w.heap.size,1,H⟩=I (B C s.fmt)) (by kernel_rfl) ⟨a,d⟩ (λ_=>?_);clear a d f g;refine ab 0 ?_;refine ab 1 ?_;refine ab 2 ?_;refine ab 3 ?_;refine ab 4 ?_;refine ab 5 ?_;refine ab 7 ?_;refine ab 8 ?_;refine AllReadyH.two (i:=6) (j:=13) rfl rfl (by kernel_rfl) (by rfl) (by rfl) (λK n=>?_) (λK n=>?_)
 ·go_simp;refine(H1 _ (xD HX.out)).mono ?_;rintro e o⟨⟨v2,rfl,Hd⟩,x⟩;have x:Ext (w.alloc (E #[B C s.seq,B C s.fmt,B C s.first,B C s.count] 36)) o:=xT (xD (xR _)) x;have E2:=xT HX x;have H8:=HM.ext x;obtain⟨a,d,f,g⟩:=aM H8;refine af n _ _ ⟨a,d⟩ (λ_=>?_);refine AllReadyH.two (i:=9) (j:=13) rfl rfl (by kernel_rfl) (by rfl) (by rfl) (λK n=>?_) (λK n=>?_)
  ·go_simp;refine(Hk _ _ E2 Hd).mono ?_;rintro e k⟨v3,rfl,t,p⟩;obtain⟨l,m,rfl,_,_⟩:=xO (xW t);have hb3:=H8.ext p;have U:=xT E2 p;clear a d f g;obtain⟨a,d,f,g⟩:=aM hb3;refine af n _ _ ⟨a,d⟩ (λ_=>?_);refine ab 10 ?_;refine ab 11 ?_;refine ab 12 ?_;refine ah 13 (λK n=>?_);go_simp;have HP:Ext k (k.alloc (E #[B C 0,D none 0 0,B C 0] 90)):=xA (xR _) _;have z:=hb3.ext HP;have q:=P2 k 90 #[B C 0,D none 0 0,B C 0];have V:=xT U HP;have Kr:=ai t HP;have Kv:o.heap.size<=k.heap.size:=p.size;have X:w.heap.size<=o.heap.size:=E2.size;clear a d f g;obtain⟨a,d,f,g⟩:=aM z;refine af n _ _ ⟨a,d⟩ (λ_=>?_);obtain⟨J,L,O,Z,f1,f2⟩:=au q;refine ah 14 (λK n=>?_);go_simp;have Y:Hid (Blk (k.alloc (E #[B C r.first,D l r.log.length m,B C r.used] 90)) k.heap.size 90 #[B C r.first,D l r.log.length m,B C r.used]):=G (P2 k _ _);have y:=G (hb3.ext (xA (xR k) (E #[B C r.first,D l r.log.length m,B C r.used] 90)));have HE:=G (xT U (xA (xR k) (E #[B C r.first,D l r.log.length m,B C r.used] 90)));have HO:Hid (OwnE _ w.heap.size _ r.log):=G (ay (ai t (xA (xR k) (E #[B C r.first,D l r.log.length m,B C r.used] 90))) X);clear a d f g J L O Z f1 f2 z q V Kr HP;obtain⟨a,d,f,g⟩:=aM y.out;refine af n _ _ ⟨a,d⟩ (λ_=>?_);refine ab 15 ?_;refine aq ?_;clear a d f g;obtain⟨J,L,O,_,_,_⟩:=au Y.out;obtain⟨a,d,f,g⟩:=aM y.out;by_cases he:r.err=0
   case neg=>
    have Ht:(r.err==0)=false:=by simpa using he
    obtain rfl:none=R:=by rw[<-HR.out,if_pos (by unfold eZ;simp[he])]
    exact mcSt1a1
   by_cases hf:(r.first:Int)=s.first
   case neg=>
    have Ht:(r.err==0)=true:=by simpa using he
    clear he;have K0:((r.first:Int)==s.first)=false:=by simpa using hf
    obtain rfl:none=R:=by rw[<-HR.out,if_pos (by unfold eZ;simp[hf])]
    exact mcSt1a1
   exact mcSt1a0
  go_simp;have Hg:Ext o (o.alloc (E #[B C 0,D none 0 0,B C 0] 90)):=xA (xR _) _;have Kt:=P2 o 90 #[B C 0,D none 0 0,B C 0];have hb3:=H8.ext Hg;have U:=xT E2 Hg;have X:w.heap.size<=(o.alloc (E #[B C 0,D none 0 0,B C 0] 90)).heap.size:=U.size;have Q:w.heap.size≠o.heap.size:=by have:=H8.lt;omega
  have HY:w.heap.size<=o.heap.size:=E2.size;obtain⟨a,d,f,g⟩:=aM hb3;refine af n _ _ ⟨a,d⟩ (λ_=>?_);clear a d f g;refine ah 9 (λK n=>?_);go_simp;refine(Hk _ _ U (Hd.ext Hg)).mono ?_;rintro e k⟨v3,rfl,t,p⟩;obtain⟨l,m,rfl,_,_⟩:=xO (xW t);have z:=hb3.ext p;have q:=Kt.ext p;have V:=xT U p;obtain⟨a,d,f,g⟩:=aM z;refine af n _ _ ⟨a,d⟩ (λ_=>?_);clear a d f g;refine ab 10 ?_;refine ab 11 ?_;refine ab 12 ?_;obtain⟨J,L,O,Z,f1,f2⟩:=au q;refine ah 14 (λK n=>?_);go_simp;show K _ (dw k o.heap.size (B C r.first) (D l r.log.length m) (B C r.used));have Y:Hid (Blk (dw k o.heap.size (B C r.first) (D l r.log.length m) (B C r.used)) o.heap.size 90 #[B C r.first,D l r.log.length m,B C r.used]):=G (bV q _ _ _);have y:Hid (Blk (dw k o.heap.size (B C r.first) (D l r.log.length m) (B C r.used)) w.heap.size 36 _):=G (((z.other Q 0 _).other Q 1 _).other Q 2 _);have HE:Hid (Ext w (dw k o.heap.size (B C r.first) (D l r.log.length m) (B C r.used))):=G (cZ V HY _ _ _);have HO:Hid (OwnE (dw k o.heap.size (B C r.first) (D l r.log.length m) (B C r.used)) w.heap.size _ r.log):=G (ay (fK q t _ _ _) X);generalize dw k o.heap.size (B C r.first) (D l r.log.length m) (B C r.used)=w5 at *;clear J L O Z f1 f2;obtain⟨a,d,f,g⟩:=aM y.out;refine af n _ _ ⟨a,d⟩ (λ_=>?_);refine ab 15 ?_;refine aq ?_;clear a d f g;obtain⟨J,L,O,_,_,_⟩:=au Y.out;obtain⟨a,d,f,g⟩:=aM y.out;by_cases he:r.err=0
  case neg=>
   have Ht:(r.err==0)=false:=by simpa using he
   obtain rfl:none=R:=by rw[<-HR.out,if_pos (by unfold eZ;simp[he])]
   exact mcSt1a1
  by_cases hf:(r.first:Int)=s.first
  case neg=>
   have Ht:(r.err==0)=true:=by simpa using he
   clear he;have K0:((r.first:Int)==s.first)=false:=by simpa using hf
   obtain rfl:none=R:=by rw[<-HR.out,if_pos (by unfold eZ;simp[hf])]
   exact mcSt1a1
  exact mcSt1a0
 ·go_simp;have U:Ext (w.alloc (E #[B C s.seq,B C s.fmt,B C s.first,B C s.count] 36)) ((w.alloc (E #[B C s.seq,B C s.fmt,B C s.first,B C s.count] 36)).alloc (E #[B C 0,D none 0 0,B C 0] 90)).drew:=xD (xA (xR _) _);have Hu:=(P2 (w.alloc (E #[B C s.seq,B C s.fmt,B C s.first,B C s.count] 36)) 90 #[B C 0,D none 0 0,B C 0]).ext (xD (xR _));rw[xS]at Hu;have Hx:=HM.ext U;have E1:=xT HX U;have Q:w.heap.size≠w.heap.size+1:=by omega
  have HY:w.heap.size<=w.heap.size+1:=by omega
  obtain⟨a,d,f,g⟩:=aM Hx;refine af n _ _ ⟨a,d⟩ (λ_=>?_);clear a d f g;refine ah 6 (λK n=>?_);go_simp;refine(H1 _ E1).mono ?_;rintro e o⟨⟨v2,rfl,Hd⟩,x⟩;have H8:=Hx.ext x;have HK:=Hu.ext x;have E2:=xT E1 x;have X:w.heap.size<=o.heap.size:=E2.size;obtain⟨a,d,f,g⟩:=aM H8;refine af n _ _ ⟨a,d⟩ (λ_=>?_);clear a d f g;refine ah 9 (λK n=>?_);go_simp;refine(Hk _ _ E2 Hd).mono ?_;rintro e k⟨v3,rfl,t,p⟩;obtain⟨l,m,rfl,_,_⟩:=xO (xW t);have z:=H8.ext p;have q:=HK.ext p;have V:=xT E2 p;obtain⟨a,d,f,g⟩:=aM z;refine af n _ _ ⟨a,d⟩ (λ_=>?_);clear a d f g;refine ab 10 ?_;refine ab 11 ?_;refine ab 12 ?_;obtain⟨J,L,O,Z,f1,f2⟩:=au q;refine ah 14 (λK n=>?_);go_simp;show K _ (dw k (w.heap.size+1) (B C r.first) (D l r.log.length m) (B C r.used));have Y:Hid (Blk (dw k (w.heap.size+1) (B C r.first) (D l r.log.length m) (B C r.used)) (w.heap.size+1) 90 #[B C r.first,D l r.log.length m,B C r.used]):=G (bV q _ _ _);have y:Hid (Blk (dw k (w.heap.size+1) (B C r.first) (D l r.log.length m) (B C r.used)) w.heap.size 36 _):=G (((z.other Q 0 _).other Q 1 _).other Q 2 _);have HE:Hid (Ext w (dw k (w.heap.size+1) (B C r.first) (D l r.log.length m) (B C r.used))):=G (cZ V HY _ _ _);have HO:Hid (OwnE (dw k (w.heap.size+1) (B C r.first) (D l r.log.length m) (B C r.used)) w.heap.size _ r.log):=G (ay (fK q t _ _ _) X);generalize dw k (w.heap.size+1) (B C r.first) (D l r.log.length m) (B C r.used)=w5 at *;clear J L O Z f1 f2;obtain⟨a,d,f,g⟩:=aM y.out;refine af n _ _ ⟨a,d⟩ (λ_=>?_);refine ab 15 ?_;refine aq ?_;clear a d f g;obtain⟨J,L,O,_,_,_⟩:=au Y.out;obtain⟨a,d,f,g⟩:=aM y.out;by_cases he:r.err=0
  case neg=>
   have Ht:(r.err==0)=false:=by simpa using he
   obtain rfl:none=R:=by rw[<-HR.out,if_pos (by unfold eZ;simp[he])]
   exact mcSt1a1
  by_cases hf:(r.first:Int)=s.first
  case neg=>
   have Ht:(r.err==0)=true:=by simpa using he
   have K0:((r.first:Int)==s.first)=false:=by simpa using hf
   obtain rfl:none=R:=by rw[<-HR.out,if_pos (by unfold eZ;simp[hf])]
   exact mcSt1a1
  exact mcSt1a0
theorem AY(e:Int)(w:World):(Instr.typeAssert (.iface 45 (B C e)) 20 45 true).run F w=.ok (.tuple #[B C e,.bool true]) w:=by kernel_rfl
theorem Cc(w:World):(Instr.typeAssert .nilIface 20 45 true).run F w=.ok (.tuple #[B C 0,.bool false]) w:=by kernel_rfl
theorem zz(p:Addr)(y:Value)(e:Int)(a:List PanicEntry)(w:World)(hc:w.cell? p=I y)(c:w.frozen? p=false):
  CallsD F 77 #[J (some p)] (.panicking ({ v:=.iface 45 (B C e),recovered:=false }::a)) w λb d w'=>
   b=.returned (.tuple #[])/\d=.panicking ({ v:=.iface 45 (B C e),recovered:=true }::a)/\w'=w.setCell p (B C e):=by
 refine callsD_of_wpS func77 rfl λa cs a=>?_;have h1:=AY e;apply wpS_seq;apply wpS_region;simp[wpOpsS,go_sem,recoverD,a,ntmps77,Exit.thenS,h1];apply wpS_seq;apply wpS_region;simp[wpOpsS,go_sem,Exit.thenS,P3];refine wpS_cond (t:=true) (by simp[Act.eval,P3]) ?_;simp only[if_true];apply wpS_region;simp[wpOpsS,go_sem,hc,c,bodyPostS,results,results77,P3]
theorem zt(p:Addr)(w:World):
  CallsD F 77 #[J (some p)] .returning w λb c w'=>b=.returned (.tuple #[])/\c=.returning/\w'=w:=by
 refine callsD_of_wpS func77 rfl λa cs b=>?_;have h1:=Cc;apply wpS_seq;apply wpS_region;simp[wpOpsS,go_sem,recoverD,b,ntmps77,Exit.thenS,h1];apply wpS_seq;apply wpS_region;simp[wpOpsS,go_sem,Exit.thenS,P3];refine wpS_cond (t:=false) (by simp[Act.eval,P3]) ?_;simp only[P8,if_false];refine wpS_of_wp ?_;cases a;simp_all[wp_skip,bodyPostS,results,results77]
def sK(fs:List Fil)(s:Sg4)(b2:Nat)(w:World)(b:Ending)(w':World):Prop:=match bw fs s with
 |some x=>b=.returned (.tuple #[])/\∃a v,Ext w a/\OwnE a w.heap.size v x/\w'=a.setCell ⟨b2,0,H⟩ v
 |none=>b=pan 130/\Ext w w'
theorem tI(v:Value)(fs:List Fil)(s:Sg4)(w:World)(c:StW w)(a:Fs w v fs)(hl:N fs<=4000000)(d:∀f∈fs,N f.2<=2000000):
  Calls F 48 #[v,M #[B C s.seq,B C s.fmt,B C s.first,B C s.count]] w (Cg w (bw fs s)):=by
 cases hn:bu fs (aE 3 s.seq s.fmt)with
 |none=>
  have:bw fs s=none:=by unfold bw;rw[hn]
  rw[this];exact(Da v fs s w c a hl hn).mono λe w' h=>⟨h.1,h.2⟩
 |some b=>
  obtain⟨f,hf,rfl⟩:=yB hn;exact Db v fs s _ w c a hl hn (d f hf)
theorem MW(v:Value)(fs:List Fil)(s:Sg4)(h i b2:Nat)(a:Value)(w:World)(l:StW w)(b:Fs w v fs)(hl:N fs<=4000000)(k:∀f∈fs,N f.2<=2000000)(n:w.cell? ⟨h,0,H⟩=I v)(h1:Blk w i 36 #[B C s.seq,B C s.fmt,B C s.first,B C s.count])(h2:Blk w b2 42 #[a]):
  Calls F 47 #[J (I ⟨h,0,H⟩),J (I ⟨i,0,H⟩),J (I ⟨b2,0,H⟩)] w (sK fs s b2 w):=by
 obtain⟨A,c,rfl,_,_⟩:=Fs.open_ b;obtain⟨a,a,a,a⟩:=aM h1;have key:=tI _ fs s w l b hl k;unfold sK;obtain⟨R,a⟩:∃R,bw fs s=R:=⟨_,rfl⟩;rw[a]at key⊢;have H1:=G key;have j:=G h2;go_enter func47,ntmps47
 go_wp2_with fail
 refine H1.mono ?_;rintro e m⟨g,H3⟩;cases R with
 |none=>
  obtain rfl:=g;exact⟨rfl,rfl,H3⟩
 |some x=>
  obtain⟨a,rfl,d⟩:=g;obtain⟨a,a,rfl,_,_⟩:=xO (xW d);have hb:=j.ext H3;have a:=hb.frozen 0;have a:=hb.cell 0 rfl;have a:=G d;go_wp2_with fail
  go_end0;exact⟨rfl,m,H3,_,a.out,rfl⟩
def sG(fs:List Fil)(s:Sg4)(b2:Nat)(a:Value)(w:World)(b:Ending)(w':World):Prop:=match bw fs s with
 |some x=>b=.returned (B C 0)/\(∃v,OwnE w' w.heap.size v x/\Blk w' b2 42 #[v])/\eP b2 w w'
 |none=>b=.returned (B C 130)/\Blk w' b2 42 #[a]/\Ext w w'
theorem Nu(v:Value)(fs:List Fil)(s:Sg4)(o q b2:Nat)(a:Value)(w:World)(T:StW w)(S:Fs w v fs)(hl:N fs<=4000000)(K:∀f∈fs,N f.2<=2000000)(Q:w.cell? ⟨o,0,H⟩=I v)(h1:Blk w q 36 #[B C s.seq,B C s.fmt,B C s.first,B C s.count])(h2:Blk w b2 42 #[a]):
  Calls F 32 #[.func (.func 47) #[] #[J (I ⟨o,0,H⟩),J (I ⟨q,0,H⟩),J (I ⟨b2,0,H⟩)]] w (sG fs s b2 a w):=by
 have c:∀(fn:Fn) (first cap:Array Value) (w:World),(Instr.makeFunc fn first cap).run F w=.ok (.func fn first cap) w:=λ_ _ _ _=>rfl;have c:Ext w (w.alloc (E #[B C 0] 45)):=xA (xR _) _;have he:=P2 w 45 #[B C 0];have key:=MW v fs s o q b2 a _ (T.ext c) (S.ext c) hl K (c.cell Q) (h1.ext c) (h2.ext c);unfold sG;unfold sK at key;obtain⟨R,o⟩:∃R,bw fs s=R:=⟨_,rfl⟩;rw[o]at key⊢;have H1:=G key;have d:=G h2;have i:=G c;have t:=G he;go_enter_defers func32,ntmps32
 go_wp2_with fail
 refine H1.mono ?_;rintro e c D;cases R with
 |none=>
  obtain⟨rfl,H3⟩:=D;have l:=t.ext H3;have O:=(d.ext i.out).ext H3;refine leaves_cons (f:=77) (args:=#[J (I ⟨w.heap.size,0,H⟩)]) (by simp) (by simp[go_sem]) ?_;refine(zz ⟨w.heap.size,0,H⟩ _ 130 [] _ (l.cell 0 rfl) (l.frozen 0)).mono ?_;rintro e U g⟨rfl,rfl,rfl⟩;have j:b2≠w.heap.size:=by have:=d.lt;omega
  have hs:=l.set 0 (B C 130);have hc:=hs.cell 0 rfl;simp[Leaves,settle,results,results32,go_sem,hc];exact⟨O.other j 0 _,P1 (p:=⟨w.heap.size,0,H⟩) (xT i H3) (xN _) _⟩
 |some x=>
  obtain⟨rfl,g,b,k,A,rfl⟩:=D;have j:b2≠w.heap.size:=by have:=d.lt;omega
  have H8:Blk g b2 42 #[a]:=(d.ext i.out).ext k;have hb3:Blk (g.setCell ⟨b2,0,H⟩ b) b2 42 #[b]:=H8.set 0 b;have c:=t.ext k;have a:=c.other j.symm 0 b;have c:=A.kept (ar _ b2 0 b) (.inr (H8.not_row (by decide) A).symm);have r:Hid (eP b2 w (g.setCell ⟨b2,0,H⟩ b)):=G λm n K3=>P1 (p:=⟨b2,0,H⟩) (xT n (xT i k)) K3 b;obtain⟨h,i⟩:∃h,g.setCell ⟨b2,0,H⟩ b=h:=⟨_,rfl⟩;rw[i]at hb3 a c r⊢;have g:=a.frozen 0;have g:=a.cell 0 rfl;have L:=G hb3;have y:=G a;have z:=G c;have M:=G j;go_wp2_with fail
  refine leaves_cons (f:=77) (args:=#[J (I ⟨w.heap.size,0,H⟩)]) (by simp) (by simp[go_sem]) ?_;refine(zt ⟨w.heap.size,0,H⟩ _).mono ?_;rintro e U a⟨rfl,rfl,rfl⟩;have hs:=y.set 0 (B C 0);have hc:(h.setCell ⟨w.heap.size,0,H⟩ (B C 0)).cell? ⟨w.heap.size,0,H⟩=I (B C 0):=hs.cell 0 rfl;have h1:=L.other M 0 (B C 0);have h2:=z.kept (ar _ w.heap.size 0 (B C 0)) (.inr (y.not_row (by decide) z.out).symm);have Kw:b2<w.heap.size:=d.lt;have h3:eP b2 w (h.setCell ⟨w.heap.size,0,H⟩ (B C 0)):=λm n K3=>P1 (p:=⟨w.heap.size,0,H⟩) (r m n K3) (by show m.heap.size<=w.heap.size;omega) _;generalize h.setCell ⟨w.heap.size,0,H⟩ (B C 0)=w5 at *;simp[Leaves,settle,results,results32,go_sem,hc];exact⟨⟨b,ay h2 (by simp),h1⟩,h3⟩
theorem Bp(tmps:Array Value)(W:World)(b:Nat)(v u:Value)(h4:tmps.getD 4 undef=J (I ⟨b,0,H⟩))(h5:tmps.getD 5 undef=u)(hb:Blk W b 42 #[v]):(results Tryz.f15 tmps).run F W=.ok (.tuple #[v,u]) W:=by
 have hc:=hb.cell 0 rfl;have a:tmps[4]?.getD undef=J (I ⟨b,0,H⟩):=by simpa using h4
 have c:tmps[5]?.getD undef=u:=by simpa using h5
 have d:=underlying42;simp[results,results15,a,c,asAddr,go_sem,hc,d]
theorem DD (v:Value) (fs:List Fil) (s:Sg4) (w:World) (hS:StW w) (hF:Fs w v fs) (hl:fs.length<=4000000) (H5:∀ f∈fs,f.2.length<=2000000) :
  Calls F 15 #[v,M #[B C s.seq,B C s.fmt,B C s.first,B C s.count]] w (sQ w (bw fs s)):=by
 have Kq:∀ (fn:Fn) (first cap:Array Value) (w:World),(Instr.makeFunc fn first cap).run F w=.ok (.func fn first cap) w:=fun _ _ _ _=>rfl
 obtain ⟨A,c,rfl,_,_⟩:=Fs.open_ hF
 have Hw:Ext w (w.alloc (E #[D A fs.length c] 22)):=xA (xR _) _
 have Hr:Ext (w.alloc (E #[D A fs.length c] 22)) ((w.alloc (E #[D A fs.length c] 22)).alloc (E #[B C s.seq,B C s.fmt,B C s.first,B C s.count] 36)):=xA (xR _) _
 have Hg:Ext ((w.alloc (E #[D A fs.length c] 22)).alloc (E #[B C s.seq,B C s.fmt,B C s.first,B C s.count] 36)) (((w.alloc (E #[D A fs.length c] 22)).alloc (E #[B C s.seq,B C s.fmt,B C s.first,B C s.count] 36)).alloc (E #[D none 0 0] 42)):=xA (xR _) _
 have b0:=(P2 w 22 #[D A fs.length c]).ext (xT Hr Hg);have b1:=(P2 (w.alloc (E #[D A fs.length c] 22)) 36 #[B C s.seq,B C s.fmt,B C s.first,B C s.count]).ext Hg;have b2:=P2 ((w.alloc (E #[D A fs.length c] 22)).alloc (E #[B C s.seq,B C s.fmt,B C s.first,B C s.count] 36)) 42 #[D none 0 0];rw[xS] at b1;rw[xS,xS] at b2;have hX:=xT Hw (xT Hr Hg);have key:=Nu (D A fs.length c) fs s w.heap.size (w.heap.size+1) (w.heap.size+1+1) _ _ (hS.ext hX) (hF.ext hX) hl H5 (b0.cell 0 rfl) b1 b2;unfold sG at key;unfold sQ;obtain ⟨R,hR⟩:∃ R,bw fs s=R:=⟨_,rfl⟩
 rw[hR] at key ⊢
 have H1:=G key;have HX:=G hX;clear key hR hS hF H5 hX Hw Hr Hg b0 b1 b2
 go_enter func15,ntmps15
 go_wp2_with fail
 refine H1.out.mono ?_
 rintro e w1 hr
 cases R with
 | none =>
  obtain ⟨rfl,hb,hE⟩:=hr;have g0:=hb.cell 0 rfl;have f0:=hb.frozen 0;have Hb:=G hb;have HE:=G (xT HX.out hE);clear hb hE;go_wp2_with fail
  refine bodyPost_ret (Bp _ _ _ _ _ rfl rfl (Hb.out.set 0 (D none 0 0))) rfl ?_
  exact ⟨_,rfl,World.ownsRow_nil _ _ _ _,P1 (p:=⟨w.heap.size+1+1,0,H⟩) HE.out (by show w.heap.size<=w.heap.size+1+1;omega) _⟩
 | some x =>
  obtain ⟨rfl,⟨v1,ho,hb⟩,hG⟩:=hr;have hE:=hG w HX.out (by omega);obtain ⟨A3,c3,rfl,_,_⟩:=xO (xW ho);have g0:=hb.cell 0 rfl;have f0:=hb.frozen 0;have Hb:=G hb;have HE:=G hE;have Ho:=G ho;clear hb hE ho hG;go_wp2_with fail
  refine bodyPost_ret (Bp _ _ _ _ _ rfl rfl (Hb.out.set 0 (D A3 x.length c3))) rfl ?_
  exact ⟨_,rfl,ay (Ho.out.kept (ar _ _ 0 _) (.inr (Hb.out.not_row (by decide) Ho.out).symm)) (by have:=HX.out.size;simpa using this),P1 (p:=⟨w.heap.size+1+1,0,H⟩) HE.out (by show w.heap.size<=w.heap.size+1+1;omega) _⟩
/-! Names -/
/-! Files -/
theorem DH(f:Fil)(fs:List Fil)(n:List UInt8):bu (f::fs) (some n)=if f.1=n then some f.2 else bu fs (some n):=by
 unfold bu eb bS;simp only[List.findIdx?_cons];by_cases h:f.1=n
 ·simp[h]
 ·have hb:(f.1==n)=false:=by simpa using h
  rw[if_neg h,hb];simp only[P8,if_false];cases a:fs.findIdx? (λf=>f.1==n)with
  |none=>simp
  |some i=>
   simp only[Option.map_some];rw[if_neg (by omega),if_neg (by omega)];have e1:((i+1:Nat):Int).toNat=i+1:=by omega
   have e2:((i:Nat):Int).toNat=i:=by omega
   rw[e1,e2,List.getElem?_cons_succ]
/-! Manifests -/
/-! Segments -/
/-! A step -/
/-! What a shadow says -/
open Go.RowKit Go.Mv Go.Shelf
theorem B0(W:World):Fs W (D none 0 0) []:=⟨[],SlR.nil W 2,λi a=>absurd a (by simp)⟩
theorem PC(W:World)(n b:List UInt8)(v:Value)(h:Bs W v b):Fs (W.alloc (E #[sv n,v] 68)) (D (I ⟨W.heap.size,0,H⟩) 1 1) [(n,b)]:=by
 refine⟨[sv n,v],⟨rfl,_,1,rfl,xN _,by simp[maxLen],λ_=>⟨W.heap.size,0,rfl,λj u c=>?_⟩⟩,λi a=>?_⟩
 ·rw[Nat.zero_add];have hb:=P2 W 68 #[sv n,v];exact hb.cell j (by simpa using c)
 ·have:i=0:=by simp at a;omega
  subst this;exact⟨rfl,v,rfl,h.ext (xA (xR _) _)⟩
theorem NJ:(Tryz.prog.info? 68).map (λi=>(i.zero,i.size,i.bytes))=I (some (M #[.string ⟨#[]⟩,D none 0 0]),2,40):=by kernel_rfl
def FRow(W:World)(xs:List Value)(fs:List Fil):Prop:=N xs=N fs*2/\∀(i:Nat) (hi:i<N fs),xs[i*2]?=I (sv fs[i].1)/\∃u,xs[i*2+1]?=I u/\Bs W u fs[i].2
theorem FRow.ext{W':World}(h:FRow W xs fs)(a:Ext W W'):FRow W' xs fs:=⟨h.1,λi b=>by
 obtain⟨h3,u,h4,h5⟩:=h.2 i b;exact⟨h3,u,h4,h5.ext a⟩⟩
theorem FRow.one(h:FRow W xs fs):∀u∈xs,u.oneCell'=true:=by
 intro u b;obtain⟨j,a,rfl⟩:=List.mem_iff_getElem.1 b;have hl:=h.1;obtain⟨h3,v,h4,h5⟩:=h.2 (j / 2) (by omega);rcases Nat.mod_two_eq_zero_or_one j with hm | hm
 ·have e:j / 2*2=j:=by omega
  rw[e,P4 a]at h3;injection h3 with h3
  rw[h3];rfl
 ·have e:j / 2*2+1=j:=by omega
  rw[e,P4 a]at h4;injection h4 with h4
  rw[h4];obtain⟨A,c,rfl,_,_⟩:=xO h5;rfl
theorem FRow.append{b:List Value}{a:List Fil}(h1:FRow W xs fs)(h2:FRow W b a):FRow W (xs++b) (fs++a):=by
 refine⟨by rw[xL,xL,h1.1,h2.1];omega,λi a=>?_⟩;have hl:=h1.1;rw[xL]at a;by_cases h:i<N fs
 ·rw[P6 (by omega),P6 (by omega)];simp only[List.getElem_append_left h];exact h1.2 i h
 ·have e1:i*2-N xs=(i-N fs)*2:=by omega
  have e2:i*2+1-N xs=(i-N fs)*2+1:=by omega
  rw[P5 (by omega),P5 (by omega),e1,e2];simp only[List.getElem_append_right (Nat.le_of_not_lt h)];exact h2.2 (i-N fs) (by omega)
theorem FRow.one'{n1 b1:List UInt8}{a:Value}(h1:Bs W a b1):FRow W [sv n1,a] [(n1,b1)]:=by
 refine⟨rfl,λi b=>?_⟩;match i,b with
 |0,_=>exact⟨rfl,a,rfl,h1⟩
theorem na(w:World)(cs:List Value)(m:Nat)(hm:cs.length=m*2){base:Nat}(hb:base<=w.heap.size)(hl:m<=maxLen:=by simp[maxLen]):(w.alloc (E cs.toArray 68)).ownsRow base 68 2 (D (I ⟨w.heap.size,0,H⟩) m m) m cs:=
 ⟨hm,.inr ⟨w.heap.size,m,cs.toArray,rfl,hb,heap_alloc_new w _,xN _,hl,by simp[hm],by simp[<-hm]⟩⟩
/-! A manifest laid into an old box -/
theorem mJ{b:Nat}{p:Addr}{u:Value}(h:W.cell? p=I u)(a:p.block≠b)(a' d c e f g:Value):(aO W b a' d c e f g).cell? p=I u:=by
 have i:(aO W b a' d c e f g).heap[p.block]?=W.heap[p.block]?:=by
  unfold aO;rw[P0 _ _ _ _ a,P0 _ _ _ _ a,P0 _ _ _ _ a,P0 _ _ _ _ a,P0 _ _ _ _ a,P0 _ _ _ _ a]
 unfold World.cell? at h⊢;rw[i];exact h
theorem nv{b:Nat}{t:TypeId}{cs:Array Value}(h:Blk W b t cs){k:Nat}{u:Value}(hc:W.cell? ⟨b,k,H⟩=I u):cs[k]?=I u:=by
 simpa[World.cell?,show W.heap[b]?=_ from h]using hc
theorem mcKeepa0(h:P:=by
 rw[H4]at Hj;obtain⟨_,bs,of,rfl,H9⟩:=Sgs.at_ HS (by omega);obtain⟨d0,d1,_,_⟩:=H9 k hlt;have c0:=Hp.cell d0;have c1:=Hp.cell d1;have D0:=G d0;have D1:=G d1;go_wp2_with fail
 refine wp_region_held_drew (S:=λW=>W.cell? ⟨w.heap.size,5,H⟩=I (D (I ⟨bs,of,H⟩) sg.length c)/\W.cell? ⟨bs,of+k*4,H⟩=I (B C sg[k].seq)/\W.cell? ⟨bs,of+k*4+1,H⟩=I (B C sg[k].fmt)) (by kernel_rfl) ⟨m5,c0,c1⟩ (λ_=>?_);refine ab 0 ?_;refine ab 1 ?_;refine ab 2 ?_;refine ab 3 ?_;refine ab 4 ?_;refine ab 5 ?_;refine ab 6 ?_;refine ab 7 ?_;refine ab 8 ?_;refine ab 9 ?_;refine ab 10 ?_;refine ab 11 ?_;refine ab 12 ?_;refine ab 13 ?_;refine ah 14 (λK hK=>?_);go_simp;have X1:Ext wr (wr.alloc (E #[B L 3,B C sg[k].seq,B C sg[k].fmt] 32)).drew:=xD (xA (xR _) _);have Kc:SlR (wr.alloc (E #[B L 3,B C sg[k].seq,B C sg[k].fmt] 32)).drew 3 (D (I ⟨wr.heap.size,0,H⟩) 1 1) 1 (bH [bc sg[k]]):=SlR.ext (xW (lF wr (bc sg[k]))) (xD (xR _));have X2:=xT Hp X1;have HQ:=ai Hj X1;have HV:=HL.ext X1;refine af hK _ _ ⟨X1.cell m5,X1.cell c0,X1.cell c1⟩ (λ_=>?_);obtain⟨i0,hi,K6,Hu,HK⟩:=info_parts yX;refine ah 15 (λK hK=>?_);refine fJ _ (.tmp 28) (.tmp 42) 34 (by rfl) w.heap.size 32 i0 _ 3 24 Tryz.underlying34 hi K6 Hu HK rfl _ _ _ HQ _ 1 (bH [bc sg[k]]) Kc (Ai _) (KD:=by rw[H4];unfold maxLen;omega) (Hl:=by rw[H4];omega) X2.size ?_;intro v7 w7 K4 K2;have E7:Ext w w7:=Ext.grownOwn X2 HQ K2;have HW:=HV.kept K2 (HV.not_row (by decide) HQ);refine af hK _ _ ⟨HW.cell 5 rfl,E7.cell D0.out,E7.cell D1.out⟩ (λ_=>?_);obtain⟨A7,c7,rfl,_,_⟩:=xO (xW K4);refine ab 16 ?_;refine aq ?_;have Kg:=G E7;have Kf:=G HW;have Kh:=G K4;go_wp2_with fail
 go_roundw
 case rel=>
  refine⟨k+1,by omega,by go_num,?_,Kf,Kg⟩;have:=Kh.out;rw[H4]at this;unfold Hid dH;rw[List.take_succ_eq_append_getElem hlt,List.map_append,List.map_cons,List.map_nil,<-List.append_assoc,xL,H4,show ∀a b:List (Int×Int×Int),bH (a++b)=bH a++bH b from λa b=>by simp[bH]];exact this
 case measure=>simp[intOf];omega):P:=h
def idC(x:Int×Int×Int):List Value:=[B L x.1,B C x.2.1,B C x.2.2]
def bH(l:List (Int×Int×Int)):List Value:=l.flatMap idC
def dH(w:World)(base:Nat)(v:Value)(l:List (Int×Int×Int)):Prop:=w.ownsRow base 32 3 v l.length (bH l)
theorem yX:(Tryz.prog.info? 32).map (λi=>(i.zero,i.size,i.bytes))=I (some (M #[B L 0,B C 0,B C 0]),3,24):=by kernel_rfl
theorem EY(l:List (Int×Int×Int)):N (bH l)=N l*3:=by
 induction l with
 |nil=>rfl
 |cons x l ih=>unfold bH at ih⊢;rw[List.flatMap_cons,xL,ih];simp[idC];omega
theorem Ai(l:List (Int×Int×Int)):∀u∈bH l,u.oneCell'=true:=by
 intro u a;obtain⟨s,_,a⟩:=List.mem_flatMap.1 a;simp only[idC,List.mem_cons,List.not_mem_nil,or_false]at a;rcases a with rfl | rfl | rfl<;>rfl
theorem lF(W:World)(x:Int×Int×Int):dH (W.alloc (E #[B L x.1,B C x.2.1,B C x.2.2] 32)) W.heap.size (D (I ⟨W.heap.size,0,H⟩) 1 1) [x]:=
 ⟨rfl,.inr ⟨W.heap.size,1,#[B L x.1,B C x.2.1,B C x.2.2],rfl,xN _,heap_alloc_new W _,xN _,by simp[maxLen],rfl,rfl⟩⟩
theorem pF{b:Array Oper}{rest:List Oper}{o:Oper}{a:Act}{w:World}{Q:Exit->Act->World->Prop}(Kp:o.guard=none)(s x:Operand)(k:o.op=.call { callee:=.builtin .append,args:=#[s,x],argTypes:=#[34,34] })(base:Nat)(v:Value)(bs:List (Int×Int×Int))(hs:a.eval s=v)(g:dH w base v bs)(vx:Value)(c:Int×Int×Int)(hx:a.eval x=vx)(l:SlR w 3 vx 1 (bH [c]))(e:N bs<=2000000)(f:base<=w.heap.size)(h:∀A d w',dH w' base (D A (N bs+1) d) (bs++[c])->w.grownBy w' v.ownBlock->wpList F b Q rest (a.put o.dst (D A (N bs+1) d)) w'):wpList F b Q (o::rest) a w:=by
 obtain⟨m,j,i,e,b⟩:=info_parts yX;refine dT _ Kp s x 34 k base 32 m _ 3 24 underlying34 j i e b rfl (by decide) v bs.length (bH bs) hs g vx 1 (bH [c]) hx l (Ai _) (by unfold maxLen;omega) (by omega) f ?_;intro b w' h1 h2;obtain⟨A,d,rfl,_,_⟩:=xO (xW h1);refine h A d w' ?_ h2;unfold dH;rw[xL,show bH (bs++[c])=bH bs++bH [c]from by simp[bH]];exact h1
def i6(m:Mf):List (Int×Int×Int):=(1,0,0)::(if m.sq=0 then[]else[(4,m.sq,m.sf)])
def bc(s:Sg4):Int×Int×Int:=(3,s.seq,s.fmt)
def cY(m:Mf):List (Int×Int×Int):=i6 m++m.segs.map bc
theorem Lr(m:Mf):N (i6 m)<=2:=by unfold i6;split<;>simp
theorem MZ(m:Mf)(v:Value)(w:World)(U:Sgs w v m.segs)(hl:N m.segs<=1000000):
  Calls F 63 #[M #[B C m.next,B C m.term,B C m.vote,B C m.sq,B C m.sf,v]] w λe w'=>∃v',e=.returned v'/\dH w' w.heap.size v' (cY m)/\Ext w w':=by
 obtain⟨A,c,rfl,_,_⟩:=U.open_;have HS:=G U;clear U;obtain⟨g,h,i,f,d,sg⟩:=m;dsimp only at *;have hb:=P2 w 30 #[B C g,B C h,B C i,B C f,B C d,D A sg.length c];have Q:Ext w ((w.alloc (E #[B C g,B C h,B C i,B C f,B C d,D A sg.length c] 30)).alloc (E #[B L 1,B C 0,B C 0] 32)):=xA (xA (xR _) _) _;have p:Blk ((w.alloc (E #[B C g,B C h,B C i,B C f,B C d,D A sg.length c] 30)).alloc (E #[B L 1,B C 0,B C 0] 32)) w.heap.size 30 #[B C g,B C h,B C i,B C f,B C d,D A sg.length c]:=hb.alloc _;have O:dH ((w.alloc (E #[B C g,B C h,B C i,B C f,B C d,D A sg.length c] 30)).alloc (E #[B L 1,B C 0,B C 0] 32)) w.heap.size (D (I ⟨w.heap.size+1,0,H⟩) 1 1) [(1,0,0)]:=by
  have:=lF (w.alloc (E #[B C g,B C h,B C i,B C f,B C d,D A sg.length c] 30)) (1,0,0);rw[xS]at this;exact ay this (Nat.le_succ _)
 by_cases V:f=0
 ·subst V;have q:cY ⟨g,h,i,0,d,sg⟩=[(1,0,0)]++sg.map bc:=by unfold cY i6;rw[if_pos rfl]
  rw[q];obtain⟨t,x,y,z,J,m5⟩:=aj p;have o:=G Q;have n:=G p;have j:=G O;clear hb Q p O q;go_enter func63,ntmps63
  go_wp2_with fail;clear t x y z J m5;go_loopw [3,4] (λX l wr=>∃k:Nat,k<=N sg/\l=B C k/\Hid (dH wr w.heap.size X ([(1,0,0)]++(sg.take k).map bc))/\Hid (Blk wr w.heap.size 30 #[B C g,B C h,B C i,B C 0,B C d,D A sg.length c])/\Hid (Ext w wr)) (λ_ l _=>N sg-(intOf l).toNat)
  case atStart=>exact⟨0,Nat.zero_le _,rfl,j,n,o⟩
  case round=>
   obtain⟨k,hk,rfl,Hj,HL,Hp⟩:=hrel;obtain⟨t,x,y,z,J,m5⟩:=aj HL.out;obtain⟨Ao,co,rfl,_,_⟩:=xO (xW Hj.out);by_cases hlt:k<N sg
   ·have H4:N ([(1,0,0)]++(sg.take k).map bc)=k+1:=by simp;omega
    exact mcKeepa0
   obtain rfl:k=N sg:=by omega
   have s:[(1,0,0)]++(sg.take (N sg)).map bc=[(1,0,0)]++sg.map bc:=by rw[P7]
   have R:=G s;clear s;go_wp2_with fail;go_ret;refine⟨_,rfl,?_,Hp.out⟩;show dH _ _ _ ([(1,0,0)]++sg.map bc);rw[<-R.out];exact Hj.out
 ·have q:cY ⟨g,h,i,f,d,sg⟩=[(1,0,0),(4,f,d)]++sg.map bc:=by unfold cY i6;rw[if_neg V]
  rw[q];have hn:=lF ((w.alloc (E #[B C g,B C h,B C i,B C f,B C d,D A sg.length c] 30)).alloc (E #[B L 1,B C 0,B C 0] 32)) (4,f,d);have X1:Ext ((w.alloc (E #[B C g,B C h,B C i,B C f,B C d,D A sg.length c] 30)).alloc (E #[B L 1,B C 0,B C 0] 32)) (((w.alloc (E #[B C g,B C h,B C i,B C f,B C d,D A sg.length c] 30)).alloc (E #[B L 1,B C 0,B C 0] 32)).alloc (E #[B L 4,B C f,B C d] 32)):=xA (xR _) _;have Z:=p.ext X1;have r:=ai O X1;obtain⟨t,x,y,z,J,m5⟩:=aj p;have o:=G (xT Q X1);have n:=G Z;have j:=G r;rw[xS,xS]at hn;have Y:=G (xW hn);have Hq:=G V;clear hb Q p O q hn X1 Z r;go_enter func63,ntmps63
  go_wp2_with (at_builtin;refine pF rfl (.tmp 11) (.tmp 19) rfl w.heap.size _ [(1,0,0)] rfl j _ (4,f,d) rfl Y (by decide) o.size ?_;intro A1 c1 w1 r T)
  replace n:=G (n.kept T (n.not_row (by decide) j.out));replace o:=G (Ext.grownOwn o j T);replace j:=G r;clear t x y z J m5 r T Y;go_loopw [3,4] (λX l wr=>∃k:Nat,k<=N sg/\l=B C k/\Hid (dH wr w.heap.size X ([(1,0,0),(4,f,d)]++(sg.take k).map bc))/\Hid (Blk wr w.heap.size 30 #[B C g,B C h,B C i,B C f,B C d,D A sg.length c])/\Hid (Ext w wr)) (λ_ l _=>N sg-(intOf l).toNat)
  case atStart=>exact⟨0,Nat.zero_le _,rfl,j,n,o⟩
  case round=>
   obtain⟨k,hk,rfl,Hj,HL,Hp⟩:=hrel;obtain⟨t,x,y,z,J,m5⟩:=aj HL.out;obtain⟨Ao,co,rfl,_,_⟩:=xO (xW Hj.out);by_cases hlt:k<N sg
   ·have H4:N ([(1,0,0),(4,f,d)]++(sg.take k).map bc)=k+2:=by simp;omega
    exact mcKeepa0
   ·obtain rfl:k=N sg:=by omega
    have s:[(1,0,0),(4,f,d)]++(sg.take (N sg)).map bc=[(1,0,0),(4,f,d)]++sg.map bc:=by rw[P7]
    have R:=G s;clear s;go_wp2_with fail;go_ret;refine⟨_,rfl,?_,Hp.out⟩;show dH _ _ _ ([(1,0,0),(4,f,d)]++sg.map bc);rw[<-R.out];exact Hj.out
