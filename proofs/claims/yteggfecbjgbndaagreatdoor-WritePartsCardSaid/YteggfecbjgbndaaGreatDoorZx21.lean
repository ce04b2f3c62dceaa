/- Merged -/
import Derived.Test.YteggfecbjgbndaaGreatDoorZx17
import Derived.Test.YteggfecbjgbndaaGreatDoorZx20
import Derived.Defers
import Derived.Recover
set_option linter.all false
set_option maxHeartbeats 8000000
set_option maxRecDepth 100000
open Go.Proofs.Tryz
open List renaming length->U
open Go.Value renaming int->B,slice->D,pointer->L,agg->N,bool->O
open Go.IntKind renaming i64->C
open Go.Mv renaming aN->E
open Go.Obj renaming cells->F
open Go.Proofs.Tryz renaming prog->H
open Option renaming none->I,some->M
open Go.Mv.Blk renaming new->P0
open Array renaming replicate->P1
open Go.RowKit.Below renaming setCell->P2
open And renaming intro->P3
open Go.Instr renaming makeFunc->P4,typeAssert->P5
open List renaming take_zero->P6,getElem?_eq_getElem->P7,append_assoc->P8,cons_append->P9
open Bool renaming and_eq_true->Pa,or_eq_true->Pb
namespace Go.Proofs.YteggfecbjgbndaaGreatDoor
open Go.RowKit Go.Mv
theorem mcSt1a0{P:Prop}(h:P:=by
 have Hu:(r.err==0)=true:=by simpa using he
 have Kv:((r.first:Int)==s.first)=true:=by simpa using hf
 have He:=E he;have Hf:=E hf;clear he hf;go_wp2_with fail
 with_reducible refine(iK _ _).mono ?_
 rintro e6 w6⟨rfl,rfl⟩;cases hcb:dU r.log.length s.count with
 |true=>
  obtain rfl:none=R:=by rw[<-HR.out,if_pos (by unfold eZ;simp[hcb])]
  have H5:(((r.log.length:Nat):Int)==s.count)=false:=by
   unfold dU at hcb;simp only[Pb,Pa,decide_eq_true_eq]at hcb;simp;omega
  by_cases c1:s.count = -1
  ·have KV:(s.count == -1)=true:=by simpa using c1
   have HT:r.log.length<1\/4<r.log.length:=by
    unfold dU at hcb;simp only[Pb,Pa,decide_eq_true_eq]at hcb;omega
   clear c1;by_cases n1:r.log.length<1
   ·have Jp:¬((1:Int)<=(r.log.length:Int)):=by omega
    clear n1 HT;go_wp2_with fail
    try rw[decide_eq_false (show ¬((r.log.length:Int)<=4) by omega)]
    with_reducible refine(fG _ _).mono ?_
    rintro e6 w6⟨rfl,rfl⟩;exact⟨rfl,rfl,HE.out⟩
   have Jp:(1:Int)<=(r.log.length:Int):=by omega
   have JU:¬((r.log.length:Int)<=4):=by omega
   clear n1 HT;go_wp2_with fail
   try rw[decide_eq_false (show ¬((r.log.length:Int)<=4) by omega)]
   with_reducible refine(fG _ _).mono ?_
   rintro e6 w6⟨rfl,rfl⟩;exact⟨rfl,rfl,HE.out⟩
  have KV:(s.count == -1)=false:=by simpa using c1
  clear c1;go_wp2_with fail
  with_reducible refine(fG _ _).mono ?_
  rintro e6 w6⟨rfl,rfl⟩;exact⟨rfl,rfl,HE.out⟩
 |false=>
  obtain rfl:some r.log=R:=by rw[<-HR.out,if_neg (by unfold eZ;simp[He.out,Hf.out,hcb])]
  by_cases ce:(r.log.length:Int)=s.count
  ·have H5:(((r.log.length:Nat):Int)==s.count)=true:=by simpa using ce
   clear ce;go_wp2_with fail
   with_reducible refine(iK _ _).mono ?_
   rintro e6 w6⟨rfl,rfl⟩;go_wp2_with fail;go_ret;exact⟨⟨_,rfl,HO.out⟩,HE.out⟩
  ·have H5:(((r.log.length:Nat):Int)==s.count)=false:=by simpa using ce
   have hh:s.count = -1/\1<=r.log.length/\r.log.length<=4:=by
    unfold dU at hcb;simp only[Bool.or_eq_false_iff,Bool.and_eq_false_iff,decide_eq_false_iff_not]at hcb;omega
   have KV:(s.count == -1)=true:=by simpa using hh.1
   have Jp:(1:Int)<=(r.log.length:Int):=by omega
   have JU:(r.log.length:Int)<=4:=by omega
   clear hh ce;go_wp2_with fail
   with_reducible refine(iK _ _).mono ?_
   rintro e6 w6⟨rfl,rfl⟩;go_wp2_with fail;go_ret;exact⟨⟨_,rfl,HO.out⟩,HE.out⟩):P:=h
theorem mcSt1a1{P:Prop}(h:P:=by
 go_wp2_with fail
 with_reducible refine(fG _ _).mono ?_
 rintro e6 w6⟨rfl,rfl⟩;exact⟨rfl,rfl,HE.out⟩):P:=h
def pan(e:Int):Ending:=.panicked [{ v:=.iface 45 (B C e),recovered:=false }]
theorem iK(e:Int)(w:World):Calls H 36 #[.bool true,B C e] w λa w'=>a=.returned (.tuple #[])/\w=w':=by
 go_enter func36,ntmps36
 go_wp2;go_end0;exact⟨rfl,rfl⟩
theorem fG(e:Int)(w:World):Calls H 36 #[.bool false,B C e] w λa w'=>a=pan e/\w=w':=by
 go_enter func36,ntmps36
 go_wp2;exact⟨rfl,rfl,rfl⟩
def Nd(w:World)(r:Option (List UInt8))(e:Int)(a:Ending)(w':World):Prop:=(match r with
 |some b=>∃v,a=.returned v/\Bs w' v b
 |none=>a=pan e)/\Ext w w'
theorem nY(v:Value)(fs:List Fil)(k s f e:Int)(w:World)(M:StW w)(l:Fs w v fs)(hl:U fs<=4000000):Calls H 35 #[v,N #[B .u8 k,B C s,B C f],B C e] w (Nd w (bu fs (aE k s f)) e):=by
 obtain⟨A,c,rfl,h1,h2⟩:=Fs.open_ l;have g:Ext w (w.alloc (F #[B .u8 k,B C s,B C f] 32)):=xA (xR _) _;have key:=MX _ fs k s f _ (M.ext g) (l.ext g) hl;obtain⟨r,M⟩:∃r,aE k s f=r:=⟨_,rfl⟩;rw[M]at key⊢;have M:=ez (P0 w 32 #[B .u8 k,B C s,B C f]);have d:=E key;have z:=E (l.ext g);have n:=E g;obtain⟨R,g⟩:∃R,bu fs r=R:=⟨_,rfl⟩;rw[g];unfold bu at g;have m:=E g;by_cases a:eb fs r<0
 ·obtain rfl:none=R:=by have:=m.out;rwa[if_pos a]at this
  obtain⟨x,hx⟩:∃x,eb fs r=x:=⟨_,rfl⟩;rw[hx]at d a;go_enter func35,ntmps35
  go_wp2_with fail
  refine d.mono ?_;rintro K p⟨rfl,H4⟩;have I:¬(0<=x):=by omega
  have h:=E (xT n H4);go_wp2_with fail
  rw[decide_eq_false (show ¬(0<=x) by omega)];with_reducible refine(fG _ _).mono ?_
  rintro L O⟨rfl,rfl⟩;exact⟨rfl,rfl,h.out⟩
 ·obtain⟨i,hi,o⟩:=AD fs r a;have j:=m.out;rw[if_neg a,hi]at j;rw[show((i:Int).toNat)=i from by omega,P7 o]at j;obtain rfl:some fs[i].2=R:=j;rw[hi]at d;obtain⟨y,a⟩:∃y,fs[i].2=y:=⟨_,rfl⟩;rw[a];have G:=E a;go_enter func35,ntmps35
  go_wp2_with fail
  refine d.mono ?_;rintro K p⟨rfl,H4⟩;have H4:Ext _ p:=H4;have h:=E (xT n H4);have I:(0:Int)<=(i:Int):=by omega
  obtain⟨_,b,a,rfl,hc⟩:=(z.ext H4).at_ (by omega);obtain⟨a,q,J,d,a⟩:=hc i o;have g:(i:Int)<(U fs:Int):=by omega
  rw[G.out]at a d;have t:=E a;go_wp2_with fail
  with_reducible refine(iK _ _).mono ?_
  rintro L O⟨rfl,rfl⟩;go_wp2_with fail;go_ret;exact⟨⟨D q y.length J,rfl,t.out⟩,h.out⟩
def Cg(w:World)(r:Option (List Ent))(a:Ending)(w':World):Prop:=(match r with
 |some x=>∃v,a=.returned v/\OwnE w' w.heap.size v x
 |none=>a=pan 130)/\Ext w w'
theorem Da(v:Value)(fs:List Fil)(s:Sg4)(w:World)(o:StW w)(m:Fs w v fs)(hl:U fs<=4000000)(hn:bu fs (aE 3 s.seq s.fmt)=none):
  Calls H 48 #[v,N #[B C s.seq,B C s.fmt,B C s.first,B C s.count]] w λk w'=>k=pan 130/\Ext w w':=by
 obtain⟨A,c,rfl,h1,h2⟩:=Fs.open_ m;have p:Ext w (w.alloc (F #[B C s.seq,B C s.fmt,B C s.first,B C s.count] 36)):=xA (xR _) _;have k:=P0 w 36 #[B C s.seq,B C s.fmt,B C s.first,B C s.count];have key:=λW (h:Ext w W)=>nY (D A fs.length c) fs 3 s.seq s.fmt 130 W (o.ext h) (m.ext h) hl;rw[hn]at key;have g:=E key;have a:=E p;have n:=E k;obtain⟨d,f,q,r⟩:=aM k;go_enter func48,ntmps48
 go_wp2_with fail
 refine wp_region_held_drew (S:=λW=>W.cell? ⟨w.heap.size,0,I⟩=M (B C s.seq)/\W.cell? ⟨w.heap.size,1,I⟩=M (B C s.fmt)) (by kernel_rfl) ⟨d,f⟩ (λ_=>?_);refine ab 0 ?_;refine ab 1 ?_;refine ab 2 ?_;refine ab 3 ?_;refine ab 4 ?_;refine ab 5 ?_;refine ab 7 ?_;refine ab 8 ?_;refine AllReadyH.two (i:=6) (j:=13) rfl rfl (by kernel_rfl) (by rfl) (by rfl) (λK b=>?_) (λK b=>?_)
 ·go_simp;refine(g _ (xD a)).mono ?_;rintro e t⟨rfl,H0⟩;exact⟨rfl,rfl,xT a (xT (xD (xR _)) H0)⟩
 ·go_simp;have l:Ext w ((w.alloc (F #[B C s.seq,B C s.fmt,B C s.first,B C s.count] 36)).alloc (F #[B C 0,D none 0 0,B C 0] 90)).drew:=xD (xA a _);obtain⟨d,f,q,r⟩:=aM (n.ext (xD (xA (xR _) (F #[B C 0,D none 0 0,B C 0] 90))));refine af b _ _ ⟨d,f⟩ (λ_=>?_);refine ah 6 (λK b=>?_);go_simp;refine(g _ l).mono ?_;rintro e t⟨rfl,H0⟩;exact⟨rfl,rfl,xT l H0⟩
def eZ(s:Sg4)(r:zgM):Bool:=decide (r.err≠0)||decide (r.first≠s.first)||dU r.log.length s.count
theorem ES{fs:List Fil}{s:Sg4}{b:List UInt8}(h:bu fs (aE 3 s.seq s.fmt)=M b):bw fs s=if eZ s (bY rT b s.fmt)then none else some (bY rT b s.fmt).log:=by
 unfold bw eZ;rw[h];dsimp only;by_cases h1:(bY rT b s.fmt).err≠0
 ·simp[h1]
 ·by_cases h2:(bY rT b s.fmt).first≠s.first
  ·simp[h1,h2]
  ·cases h3:dU (bY rT b s.fmt).log.length s.count<;>simp[h1,h2,h3]
theorem Db(v:Value)(fs:List Fil)(s:Sg4)(b:List UInt8)(w:World)(hS:StW w)(hF:Fs w v fs)(hl:U fs<=4000000)(hn:bu fs (aE 3 s.seq s.fmt)=M b)(H3:U b<=2000000):
  Calls H 48 #[v,N #[B C s.seq,B C s.fmt,B C s.first,B C s.count]] w (Cg w (bw fs s)):=by
 rw[ES hn];obtain⟨A,c,rfl,h1,h2⟩:=Fs.open_ hF;have hX:Ext w (w.alloc (F #[B C s.seq,B C s.fmt,B C s.first,B C s.count] 36)):=xA (xR _) _;have Hp:=P0 w 36 #[B C s.seq,B C s.fmt,B C s.first,B C s.count];have key:=λW (h:Ext w W)=>nY (D A fs.length c) fs 3 s.seq s.fmt 130 W (hS.ext h) (hF.ext h) hl;rw[hn]at key;have Hs:=λW (u:Value) (h:Ext w W) (hB:Bs W u b)=>Ia (T:=rT) u b s.fmt W hB H3 (hS.ext h).tab;obtain⟨r,hr⟩:∃r,bY rT b s.fmt=r:=⟨_,rfl⟩;rw[hr]at Hs⊢;have H1:=E key;have Hn:=E Hs;have HX:=E hX;have K2:=E Hp;obtain⟨a,d,f,g⟩:=aM Hp;obtain⟨R,hR⟩:∃R,(if eZ s r then none else some r.log)=R:=⟨_,rfl⟩;rw[hR];have HR:=E hR;clear hX Hp key Hs hF hS hn hr H3 hR;go_enter func48,ntmps48
 go_wp2_with fail
 refine wp_region_held_drew (S:=λW=>W.cell? ⟨w.heap.size,0,I⟩=M (B C s.seq)/\W.cell? ⟨w.heap.size,1,I⟩=M (B C s.fmt)) (by kernel_rfl) ⟨a,d⟩ (λ_=>?_);clear a d f g;refine ab 0 ?_;refine ab 1 ?_;refine ab 2 ?_;refine ab 3 ?_;refine ab 4 ?_;refine ab 5 ?_;refine ab 7 ?_;refine ab 8 ?_;refine AllReadyH.two (i:=6) (j:=13) rfl rfl (by kernel_rfl) (by rfl) (by rfl) (λK n=>?_) (λK n=>?_)
 ·go_simp;refine(H1 _ (xD HX)).mono ?_;rintro e o⟨⟨v2,rfl,H8⟩,H0⟩;have H0:Ext (w.alloc (F #[B C s.seq,B C s.fmt,B C s.first,B C s.count] 36)) o:=xT (xD (xR _)) H0;have E2:=xT HX H0;have J:=K2.ext H0;obtain⟨a,d,f,g⟩:=aM J;refine af n _ _ ⟨a,d⟩ (λ_=>?_);refine AllReadyH.two (i:=9) (j:=13) rfl rfl (by kernel_rfl) (by rfl) (by rfl) (λK n=>?_) (λK n=>?_)
  ·go_simp;refine(Hn _ _ E2 H8).mono ?_;rintro e k⟨v3,rfl,t,p⟩;obtain⟨l,m,rfl,_,_⟩:=xO (xW t);have O:=J.ext p;have L:=xT E2 p;clear a d f g;obtain⟨a,d,f,g⟩:=aM O;refine af n _ _ ⟨a,d⟩ (λ_=>?_);refine ab 10 ?_;refine ab 11 ?_;refine ab 12 ?_;refine ah 13 (λK n=>?_);go_simp;have K3:Ext k (k.alloc (F #[B C 0,D none 0 0,B C 0] 90)):=xA (xR _) _;have Hk:=O.ext K3;have q:=P0 k 90 #[B C 0,D none 0 0,B C 0];have P:=xT L K3;have JQ:=ai t K3;have K6:o.heap.size<=k.heap.size:=p.size;have Q:w.heap.size<=o.heap.size:=E2.size;clear a d f g;obtain⟨a,d,f,g⟩:=aM Hk;refine af n _ _ ⟨a,d⟩ (λ_=>?_);obtain⟨y,z,G,X,Y,Z⟩:=au q;refine ah 14 (λK n=>?_);go_simp;have V:Hid (Blk (k.alloc (F #[B C r.first,D l r.log.length m,B C r.used] 90)) k.heap.size 90 #[B C r.first,D l r.log.length m,B C r.used]):=E (P0 k _ _);have x:=E (O.ext (xA (xR k) (F #[B C r.first,D l r.log.length m,B C r.used] 90)));have HE:=E (xT L (xA (xR k) (F #[B C r.first,D l r.log.length m,B C r.used] 90)));have HO:Hid (OwnE _ w.heap.size _ r.log):=E (ay (ai t (xA (xR k) (F #[B C r.first,D l r.log.length m,B C r.used] 90))) Q);clear a d f g y z G X Y Z Hk q P JQ K3;obtain⟨a,d,f,g⟩:=aM x;refine af n _ _ ⟨a,d⟩ (λ_=>?_);refine ab 15 ?_;refine aq ?_;clear a d f g;obtain⟨y,z,G,_,_,_⟩:=au V;obtain⟨a,d,f,g⟩:=aM x;by_cases he:r.err=0
   case neg=>
    have Hu:(r.err==0)=false:=by simpa using he
    obtain rfl:none=R:=by rw[<-HR.out,if_pos (by unfold eZ;simp[he])]
    exact mcSt1a1
   by_cases hf:(r.first:Int)=s.first
   case neg=>
    have Hu:(r.err==0)=true:=by simpa using he
    clear he;have Kv:((r.first:Int)==s.first)=false:=by simpa using hf
    obtain rfl:none=R:=by rw[<-HR.out,if_pos (by unfold eZ;simp[hf])]
    exact mcSt1a1
   exact mcSt1a0
  go_simp;have Hj:Ext o (o.alloc (F #[B C 0,D none 0 0,B C 0] 90)):=xA (xR _) _;have JT:=P0 o 90 #[B C 0,D none 0 0,B C 0];have O:=J.ext Hj;have L:=xT E2 Hj;have Q:w.heap.size<=(o.alloc (F #[B C 0,D none 0 0,B C 0] 90)).heap.size:=L.size;have Hq:w.heap.size≠o.heap.size:=by have:=J.lt;omega
  have Kt:w.heap.size<=o.heap.size:=E2.size;obtain⟨a,d,f,g⟩:=aM O;refine af n _ _ ⟨a,d⟩ (λ_=>?_);clear a d f g;refine ah 9 (λK n=>?_);go_simp;refine(Hn _ _ L (H8.ext Hj)).mono ?_;rintro e k⟨v3,rfl,t,p⟩;obtain⟨l,m,rfl,_,_⟩:=xO (xW t);have Hk:=O.ext p;have q:=JT.ext p;have P:=xT L p;obtain⟨a,d,f,g⟩:=aM Hk;refine af n _ _ ⟨a,d⟩ (λ_=>?_);clear a d f g;refine ab 10 ?_;refine ab 11 ?_;refine ab 12 ?_;obtain⟨y,z,G,X,Y,Z⟩:=au q;refine ah 14 (λK n=>?_);go_simp;show K _ (dw k o.heap.size (B C r.first) (D l r.log.length m) (B C r.used));have V:Hid (Blk (dw k o.heap.size (B C r.first) (D l r.log.length m) (B C r.used)) o.heap.size 90 #[B C r.first,D l r.log.length m,B C r.used]):=E (bV q _ _ _);have x:Hid (Blk (dw k o.heap.size (B C r.first) (D l r.log.length m) (B C r.used)) w.heap.size 36 _):=E (((Hk.other Hq 0 _).other Hq 1 _).other Hq 2 _);have HE:Hid (Ext w (dw k o.heap.size (B C r.first) (D l r.log.length m) (B C r.used))):=E (cZ P Kt _ _ _);have HO:Hid (OwnE (dw k o.heap.size (B C r.first) (D l r.log.length m) (B C r.used)) w.heap.size _ r.log):=E (ay (fK q t _ _ _) Q);generalize dw k o.heap.size (B C r.first) (D l r.log.length m) (B C r.used)=w5 at *;clear y z G X Y Z;obtain⟨a,d,f,g⟩:=aM x;refine af n _ _ ⟨a,d⟩ (λ_=>?_);refine ab 15 ?_;refine aq ?_;clear a d f g;obtain⟨y,z,G,_,_,_⟩:=au V;obtain⟨a,d,f,g⟩:=aM x;by_cases he:r.err=0
  case neg=>
   have Hu:(r.err==0)=false:=by simpa using he
   obtain rfl:none=R:=by rw[<-HR.out,if_pos (by unfold eZ;simp[he])]
   exact mcSt1a1
  by_cases hf:(r.first:Int)=s.first
  case neg=>
   have Hu:(r.err==0)=true:=by simpa using he
   clear he;have Kv:((r.first:Int)==s.first)=false:=by simpa using hf
   obtain rfl:none=R:=by rw[<-HR.out,if_pos (by unfold eZ;simp[hf])]
   exact mcSt1a1
  exact mcSt1a0
 ·go_simp;have L:Ext (w.alloc (F #[B C s.seq,B C s.fmt,B C s.first,B C s.count] 36)) ((w.alloc (F #[B C s.seq,B C s.fmt,B C s.first,B C s.count] 36)).alloc (F #[B C 0,D none 0 0,B C 0] 90)).drew:=xD (xA (xR _) _);have Jm:=(P0 (w.alloc (F #[B C s.seq,B C s.fmt,B C s.first,B C s.count] 36)) 90 #[B C 0,D none 0 0,B C 0]).ext (xD (xR _));rw[xS]at Jm;have J2:=K2.ext L;have E1:=xT HX L;have Hq:w.heap.size≠w.heap.size+1:=by omega
  have Kt:w.heap.size<=w.heap.size+1:=by omega
  obtain⟨a,d,f,g⟩:=aM J2;refine af n _ _ ⟨a,d⟩ (λ_=>?_);clear a d f g;refine ah 6 (λK n=>?_);go_simp;refine(H1 _ E1).mono ?_;rintro e o⟨⟨v2,rfl,H8⟩,H0⟩;have J:=J2.ext H0;have Kb:=Jm.ext H0;have E2:=xT E1 H0;have Q:w.heap.size<=o.heap.size:=E2.size;obtain⟨a,d,f,g⟩:=aM J;refine af n _ _ ⟨a,d⟩ (λ_=>?_);clear a d f g;refine ah 9 (λK n=>?_);go_simp;refine(Hn _ _ E2 H8).mono ?_;rintro e k⟨v3,rfl,t,p⟩;obtain⟨l,m,rfl,_,_⟩:=xO (xW t);have Hk:=J.ext p;have q:=Kb.ext p;have P:=xT E2 p;obtain⟨a,d,f,g⟩:=aM Hk;refine af n _ _ ⟨a,d⟩ (λ_=>?_);clear a d f g;refine ab 10 ?_;refine ab 11 ?_;refine ab 12 ?_;obtain⟨y,z,G,X,Y,Z⟩:=au q;refine ah 14 (λK n=>?_);go_simp;show K _ (dw k (w.heap.size+1) (B C r.first) (D l r.log.length m) (B C r.used));have V:Hid (Blk (dw k (w.heap.size+1) (B C r.first) (D l r.log.length m) (B C r.used)) (w.heap.size+1) 90 #[B C r.first,D l r.log.length m,B C r.used]):=E (bV q _ _ _);have x:Hid (Blk (dw k (w.heap.size+1) (B C r.first) (D l r.log.length m) (B C r.used)) w.heap.size 36 _):=E (((Hk.other Hq 0 _).other Hq 1 _).other Hq 2 _);have HE:Hid (Ext w (dw k (w.heap.size+1) (B C r.first) (D l r.log.length m) (B C r.used))):=E (cZ P Kt _ _ _);have HO:Hid (OwnE (dw k (w.heap.size+1) (B C r.first) (D l r.log.length m) (B C r.used)) w.heap.size _ r.log):=E (ay (fK q t _ _ _) Q);generalize dw k (w.heap.size+1) (B C r.first) (D l r.log.length m) (B C r.used)=w5 at *;clear y z G X Y Z;obtain⟨a,d,f,g⟩:=aM x;refine af n _ _ ⟨a,d⟩ (λ_=>?_);refine ab 15 ?_;refine aq ?_;clear a d f g;obtain⟨y,z,G,_,_,_⟩:=au V;obtain⟨a,d,f,g⟩:=aM x;by_cases he:r.err=0
  case neg=>
   have Hu:(r.err==0)=false:=by simpa using he
   obtain rfl:none=R:=by rw[<-HR.out,if_pos (by unfold eZ;simp[he])]
   exact mcSt1a1
  by_cases hf:(r.first:Int)=s.first
  case neg=>
   have Hu:(r.err==0)=true:=by simpa using he
   have Kv:((r.first:Int)==s.first)=false:=by simpa using hf
   obtain rfl:none=R:=by rw[<-HR.out,if_pos (by unfold eZ;simp[hf])]
   exact mcSt1a1
  exact mcSt1a0
theorem AY(e:Int)(w:World):(P5 (.iface 45 (B C e)) 20 45 true).run H w=.ok (.tuple #[B C e,O true]) w:=by kernel_rfl
theorem Cc(w:World):(P5 .nilIface 20 45 true).run H w=.ok (.tuple #[B C 0,O false]) w:=by kernel_rfl
theorem zz(p:Addr)(y:Value)(e:Int)(a:List PanicEntry)(w:World)(hc:w.cell? p=M y)(c:w.frozen? p=false):
  CallsD H 77 #[L (some p)] (.panicking ({ v:=.iface 45 (B C e),recovered:=false }::a)) w λb d w'=>
   b=.returned (.tuple #[])/\d=.panicking ({ v:=.iface 45 (B C e),recovered:=true }::a)/\w'=w.setCell p (B C e):=by
 refine callsD_of_wpS func77 rfl λa cs a=>?_;have h1:=AY e;apply wpS_seq;apply wpS_region;simp[wpOpsS,go_sem,recoverD,a,ntmps77,Exit.thenS,h1];apply wpS_seq;apply wpS_region;simp[wpOpsS,go_sem,Exit.thenS,P1];refine wpS_cond (t:=true) (by simp[Act.eval,P1]) ?_;simp only[if_true];apply wpS_region;simp[wpOpsS,go_sem,hc,c,bodyPostS,results,results77,P1]
theorem zt(p:Addr)(w:World):
  CallsD H 77 #[L (some p)] .returning w λb c w'=>b=.returned (.tuple #[])/\c=.returning/\w'=w:=by
 refine callsD_of_wpS func77 rfl λa cs b=>?_;have h1:=Cc;apply wpS_seq;apply wpS_region;simp[wpOpsS,go_sem,recoverD,b,ntmps77,Exit.thenS,h1];apply wpS_seq;apply wpS_region;simp[wpOpsS,go_sem,Exit.thenS,P1];refine wpS_cond (t:=false) (by simp[Act.eval,P1]) ?_;simp only[Bool.false_eq_true,if_false];refine wpS_of_wp ?_;cases a;simp_all[wp_skip,bodyPostS,results,results77]
def sK(fs:List Fil)(s:Sg4)(c:Nat)(w:World)(b:Ending)(w':World):Prop:=match bw fs s with
 |some x=>b=.returned (.tuple #[])/\∃a v,Ext w a/\OwnE a w.heap.size v x/\w'=a.setCell ⟨c,0,I⟩ v
 |none=>b=pan 130/\Ext w w'
theorem tI(v:Value)(fs:List Fil)(s:Sg4)(w:World)(c:StW w)(a:Fs w v fs)(hl:U fs<=4000000)(H3:∀f∈fs,U f.2<=2000000):
  Calls H 48 #[v,N #[B C s.seq,B C s.fmt,B C s.first,B C s.count]] w (Cg w (bw fs s)):=by
 cases hn:bu fs (aE 3 s.seq s.fmt)with
 |none=>
  have:bw fs s=none:=by unfold bw;rw[hn]
  rw[this];exact(Da v fs s w c a hl hn).mono λd w' h=>⟨h.1,h.2⟩
 |some b=>
  obtain⟨f,hf,rfl⟩:=yB hn;exact Db v fs s _ w c a hl hn (H3 f hf)
theorem MW(v:Value)(fs:List Fil)(s:Sg4)(i j a:Nat)(b:Value)(w:World)(l:StW w)(d:Fs w v fs)(hl:U fs<=4000000)(H3:∀f∈fs,U f.2<=2000000)(n:w.cell? ⟨i,0,I⟩=M v)(h1:Blk w j 36 #[B C s.seq,B C s.fmt,B C s.first,B C s.count])(h2:Blk w a 42 #[b]):
  Calls H 47 #[L (M ⟨i,0,I⟩),L (M ⟨j,0,I⟩),L (M ⟨a,0,I⟩)] w (sK fs s a w):=by
 obtain⟨A,c,rfl,_,_⟩:=Fs.open_ d;have a:=aM h1;have key:=tI _ fs s w l d hl H3;unfold sK;obtain⟨R,a⟩:∃R,bw fs s=R:=⟨_,rfl⟩;rw[a]at key⊢;have a:=E key;have k:=E h2;go_enter func47,ntmps47
 go_wp2_with fail
 refine a.mono ?_;rintro e m⟨h,H4⟩;cases R with
 |none=>
  obtain rfl:=h;exact⟨rfl,rfl,H4⟩
 |some x=>
  obtain⟨a,rfl,g⟩:=h;obtain⟨a,a,rfl,_,_⟩:=xO (xW g);have hb:=k.ext H4;have a:=hb.frozen 0;have a:=hb.cell 0 rfl;have a:=E g;go_wp2_with fail
  go_end0;exact⟨rfl,m,H4,_,a.out,rfl⟩
def sG(fs:List Fil)(s:Sg4)(a:Nat)(b:Value)(w:World)(c:Ending)(w':World):Prop:=match bw fs s with
 |some x=>c=.returned (B C 0)/\(∃v,OwnE w' w.heap.size v x/\Blk w' a 42 #[v])/\eP a w w'
 |none=>c=.returned (B C 130)/\Blk w' a 42 #[b]/\Ext w w'
theorem Nu(v:Value)(fs:List Fil)(s:Sg4)(q r a:Nat)(b:Value)(w:World)(Q:StW w)(P:Fs w v fs)(hl:U fs<=4000000)(H3:∀f∈fs,U f.2<=2000000)(O:w.cell? ⟨q,0,I⟩=M v)(h1:Blk w r 36 #[B C s.seq,B C s.fmt,B C s.first,B C s.count])(h2:Blk w a 42 #[b]):
  Calls H 32 #[.func (.func 47) #[] #[L (M ⟨q,0,I⟩),L (M ⟨r,0,I⟩),L (M ⟨a,0,I⟩)]] w (sG fs s a b w):=by
 have d:∀(fn:Fn) (first cap:Array Value) (w:World),(P4 fn first cap).run H w=.ok (.func fn first cap) w:=λ_ _ _ _=>rfl;have d:Ext w (w.alloc (F #[B C 0] 45)):=xA (xR _) _;have he:=P0 w 45 #[B C 0];have key:=MW v fs s q r a b _ (Q.ext d) (P.ext d) hl H3 (d.cell O) (h1.ext d) (h2.ext d);unfold sG;unfold sK at key;obtain⟨R,q⟩:∃R,bw fs s=R:=⟨_,rfl⟩;rw[q]at key⊢;have q:=E key;have g:=E h2;have k:=E d;have y:=E he;go_enter_defers func32,ntmps32
 go_wp2_with fail
 refine q.mono ?_;rintro e d G;cases R with
 |none=>
  obtain⟨rfl,H4⟩:=G;have l:=y.ext H4;have N:=(g.ext k).ext H4;refine leaves_cons (f:=77) (args:=#[L (M ⟨w.heap.size,0,I⟩)]) (by simp) (by simp[go_sem]) ?_;refine(zz ⟨w.heap.size,0,I⟩ _ 130 [] _ (l.cell 0 rfl) (l.frozen 0)).mono ?_;rintro e S h⟨rfl,rfl,rfl⟩;have j:a≠w.heap.size:=by have:=g.lt;omega
  have hs:=l.set 0 (B C 130);have hc:=hs.cell 0 rfl;simp[Leaves,settle,results,results32,go_sem,hc];exact⟨N.other j 0 _,P2 (p:=⟨w.heap.size,0,I⟩) (xT k H4) (xN _) _⟩
 |some x=>
  obtain⟨rfl,h,c,H0,D,rfl⟩:=G;have j:a≠w.heap.size:=by have:=g.lt;omega
  have l:Blk h a 42 #[b]:=(g.ext k).ext H0;have q:Blk (h.setCell ⟨a,0,I⟩ c) a 42 #[c]:=l.set 0 c;have d:=y.ext H0;have b:=d.other j.symm 0 c;have d:=D.kept (ar _ a 0 c) (.inr (l.not_row (by decide) D).symm);have t:Hid (eP a w (h.setCell ⟨a,0,I⟩ c)):=E λn o m=>P2 (p:=⟨a,0,I⟩) (xT o (xT k H0)) m c;obtain⟨i,k⟩:∃i,h.setCell ⟨a,0,I⟩ c=i:=⟨_,rfl⟩;rw[k]at q b d t⊢;have h:=b.frozen 0;have h:=b.cell 0 rfl;have J:=E q;have z:=E b;have A:=E d;have K:=E j;go_wp2_with fail
  refine leaves_cons (f:=77) (args:=#[L (M ⟨w.heap.size,0,I⟩)]) (by simp) (by simp[go_sem]) ?_;refine(zt ⟨w.heap.size,0,I⟩ _).mono ?_;rintro e S b⟨rfl,rfl,rfl⟩;have hs:=z.set 0 (B C 0);have hc:(i.setCell ⟨w.heap.size,0,I⟩ (B C 0)).cell? ⟨w.heap.size,0,I⟩=M (B C 0):=hs.cell 0 rfl;have h1:=J.other K 0 (B C 0);have h2:=A.kept (ar _ w.heap.size 0 (B C 0)) (.inr (z.not_row (by decide) A).symm);have b:a<w.heap.size:=g.lt;have h3:eP a w (i.setCell ⟨w.heap.size,0,I⟩ (B C 0)):=λn o m=>P2 (p:=⟨w.heap.size,0,I⟩) (t n o m) (by show n.heap.size<=w.heap.size;omega) _;generalize i.setCell ⟨w.heap.size,0,I⟩ (B C 0)=w5 at *;simp[Leaves,settle,results,results32,go_sem,hc];exact⟨⟨c,ay h2 (by simp),h1⟩,h3⟩
theorem Bp(tmps:Array Value)(W:World)(b:Nat)(v u:Value)(h4:tmps.getD 4 undef=L (M ⟨b,0,I⟩))(h5:tmps.getD 5 undef=u)(hb:Blk W b 42 #[v]):(results Tryz.f15 tmps).run H W=.ok (.tuple #[v,u]) W:=by
 have hc:=hb.cell 0 rfl;have c:tmps[4]?.getD undef=L (M ⟨b,0,I⟩):=by simpa using h4
 have a:tmps[5]?.getD undef=u:=by simpa using h5
 have d:=underlying42;simp[results,results15,c,a,asAddr,go_sem,hc,d]
theorem DD (v:Value) (fs:List Fil) (s:Sg4) (w:World) (hS:StW w) (hF:Fs w v fs) (hl:fs.length<=4000000) (H3:∀ f∈fs,f.2.length<=2000000) :
  Calls H 15 #[v,N #[B C s.seq,B C s.fmt,B C s.first,B C s.count]] w (sQ w (bw fs s)):=by
 have Je:∀ (fn:Fn) (first cap:Array Value) (w:World),(P4 fn first cap).run H w=.ok (.func fn first cap) w:=fun _ _ _ _=>rfl
 obtain ⟨A,c,rfl,_,_⟩:=Fs.open_ hF
 have Hh:Ext w (w.alloc (F #[D A fs.length c] 22)):=xA (xR _) _
 have Ht:Ext (w.alloc (F #[D A fs.length c] 22)) ((w.alloc (F #[D A fs.length c] 22)).alloc (F #[B C s.seq,B C s.fmt,B C s.first,B C s.count] 36)):=xA (xR _) _
 have Hj:Ext ((w.alloc (F #[D A fs.length c] 22)).alloc (F #[B C s.seq,B C s.fmt,B C s.first,B C s.count] 36)) (((w.alloc (F #[D A fs.length c] 22)).alloc (F #[B C s.seq,B C s.fmt,B C s.first,B C s.count] 36)).alloc (F #[D none 0 0] 42)):=xA (xR _) _
 have b0:=(P0 w 22 #[D A fs.length c]).ext (xT Ht Hj);have b1:=(P0 (w.alloc (F #[D A fs.length c] 22)) 36 #[B C s.seq,B C s.fmt,B C s.first,B C s.count]).ext Hj;have b2:=P0 ((w.alloc (F #[D A fs.length c] 22)).alloc (F #[B C s.seq,B C s.fmt,B C s.first,B C s.count] 36)) 42 #[D none 0 0];rw[xS] at b1;rw[xS,xS] at b2;have hX:=xT Hh (xT Ht Hj);have key:=Nu (D A fs.length c) fs s w.heap.size (w.heap.size+1) (w.heap.size+1+1) _ _ (hS.ext hX) (hF.ext hX) hl H3 (b0.cell 0 rfl) b1 b2;unfold sG at key;unfold sQ;obtain ⟨R,hR⟩:∃ R,bw fs s=R:=⟨_,rfl⟩
 rw[hR] at key ⊢
 have H1:=E key;have HX:=E hX;clear key hR hS hF H3 hX Hh Ht Hj b0 b1 b2
 go_enter func15,ntmps15
 go_wp2_with fail
 refine H1.out.mono ?_
 rintro e w1 hr
 cases R with
 | none =>
  obtain ⟨rfl,hb,hE⟩:=hr;have g0:=hb.cell 0 rfl;have f0:=hb.frozen 0;have Hb:=E hb;have HE:=E (xT HX hE);clear hb hE;go_wp2_with fail
  refine bodyPost_ret (Bp _ _ _ _ _ rfl rfl (Hb.out.set 0 (D none 0 0))) rfl ?_
  exact ⟨_,rfl,World.ownsRow_nil _ _ _ _,P2 (p:=⟨w.heap.size+1+1,0,I⟩) HE (by show w.heap.size<=w.heap.size+1+1;omega) _⟩
 | some x =>
  obtain ⟨rfl,⟨v1,ho,hb⟩,hG⟩:=hr;have hE:=hG w HX (by omega);obtain ⟨A3,c3,rfl,_,_⟩:=xO (xW ho);have g0:=hb.cell 0 rfl;have f0:=hb.frozen 0;have Hb:=E hb;have HE:=E hE;have Ho:=E ho;clear hb hE ho hG;go_wp2_with fail
  refine bodyPost_ret (Bp _ _ _ _ _ rfl rfl (Hb.out.set 0 (D A3 x.length c3))) rfl ?_
  exact ⟨_,rfl,ay (Ho.out.kept (ar _ _ 0 _) (.inr (Hb.out.not_row (by decide) Ho).symm)) (by have:=HX.out.size;simpa using this),P2 (p:=⟨w.heap.size+1+1,0,I⟩) HE (by show w.heap.size<=w.heap.size+1+1;omega) _⟩
theorem Nm(A:Option Addr)(n c:Nat)(a:Value)(m:Mf)(w:World):Calls H 38 #[D A n c,.agg (mfC m a)] w λe w'=>e=.returned (.func (.func 85) #[] #[L (M ⟨w.heap.size+1,0,I⟩),L (M ⟨w.heap.size,0,I⟩)])/\(w.alloc (F #[D A n c] 22)).alloc (F (mfC m a) 30)=w':=by
 have a:∀(fn:Fn) (first cap:Array Value) (w:World),(P4 fn first cap).run H w=.ok (.func fn first cap) w:=λ_ _ _ _=>rfl;unfold mfC;go_enter func38,ntmps38
 go_wp2;go_ret;exact⟨rfl,rfl⟩
def eM(e:Int):List PanicEntry:=[{ v:=.iface 45 (B C e),recovered:=false }]
theorem Ii{fs:List Fil}{l:List Sg4}{j:Nat}(h:j<U l)(hk:(aI fs (l.take j)).2=true){x:List Ent}(he:bw fs l[j]=M x){k:Nat}(hx:k<U x):∃a,(aI fs l).1=((aI fs (l.take j)).1++(cy l[j].first x).take k)++(l[j].first+(k:Int),x[k])::a:=by
 obtain⟨a,c⟩:=Mt fs l j h hk he;refine⟨(cy l[j].first x).drop (k+1)++a,?_⟩;have hl:k<U (cy l[j].first x):=by rw[oN];exact hx
 have hg:=rA x l[j].first k hx;rw[P7 hl]at hg
 injection hg with hg
 have a:=List.drop_eq_getElem_cons hl;rw[hg]at a;have b:=(List.take_append_drop k (cy l[j].first x)).symm;rw[c];rw[a]at b;generalize List.take k (cy l[j].first x)=P at *;generalize List.drop (k+1) (cy l[j].first x)=Q at *;rw[b];simp only[P8,P9]
structure SaI (w0 W0:World) (n1 pl:Nat) (v:Value) (G:Nat->Prop) (W:World):Prop where
 g:∀ k,G k->w0.heap.size<=k/\(k<n1\/W0.heap.size<=k)
 hc:HC w0 W
 bl:Blk W pl 22 #[v]
 sz:W0.heap.size<=W.heap.size
theorem SaI.ext{d b W W':World}{n1 c:Nat}{v:Value}{G:Nat->Prop}(h:SaI d b n1 c v G W)(a:Ext W W'):SaI d b n1 c v G W':=
 ⟨h.g,Kept.trans h.hc (HC.of_ext a),h.bl.ext a,Nat.le_trans h.sz a.size⟩
theorem SaI.kept{c a W W':World}{n1 b:Nat}{v:Value}{G d:Nat->Prop}(h:SaI c a n1 b v G W)(e:n1<=b)(e:b<a.heap.size)(e:c.heap.size<=a.heap.size)(hk:Kept (am (KG G) a.heap.size) W W')(e:∀k,d k->G k\/W.heap.size<=k):SaI c a n1 b v d W':=by
 have hs:=h.sz;refine⟨λk a=>?_,h.hc.keptG hk λk hg=>(h.g k hg).1,Blk.keptG h.bl hk λhg=>?_,Nat.le_trans hs hk.size⟩
 ·rcases e k a with h1 | h1
  ·exact h.g k h1
  exact⟨by omega,.inr (by omega)⟩
 ·have:=(h.g _ hg).2;omega
attribute [local go_sem] Oper.semAt_some in
theorem Mp(o d:World)(v vs:Value)(fs:List Fil)(m:Mf)(hS:StW o)(hF:Fs o v fs)(hG:Sgs o vs m.segs)(hl:U fs<=4000000)(H3:∀f∈fs,U f.2<=2000000)(HW:∀s∈m.segs,1<=s.first/\s.first<=1073741820/\-1<=s.count/\s.count<=4)(hn:U m.segs<=60)(Km:Ext o d)(z pm n1:Nat)(Ji:n1<=z)(Kl:Blk d z 22 #[v])(H8:Blk d pm 30 (mfC m vs)):
  Cl H 85 #[L (M ⟨pm,0,I⟩),L (M ⟨z,0,I⟩)] (λ(x:Int×Ent) av _=>av = #[B C x.1,N #[B C x.2.t,B C x.2.k,B C x.2.v]]) (λ_ _=>False) (aI fs m.segs).1 (if(aI fs m.segs).2=true then none else some (eM 130)) (λG=>∀k,G k->o.heap.size<=k/\k<n1) d:=by
 intro lp J hJ KZ hY G0 Kn h0;obtain⟨A,c,rfl,_,_⟩:=hG.open_;obtain⟨V,c1,rfl,_,_⟩:=Fs.open_ hF;obtain⟨XS,K5⟩:∃X,(aI fs m.segs).1=X:=⟨_,rfl⟩;obtain⟨PN,Ko⟩:∃X,(if(aI fs m.segs).2=true then none else some (eM 130))=X:=⟨_,rfl⟩;rw[K5]at hY;rw[K5,Ko];refine(callsIn_wd (ro:=none) (n:=9)).1 ?_;refine callsIn_of_wp func85 rfl trivial ?_ rfl;simp only[ntmps85,List.size_toArray,xC,List.length_nil,Nat.reduceAdd,Nat.reduceSub,Array.replicate_succ,Array.replicate_zero,List.push_toArray,List.append_toArray,xI,P9];have KX:SaI o d n1 z (D V fs.length c1) G0 d:=⟨λk hk=>⟨(Kn k hk).1,.inl (Kn k hk).2⟩,HC.of_ext Km,Kl,xN _⟩;have J9:J G0 (aI fs (m.segs.take 0)).1 d:=by rw[P6];exact h0
 have KW:(aI fs (m.segs.take 0)).2=true:=by rw[P6];rfl
 have HV:z<d.heap.size:=Kl.lt;have Jl:o.heap.size<=d.heap.size:=Km.size;obtain⟨_,_,_,_,_,m5⟩:=aj (show Blk d pm 30 #[B C m.next,B C m.term,B C m.vote,B C m.sq,B C m.sf,D A m.segs.length c]from H8);have JG:=E (P3 Ji (P3 HV Jl));have HS:=E hS;have HF:=E hF;have HG:=E hG;have Jx:=E H3;have Kh:=E HW;have HN:=E hn;have HY:=E hY;have HJ:=E hJ;have JC:=E KZ;have Kj:=E K5;have KQ:=E Ko;have KA:=E KX;have KI:=E J9;have Kz:=E KW;have HL:=E hl;clear hS hF hG H3 HW hn hY hJ KZ K5 Ko KX J9 h0 Kn Km Kl H8 Ji HV Jl KW hl;gi_wp2;gi_loopw [11] (λKx W=>∃(j:Nat) (G:Nat->Prop),j<=U m.segs/\Kx=B C j/\Hid (J G (aI fs (m.segs.take j)).1 W)/\Hid ((aI fs (m.segs.take j)).2=true)/\Hid (SaI o d n1 z (D V fs.length c1) G W)) (λKx _=>U m.segs-(intOf Kx).toNat)
 case atStart=>exact⟨0,G0,Nat.zero_le _,rfl,KI,Kz,KA⟩
 case round=>
  clear KI Kz KA m5;obtain⟨j,G,O,rfl,Ke,K1,Jr⟩:=hrel;by_cases a:j<U m.segs
  ·have Kr:=Jr.out;obtain⟨_,b,JV,rfl,Hl⟩:=(Sgs.hc HG Kr.hc).at_ (by omega);obtain⟨s0,s1,s2,s3⟩:=Hl j a;obtain⟨k1,k2,k3,k4⟩:=Kh _ (List.getElem_mem a);have Ka:=λx he k hx=>Ii (fs:=fs) a K1 (x:=x) he (k:=k) hx;have hbd:=Ms fs m.segs j a K1;have w:=Ih fs m.segs j a K1;obtain⟨s,hs⟩:∃s,m.segs[j]=s:=⟨_,rfl⟩;rw[hs]at s0 s1 s2 s3 k1 k2 k3 k4 hbd w;simp only[hs]at Ka;have Hh:Ext wr (wr.alloc (F #[B C s.seq,B C s.fmt,B C s.first,B C s.count] 36)):=xA (xR _) _;have R:=Kr.ext Hh;have K6:=P0 wr 36 #[B C s.seq,B C s.fmt,B C s.first,B C s.count];have Ja:=HJ _ _ _ _ Ke (Moves.of_ext Hh);have KY:∀k,G k->k<wr.heap.size:=λk h=>JC.out _ _ _ Ke k h;have key:=tI (D V fs.length c1) fs s _ (HS.hc R.hc) (HF.hc R.hc) HL Jx;obtain⟨rx,K9⟩:∃r,bw fs s=r:=⟨_,rfl⟩;rw[K9]at key hbd w;simp only[K9]at Ka;have Jd:=λx (h:rx=M x)=>qc (K9.trans h);have l1:=R.bl.cell 0 rfl;have ea:=aM K6;have H1:=E key;have JH:=E Ka;have Jw:=E hbd;have JI:=E w;have JE:=E Jd;have Js:=E R;have Jz:=E Ja;have KF:=E KY;have Jy:=E K6;have HK:=E (P3 k1 (P3 k2 (P3 k3 k4)));clear Kr Hl Ka hbd w Hh R K6 Ja KY key K9 Jd k1 k2 k3 k4 hs;gi_wp2;refine⟨trivial,(callsIn_wd.2 H1).mono ?_⟩;rintro e w2⟨hr,H0⟩;have J0:=Js.ext H0;have K7:=HJ _ _ _ _ Jz (Moves.of_ext H0);have HM:=Jy.ext H0;have Kb:=H0.size;rw[xS]at Kb;cases rx with
   |none=>
    obtain rfl:=hr;have hb:=Jw rfl;have K8:PN=M (eM 130):=by rw[<-KQ.out,hb];rfl
    have S:=Kj.out;rw[hb]at S;rw[show(aI fs (m.segs.take j)).1=XS from S]at K7;exact⟨rfl,G,K7,.inr ⟨_,K8,rfl⟩⟩
   |some x=>
    obtain⟨v1,rfl,P⟩:=hr;obtain⟨A3,T,rfl,_,_⟩:=xO (xW P);obtain⟨Jn,Jo⟩:=JE x rfl;have Jk:U x<=4:=by
     obtain⟨_,_,_,h4⟩:=HK;by_cases h:s.count = -1
     ·exact(Jn h).2
     have:=Jo h;omega
    rw[xS]at P;have Jh:∀q,(Value.slice A3 x.length T).ownBlock=M q->¬G q:=λq y hg=>by
     have h1:=KF q hg;have h2:=P.1;rcases P.2 with⟨hn,_⟩|⟨g,cap,cur,e,hb,_⟩
     ·rw[hn]at y;cases y
     rw[e]at y;have y:g=q:=by simpa[Value.ownBlock]using y
     omega
    have J7:¬G wr.heap.size:=λh=>by have:=KF _ h;omega
    have KC:=E J0;have KJ:Hid (J G ((aI fs (m.segs.take j)).1++(cy s.first x).take 0) w2):=E (by rw[P6,List.append_nil];exact K7);have Hx:=E HM;have HO:=E P;have KP:=E Jh;have KH:=E J7;have KR:=E Jk;clear J0 K7 HM P Jh J7 Jn Jo Jk H0 s0 s1 s2 s3 l1 Kb ea;gi_wp2;gi_loopw [19] (λKy W=>∃(k:Nat) (p:Nat->Prop),k<=U x/\Ky=B C k/\Hid (J p ((aI fs (m.segs.take j)).1++(cy s.first x).take k) W)/\Hid (SaI o d n1 z (D V fs.length c1) p W)/\Hid (OwnE W (wr.heap.size+1) (D A3 x.length T) x)/\Hid (∀q,(Value.slice A3 x.length T).ownBlock=M q->¬p q)/\Hid (Blk W wr.heap.size 36 #[B C s.seq,B C s.fmt,B C s.first,B C s.count])/\Hid (¬p wr.heap.size)) (λKy _=>U x-(intOf Ky).toNat)
    case atStart=>exact⟨0,G,Nat.zero_le _,rfl,KJ,KC,HO,KP,Hx,KH⟩
    case round=>
     rename World=>wo
     clear KJ KC HO KP Hx KH;obtain⟨k,p,hk,rfl,KK,KD,KN,HD,Kc,HA⟩:=hrel;by_cases i:k<U x
     ·obtain⟨_,bx,ox,rfl,J5⟩:=Es.at_ (OwnE.es KN) (by omega);obtain⟨d0,d1,d2⟩:=J5 k i;obtain⟨Hc,Z⟩:=JH x rfl k i;rw[Kj.out]at Z;have Hr:=MD x s.first k i;obtain⟨e,he⟩:∃e,x[k]=e:=⟨_,rfl⟩;rw[he]at d0 d1 d2 Z Hr
      have Q:Ext wo (wo.alloc (F #[B C e.t,B C e.k,B C e.v] 54)):=xA (xR _) _;have Jb:=HJ _ _ _ _ KK (Moves.of_ext Q);have Kq:=KD.ext Q;have hy:=HY p _ (s.first+(k:Int),e) Hc Z _ #[B C (s.first+(k:Int)),N #[B C e.t,B C e.k,B C e.v]] Jb Kq.sz rfl;have Jf:=OwnE.ext KN Q;have Ks:=Kc.ext Q;have J4:=P0 wo 54 #[B C e.t,B C e.k,B C e.v];have eb:=ez J4;have ea:=aM Ks;obtain⟨q1,q2,_,_⟩:=HK;have G1:IntKind.i64.wrap (s.first+(k:Int))=s.first+(k:Int):=by rw[IntKind.wrap_i64];have:=KR.out;omega
      have JR:wrap64 (s.first+(k:Int))=s.first+(k:Int):=by unfold wrap64;have:=KR.out;omega
      have JX:(k:Int)<(U x:Int):=by omega
      have Hy:=E hy;have Jt:=E Kq;have KO:=E Jf;have KE:=E Ks;have Ki:=E Hr;have KL:=E i;clear hy Kq Jf Ks Hr i J4 Jb Q Z J5 q1 q2 he;gi_wp2;refine ew Hy ?_;rintro e' W' ⟨rfl,Hw,Y,K4,K⟩;refine⟨true,rfl,?_⟩;obtain⟨p1,p2,p3⟩:=JG;have J1:=Jt.kept p1 p2 p3 Hw K4;have Jg:OwnE W' (wr.heap.size+1) (D (M ⟨bx,ox,I⟩) x.length T) x:=OwnE.keptG KO Hw HD;have J3:=Blk.keptG KE Hw HA;have HU:∀q,(Value.slice (M ⟨bx,ox,I⟩) x.length T).ownBlock=M q->¬Y q:=λq y hg=>by
       rcases K4 q hg with h | h
       ·exact HD q y h
       have:=(KO.lt q y).2;omega
      have HQ:¬Y wr.heap.size:=λhg=>by
       rcases K4 _ hg with h | h
       ·exact HA h
       have:=KE.lt;omega
      have Jc:J Y ((aI fs (m.segs.take j)).1++(cy s.first x).take (k+1)) W':=by
       rw[Ki.out,<-P8];exact K
      have Ju:=E J1;have JF:=E Jg;have Jv:=E J3;have Kf:=E HU;have Kd:=E HQ;have JB:=E Jc;clear J1 Jg J3 HU HQ K Jc Hw K4 Hy d0 d1 d2 p1 p2 p3 ea eb;gi_wp2;exact⟨⟨k+1,Y,KL.out,by go_num,JB,Ju,JF,Kf,Jv,Kd⟩,by have:=KL.out;simp[intOf];omega⟩
     obtain rfl:k=U x:=by omega
     have K:=KK.out;have JP:=oN x s.first;rw[List.take_of_length_le (l:=cy s.first x) (by omega)]at K;have w:=JI.out
     have JA:Hid (J p (aI fs (m.segs.take (j+1))).1 wo):=E (by rw[w];exact K);have Jq:Hid ((aI fs (m.segs.take (j+1))).2=true):=E (by rw[w]);have KM:=E a;clear K w JP;gi_wp2;exact⟨⟨j+1,p,KM.out,by go_num,JA,Jq,KD⟩,by have:=KM.out;simp[intOf];omega⟩
  ·obtain rfl:j=U m.segs:=by omega
   have O:=Ke.out;have h2:=K1.out;rw[List.take_length]at O h2;have HJ:=E O;have K8:PN=none:=by rw[<-KQ.out,if_pos h2]
   have Kg:=E K8;have S:=Kj.out;rw[S]at O;have JD:=E O;clear O h2 K8 S;gi_wp2;refine bodyPost_end (results_none rfl _ _ _) rfl ?_;exact⟨G,JD.out,.inl ⟨Kg.out,_,rfl⟩⟩
def Cr(w:World)(r:Option Sta)(a:Ending)(w':World):Prop:=(match r with
 |some s=>a=.returned (N #[B C s.idx,B C s.term,B C s.sum,B C s.lvl,O s.fin])
 |none=>a=pan 130)/\Ext w w'
theorem tj(tmps:Array Value)(W:World)(b:Nat)(cs:Array Value)(h4:tmps.getD 4 undef=L (M ⟨b,0,I⟩))(hb:Blk W b 41 cs)(hs:cs.size=5):(results Tryz.f37 tmps).run H W=.ok (.agg cs) W:=by
 have hl:=hb.load (P:=H) fN rfl (by rw[hs];kernel_rfl);have a:tmps[4]?.getD undef=L (M ⟨b,0,I⟩):=by simpa using h4
 simp[results,results37,a,asAddr,hl]
theorem lI{W:World}{b c:Nat}{t:TypeId}{cs:Array Value}(h:Blk W b t cs)(a:b≠c)(d f e g i:Value):Blk (((((W.setCell ⟨c,0,I⟩ d).setCell ⟨c,1,I⟩ f).setCell ⟨c,2,I⟩ e).setCell ⟨c,3,I⟩ g).setCell ⟨c,4,I⟩ i) b t cs:=
 ((((h.other a 0 d).other a 1 f).other a 2 e).other a 3 g).other a 4 i
