/- Merged -/
import Derived.Test.YteggfecbjgbndaaGreatDoorZx36
import Derived.Lib.ConvBytes
import Derived.Deep.WholeRow
set_option linter.all false
set_option maxHeartbeats 8000000
set_option maxRecDepth 100000
open List renaming length->z
open Go.Value renaming slice->E,int->I,bool->N,string->R,pointer->U,agg->r
open Go.IntKind renaming i64->J,u8->V
open Go.Obj renaming cells->L
open Go.Mv renaming aN->M
open Option renaming some->O,none->T
open Go.Proofs.Tryz renaming prog->Z
open Go.Result renaming andThen_ok->P0
open List renaming getElem?_eq_getElem->P1,getElem?_map->P2
open Go.RowKit.Below renaming heap_setCell->P3,setCell->P4
open Go.Sem renaming run_pure->P5,run_bind->P6
open Go.Instr renaming sureAddr->P7,loadAt->P8
open Go.Mv.Blk renaming new->P9
open Go.Value renaming slice->Pa
open Array renaming getElem?_eq_getElem->Pb,ext->Pc
open Go.Oper renaming semAt_some->Pd,semAt_none->Pe,wp->Pf,about->Pg,wpIn->Ph
namespace Go.Proofs.YteggfecbjgbndaaGreatDoor
open Go.RowKit Go.Mv Go.Shelf
variable {a:Act} {p:Addr} {ops:Array Oper} {cs ocs:Array Value} {d:Dk} {Q:Exit->Act->World->Prop} {b c c1 e e1 m n:Nat} {S:Nat->Prop} {o:Oper} {A A1 B B1:Option Addr} {P:Program} {t:TypeId} {u v vb x:Value} {W w:World}
theorem BO(W:World)(cs:List Value)(t:TypeId)(f m:Nat)(hs:z cs=m*f)(hm:m<=1000)(hn:W.heap.size=n):SlR (W.alloc (L cs.toArray t)) f (E (O ⟨n,0,T⟩) m m) m cs:=by
 subst hn;refine⟨hs,_,_,rfl,xN _,by unfold maxLen;omega,λ_=>⟨_,0,rfl,λj u f=>?_⟩⟩;have:=(P9 W t cs.toArray).cell (0+j) (by simpa using f);exact this
theorem BM(tmps:Array Value)(W:World)(b:Nat)(cs:Array Value)(e:Value)(h4:tmps.getD 6 undef=U (O ⟨b,0,T⟩))(h3:tmps.getD 7 undef=e)(hb:Blk W b 25 cs)(hs:cs.size=5):(results Tryz.f17 tmps).run Z W=.ok (.tuple #[.agg cs,e]) W:=by
 have g:tmps[6]?.getD undef=U (O ⟨b,0,T⟩):=by simpa using h4
 have f:tmps[7]?.getD undef=e:=by simpa using h3
 have hl:=hb.load (P:=Z) em rfl (by rw[hs];kernel_rfl);simp[results,Tryz.results17,g,f,asAddr,hl,P6,P5,P0]
def cj(d:Dk)(f:Option (List UInt8))(b:List UInt8):Dk×Int:=match f with | none=>(d,2) | some n=>putS d n b
theorem AR(v:Value)(d:Dk)(n:Nat)(k s f:Int)(vb:Value)(b:List UInt8)(w:World)(Y:StW w)(hD:DkV w v d)(hs:Sz n d)(hB:Bs w vb b)(Kr:n+2+z b<=1000000):
  Calls Z 17 #[v,r #[I V k,I J s,I J f],vb] w λe w'=>∃u,e=.returned (.tuple #[u,I J (cj d (aE k s f) b).2])/\OwnD w' w.heap.size u (cj d (aE k s f) b).1/\Ext w w':=by
 obtain⟨y,y,rfl,hF,hQ⟩:=hD;obtain⟨A,c,rfl,_,_⟩:=Fs.open_ hF;obtain⟨B,G,rfl,_,_⟩:=Qs.open_ hQ;obtain⟨C,X,rfl,_,_⟩:=xO hB;obtain⟨y,R⟩:∃y,((w.alloc (L #[E A d.fs.length c,E B d.q.length G,I J d.quota,I J d.fuse,N d.dead] 25)).alloc (L #[I V k,I J s,I J f] 32)).alloc (L #[E none 0 0,E none 0 0,I J 0,I J 0,N false] 25)=y:=⟨_,rfl⟩;have D:Ext w y:=by rw[<-R];exact xA (xA (xA (xR _) _) _) _
 have h0:Blk y w.heap.size 25 (ap A d.fs.length c B d.q.length G d.quota d.fuse d.dead):=by rw[<-R];exact((P9 w _ _).alloc _).alloc _
 have h1:Blk y (w.heap.size+1) 32 #[I V k,I J s,I J f]:=by
  rw[<-R];have:=(P9 (w.alloc (L #[E A d.fs.length c,E B d.q.length G,I J d.quota,I J d.fuse,N d.dead] 25)) 32 #[I V k,I J s,I J f]).alloc (L #[E none 0 0,E none 0 0,I J 0,I J 0,N false] 25);rwa[xS]at this
 have h2:Blk y (w.heap.size+1+1) 25 (ap none 0 0 none 0 0 0 0 false):=by
  rw[<-R];have:=P9 ((w.alloc (L #[E A d.fs.length c,E B d.q.length G,I J d.quota,I J d.fuse,N d.dead] 25)).alloc (L #[I V k,I J s,I J f] 32)) 25 #[E none 0 0,E none 0 0,I J 0,I J 0,N false];rwa[xS,xS]at this
 have U:=M D;have H0:=M h0;have H2:=M h2;have HB:=M (hB.ext D);have HF:=M (hF.ext D);have HQ:=M (hQ.ext D);have R:=M (lG k s f y (Y.ext D));have ea:=ae h0;have y:=h1.cell 0 rfl;have y:=h1.cell 1 rfl;have y:=h1.cell 2 rfl;have HZ:=M hs;have Kd:=M Kr;obtain⟨S,Y⟩:∃S,cj d (aE k s f) b=S:=⟨_,rfl⟩;rw[Y];have H:=M Y;go_enter Tryz.func17,Tryz.ntmps17
 go_wp2_with fail
 refine R.mono ?_;rintro e h⟨rfl,y⟩;have ea:=ae (H0.ext y);have g:=M y;cases hn:aE k s f with
 |none=>
  have Hx:=H.out;rw[hn]at Hx;subst Hx;simp only[Option.getD_none,Option.isSome_none,Bool.false_eq_true,if_false,sv];go_wp2_with fail
  refine(nz _ d n h (show DkV h _ d from⟨_,_,rfl,HF.ext g,HQ.ext g⟩) (by have:=Kd.out;omega) HZ).mono ?_;rintro e w2⟨u,rfl,⟨A3,c3,B3,e3,rfl,of,oq⟩,K⟩;have i:=H2.ext (xT g K);have hX:=xT U (xT g K);have j:=xT U g;have eb:=aH i;have ec:=ae i;have l:=M i;have Q2:=M of;have Q3:=M oq;have Q4:=M hX;have F:=M j.size;go_wp2_with fail
  refine bodyPost_ret (BM _ _ _ _ (I J 2) rfl rfl (aT l _ _ _ _ _) rfl) rfl ?_;exact⟨_,rfl,⟨_,_,_,_,rfl,OwnF.box1 (OwnX.base Q2.f F) l,OwnQ.box1 (OwnX.base Q3 F) l⟩,aS Q4 (by omega) _ _ _ _ _⟩
 |some nm=>
  have Hx:=H.out;rw[hn]at Hx;simp only[cj,putS]at Hx;simp only[Option.getD_some,Option.isSome_some,if_true,sv];have H:=M Hx;go_wp2_with fail
  have j:Ext h (h.alloc (L #[I V 1,sv nm,sv [],E none 0 0,I V 2,sv nm,sv [],E C b.length X] 98)):=xA (xR _) _;have D:Qs (h.alloc (L #[I V 1,sv nm,sv [],E none 0 0,I V 2,sv nm,sv [],E C b.length X] 98)) (E (O ⟨h.heap.size,0,T⟩) 2 2) [dP nm,d8 nm b]:=
   ⟨[I V 1,sv nm,sv [],E none 0 0,I V 2,sv nm,sv [],E C b.length X],BO h _ 98 4 2 rfl (by omega) rfl,
     RowOf.append (xs:=[I V 1,sv nm,sv [],E none 0 0]) (ip (o:=dP nm) (SlR.nil _ 1)) (ip (o:=d8 nm b) (Bs.ext (HB.ext g) j))⟩
  have y:=qM _ d n true _ [dP nm,d8 nm b] _ (show DkV (h.alloc (L #[I V 1,sv nm,sv [],E none 0 0,I V 2,sv nm,sv [],E C b.length X] 98)) (r #[E A d.fs.length c,E B d.q.length G,I J d.quota,I J d.fuse,N d.dead]) d from⟨_,_,rfl,(HF.ext g).ext j,(HQ.ext g).ext j⟩) HZ D (by have:=Kd.out;simp[aL,dP,d8];omega);rw[H.out]at y;refine y.mono ?_;rintro e w2⟨u,rfl,⟨A3,c3,B3,e3,rfl,of,oq⟩,K⟩;have h:=xT g (xT j K);have i:=H2.ext h;have hX:=xT U h;have Km:=xT U (xT g j);have eb:=aH i;have ec:=ae i;have l:=M i;have Q2:=M of;have Q3:=M oq;have Q4:=M hX;have F:=M Km.size;go_wp2_with fail
  refine bodyPost_ret (BM _ _ _ _ (I J S.2) rfl rfl (aT l _ _ _ _ _) rfl) rfl ?_;exact⟨_,rfl,⟨_,_,_,_,rfl,OwnF.box1 (OwnX.base Q2 F) l,OwnQ.box1 (OwnX.base Q3 F) l⟩,aS Q4 (by omega) _ _ _ _ _⟩
open Go.RowKit Go.Mv
theorem Fm(n:List UInt8)(fs:List Fil):(bS fs n = -1/\ak n fs=none)\/∃(k:Nat) (h:k<z fs),bS fs n=(k:Int)/\fs[k].1=n/\ak n fs=O fs[k].2:=by
 rw[<-ya];have hb:bu fs (some n)=if bS fs n<0 then none else(fs[(bS fs n).toNat]?).map (·.2):=rfl;rw[hb];have g:bS fs n=match fs.findIdx? (λf=>f.1==n)with | none=>-1 | some i=>(i:Int):=rfl
 cases h:fs.findIdx? (λf=>f.1==n)with
 |none=>
  rw[h]at g;dsimp only at g;rw[g];exact .inl ⟨rfl,by simp⟩
 |some k=>
  obtain⟨hk,h1,h2⟩:=List.findIdx?_eq_some_iff_getElem.1 h;rw[h]at g;dsimp only at g;rw[g];refine .inr ⟨k,hk,rfl,by simpa using h1,?_⟩;have g:¬(((k:Nat):Int)<0):=Int.not_lt.2 (Int.natCast_nonneg k);rw[if_neg g];have e:((k:Nat):Int).toNat=k:=Int.toNat_natCast k;rw[e,P1 hk];rfl
theorem ng{q f:Int}{d:Bool}{k:Nat}(h:(ap A n c B m e q f d)[k]?=O u):(∃x,u=I J x)\/(∃A n c,u=E A n c)\/∃b,u=.bool b:=by
 match k,h with
 |0,h | 1,h=>exact .inr (.inl ⟨_,_,_,by injection h with h;exact h.symm⟩)
 |2,h | 3,h=>exact .inl ⟨_,by injection h with h;exact h.symm⟩
 |4,h=>exact .inr (.inr ⟨_,by injection h with h;exact h.symm⟩)
 |k+5,h=>simp[ap]at h
theorem nR(h:W.cell? p=O u)(f:p.block≠b)(g j i k l:Value):(aK W b g j i k l).cell? p=O u:=by
 have q:(aK W b g j i k l).heap[p.block]?=W.heap[p.block]?:=by
  unfold aK;rw[P3 _ _ _ _ f,P3 _ _ _ _ f,P3 _ _ _ _ f,P3 _ _ _ _ f,P3 _ _ _ _ f]
 unfold World.cell? at h⊢;rw[q];exact h
theorem Fs.setBox{q f:Int}{d:Bool}(hb:Blk W b t (ap A n c B m e q f d)){fs:List Fil}(h:Fs W v fs)(z D C E F:Value):Fs (aK W b z D C E F) v fs:=by
 obtain⟨z,h1,h2⟩:=h;refine⟨z,?_,λi hi=>?_⟩
 ·obtain⟨hl,A',c',rfl,l,r,hc⟩:=h1;refine⟨hl,A',c',rfl,l,r,λg=>?_⟩;obtain⟨s,k,rfl,H3⟩:=hc g;refine⟨s,k,rfl,λj u y=>nR (H3 j u y) ?_ _ _ _ _ _⟩;rintro rfl;rcases ng (nv hb (H3 0 _ (h2 0 g).1))with⟨x,hx⟩|⟨_,_,_,hx⟩|⟨_,hx⟩<;>cases hx
 ·obtain⟨h3,u,h4,h5⟩:=h2 i hi;refine⟨h3,u,h4,?_⟩;obtain⟨hl,A',c',rfl,l,r,hc⟩:=h5;refine⟨hl,A',c',rfl,l,r,λg=>?_⟩;obtain⟨s,k,rfl,H3⟩:=hc g;refine⟨s,k,rfl,λj u y=>nR (H3 j u y) ?_ _ _ _ _ _⟩;rintro rfl;rcases ng (nv hb (H3 0 _ (by rw[P2,P1 g];rfl)))with⟨x,hx⟩|⟨_,_,_,hx⟩|⟨_,hx⟩<;>cases hx
theorem Bs.setSl{bs:List UInt8}(i:W.cell? p=O (E A n c))(h:Bs W v bs):Bs (W.setCell p x) v bs:=by
 obtain⟨hl,A',c',rfl,h1,h2,h3⟩:=h;refine⟨hl,A',c',rfl,h1,h2,λhn=>?_⟩;obtain⟨b,g,rfl,hc⟩:=h3 hn;refine⟨b,g,rfl,λj u f=>?_⟩;have g:=hc j u f;rw[World.cell?_setCell_other]
 ·exact g
 ·intro e;rw[e,g]at i;rw[P2]at f;obtain⟨y,_,rfl⟩:=Option.map_eq_some_iff.1 f;cases i
theorem OwnQ.setSl{base j:Nat}{l:List Oq}(s:W.cell? ⟨b,j,T⟩=O (E A n c))(hb:b<base)(h:OwnQ W base v l):OwnQ (W.setCell ⟨b,j,T⟩ x) base v l:=by
 obtain⟨xs,h1,h2,h3⟩:=h;refine⟨xs,h1.kept (ar _ b j x) (.inr (λe=>by have:=(h1.lt _ e).1;omega)),⟨h2.1,λk hk=>?_⟩,h3⟩;obtain⟨f,g,i,u,q,r⟩:=h2.2 k hk;exact⟨f,g,i,u,q,Bs.setSl s r⟩
theorem mcR7ba0{P:Prop}(h:P:=by
 generalize w4.drew=w5 at *;have e1:S=({ d with q:=d.q++[o] }.burn,0):=by rw[<-H7.out];unfold Dk.doS;rw[if_neg (by rw[HM.out];decide),if_neg (by rw[Hu.out];decide),if_neg Hv,if_neg (λh=>h.elim HK HL)]
 subst e1;have HE:=M (show Ext w5 (w5.alloc (L #[] 5))from xA (xR _) _);have Ke:=M (iI w5);have Kb:=M (H.b.ext HE);obtain⟨j0,j1,j2,j3⟩:=blk4 (H.b1.ext HE);have Kf:=M (show w5.heap.size<=(w5.alloc (L #[] 5)).heap.size from HE.size);have KD:=M KL;obtain⟨iq,KM,K7,K8,K9⟩:=info_parts mR;clear H7 HM Hu Hv HK HL;go_wp2_with (first
  | (at_builtin
     refine eu (.tmp 54) (.tmp 56) rfl w5.heap.size _ [] Ke _ o.b Kb (Kn:=by have:=KD.out;simp;omega) Kf ?_;intro A5 c5 w6 K3 Kk;simp only[List.length_nil,Nat.zero_add,xI]at K3⊢;have H6:=M (H.ext (Kk w5 HE (xN _)));have HT:=M K3;clear j0 j1 j2 j3 K3 Kk;obtain⟨g0,g1,g2,g3,g4⟩:=ae H6.b0;rw[Hd.out]at g4;obtain⟨j0,j1,j2,j3⟩:=blk4 H6.b1;have f3:=H6.b1.frozen 3)
  | (at_builtin
     have Hz:Ext (w6.setCell ⟨w.heap.size+1,3,T⟩ (E A5 o.b.length c5)) ((w6.setCell ⟨w.heap.size+1,3,T⟩ (E A5 o.b.length c5)).alloc (L #[I V o.k,R ⟨o.n.toArray⟩,R ⟨o.t.toArray⟩,E A5 o.b.length c5] 98)):=xA (xR _) _;have Kg:=(H6.b0.other (by omega:w.heap.size≠w.heap.size+1) 3 (E A5 o.b.length c5)).ext Hz;have HU:=(H6.b2.other (by omega:w.heap.size+1+1≠w.heap.size+1) 3 (E A5 o.b.length c5)).ext Hz;have HV:=(OwnFA.setSl (x:=E A5 o.b.length c5) j3 H6.b1 H6.fa).ext Hz;have HJ:=OwnX.ext dy (OwnQ.setSl (x:=E A5 o.b.length c5) j3 (by omega) H6.oq) Hz;have e':=xT (P4 (p:=⟨w.heap.size+1,3,T⟩) H6.e (Nat.le_succ _) (E A5 o.b.length c5)) Hz;have Ks:=HT.kept (ar _ (w.heap.size+1) 3 (E A5 o.b.length c5)) (.inr (H6.b1.not_row (by decide) HT).symm);have K4:OwnB _ w5.heap.size (E A5 o.b.length c5) o.b:=ai Ks Hz;have Kn:∀g,(Pa B1 d.q.length e1).ownBlock=O g->∀y∈[I V o.k,R ⟨o.n.toArray⟩,R ⟨o.t.toArray⟩,E A5 o.b.length c5],bF g y:=by
      intro g hg y hy;obtain⟨_,cs,KI⟩:=ee HJ hg;simp only[List.mem_cons,List.not_mem_nil,or_false]at hy;rcases hy with rfl | rfl | rfl | rfl
      ·exact iP _ _ _
      ·exact da _ o.n
      ·exact da _ o.t
      exact OwnB.awayT K4 KI (by decide)
     refine me dy rfl (.tmp 60) (.tmp 62) 23 rfl 98 iq _ 64 Tryz.underlying23 KM K7 K8 K9 rfl (by decide) (by decide) (w.heap.size+1+1+1) _ d.q rfl HJ _ [o] [I V o.k,R ⟨o.n.toArray⟩,R ⟨o.t.toArray⟩,E A5 o.b.length c5] rfl (fu (w6.setCell ⟨w.heap.size+1,3,T⟩ (E A5 o.b.length c5)) [I V o.k,R ⟨o.n.toArray⟩,R ⟨o.t.toArray⟩,E A5 o.b.length c5] 98 4 (by simp only[World.size_setCell])) (ip (o:=o) (xW K4)) (by simp) Kn (by have:=HO.out;simp;omega) (by have:=HU.lt;omega) ?_;intro A7 c7 w9 HR Kl HP;have HI:d.q.length+[o].length=(d.q++[o]).length:=by simp
     rw[HI]at HR⊢;obtain⟨q7,K6⟩:∃q7,d.q++[o]=q7:=⟨_,rfl⟩;rw[K6]at HR⊢;have KE:=M K6;have K2:∀b,b<w.heap.size+1+1+1->some b≠(Pa B1 d.q.length e1).ownBlock:=λb hb e=>by have:=(ee HJ e.symm).1;omega
     have b0:=Kg.kept HP (K2 _ (by omega));have b2:=HU.kept HP (K2 _ (by omega));have Kp:OwnF w9 w.heap.size (E A1 d.fs.length c1) d.fs:=OwnFA.grown HV HP (by
      cases hf:(Pa A1 d.fs.length c1).ownBlock with
      |none=>exact .inl rfl
      |some g=>
       refine .inr λe=>?_;obtain⟨_,cs,h1⟩:=ee HJ e.symm;obtain⟨_,KN,h2⟩:=ee HV.f hf;rw[h1]at h2;cases h2)
     have Kj:Ext w w9:=Kl w e' (by omega);have c0:Blk _ w.heap.size 25 (ap A1 d.fs.length c1 A7 q7.length c7 d.quota d.fuse d.dead):=Blk.set (b:=w.heap.size) b0 1 (E A7 q7.length c7);have B2:=M (b2.other (by omega:w.heap.size+1+1≠w.heap.size) 1 (E A7 q7.length c7));have OF:=M (OwnF.setD (j:=1) (u:=E A7 q7.length c7) Kp (by decide) b0 aQ);have OQ:=M (OwnQ.setD (j:=1) (u:=E A7 q7.length c7) (OwnX.base HR (show w.heap.size<=_ by omega)) (by decide) b0 aQ);have OE:=M (P4 (p:=⟨w.heap.size,1,T⟩) Kj (xN _) (E A7 q7.length c7));clear g0 g1 g2 g3 g4;obtain⟨g0,g1,g2,g3,g4⟩:=ae b0;obtain⟨f0,f1,f2,KF,f4⟩:=aH b0;obtain⟨d0,d1,d2,d3,d4⟩:=ae c0;rw[Hd.out]at g4 d4;have key:=sT (r #[E A1 d.fs.length c1,E A7 q7.length c7,I J d.quota,I J d.fuse,N false]) { d with q:=q7 } _ ⟨_,_,by rw[Hd.out],OwnF.fs OF,OwnQ.qs OQ⟩ Kz;have KB:=M key;clear key K6 Hz Kg HU HV HJ e' Ks K4 Kn HR Kl HP HI K2 b0 b2 Kp Kj c0 j0 j1 j2 j3 f3 H6 HT H HE Ke Kb Kf))
 refine KB.mono ?_;rintro e KU⟨⟨u,rfl,Ko⟩,Hy⟩;obtain⟨D,HY⟩:∃D,Dk.burn { d with q:=q7 }=D:=⟨_,rfl⟩;rw[HY]at Ko;have Ky:=M HY;obtain⟨KR,KT,rfl,K0,K5⟩:=Ko;obtain⟨Af,cf,rfl,_,_⟩:=Fs.open_ K0;obtain⟨Aq,cq,rfl,_,_⟩:=Qs.open_ K5;have H4:=B2.ext Hy;have Hi:=Fs.setBox H4 K0 (E Af D.fs.length cf) (E Aq D.q.length cq) (I J D.quota) (I J D.fuse) (N D.dead);have Hk:=Qs.setBox H4 K5 (E Af D.fs.length cf) (E Aq D.q.length cq) (I J D.quota) (I J D.fuse) (N D.dead);have Hq:=M (aT H4 (E Af D.fs.length cf) (E Aq D.q.length cq) (I J D.quota) (I J D.fuse) (N D.dead));have Hs:=M (aS (xT OE Hy) (by omega:w.heap.size<=w.heap.size+1+1) (E Af D.fs.length cf) (E Aq D.q.length cq) (I J D.quota) (I J D.fuse) (N D.dead));have Ht:=M Hi;have Hw:=M Hk;clear g0 g1 g2 g3 g4 f0 f1 f2 KF f4 d0 d1 d2 d3 d4;have ea:=ae H4;have eb:=aH H4;clear H4 Hi Hk K0 K5 Hy HY KB OE OF OQ B2;go_wp2_with fail
 refine bodyPost_ret (nL _ _ _ _ _ rfl rfl Hq rfl) rfl ?_;rw[KE.out];show(∃u,_=Ending.returned (.tuple #[u,I J 0])/\DkV _ u (Dk.burn { d with q:=q7 }))/\_;rw[Ky.out];exact⟨⟨_,rfl,⟨_,_,rfl,Ht.out,Hw.out⟩⟩,Hs.out⟩):P:=h
theorem mcR7ba1{P:Prop}(h:P:=by
 have H4:=H.b2;have Hi:=Fs.setBox H4 H.f (E A1 d.fs.length c1) (E B1 d.q.length e1) (I J d.quota) (I J d.fuse) (N false);have Hk:=Qs.setBox H4 H.q (E A1 d.fs.length c1) (E B1 d.q.length e1) (I J d.quota) (I J d.fuse) (N false);have Hq:=M (aT H4 (E A1 d.fs.length c1) (E B1 d.q.length e1) (I J d.quota) (I J d.fuse) (N false));have Hs:=M (aS H.e (by omega:w.heap.size<=w.heap.size+1+1) (E A1 d.fs.length c1) (E B1 d.q.length e1) (I J d.quota) (I J d.fuse) (N false));have Ht:=M Hi;have Hw:=M Hk;have ea:=ae H4;have eb:=aH H4;clear H4 Hi Hk;go_wp2_with fail
 refine bodyPost_ret (nL _ _ _ _ _ rfl rfl Hq rfl) rfl ?_;exact⟨⟨_,rfl,⟨_,_,by rw[Hd.out],Ht.out,Hw.out⟩⟩,Hs.out⟩):P:=h
theorem Qs.setBox{q f:Int}{d:Bool}(hb:Blk W b t (ap A n c B m e q f d)){l:List Oq}(h:Qs W v l)(C E D F H:Value):Qs (aK W b C E D F H) v l:=by
 obtain⟨xs,h1,h2⟩:=h;refine⟨xs,?_,h2.1,λk hk=>?_⟩
 ·obtain⟨hl,A',c',rfl,r,s,hc⟩:=h1;refine⟨hl,A',c',rfl,r,s,λg=>?_⟩;obtain⟨y,i,rfl,H3⟩:=hc g;refine⟨y,i,rfl,λj u z=>nR (H3 j u z) ?_ _ _ _ _ _⟩;rintro rfl;have hn:xs[0*4+1]?=O (sv l[0].n):=(h2.2 0 g).2.1;rcases ng (nv hb (H3 1 _ hn))with⟨x,hx⟩|⟨_,_,_,hx⟩|⟨_,hx⟩<;>cases hx
 ·obtain⟨C,D,E,u,F,G⟩:=h2.2 k hk;refine⟨C,D,E,u,F,?_⟩;obtain⟨hl,A',c',rfl,r,s,hc⟩:=G;refine⟨hl,A',c',rfl,r,s,λg=>?_⟩;obtain⟨y,i,rfl,H3⟩:=hc g;refine⟨y,i,rfl,λj u z=>nR (H3 j u z) ?_ _ _ _ _ _⟩;rintro rfl;rcases ng (nv hb (H3 0 _ (by rw[P2,P1 g];rfl)))with⟨x,hx⟩|⟨_,_,_,hx⟩|⟨_,hx⟩<;>cases hx
theorem nL(tmps:Array Value)(W:World)(b:Nat)(cs:Array Value)(e:Value)(h4:tmps.getD 4 undef=U (O ⟨b,0,T⟩))(h3:tmps.getD 5 undef=e)(hb:Blk W b 25 cs)(hs:cs.size=5):(results Tryz.f55 tmps).run Z W=.ok (.tuple #[.agg cs,e]) W:=by
 have g:tmps[4]?.getD undef=U (O ⟨b,0,T⟩):=by simpa using h4
 have f:tmps[5]?.getD undef=e:=by simpa using h3
 have hl:=hb.load (P:=Z) em rfl (by rw[hs];kernel_rfl);simp[results,Tryz.results55,g,f,asAddr,hl,P6,P5,P0]
structure Do4 (w W:World) (A1:Option Addr) (c1:Nat) (B1:Option Addr) (e1:Nat) (d:Dk) (ocs:Array Value) (vb:Value) (o:Oq):Prop where
 b0:Blk W w.heap.size 25 (ap A1 d.fs.length c1 B1 d.q.length e1 d.quota d.fuse d.dead)
 b1:Blk W (w.heap.size+1) 98 ocs
 b2:Blk W (w.heap.size+1+1) 25 (ap none 0 0 none 0 0 0 0 false)
 fa:OwnFA W w.heap.size (E A1 d.fs.length c1) d.fs (fun g=>(Pa B1 d.q.length e1).ownBlock=O g)
 oq:OwnQ W (w.heap.size+1+1+1) (E B1 d.q.length e1) d.q
 b:Bs W vb o.b
 e:Ext w W
theorem Do4.ext{W':World}{o:Oq}(h:Do4 w W A1 c1 B1 e1 d ocs vb o)(f:Ext W W'):Do4 w W' A1 c1 B1 e1 d ocs vb o:=
 ⟨h.b0.ext f,h.b1.ext f,h.b2.ext f,h.fa.ext f,OwnX.ext dy h.oq f,h.b.ext f,xT h.e f⟩
theorem Do4.f{o:Oq}(h:Do4 w W A1 c1 B1 e1 d ocs vb o):Fs W (E A1 d.fs.length c1) d.fs:=OwnF.fs h.fa.f
theorem Do4.q{o:Oq}(h:Do4 w W A1 c1 B1 e1 d ocs vb o):Qs W (E B1 d.q.length e1) d.q:=OwnQ.qs h.oq
theorem OwnFA.setSl{base j:Nat}{l:List Fil}{G:Nat->Prop}(q:W.cell? ⟨b,j,T⟩=O (E A n c))(f:Blk W b 98 cs)(h:OwnFA W base v l G):OwnFA (W.setCell ⟨b,j,T⟩ x) base v l G:=by
 obtain⟨xs,h1,h2,h3,h4⟩:=h;refine⟨xs,ey f (by decide) h1 x,⟨h2.1,λk hk=>?_⟩,h3,h4⟩;obtain⟨f,u,g,i⟩:=h2.2 k hk;exact⟨f,u,g,Bs.setSl q i⟩
theorem nt(v:Value)(d:Dk)(o:Oq)(vo:Value)(w:World)(hD:DkV w v d)(hB:Bs w vo o.b)(hl:z d.fs+z d.q<=800000)(hb:tot d.fs+aL d.q<=800000)(KL:z o.b<=100000)(Kq:d.fuse<=9223372036854775807):
  Calls Z 55 #[v,r #[I V o.k,sv o.n,sv o.t,vo]] w λe w'=>(∃u,e=.returned (.tuple #[u,I J (d.doS o).2])/\DkV w' u (d.doS o).1)/\Ext w w':=by
 obtain⟨vf,vq,rfl,hF,hQ⟩:=hD;obtain⟨A,c,rfl,_,_⟩:=Fs.open_ hF;obtain⟨B,e2,rfl,_,_⟩:=Qs.open_ hQ;obtain⟨C,c2,rfl,_,_⟩:=xO hB;unfold sv;obtain⟨W0,Hf⟩:∃W0,((w.alloc (L #[E A d.fs.length c,E B d.q.length e2,I J d.quota,I J d.fuse,N d.dead] 25)).alloc (L #[I V o.k,R ⟨o.n.toArray⟩,R ⟨o.t.toArray⟩,E C o.b.length c2] 98)).alloc (L #[E none 0 0,E none 0 0,I J 0,I J 0,N false] 25)=W0:=⟨_,rfl⟩;have He:Ext w W0:=by rw[<-Hf];exact xA (xA (xA (xR _) _) _) _
 have h0:Blk W0 w.heap.size 25 (ap A d.fs.length c B d.q.length e2 d.quota d.fuse d.dead):=by rw[<-Hf];exact((P9 w _ _).alloc _).alloc _
 have h1:Blk W0 (w.heap.size+1) 98 #[I V o.k,R ⟨o.n.toArray⟩,R ⟨o.t.toArray⟩,E C o.b.length c2]:=by
  rw[<-Hf];have:=(P9 (w.alloc (L #[E A d.fs.length c,E B d.q.length e2,I J d.quota,I J d.fuse,N d.dead] 25)) 98 #[I V o.k,R ⟨o.n.toArray⟩,R ⟨o.t.toArray⟩,E C o.b.length c2]).alloc (L #[E none 0 0,E none 0 0,I J 0,I J 0,N false] 25);rwa[xS]at this
 have h2:Blk W0 (w.heap.size+1+1) 25 (ap none 0 0 none 0 0 0 0 false):=by
  rw[<-Hf];have:=P9 ((w.alloc (L #[E A d.fs.length c,E B d.q.length e2,I J d.quota,I J d.fuse,N d.dead] 25)).alloc (L #[I V o.k,R ⟨o.n.toArray⟩,R ⟨o.t.toArray⟩,E C o.b.length c2] 98)) 25 #[E none 0 0,E none 0 0,I J 0,I J 0,N false];rwa[xS,xS]at this
 have Hl:W0.heap.size=w.heap.size+1+1+1:=by rw[<-Hf,xS,xS,xS]
 have KO:=fR d;have KQ:=lY d;have key:=yN (r #[E A d.fs.length c,E B d.q.length e2,I J d.quota,I J d.fuse,N d.dead]) d W0 ⟨_,_,rfl,hF.ext He,hQ.ext He⟩ (by omega) (by omega);rw[Hl]at key;have X:=M key;have HB:=M (hB.ext He);have Hr:=M He;have H0:=M h0;have H1:=M h1;have H2:=M h2;have Kz:=M Kq;obtain⟨S,hS⟩:∃S,d.doS o=S:=⟨_,rfl⟩;have H7:=M hS;rw[hS];obtain⟨g0,g1,g2,g3,g4⟩:=ae h0;clear hS key h0 h1 h2 hF hQ He hB Kq Hl;go_enter Tryz.func55,Tryz.ntmps55
 go_wp2_with fail;clear Hf;refine X.mono ?_;rintro e w1⟨u,rfl,⟨A1,c1,B1,e1,rfl,Kt,Ku⟩,Hn⟩;have HA:=H0.ext Hn;have H:Hid (Do4 w (aK w1 w.heap.size (E A1 d.fs.length c1) (E B1 d.q.length e1) (I J d.quota) (I J d.fuse) (N d.dead)) A1 c1 B1 e1 d #[I V o.k,R ⟨o.n.toArray⟩,R ⟨o.t.toArray⟩,E C o.b.length c2] (E C o.b.length c2) o):=by
  have KH:=H1.ext Hn;have Hh:=H2.ext Hn;refine⟨aT HA _ _ _ _ _,((((KH.other (by omega) 0 _).other (by omega) 1 _).other (by omega) 2 _).other (by omega) 3 _).other (by omega) 4 _,((((Hh.other (by omega) 0 _).other (by omega) 1 _).other (by omega) 2 _).other (by omega) 3 _).other (by omega) 4 _,OwnFA.box1 (OwnFA.base Kt (by omega)) HA,OwnQ.box1 Ku HA,BF (HB.ext Hn) HA,aS (xT Hr Hn) (xN w.heap.size) _ _ _ _ _⟩
 have key:=yx _ d _ (show DkV (aK w1 w.heap.size (E A1 d.fs.length c1) (E B1 d.q.length e1) (I J d.quota) (I J d.fuse) (N d.dead)) (r #[E A1 d.fs.length c1,E B1 d.q.length e1,I J d.quota,I J d.fuse,N d.dead]) d from⟨_,_,rfl,H.f,H.q⟩) (by omega) (by omega) (by omega);have HG:=M key;obtain⟨f0,f1,f2,f3,f4⟩:=aH HA;clear g0 g1 g2 g3 g4;obtain⟨g0,g1,g2,g3,g4⟩:=ae HA;clear key Kt Ku HA Hn X H0 H1 H2 Hr HB;go_wp2_with fail
 refine HG.mono ?_;rintro e w2⟨rfl,Ha⟩;replace H:=M (H.ext Ha);clear g0 g1 g2 g3 g4 f0 f1 f2 f3 f4 Ha HG;obtain⟨g0,g1,g2,g3,g4⟩:=ae H.b0;rcases hr:d.right with _ | _
 case false=>
  have e1:S=(d,2):=by rw[<-H7.out,o4 (m:=2) (by unfold Dk.may;rw[hr];rfl) (by decide)]
  subst e1;clear H7;have H4:=H.b2;have Hi:=Fs.setBox H4 H.f (E A1 d.fs.length c1) (E B1 d.q.length e1) (I J d.quota) (I J d.fuse) (N d.dead);have Hk:=Qs.setBox H4 H.q (E A1 d.fs.length c1) (E B1 d.q.length e1) (I J d.quota) (I J d.fuse) (N d.dead);have Hq:=M (aT H4 (E A1 d.fs.length c1) (E B1 d.q.length e1) (I J d.quota) (I J d.fuse) (N d.dead));have Hs:=M (aS H.e (by omega:w.heap.size<=w.heap.size+1+1) (E A1 d.fs.length c1) (E B1 d.q.length e1) (I J d.quota) (I J d.fuse) (N d.dead));have Ht:=M Hi;have Hw:=M Hk;have ea:=ae H4;have eb:=aH H4;clear H4 Hi Hk;go_wp2_with fail
  refine bodyPost_ret (nL _ _ _ _ _ rfl rfl Hq rfl) rfl ?_;exact⟨⟨_,rfl,⟨_,_,rfl,Ht.out,Hw.out⟩⟩,Hs.out⟩
 rcases F:d.dead with _ | _
 case true=>
  have e1:S=(d,40):=by rw[<-H7.out,o4 (m:=40) (by unfold Dk.may;rw[hr,F];rfl) (by decide)]
  subst e1;clear H7 hr;rw[F]at g4;have Hd:=M F;clear F;have H4:=H.b2;have Hi:=Fs.setBox H4 H.f (E A1 d.fs.length c1) (E B1 d.q.length e1) (I J d.quota) (I J d.fuse) (N true);have Hk:=Qs.setBox H4 H.q (E A1 d.fs.length c1) (E B1 d.q.length e1) (I J d.quota) (I J d.fuse) (N true);have Hq:=M (aT H4 (E A1 d.fs.length c1) (E B1 d.q.length e1) (I J d.quota) (I J d.fuse) (N true));have Hs:=M (aS H.e (by omega:w.heap.size<=w.heap.size+1+1) (E A1 d.fs.length c1) (E B1 d.q.length e1) (I J d.quota) (I J d.fuse) (N true));have Ht:=M Hi;have Hw:=M Hk;have ea:=ae H4;have eb:=aH H4;clear H4 Hi Hk;go_wp2_with fail
  refine bodyPost_ret (nL _ _ _ _ _ rfl rfl Hq rfl) rfl ?_;exact⟨⟨_,rfl,⟨_,_,by rw[Hd.out],Ht.out,Hw.out⟩⟩,Hs.out⟩
 rw[F]at g4;have HM:=M (show d.may=0 by unfold Dk.may;rw[hr,F];rfl);have Hd:=M F;have HO:=M (show z d.q<=400 from((Lj d).1 hr).l);clear hr F;obtain⟨j0,j1,j2,j3⟩:=blk4 H.b1;have key:=zJ o _ w2 H.b;unfold sv at key;have X:=M key;clear key;go_wp2_with fail
 refine X.mono ?_;rintro e w3⟨rfl,F⟩;replace H:=M (H.ext F);clear X F g0 g1 g2 g3 g4 j0 j1 j2 j3;obtain⟨g0,g1,g2,g3,g4⟩:=ae H.b0;obtain⟨j0,j1,j2,j3⟩:=blk4 H.b1;rw[Hd.out]at g4;rcases hfi:bO o with _ | _
 case false=>
  have e1:S=(d,2):=by rw[<-H7.out];unfold Dk.doS;rw[if_neg (by rw[HM.out];decide),if_pos hfi]
  subst e1;clear H7 hfi;exact mcR7ba1
 have Hu:=M hfi;clear hfi;have key:=lH _ d w3 (show DkV w3 (r #[E A1 d.fs.length c1,E B1 d.q.length e1,I J d.quota,I J d.fuse,N false]) d from⟨_,_,by rw[Hd.out],H.f,H.q⟩) (by omega) (by omega);have X:=M key;clear key;go_wp2_with fail
 refine X.mono ?_;rintro e w4⟨⟨F,rfl,K1⟩,Ki⟩;obtain⟨F,F,rfl,_,_⟩:=Fs.open_ K1;have Kc:=M K1;replace H:=M (H.ext Ki);clear X Ki K1 g0 g1 g2 g3 g4 j0 j1 j2 j3;obtain⟨g0,g1,g2,g3,g4⟩:=ae H.b0;obtain⟨j0,j1,j2,j3⟩:=blk4 H.b1;rw[Hd.out]at g4;by_cases G:o.k=1
 ·have H9:(o.k != 1)=false:=by simpa using G
  have H5:(o.k==2)=false:=by rw[G];rfl
  have Hv:=M (show ¬(ak o.n d.now=none/\o.k≠1)from λh=>h.2 G);have HK:=M (show ¬(o.k=2/\d.quota<(tot d.now:Int)+(z o.b:Int))from λh=>by rw[G]at h;exact absurd h.1 (by decide));clear G;go_wp2_with fail
  refine wp_region_held_drew (S:=λW=>W.cell? ⟨w.heap.size+1,0,T⟩=O (I V o.k)/\W.cell? ⟨w.heap.size,1,T⟩=O (E B1 d.q.length e1)) (by kernel_rfl) ⟨j0,g1⟩ (λ_=>?_);by_cases i:z d.q=400
  ·have Y:(400:Int)<=(z d.q:Int):=by omega
   have e1:S=(d,41):=by rw[<-H7.out];unfold Dk.doS;rw[if_neg (by rw[HM.out];decide),if_neg (by rw[Hu.out];decide),if_neg Hv,if_pos (.inr i)]
   subst e1;clear H7 i;refine ab 0 ?_;refine ab 1 ?_;refine ab 2 ?_;refine ab 3 ?_;refine ag 4 ?_;refine ag 5 ?_;refine ag 6 ?_;refine ag 7 ?_;refine ag 8 ?_;refine ag 9 ?_;refine ag 10 ?_;refine ag 11 ?_;refine ag 12 ?_;refine ab 13 ?_;refine ab 14 ?_;refine ab 15 ?_;refine ab 16 ?_;refine ab 17 ?_;refine ab 18 ?_;refine ab 19 ?_;refine aq ?_;replace H:=M (H.ext (xD (xR _)));clear g0 g1 g2 g3 g4 j0 j1 j2 j3 Y H9 H5;generalize w4.drew=w5 at *;obtain⟨g0,g1,g2,g3,g4⟩:=ae H.b0;rw[Hd.out]at g4;exact mcR7ba1
  have Y:¬(400:Int)<=(z d.q:Int):=by have:=HO.out;omega
  have HL:=M i;clear i;refine ab 0 ?_;refine ab 1 ?_;refine ab 2 ?_;refine ab 3 ?_;refine ag 4 ?_;refine ag 5 ?_;refine ag 6 ?_;refine ag 7 ?_;refine ag 8 ?_;refine ag 9 ?_;refine ag 10 ?_;refine ag 11 ?_;refine ag 12 ?_;refine ab 13 ?_;refine ab 14 ?_;refine ab 15 ?_;refine ab 16 ?_;refine ab 17 ?_;refine ab 18 ?_;refine ab 19 ?_;refine aq ?_;replace H:=M (H.ext (xD (xR _)));clear g0 g1 g2 g3 g4 j0 j1 j2 j3 Y H9 H5;exact mcR7ba0
 ·have H9:(o.k != 1)=true:=by simpa using G
  have key:=om _ d.now o.n w4 Kc (by omega);unfold sv at key;have X:=M key;have KA:=M G;clear key G;go_wp2_with fail
  refine X.mono ?_;rintro e _⟨rfl,rfl⟩;clear X;rcases Fm o.n d.now with⟨hp,hg⟩|⟨kp,hkp,hp,hnm,hg⟩
  ·rw[hp];have e1:S=(d,42):=by rw[<-H7.out];unfold Dk.doS;rw[if_neg (by rw[HM.out];decide),if_neg (by rw[Hu.out];decide),if_pos ⟨hg,KA.out⟩]
   subst e1;clear H7 hp hg;exact mcR7ba1
  ·rw[hp];have F:¬(kp:Int)<0:=by omega
   have Hv:=M (show ¬(ak o.n d.now=none/\o.k≠1)from λh=>by rw[hg]at h;cases h.1);clear hp hg hnm hkp;by_cases U:o.k=2
   ·have H5:(o.k==2)=true:=by simpa using U
    have KC:=M U;clear U;go_wp2_with fail
    have Ka:IntKind.i64.wrap ((tot d.now:Int)+(z o.b:Int))=(tot d.now:Int)+(z o.b:Int):=by rw[IntKind.wrap_i64];all_goals omega
    refine wp_region_held_drew (S:=λW=>W.cell? ⟨w.heap.size+1,0,T⟩=O (I V o.k)/\W.cell? ⟨w.heap.size,1,T⟩=O (E B1 d.q.length e1)/\W.cell? ⟨w.heap.size+1,3,T⟩=O (E C o.b.length c2)/\W.cell? ⟨w.heap.size,2,T⟩=O (I J d.quota)) (by kernel_rfl) ⟨j0,g1,j3,g2⟩ (λ_=>?_);refine ab 0 ?_;refine ab 1 ?_;refine ab 2 ?_;refine ab 3 ?_;refine ab 4 ?_;refine ab 6 ?_;refine ab 7 ?_;refine ab 8 ?_;refine ab 10 ?_;refine ab 11 ?_;refine ah 5 (λK hK=>?_);go_simp;refine(Ad _ d.now _ (Kc.ext (xD (xR _))) (by omega) (by omega)).mono ?_;rintro e _⟨rfl,rfl⟩;refine af hK _ _ ⟨j0,g1,j3,g2⟩ (λ_=>?_);by_cases s:d.quota<(tot d.now:Int)+(z o.b:Int)
    ·have e1:S=(d,41):=by rw[<-H7.out];unfold Dk.doS;rw[if_neg (by rw[HM.out];decide),if_neg (by rw[Hu.out];decide),if_neg Hv,if_pos (.inl ⟨KC.out,s⟩)]
     subst e1;clear H7;refine ab 9 ?_;refine ab 12 ?_;refine ab 13 ?_;refine ab 14 ?_;refine ag 15 ?_;refine ag 16 ?_;refine ag 17 ?_;refine ag 18 ?_;refine ab 19 ?_;refine aq ?_;replace H:=M (H.ext (xD (xR _)));clear g0 g1 g2 g3 g4 j0 j1 j2 j3 H9 H5 Ka s;generalize w4.drew=w5 at *;obtain⟨g0,g1,g2,g3,g4⟩:=ae H.b0;rw[Hd.out]at g4;exact mcR7ba1
    have HK:=M (show ¬(o.k=2/\d.quota<(tot d.now:Int)+(z o.b:Int))from λh=>s h.2);by_cases i:z d.q=400
    ·have Y:(400:Int)<=(z d.q:Int):=by omega
     have e1:S=(d,41):=by rw[<-H7.out];unfold Dk.doS;rw[if_neg (by rw[HM.out];decide),if_neg (by rw[Hu.out];decide),if_neg Hv,if_pos (.inr i)]
     subst e1;clear H7 i;refine ab 9 ?_;refine ab 12 ?_;refine ab 13 ?_;refine ab 14 ?_;refine ab 15 ?_;refine ab 16 ?_;refine ab 17 ?_;refine ab 18 ?_;refine ab 19 ?_;refine aq ?_;replace H:=M (H.ext (xD (xR _)));clear g0 g1 g2 g3 g4 j0 j1 j2 j3 H9 H5 Ka s Y;generalize w4.drew=w5 at *;obtain⟨g0,g1,g2,g3,g4⟩:=ae H.b0;rw[Hd.out]at g4;exact mcR7ba1
    have Y:¬(400:Int)<=(z d.q:Int):=by have:=HO.out;omega
    have HL:=M i;clear i;refine ab 9 ?_;refine ab 12 ?_;refine ab 13 ?_;refine ab 14 ?_;refine ab 15 ?_;refine ab 16 ?_;refine ab 17 ?_;refine ab 18 ?_;refine ab 19 ?_;refine aq ?_;replace H:=M (H.ext (xD (xR _)));clear g0 g1 g2 g3 g4 j0 j1 j2 j3 H9 H5 Ka s Y;exact mcR7ba0
   ·have H5:(o.k==2)=false:=by simpa using U
    have HK:=M (show ¬(o.k=2/\d.quota<(tot d.now:Int)+(z o.b:Int))from λh=>U h.1);clear U;go_wp2_with fail
    refine wp_region_held_drew (S:=λW=>W.cell? ⟨w.heap.size+1,0,T⟩=O (I V o.k)/\W.cell? ⟨w.heap.size,1,T⟩=O (E B1 d.q.length e1)) (by kernel_rfl) ⟨j0,g1⟩ (λ_=>?_);by_cases i:z d.q=400
    ·have Y:(400:Int)<=(z d.q:Int):=by omega
     have e1:S=(d,41):=by rw[<-H7.out];unfold Dk.doS;rw[if_neg (by rw[HM.out];decide),if_neg (by rw[Hu.out];decide),if_neg Hv,if_pos (.inr i)]
     subst e1;clear H7 i;refine ab 0 ?_;refine ab 1 ?_;refine ab 2 ?_;refine ab 3 ?_;refine ag 4 ?_;refine ag 5 ?_;refine ag 6 ?_;refine ag 7 ?_;refine ag 8 ?_;refine ag 9 ?_;refine ag 10 ?_;refine ag 11 ?_;refine ag 12 ?_;refine ab 13 ?_;refine ab 14 ?_;refine ab 15 ?_;refine ab 16 ?_;refine ab 17 ?_;refine ab 18 ?_;refine ab 19 ?_;refine aq ?_;replace H:=M (H.ext (xD (xR _)));clear g0 g1 g2 g3 g4 j0 j1 j2 j3 Y H9 H5;generalize w4.drew=w5 at *;obtain⟨g0,g1,g2,g3,g4⟩:=ae H.b0;rw[Hd.out]at g4;exact mcR7ba1
    ·have Y:¬(400:Int)<=(z d.q:Int):=by have:=HO.out;omega
     have HL:=M i;clear i;refine ab 0 ?_;refine ab 1 ?_;refine ab 2 ?_;refine ab 3 ?_;refine ag 4 ?_;refine ag 5 ?_;refine ag 6 ?_;refine ag 7 ?_;refine ag 8 ?_;refine ag 9 ?_;refine ag 10 ?_;refine ag 11 ?_;refine ag 12 ?_;refine ab 13 ?_;refine ab 14 ?_;refine ab 15 ?_;refine ab 16 ?_;refine ab 17 ?_;refine ab 18 ?_;refine ab 19 ?_;refine aq ?_;replace H:=M (H.ext (xD (xR _)));clear g0 g1 g2 g3 g4 j0 j1 j2 j3 Y H9 H5;exact mcR7ba0
theorem mcWpNa0{P:Prop}(h:P:=by
 refine⟨hl,A',c',rfl,Hb,Hc,λHl=>?_⟩;obtain⟨b',H8,rfl,H3⟩:=hc Hl;exact⟨b',H8,rfl,λj u hu=>hk _ _ (H3 0 _ (by rw[P2,P1 Hl];rfl)) (.inr ⟨_,rfl⟩) ⟨b',H8+j,T⟩ rfl _ (H3 j u hu)⟩):P:=h
theorem zwL(h:W.cell? p=O v):W.setCell p v=W:=by
 obtain⟨f,j,l,q,g⟩:=W;unfold World.setCell;unfold World.cell? at h;dsimp only at h⊢;congr 1
 apply Pc (by simp);intro i h1 h2;rw[Array.getElem_modify];split
 ·rename_i he;subst he;rw[Pb h2]at h;cases k:f[p.block]with
  |cells c e fr=>
   rw[k]at h;dsimp only at h⊢;split at h
   ·cases h
   rename_i hs;rw[if_neg hs];obtain⟨hi,rfl⟩:=Array.getElem?_eq_some_iff.1 h;congr 1
   rw[Array.setIfInBounds_def,dif_pos hi];exact Array.set_getElem_self hi
  |_=>rfl
 ·rfl
theorem zyu(w:World)(g h:TypeId)(f c1:Array Value):∃W,(w.alloc (L f g)).alloc (L c1 h)=W/\Ext w W/\W.heap.size=w.heap.size+1+1/\Blk W w.heap.size g f/\Blk W (w.heap.size+1) h c1:=by
 refine⟨_,rfl,xA (xA (xR _) _) _,by simp,(P9 w _ _).alloc _,?_⟩;have:=P9 (w.alloc (L f g)) h c1;rwa[xS]at this
theorem zzl(w:World)(h i j:TypeId)(f c1 g:Array Value):∃W,((w.alloc (L f h)).alloc (L c1 i)).alloc (L g j)=W/\Ext w W/\W.heap.size=w.heap.size+1+1+1/\Blk W w.heap.size h f/\Blk W (w.heap.size+1) i c1/\Blk W (w.heap.size+1+1) j g:=by
 obtain⟨X,r,q,k,l,h1⟩:=zyu w h i f c1;rw[r];refine⟨_,rfl,xA q _,by simp[k],l.alloc _,h1.alloc _,?_⟩;have:=P9 X j g;rwa[k]at this
theorem zzm(w:World)(k l q r s y:TypeId)(f c1 g h i j:Array Value):∃W,(((((w.alloc (L f k)).alloc (L c1 l)).alloc (L g q)).alloc (L h r)).alloc (L i s)).alloc (L j y)=W/\Ext w W/\W.heap.size=w.heap.size+1+1+1+1+1+1 /\
  Blk W w.heap.size k f/\Blk W (w.heap.size+1) l c1/\Blk W (w.heap.size+1+1) q g/\Blk W (w.heap.size+1+1+1) r h/\Blk W (w.heap.size+1+1+1+1) s i/\Blk W (w.heap.size+1+1+1+1+1) y j:=by
 obtain⟨X,D,C,E,z,h1,h2⟩:=zzl w k l q f c1 g;rw[D];obtain⟨Y,g,f,Kx,h3,h4,h5⟩:=zzl X r s y h i j;rw[g];rw[E]at Kx h3 h4 h5;exact⟨_,rfl,xT C f,Kx,z.ext f,h1.ext f,h2.ext f,h3,h4,h5⟩
theorem DkV.keepB{W':World}(h:DkV W v d)(hk:∀(p:Addr) u,W.cell? p=O u->((∃s,u=.string s)\/∃n,u=I V n)->∀q:Addr,q.block=p.block->∀x,W.cell? q=O x->W'.cell? q=O x):DkV W' v d:=by
 obtain⟨x,y,r,⟨C,h1,h2⟩,⟨xs,l,f⟩⟩:=h;refine⟨x,y,r,⟨C,?_,λi hi=>?_⟩,⟨xs,?_,f.1,λk g=>?_⟩⟩
 ·obtain⟨hl,A',c',rfl,Hb,Hc,hc⟩:=h1;refine⟨hl,A',c',rfl,Hb,Hc,λHl=>?_⟩;obtain⟨b',H8,rfl,H3⟩:=hc Hl;exact⟨b',H8,rfl,λj u hu=>hk _ _ (H3 0 _ (h2 0 Hl).1) (.inl ⟨_,rfl⟩) ⟨b',H8+j,T⟩ rfl _ (H3 j u hu)⟩
 ·obtain⟨h3,u,h4,h5⟩:=h2 i hi;refine⟨h3,u,h4,?_⟩;obtain⟨hl,A',c',rfl,Hb,Hc,hc⟩:=h5;exact mcWpNa0
 ·obtain⟨hl,A',c',rfl,Hb,Hc,hc⟩:=l;refine⟨hl,A',c',rfl,Hb,Hc,λHl=>?_⟩;obtain⟨b',H8,rfl,H3⟩:=hc Hl;have hn:xs[0*4+1]?=O (sv d.q[0].n):=(f.2 0 Hl).2.1;exact⟨b',H8,rfl,λj u hu=>hk _ _ (H3 1 _ hn) (.inl ⟨_,rfl⟩) ⟨b',H8+j,T⟩ rfl _ (H3 j u hu)⟩
 ·obtain⟨l,e1,r,u,y,z⟩:=f.2 k g;refine⟨l,e1,r,u,y,?_⟩;obtain⟨hl,A',c',rfl,Hb,Hc,hc⟩:=z;exact mcWpNa0
def DkN(S:Nat->Prop)(W:World)(v:Value)(d:Dk):Prop:=∀W',(∀(p:Addr) x,¬S p.block->W.cell? p=O x->W'.cell? p=O x)->DkV W' v d
theorem DkN.of(h:DkV W v d)(f:∀(p:Addr) u,S p.block->W.cell? p=O u->(∀s,u≠.string s)/\∀n,u≠I V n):DkN S W v d:=λW' hk=>h.keepB λp u j i q g x hx=>hk q x (λhs=>by
 obtain⟨a,b⟩:=f p u (by rwa[g]at hs) j;rcases i with⟨s,e⟩|⟨n,e⟩
 ·exact a s e
 ·exact b n e) hx
theorem DkN.dk(h:DkN S W v d):DkV W v d:=h W λ_ _ _ h=>h
theorem DkN.move{A B:World}(h:DkN S A v d)(hm:∀(p:Addr) x,¬S p.block->A.cell? p=O x->B.cell? p=O x):DkN S B v d:=λW' hk=>h W' λp x f hx=>hk p x f (hm p x f hx)
theorem zwX{rest:List Oper}(Hp:o.guard=none)(x:Operand)(ty:TypeId)(ho:o.op=.load ty x){d:TypeDesc}(hx:a.eval x=U (O ⟨b,0,T⟩))(hb:Blk w b t cs)(hu:P.underlying ty=O d)(hd:(match d with | .struct _ | .array _ _=>true | _=>false)=true)(h:wpList P ops Q rest (a.put o.dst (.agg cs)) w)(hi:(P.info? ty).map (·.size)=O cs.size:=by kernel_rfl):wpList P ops Q (o::rest) a w:=by
 refine wpList_plain Hp λK hK=>?_;unfold Pf execOp;simp only[ho,hx,P8,P7,asAddr,P6,P5,P0,hb.load hu hd hi];exact hK _ _ h
theorem zyP(h:Blk W b t cs):W.setRow b cs=W:=by
 have f:W.heap[b]?=O (L cs t (0,0)):=h;obtain⟨j,k,l,q,g⟩:=W;unfold World.setRow;dsimp only at f⊢;congr 1
 apply Pc (by simp);intro i h1 h2;first
  |rw[Array.getElem_modify]
  |skip
 split
 ·rename_i he;subst he;rw[Pb h2]at f;injection f with f
  rw[f]
 ·rfl
theorem zxS{rest:List Oper}(f:o.guard=none)(hn:o.dst=none)(x y:Operand)(ty:TypeId)(i:o.op=.store ty x y)(hx:a.eval x=U (O ⟨b,0,T⟩))(j:a.eval y=.agg cs)(hb:Blk w b t cs)(hi:(P.info? ty).map (·.size)=O cs.size)(h1:cs.all (·.oneCell')=true)(h:wpList P ops Q rest a w):wpList P ops Q (o::rest) a w:=by
 refine wpList_plain f λK g=>?_;unfold Pf execOp;have f:=run_storeVar_row (P:=P) w b t ty cs cs hb hi rfl h1;rw[zyP hb]at f;simp only[i,hx,j,Instr.storeAt,P7,asAddr,P6,P5,P0,f];exact g _ _ (by rw[hn];exact h)
theorem zxT{rest:List Oper}(f:o.guard=none)(hn:o.dst=none)(x y:Operand)(ty:TypeId)(g:o.op=.store ty x y){c:Array Value}(hx:a.eval x=U (O ⟨w.heap.size,0,T⟩))(j:a.eval y=.agg cs)(hi:(P.info? ty).map (·.size)=O cs.size)(hc:c.size=cs.size)(h1:cs.all (·.oneCell')=true)(h:wpList P ops Q rest a (w.alloc (L cs ty))):wpList P ops Q (o::rest) a (w.alloc (L c ty)):=by
 refine wpList_plain f λK f=>?_;unfold Pf execOp;have i:=run_storeVar_new (P:=P) w ty c cs hi hc h1;simp only[g,hx,j,Instr.storeAt,P7,asAddr,P6,P5,P0,i];exact f _ _ (by rw[hn];exact h)
theorem zwZ(h:DkV W u d):∃A c B e,u=r #[E A d.fs.length c,E B d.q.length e,I J d.quota,I J d.fuse,N d.dead]:=by
 obtain⟨x,y,rfl,f,g⟩:=h;obtain⟨A,c,rfl,_,_⟩:=Fs.open_ f;obtain⟨B,e,rfl,_,_⟩:=Qs.open_ g;exact⟨A,c,B,e,rfl⟩
theorem zxH{F:Fence}{i:Nat}{rest:List Oper}(k:o.guard=none)(x:Operand)(ty:TypeId)(g:o.op=.load ty x){d:TypeDesc}(hx:a.eval x=U (O ⟨b,0,T⟩))(hb:Blk w b t cs)(s:P.underlying ty=O d)(r:(match d with | .struct _ | .array _ _=>true | _=>false)=true)(hi:(P.info? ty).map (·.size)=O cs.size)(h:wpListIn F i P ops Q rest (a.put o.dst (.agg cs)) w):wpListIn F i P ops Q (o::rest) a w:=by
 refine wpListIn_plain k λK q=>?_;have j:o.semAt F.round a.eval=execOp a.eval o:=by
  cases i:F.round with
  |none=>rw[Pe]
  |some l=>exact Pd l _ o (by rw[g];intro c hc;cases hc)
 unfold Ph;refine⟨?_,?_⟩
 ·intro f hf;simp[Pg,g]at hf
 rw[j];unfold execOp;simp only[g,hx,P8,P7,asAddr,P6,P5,P0,hb.load s r hi];exact q _ _ h
theorem zw9{F:Fence}{j:Nat}{rest:List Oper}(q:o.guard=none)(hn:o.dst=none)(x y:Operand)(ty:TypeId)(g:o.op=.store ty x y){c:Array Value}(hx:a.eval x=U (O ⟨w.heap.size,0,T⟩))(s:a.eval y=.agg cs)(hi:(P.info? ty).map (·.size)=O cs.size)(hc:c.size=cs.size)(h1:cs.all (·.oneCell')=true)(h:wpListIn F j P ops Q rest a (w.alloc (L cs ty))):wpListIn F j P ops Q (o::rest) a (w.alloc (L c ty)):=by
 refine wpListIn_plain q λK r=>?_;have k:o.semAt F.round a.eval=execOp a.eval o:=by
  cases i:F.round with
  |none=>rw[Pe]
  |some l=>exact Pd l _ o (by rw[g];intro c hc;cases hc)
 have i:=run_storeVar_new (P:=P) w ty c cs hi hc h1;unfold Ph;refine⟨?_,?_⟩
 ·intro f hf;simp[Pg,g]at hf
 rw[k];unfold execOp;simp only[g,hx,s,Instr.storeAt,P7,asAddr,P6,P5,P0,i];exact r _ _ (by rw[hn];exact h)
