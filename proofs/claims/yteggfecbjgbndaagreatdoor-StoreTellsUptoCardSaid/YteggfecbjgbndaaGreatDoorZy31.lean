/- Merged -/
import Derived.Test.YteggfecbjgbndaaGreatDoorZy29
set_option linter.all false
set_option maxHeartbeats 8000000
set_option maxRecDepth 100000
open Go.Value renaming int->D,slice->E,bool->J,pointer->K
open Go.IntKind renaming i64->F,u8->I
open Go.Obj renaming cells->G
open Go.Mv renaming aN->H
namespace Go.Proofs.YteggfecbjgbndaaGreatDoor
open Go.RowKit Go.Mv
theorem ya(n:List UInt8):∀fs:List Fil,bu fs (some n)=ak n fs
 |[]=>rfl
 |p::fs=>by rw[DH,ak,ya n fs]
theorem Dd{b:List UInt8}(h:b.length<4):bN rT b=none:=by
 unfold bN;rw[if_neg];intro e;have:=congrArg List.length e;rw[lx,List.length_drop]at this;omega
open Go.RowKit Go.Mv Go.Shelf
theorem BO(W:World)(cs:List Value)(t:TypeId)(a m:Nat)(hs:cs.length=m*a)(hm:m<=1000){n:Nat}(hn:W.heap.size=n):SlR (W.alloc (G cs.toArray t)) a (E (some ⟨n,0,none⟩) m m) m cs:=by
 subst hn;refine⟨hs,_,_,rfl,xN _,by unfold maxLen;omega,λ_=>⟨_,0,rfl,λj u a=>?_⟩⟩;have:=(Blk.new W t cs.toArray).cell (0+j) (by simpa using a);exact this
theorem BM(tmps:Array Value)(W:World)(b:Nat)(cs:Array Value)(e:Value)(h4:tmps.getD 6 undef=K (some ⟨b,0,none⟩))(h3:tmps.getD 7 undef=e)(hb:Blk W b 25 cs)(hs:cs.size=5):(results Tryz.f17 tmps).run Tryz.prog W=.ok (.tuple #[.agg cs,e]) W:=by
 have c:tmps[6]?.getD undef=K (some ⟨b,0,none⟩):=by simpa using h4
 have a:tmps[7]?.getD undef=e:=by simpa using h3
 have hl:=hb.load (P:=Tryz.prog) em rfl (by rw[hs];kernel_rfl);simp[results,Tryz.results17,c,a,asAddr,hl,Sem.run_bind,Sem.run_pure,Result.andThen_ok]
def cj(d:Dk)(a:Option (List UInt8))(b:List UInt8):Dk×Int:=match a with | none=>(d,2) | some n=>putS d n b
theorem AR(v:Value)(d:Dk)(n:Nat)(k s f:Int)(i:Value)(b:List UInt8)(w:World)(y:StW w)(hD:DkV w v d)(hs:Sz n d)(V:Bs w i b)(Hd:n+2+b.length<=1000000):
  Calls Tryz.prog 17 #[v,.agg #[D I k,D F s,D F f],i] w λe w'=>∃u,e=.returned (.tuple #[u,D F (cj d (aE k s f) b).2])/\OwnD w' w.heap.size u (cj d (aE k s f) b).1/\Ext w w':=by
 obtain⟨i,i,rfl,W,X⟩:=hD;obtain⟨A,c,rfl,_,_⟩:=Fs.open_ W;obtain⟨B,e2,rfl,_,_⟩:=Qs.open_ X;obtain⟨C,x,rfl,_,_⟩:=xO V;obtain⟨i,H8⟩:∃i,((w.alloc (G #[E A d.fs.length c,E B d.q.length e2,D F d.quota,D F d.fuse,J d.dead] 25)).alloc (G #[D I k,D F s,D F f] 32)).alloc (G #[E none 0 0,E none 0 0,D F 0,D F 0,J false] 25)=i:=⟨_,rfl⟩;have l:Ext w i:=by rw[<-H8];exact xA (xA (xA (xR _) _) _) _
 have U:Blk i w.heap.size 25 (ap A d.fs.length c B d.q.length e2 d.quota d.fuse d.dead):=by rw[<-H8];exact((Blk.new w _ _).alloc _).alloc _
 have h1:Blk i (w.heap.size+1) 32 #[D I k,D F s,D F f]:=by
  rw[<-H8];have:=(Blk.new (w.alloc (G #[E A d.fs.length c,E B d.q.length e2,D F d.quota,D F d.fuse,J d.dead] 25)) 32 #[D I k,D F s,D F f]).alloc (G #[E none 0 0,E none 0 0,D F 0,D F 0,J false] 25);rwa[xS]at this
 have h2:Blk i (w.heap.size+1+1) 25 (ap none 0 0 none 0 0 0 0 false):=by
  rw[<-H8];have:=Blk.new ((w.alloc (G #[E A d.fs.length c,E B d.q.length e2,D F d.quota,D F d.fuse,J d.dead] 25)).alloc (G #[D I k,D F s,D F f] 32)) 25 #[E none 0 0,E none 0 0,D F 0,D F 0,J false];rwa[xS,xS]at this
 have r:=H l;have H0:=H U;have O:=H h2;have HB:=H (V.ext l);have P:=H (W.ext l);have Q:=H (X.ext l);have V:=H (lG k s f i (y.ext l));obtain⟨g0,g1,g2,g3,g4⟩:=ae U;have i:=h1.cell 0 rfl;have i:=h1.cell 1 rfl;have i:=h1.cell 2 rfl;have R:=H hs;have T:=H Hd;obtain⟨S,y⟩:∃S,cj d (aE k s f) b=S:=⟨_,rfl⟩;rw[y];have t:=H y;go_enter Tryz.func17,Tryz.ntmps17
 go_wp2_with fail
 refine V.mono ?_;rintro e a⟨rfl,i⟩;obtain⟨g0,g1,g2,g3,g4⟩:=ae (H0.ext i);have H1:=H i;cases hn:aE k s f with
 |none=>
  have j:=t.out;rw[hn]at j;subst j;simp only[Option.getD_none,Option.isSome_none,Bool.false_eq_true,if_false,sv];go_wp2_with fail
  refine(nz _ d n a (show DkV a _ d from⟨_,_,rfl,P.ext H1.out,Q.ext H1.out⟩) (by have:=T.out;omega) R.out).mono ?_;rintro e w2⟨u,rfl,⟨Y,c3,Z,e3,rfl,of,N⟩,p⟩;have g:=O.ext (xT H1 p);have M:=xT r (xT H1 p);have H3:=xT r H1.out;obtain⟨f0,f1,f2,f3,f4⟩:=aH g;obtain⟨d0,d1,d2,d3,d4⟩:=ae g;have h:=H g;have z:=H of;have K:=H N;have L:=H M;have m:=H H3.size;go_wp2_with fail
  refine bodyPost_ret (BM _ _ _ _ (D F 2) rfl rfl (aT h _ _ _ _ _) rfl) rfl ?_;exact⟨_,rfl,⟨_,_,_,_,rfl,OwnF.box1 (OwnX.base z.f m.out) h.out,OwnQ.box1 (OwnX.base K m.out) h.out⟩,aS L (by omega) _ _ _ _ _⟩
 |some nm=>
  have j:=t.out;rw[hn]at j;simp only[cj,putS]at j;simp only[Option.getD_some,Option.isSome_some,if_true,sv];have t:=H j;go_wp2_with fail
  have H3:Ext a (a.alloc (G #[D I 1,sv nm,sv [],E none 0 0,D I 2,sv nm,sv [],E C b.length x] 98)):=xA (xR _) _;have j:Qs (a.alloc (G #[D I 1,sv nm,sv [],E none 0 0,D I 2,sv nm,sv [],E C b.length x] 98)) (E (some ⟨a.heap.size,0,none⟩) 2 2) [dP nm,d8 nm b]:=
   ⟨[D I 1,sv nm,sv [],E none 0 0,D I 2,sv nm,sv [],E C b.length x],BO a _ 98 4 2 rfl (by omega) rfl,
     RowOf.append (xs:=[D I 1,sv nm,sv [],E none 0 0]) (ip (o:=dP nm) (SlR.nil _ 1)) (ip (o:=d8 nm b) (Bs.ext (HB.ext H1.out) H3))⟩
  have i:=qM _ d n true _ [dP nm,d8 nm b] _ (show DkV (a.alloc (G #[D I 1,sv nm,sv [],E none 0 0,D I 2,sv nm,sv [],E C b.length x] 98)) (.agg #[E A d.fs.length c,E B d.q.length e2,D F d.quota,D F d.fuse,J d.dead]) d from⟨_,_,rfl,(P.ext H1.out).ext H3,(Q.ext H1.out).ext H3⟩) R j (by have:=T.out;simp[aL,dP,d8];omega);rw[t.out]at i;refine i.mono ?_;rintro e w2⟨u,rfl,⟨Y,c3,Z,e3,rfl,of,N⟩,p⟩;have a:=xT H1 (xT H3 p);have g:=O.ext a;have M:=xT r a;have a:=xT r (xT H1 H3);obtain⟨f0,f1,f2,f3,f4⟩:=aH g;obtain⟨d0,d1,d2,d3,d4⟩:=ae g;have h:=H g;have z:=H of;have K:=H N;have L:=H M;have m:=H a.size;go_wp2_with fail
  refine bodyPost_ret (BM _ _ _ _ (D F S.2) rfl rfl (aT h _ _ _ _ _) rfl) rfl ?_;exact⟨_,rfl,⟨_,_,_,_,rfl,OwnF.box1 (OwnX.base z m.out) h.out,OwnQ.box1 (OwnX.base K m.out) h.out⟩,aS L (by omega) _ _ _ _ _⟩
theorem Fm(n:List UInt8)(fs:List Fil):(bS fs n = -1/\ak n fs=none)\/∃(k:Nat) (h:k<fs.length),bS fs n=(k:Int)/\fs[k].1=n/\ak n fs=some fs[k].2:=by
 rw[<-ya];have hb:bu fs (some n)=if bS fs n<0 then none else(fs[(bS fs n).toNat]?).map (·.2):=rfl;rw[hb];have a:bS fs n=match fs.findIdx? (λf=>f.1==n)with | none=>-1 | some i=>(i:Int):=rfl
 cases h:fs.findIdx? (λf=>f.1==n)with
 |none=>
  rw[h]at a;dsimp only at a;rw[a];exact .inl ⟨rfl,by simp⟩
 |some k=>
  obtain⟨b,h1,h2⟩:=List.findIdx?_eq_some_iff_getElem.1 h;rw[h]at a;dsimp only at a;rw[a];refine .inr ⟨k,b,rfl,by simpa using h1,?_⟩;have a:¬(((k:Nat):Int)<0):=Int.not_lt.2 (Int.natCast_nonneg k);rw[if_neg a];have e:((k:Nat):Int).toNat=k:=Int.toNat_natCast k;rw[e,List.getElem?_eq_getElem b];rfl
