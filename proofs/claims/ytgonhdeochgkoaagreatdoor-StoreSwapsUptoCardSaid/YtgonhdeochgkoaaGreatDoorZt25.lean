/- Merged: DOwn2 SMapIn DMap -/
import Derived.Test.YtgonhdeochgkoaaGreatDoorZt13
import Derived.Test.YtgonhdeochgkoaaGreatDoorZt24
import Derived.Maps.OwnIn
set_option linter.all false
set_option maxHeartbeats 8000000
set_option maxRecDepth 100000
namespace Go.Proofs.YtgonhdeochgkoaaGreatDoor
open Go.RowKit Go.Mv Go.Shelf
theorem ztU (v:Value) (fs:List Oq) (w:World) (hF:Qs w v fs) (hl:fs.length≤2000000) (hbl:∀ f∈fs,f.b.length≤2000000):Calls Tryz.prog 88 #[v,.func (.func 89) #[] #[]] w fun e w'=>∃ A c,e=.returned (.slice A fs.length c)∧OwnQ w' w.heap.size (.slice A fs.length c) fs∧Ext w w':=by
 obtain ⟨A,c,rfl,_,_⟩:=Qs.open_ hF;have HF:=zhd hF;have HBL:=zhd hbl;clear hF hbl;obtain ⟨i0,hi,hz0,hz1,hz2⟩:=info_parts ziY
 go_enter Tryz.func88,Tryz.ntmps88
 go_wp2_with fail
 go_loopw [4,9] (fun vo i wr=>∃ k:Nat,k≤fs.length∧i=.int .i64 k∧(∃ A' c',vo=.slice A' k c')∧Hid (OwnQ wr w.heap.size vo (fs.take k))∧Ext w wr) (fun _ i _=>fs.length-(intOf i).toNat)
 case atStart=>exact ⟨0,Nat.zero_le _,rfl,⟨_,_,rfl⟩,OwnX.nil _ _ _,Ext.refl _⟩
 case round =>
  obtain ⟨k,hk,rfl,⟨A',c',rfl⟩,HO,hX⟩:=hrel
  by_cases hlt:k<fs.length
  ·obtain ⟨_,b,off,rfl,hc⟩:=(HF.out.ext hX).at_ (by omega)
   obtain ⟨hc0,hc2,hc3,B2,d2,hc1,hbs⟩:=hc k hlt;have hb2:=HBL.out _ (List.getElem_mem hlt)
   have htk:fs.take (k+1)=fs.take k++[fs[k]]:=List.take_succ_eq_append_getElem hlt
   have HTK:=zhd htk
   have hlen:(fs.take k).length=k:=by rw[List.length_take];omega
   have HLEN:=zhd hlen;have HBS:=zhd hbs;clear hc htk hlen hbs
   generalize fs[k]=x at *
   obtain ⟨ok,n,t,bb⟩:=x
   dsimp only at *
   have hX1:Ext wr (wr.alloc (.cells #[.int .u8 ok,sv n,sv t,.slice B2 bb.length d2] 86)):=Ext.alloc (Ext.refl _) _
   have hbx:=Blk.new wr 86 #[.int .u8 ok,sv n,sv t,.slice B2 bb.length d2];have hcl:=zni ⟨ok,n,t,bb⟩ _ _ (Bs.ext HBS.out hX1) hb2;have HC:=zhd hcl;have HX1:=zhd hX1;obtain ⟨x0,x1,x2,x3⟩:=blk4 hbx;clear hcl hX1 hbx
   simp only[sv] at hc0 hc2 hc3 x0 x1 x2 x3 HC ⊢
   go_wp2_with fail
   refine HC.out.mono ?_
   rintro e w1 ⟨A1,c1,rfl,ho1,hE1⟩;have HO1:=zhd ho1;have hE13:=Ext.trans HX1.out hE1
   have hE15:Ext wr (w1.alloc (.cells #[.int .u8 ok,.string ⟨n.toArray⟩,.string ⟨t.toArray⟩,.slice A1 bb.length c1] 86)):=Ext.alloc hE13 _
   have HOX:=zhd (OwnX.ext zcS HO.out hE15)
   have haw:∀ g,(Value.slice A' k c').ownBlock=some g→∀ u∈[.int .u8 ok,.string ⟨n.toArray⟩,.string ⟨t.toArray⟩,.slice A1 bb.length c1],zbx g u:=by
    intro g hg u hu;have hgl:=znj HO.out hg;simp only[List.mem_cons,List.not_mem_nil,or_false] at hu
    rcases hu with rfl | rfl | rfl | rfl
    ·exact zeO _ _ _
    ·exact za2 _ n
    ·exact za2 _ t
    ·exact HO1.out.away (by simp;omega)
   have HAW:=zhd haw;have HE15:=zhd hE15;clear haw ho1 hE1 hE13 hE15 x0 x1 x2 x3 hc0 hc2 hc3
   go_wp2_with (at_builtin;refine zeK zcS rfl (.tmp 13) (.tmp 17) 23 rfl 86 i0 _ 64 Tryz.underlying23 hi hz0 hz1 hz2 rfl (by decide) (by decide) w.heap.size _ (fs.take k) rfl HOX.out _ [⟨ok,n,t,bb⟩] [.int .u8 ok,.string ⟨n.toArray⟩,.string ⟨t.toArray⟩,.slice A1 bb.length c1] rfl (zeH w1 [.int .u8 ok,.string ⟨n.toArray⟩,.string ⟨t.toArray⟩,.slice A1 bb.length c1] 86 4 rfl rfl) (zf9 (o:=⟨ok,n,t,bb⟩) (Bs.ext HO1.out.bs (Ext.alloc (Ext.refl _) _))) (by simp) HAW.out (by rw[HLEN.out];simp;omega) (Ext.trans hX HE15.out).size ?_;intro A3 c3 w3 ho3 hG3 hg3;rw[←HTK.out,HLEN.out] at ho3;simp only[HLEN.out,List.length_cons,List.length_nil,Nat.zero_add] at ho3 ⊢;have hX3:=hG3 w (Ext.trans hX HE15.out) (Nat.le_refl _))
   go_roundw
   case rel=>exact ⟨k+1,by omega,by go_num,⟨_,_,rfl⟩,ho3,hX3⟩
   case measure=>simp[intOf];omega
  ·go_wp2_with fail
   go_ret
   obtain rfl:k=fs.length:=by omega
   have:=HO.out
   rw[List.take_length] at this
   exact ⟨_,_,rfl,this,hX⟩
theorem zuP (tmps:Array Value) (W:World) (b:Nat) (cs:Array Value) (h4:tmps.getD 2 undef=.pointer (some ⟨b,0,none⟩)) (hb:Blk W b 25 cs) (hs:cs.size=5):(results Tryz.f47 tmps).run Tryz.prog W=.ok (.agg cs) W:=by
 have hl:=hb.load (P:=Tryz.prog) ziq rfl (by rw[hs];kernel_rfl)
 have h4':tmps[2]?.getD undef=.pointer (some ⟨b,0,none⟩):=by simpa using h4
 simp[results,Tryz.results47,h4',asAddr,hl]
theorem zby {W:World} {b:Nat} {t:TypeId} {cs:Array Value} (h:Blk W b t cs):W.frozen? ⟨b,0,none⟩=false∧W.frozen? ⟨b,1,none⟩=false∧W.frozen? ⟨b,2,none⟩=false∧W.frozen? ⟨b,3,none⟩=false∧W.frozen? ⟨b,4,none⟩=false:=⟨h.frozen 0,h.frozen 1,h.frozen 2,h.frozen 3,h.frozen 4⟩
abbrev zeF (W:World) (b:Nat) (a v u x y:Value):World:=((((W.setCell ⟨b,0,none⟩ a).setCell ⟨b,1,none⟩ v).setCell ⟨b,2,none⟩ u).setCell ⟨b,3,none⟩ x).setCell ⟨b,4,none⟩ y
theorem zaS {W:World} {b:Nat} {t:TypeId} {a v u x y:Value} (h:Blk W b t #[a,v,u,x,y]) (a' v' u' x' y':Value):Blk (((((W.setCell ⟨b,0,none⟩ a').setCell ⟨b,1,none⟩ v').setCell ⟨b,2,none⟩ u').setCell ⟨b,3,none⟩ x').setCell ⟨b,4,none⟩ y') b t #[a',v',u',x',y']:=((((h.set 0 a').set 1 v').set 2 u').set 3 x').set 4 y'
theorem zaL {w W:World} (h:Ext w W) {b:Nat} (hb:w.heap.size≤b) (a v u x y:Value):Ext w (zeF W b a v u x y):=Below.setCell (p:=⟨b,4,none⟩) (zmX h hb a v u x) hb _
theorem zjK {W:World} {b:Nat} {t:TypeId} {cs:Array Value} (h:Blk W b t cs) {k:Nat} {u:Value} (hc:W.cell? ⟨b,k,none⟩=some u):cs[k]?=some u:=by
 simpa [World.cell?,show W.heap[b]?=_ from h] using hc
theorem Bs.awayBlk {W:World} {u:Value} {bs:List UInt8} (h:Bs W u bs) {b:Nat} {t:TypeId} {cs:Array Value} (hB:Blk W b t cs) (hno:∀ (k:Nat) (n:Int),cs[k]?≠some (.int .u8 n)):zbx b u:=by
 intro b' off n c hn hu he;subst he;obtain ⟨hl,A,c',rfl,h1,h2,h3⟩:=h
 cases hu
 obtain ⟨b2,off2,e,hc⟩:=h3 hn
 cases e
 have hlen:0<(bs.map bv).length:=by rw[List.length_map];exact hn
 have h0:=hc 0 _ (List.getElem?_eq_getElem hlen);have h1:=zjK hB h0;rw[List.getElem_map] at h1
 exact hno _ _ h1
theorem zlR {W:World} {xs:List Value} {l:List Fil} (h:RowOf 2 zia W xs l) {b:Nat} {t:TypeId} {cs:Array Value} (hB:Blk W b t cs) (hno:∀ (k:Nat) (n:Int),cs[k]?≠some (.int .u8 n)):∀ u∈xs,zbx b u:=by
 intro u hu;obtain ⟨k,i,hk,hi,hx⟩:=zhO h.1 hu;obtain ⟨g0,v,g1,g2⟩:=h.2 k hk
 match i,hi with
 | 0,_ =>
  have g0:xs[k*2+0]?=some (sv l[k].1):=g0
  rw[g0] at hx;cases hx;exact za2 _ _
 | 1,_ =>
  have g1:xs[k*2+1]?=some v:=g1
  rw[g1] at hx;cases hx;exact Bs.awayBlk g2 hB hno
theorem zlS {W:World} {xs:List Value} {l:List Oq} (h:RowOf 4 OqE W xs l) {b:Nat} {t:TypeId} {cs:Array Value} (hB:Blk W b t cs) (hno:∀ (k:Nat) (n:Int),cs[k]?≠some (.int .u8 n)):∀ u∈xs,zbx b u:=by
 intro u hu;obtain ⟨k,i,hk,hi,hx⟩:=zhO h.1 hu;obtain ⟨g0,g1,g2,v,g3,g4⟩:=h.2 k hk
 match i,hi with
 | 0,_ =>
  have g0:xs[k*4+0]?=some (.int .u8 l[k].k):=g0
  rw[g0] at hx;cases hx;exact zeO _ _ _
 | 1,_ =>
  have g1:xs[k*4+1]?=some (sv l[k].n):=g1
  rw[g1] at hx;cases hx;exact za2 _ _
 | 2,_ =>
  have g2:xs[k*4+2]?=some (sv l[k].t):=g2
  rw[g2] at hx;cases hx;exact za2 _ _
 | 3,_ =>
  have g3:xs[k*4+3]?=some v:=g3
  rw[g3] at hx;cases hx;exact Bs.awayBlk g4 hB hno
theorem zcl {W:World} {b j:Nat} {u:Value} {p:Addr} {x:Value} (h:W.cell? p=some x) (hp:p.block≠b):(W.setCell ⟨b,j,none⟩ u).cell? p=some x:=by
 have hh:=Below.heap_setCell W ⟨b,j,none⟩ u _ hp
 unfold World.cell? at h ⊢
 rw[hh]
 exact h
theorem OwnF.setD {W:World} {base b j:Nat} {v u:Value} {l:List Fil} {t:TypeId} {cs:Array Value} (h:OwnF W base v l) (ht:t≠51) (hB:Blk W b t cs) (hno:∀ (k:Nat) (n:Int),cs[k]?≠some (.int .u8 n)):OwnF (W.setCell ⟨b,j,none⟩ u) base v l:=by
 obtain ⟨xs,h1,h2,h3⟩:=h
 exact ⟨xs,zee hB ht h1 u,h2.keep zbP (zlR h2 hB hno) fun p x hc hp=>zcl hc hp,h3⟩
theorem OwnQ.setD {W:World} {base b j:Nat} {v u:Value} {l:List Oq} {t:TypeId} {cs:Array Value} (h:OwnQ W base v l) (ht:t≠86) (hB:Blk W b t cs) (hno:∀ (k:Nat) (n:Int),cs[k]?≠some (.int .u8 n)):OwnQ (W.setCell ⟨b,j,none⟩ u) base v l:=by
 obtain ⟨xs,h1,h2,h3⟩:=h
 exact ⟨xs,zee hB ht h1 u,h2.keep zcS (zlS h2 hB hno) fun p x hc hp=>zcl hc hp,h3⟩
theorem no5 {a v u x y:Value} (ha:∀ n,a≠.int .u8 n) (hv:∀ n,v≠.int .u8 n) (hu:∀ n,u≠.int .u8 n) (hx:∀ n,x≠.int .u8 n) (hy:∀ n,y≠.int .u8 n):∀ (k:Nat) (n:Int),(#[a,v,u,x,y]:Array Value)[k]?≠some (.int .u8 n):=by
 intro k n h
 match k,h with
 | 0,h=>exact ha n (Option.some.inj h)
 | 1,h=>exact hv n (Option.some.inj h)
 | 2,h=>exact hu n (Option.some.inj h)
 | 3,h=>exact hx n (Option.some.inj h)
 | 4,h=>exact hy n (Option.some.inj h)
 | k+5,h=>simp at h
def zaE (A:Option Addr) (n c:Nat) (B:Option Addr) (m e:Nat) (q f:Int) (d:Bool):Array Value:=#[.slice A n c,.slice B m e,.int .i64 q,.int .i64 f,.bool d]
theorem zaG {A:Option Addr} {n c:Nat} {B:Option Addr} {m e:Nat} {q f:Int} {d:Bool}:∀ (k:Nat) (z:Int),(zaE A n c B m e q f d)[k]?≠some (.int .u8 z):=no5 (fun _ h=>by cases h) (fun _ h=>by cases h) (fun _ h=>by cases h) (fun _ h=>by cases h) (fun _ h=>by cases h)
theorem OwnF.box1 {W:World} {base b:Nat} {v:Value} {l:List Fil} {A A':Option Addr} {n c n' c':Nat} {B B':Option Addr} {m e m' e':Nat} {q f q' f':Int} {d d':Bool} (h:OwnF W base v l) (hB:Blk W b 25 (zaE A n c B m e q f d)) :
  OwnF (zeF W b (.slice A' n' c') (.slice B' m' e') (.int .i64 q') (.int .i64 f') (.bool d')) base v l:=by
 have b0:Blk _ b 25 (zaE A' n' c' B m e q f d):=hB.set 0 (.slice A' n' c')
 have b1:Blk _ b 25 (zaE A' n' c' B' m' e' q f d):=b0.set 1 (.slice B' m' e')
 have b2:Blk _ b 25 (zaE A' n' c' B' m' e' q' f d):=b1.set 2 (.int .i64 q')
 have b3:Blk _ b 25 (zaE A' n' c' B' m' e' q' f' d):=b2.set 3 (.int .i64 f')
 exact OwnF.setD (OwnF.setD (OwnF.setD (OwnF.setD (OwnF.setD h (by decide) hB zaG) (by decide) b0 zaG) (by decide) b1 zaG) (by decide) b2 zaG) (by decide) b3 zaG
theorem OwnQ.box1 {W:World} {base b:Nat} {v:Value} {l:List Oq} {A A':Option Addr} {n c n' c':Nat} {B B':Option Addr} {m e m' e':Nat} {q f q' f':Int} {d d':Bool} (h:OwnQ W base v l) (hB:Blk W b 25 (zaE A n c B m e q f d)) :
  OwnQ (zeF W b (.slice A' n' c') (.slice B' m' e') (.int .i64 q') (.int .i64 f') (.bool d')) base v l:=by
 have b0:Blk _ b 25 (zaE A' n' c' B m e q f d):=hB.set 0 (.slice A' n' c')
 have b1:Blk _ b 25 (zaE A' n' c' B' m' e' q f d):=b0.set 1 (.slice B' m' e')
 have b2:Blk _ b 25 (zaE A' n' c' B' m' e' q' f d):=b1.set 2 (.int .i64 q')
 have b3:Blk _ b 25 (zaE A' n' c' B' m' e' q' f' d):=b2.set 3 (.int .i64 f')
 exact OwnQ.setD (OwnQ.setD (OwnQ.setD (OwnQ.setD (OwnQ.setD h (by decide) hB zaG) (by decide) b0 zaG) (by decide) b1 zaG) (by decide) b2 zaG) (by decide) b3 zaG
def zjG (w:World) (base:Nat) (v:Value) (d:Dk):Prop:=∃ A c B e,v=.agg #[.slice A d.fs.length c,.slice B d.q.length e,.int .i64 d.quota,.int .i64 d.fuse,.bool d.dead]∧OwnF w base (.slice A d.fs.length c) d.fs∧OwnQ w base (.slice B d.q.length e) d.q
theorem zcT {α:Type} {sz:Nat} {E:World→(Nat→Option Value)→α→Prop} {t:TypeId} {w:World} {base:Nat} {v:Value} {l:List α} (h:OwnX sz E t w base v l) {g:Nat} (hg:v.ownBlock=some g):base≤g∧∃ cs,w.heap[g]?=some (.cells cs t (0,0)):=by
 obtain ⟨xs,h1,_⟩:=h
 rcases h1.2 with ⟨rfl,_⟩ | ⟨g',cap,cur,rfl,hb,hh,_⟩
 ·cases hg
 ·cases hg
  exact ⟨hb,_,hh⟩
theorem RowOf.freshG {α:Type} {sz:Nat} {E:World→(Nat→Option Value)→α→Prop} (hE:zdO sz E) {xs:List Value} {l:List α}:∀ (n:Nat) {W:World},RowOf sz E W xs l→∀ u∈xs,zbx (W.heap.size+n) u
 | 0,W,h=>h.fresh hE
 | n+1,W,h=>by
  have:=RowOf.freshG hE n (h.ext hE (Ext.alloc (Ext.refl W) (.cells #[] 5)))
  rw[World.size_alloc] at this
  rwa [show W.heap.size+(n+1)=W.heap.size+1+n by omega]
def OwnFA (W:World) (base:Nat) (v:Value) (l:List Fil) (G:Nat→Prop):Prop :=
 ∃ xs,W.ownsRow base 51 2 v l.length xs∧RowOf 2 zia W xs l∧(∀ g,v.ownBlock=some g→∀ u∈xs,zbx g u)∧∀ g,G g→∀ u∈xs,zbx g u
theorem OwnFA.f {W:World} {base:Nat} {v:Value} {l:List Fil} {G:Nat→Prop} (h:OwnFA W base v l G):OwnF W base v l:=by
 obtain ⟨xs,h1,h2,h3,_⟩:=h
 exact ⟨xs,h1,h2,h3⟩
theorem OwnFA.of {W:World} {base:Nat} {v:Value} {l:List Fil} {G:Nat→Prop} (h:OwnF W base v l) (hG:∀ g,G g→W.heap.size≤g):OwnFA W base v l G:=by
 obtain ⟨xs,h1,h2,h3⟩:=h
 refine ⟨xs,h1,h2,h3,fun g hg=>?_⟩
 have:=h2.freshG zbP (g-W.heap.size)
 rwa [show W.heap.size+(g-W.heap.size)=g by have:=hG g hg;omega] at this
theorem OwnFA.ext {W W':World} {base:Nat} {v:Value} {l:List Fil} {G:Nat→Prop} (h:OwnFA W base v l G) (hX:Ext W W'):OwnFA W' base v l G:=by
 obtain ⟨xs,h1,h2,h3,h4⟩:=h
 exact ⟨xs,zag h1 hX,h2.ext zbP hX,h3,h4⟩
theorem OwnFA.base {W:World} {base base':Nat} {v:Value} {l:List Fil} {G:Nat→Prop} (h:OwnFA W base v l G) (hb:base'≤base):OwnFA W base' v l G:=by
 obtain ⟨xs,h1,h2,h3,h4⟩:=h
 exact ⟨xs,zaj h1 hb,h2,h3,h4⟩
theorem OwnFA.setD {W:World} {base b j:Nat} {v u:Value} {l:List Fil} {G:Nat→Prop} {t:TypeId} {cs:Array Value} (h:OwnFA W base v l G) (ht:t≠51) (hB:Blk W b t cs) (hno:∀ (k:Nat) (n:Int),cs[k]?≠some (.int .u8 n)):OwnFA (W.setCell ⟨b,j,none⟩ u) base v l G:=by
 obtain ⟨xs,h1,h2,h3,h4⟩:=h
 exact ⟨xs,zee hB ht h1 u,h2.keep zbP (zlR h2 hB hno) fun p x hc hp=>zcl hc hp,h3,h4⟩
theorem OwnFA.box1 {W:World} {base b:Nat} {v:Value} {l:List Fil} {G:Nat→Prop} {A A':Option Addr} {n c n' c':Nat} {B B':Option Addr} {m e m' e':Nat} {q f q' f':Int} {d d':Bool} (h:OwnFA W base v l G) (hB:Blk W b 25 (zaE A n c B m e q f d)) :
  OwnFA (zeF W b (.slice A' n' c') (.slice B' m' e') (.int .i64 q') (.int .i64 f') (.bool d')) base v l G:=by
 have b0:Blk _ b 25 (zaE A' n' c' B m e q f d):=hB.set 0 (.slice A' n' c')
 have b1:Blk _ b 25 (zaE A' n' c' B' m' e' q f d):=b0.set 1 (.slice B' m' e')
 have b2:Blk _ b 25 (zaE A' n' c' B' m' e' q' f d):=b1.set 2 (.int .i64 q')
 have b3:Blk _ b 25 (zaE A' n' c' B' m' e' q' f' d):=b2.set 3 (.int .i64 f')
 exact OwnFA.setD (OwnFA.setD (OwnFA.setD (OwnFA.setD (OwnFA.setD h (by decide) hB zaG) (by decide) b0 zaG) (by decide) b1 zaG) (by decide) b2 zaG) (by decide) b3 zaG
def zuo (w:World) (base:Nat) (v:Value) (d:Dk):Prop:=∃ A c B e,v=.agg #[.slice A d.fs.length c,.slice B d.q.length e,.int .i64 d.quota,.int .i64 d.fuse,.bool d.dead]∧OwnFA w base (.slice A d.fs.length c) d.fs (fun g=>(Value.slice B d.q.length e).ownBlock=some g)∧OwnQ w base (.slice B d.q.length e) d.q
theorem zs2 (v:Value) (d:Dk) (w:World) (hD:DkV w v d) (hl1:d.fs.length≤2000000) (hl2:d.q.length≤2000000) (hb1:∀ f∈d.fs,f.2.length≤2000000) (hb2:∀ o∈d.q,o.b.length≤2000000) :
  Calls Tryz.prog 47 #[v] w fun e w'=>∃ u,e=.returned u∧zuo w' w.heap.size u d∧Ext w w':=by
 obtain ⟨vf,vq,rfl,hF,hQ⟩:=hD;obtain ⟨A,c,rfl,_,_⟩:=Fs.open_ hF;obtain ⟨B,e2,rfl,_,_⟩:=Qs.open_ hQ
 have HE0:=zhd (show Ext w ((w.alloc (.cells #[.slice A d.fs.length c,.slice B d.q.length e2,.int .i64 d.quota,.int .i64 d.fuse,.bool d.dead] 25)).alloc (.cells #[.slice none 0 0,.slice none 0 0,.int .i64 0,.int .i64 0,.bool false] 25)) from Ext.alloc (Ext.alloc (Ext.refl _) _) _)
 have H0:=zhd (show Blk ((w.alloc (.cells #[.slice A d.fs.length c,.slice B d.q.length e2,.int .i64 d.quota,.int .i64 d.fuse,.bool d.dead] 25)).alloc (.cells #[.slice none 0 0,.slice none 0 0,.int .i64 0,.int .i64 0,.bool false] 25)) w.heap.size 25 (zaE A d.fs.length c B d.q.length e2 d.quota d.fuse d.dead) from (Blk.new w _ _).alloc _)
 have h1:Blk ((w.alloc (.cells #[.slice A d.fs.length c,.slice B d.q.length e2,.int .i64 d.quota,.int .i64 d.fuse,.bool d.dead] 25)).alloc (.cells #[.slice none 0 0,.slice none 0 0,.int .i64 0,.int .i64 0,.bool false] 25)) (w.heap.size+1) 25 (zaE none 0 0 none 0 0 0 0 false):=by
  have:=Blk.new (w.alloc (.cells #[.slice A d.fs.length c,.slice B d.q.length e2,.int .i64 d.quota,.int .i64 d.fuse,.bool d.dead] 25)) 25 #[.slice none 0 0,.slice none 0 0,.int .i64 0,.int .i64 0,.bool false]
  rwa [World.size_alloc] at this
 have H1:=zhd h1;have HF:=zhd (hF.ext HE0.out);have HQ:=zhd (hQ.ext HE0.out);clear h1 hF hQ;obtain ⟨g0,g1,g2,g3,g4⟩:=zac (H0.out.ext (Ext.drew (Ext.refl _)))
 go_enter Tryz.func47,Tryz.ntmps47
 go_wp2_with fail
 refine wp_region_held_drew (S:=fun _=>True) (by kernel_rfl) trivial (fun _=>?_)
 refine tkN 0 rfl ?_;refine tkN 3 rfl ?_;clear g2 g3 g4
 refine AllReadyH.two (i:=1) (j:=4) rfl rfl (by kernel_rfl) (by rfl) (by rfl) (fun K hK=>?_) (fun K hK=>?_)
 go_simp
 refine shK hK _ _ trivial (fun _=>?_)
 refine AllReadyH.two (i:=2) (j:=4) rfl rfl (by kernel_rfl) (by rfl) (by rfl) (fun K hK=>?_) (fun K hK=>?_)
 go_simp
 refine (zj4 _ d.fs _ (Fs.ext HF.out (Ext.drew (Ext.refl _))) hl1 hb1).mono ?_
 rintro e w3 ⟨A3,c3,rfl,ho3,hE3⟩;have HX:=zhd (Ext.trans (Ext.drew (Ext.refl _)) hE3)
 have HOF:=zhd (OwnX.base ho3 (show w.heap.size≤_ from HE0.out.size))
 clear ho3 hE3 g0 g1;obtain ⟨g0,g1,_,_,_⟩:=zac (H0.out.ext HX.out)
 refine shK hK _ _ trivial (fun _=>?_)
 refine ar1 4 rfl (fun K hK=>?_)
 go_simp
 refine shK hK _ _ trivial (fun _=>?_)
 rotate_left
 go_simp
 refine shK hK _ _ trivial (fun _=>?_)
 refine ar1 2 rfl (fun K hK=>?_)
 go_simp
 refine (zj4 _ d.fs _ (Fs.ext HF.out (Ext.drew (Ext.refl _))) hl1 hb1).mono ?_
 rintro e w3 ⟨A3,c3,rfl,ho3,hE3⟩;have HX:=zhd (Ext.trans (Ext.drew (Ext.refl _)) hE3)
 have HOF:=zhd (OwnX.base ho3 (show w.heap.size≤_ from HE0.out.size))
 clear ho3 hE3 g0 g1;obtain ⟨g0,g1,_,_,_⟩:=zac (H0.out.ext HX.out)
 refine shK hK _ _ trivial (fun _=>?_)
 rotate_left
 go_simp
 refine shK hK _ _ trivial (fun _=>?_)
 refine ar1 1 rfl (fun K hK=>?_)
 go_simp
 refine shK hK _ _ trivial (fun _=>?_)
 refine ar1 2 rfl (fun K hK=>?_)
 go_simp
 refine (zj4 _ d.fs _ (Fs.ext HF.out (Ext.drew (Ext.refl _))) hl1 hb1).mono ?_
 rintro e w3 ⟨A3,c3,rfl,ho3,hE3⟩;have HX:=zhd (Ext.trans (Ext.drew (Ext.refl _)) hE3)
 have HOF:=zhd (OwnX.base ho3 (show w.heap.size≤_ from HE0.out.size))
 clear ho3 hE3 g0 g1;obtain ⟨g0,g1,_,_,_⟩:=zac (H0.out.ext HX.out)
 refine shK hK _ _ trivial (fun _=>?_)
 all_goals
  refine zai (i:=6) (v:=?_) rfl (by kernel_rfl) (by kernel_rfl) (by kernel_rfl) (fun _ _ _ h=>h) (by rfl) (by assumption) (fun w hw=>?_) ?_
  rotate_left
  ·(try dsimp only at hw);go_simp;try with_reducible rfl
  try simp only[Act.put,sA,sZ,sS]
  refine ar1 5 rfl (fun K hK=>?_)
  go_simp
  refine (ztU _ d.q _ (HQ.out.ext HX.out) hl2 hb2).mono ?_
  rintro e w4 ⟨Q3,k3,rfl,ho4,hE4⟩;have HX4:=zhd (Ext.trans HX.out hE4)
  have HOF4:=zhd (OwnFA.ext (OwnFA.of HOF.out (G:=fun g=>(Value.slice Q3 d.q.length k3).ownBlock=some g) (fun g hg=>Nat.le_trans (by simp) (zcT ho4 hg).1)) hE4)
  have HOQ:=zhd (OwnX.base ho4 (Ext.trans HE0.out HX.out).size);have HSZ:=zhd HX.out.size;clear ho4 hE4 g0 g1;have h0:=H0.out.ext HX4.out;have e0:=h0.frozen 0;have e1:=h0.frozen 1;have h1:=H1.out.ext HX4.out;have H04:=zhd h0;have H14:=zhd h1;obtain ⟨g0,g1,g2,g3,g4⟩:=zac h0;clear h0 h1
  refine shK hK _ _ trivial (fun _=>?_)
  refine ar1 7 rfl (fun K hK=>?_)
  go_simp
  refine shK hK _ _ trivial (fun _=>?_)
  refine zai (i:=8) (v:=?_) rfl (by kernel_rfl) (by kernel_rfl) (by kernel_rfl) (fun _ _ _ h=>h) (by rfl) (by assumption) (fun w hw=>?_) ?_
  rotate_left
  ·(try dsimp only at hw);go_simp;try with_reducible rfl
  try simp only[Act.put,sA,sZ,sS]
  have e1':(w4.setCell ⟨w.heap.size,0,none⟩ (.slice A3 d.fs.length c3)).frozen? ⟨w.heap.size,1,none⟩=false:=(H04.out.set 0 _).frozen 1
  refine ar1 9 rfl (fun K hK=>?_)
  go_simp
  refine shK hK _ _ trivial (fun _=>?_)
  refine wpAnyH_done (by kernel_rfl) ?_ _
  have k0:Blk _ w.heap.size 25 (zaE A3 d.fs.length c3 B d.q.length e2 d.quota d.fuse d.dead):=H04.out.set 0 (.slice A3 d.fs.length c3)
  have k1:Blk _ w.heap.size 25 (zaE A3 d.fs.length c3 Q3 d.q.length k3 d.quota d.fuse d.dead):=k0.set 1 (.slice Q3 d.q.length k3)
  have z1:Blk _ (w.heap.size+1) 25 (zaE none 0 0 none 0 0 0 0 false):=(H14.out.other (show w.heap.size+1≠w.heap.size by omega) 0 (.slice A3 d.fs.length c3)).other (show w.heap.size+1≠w.heap.size by omega) 1 (.slice Q3 d.q.length k3)
  have of1:=OwnFA.setD (j:=1) (u:=.slice Q3 d.q.length k3) (OwnFA.setD (j:=0) (u:=.slice A3 d.fs.length c3) HOF4.out (by decide) H04.out zaG) (by decide) k0 zaG;have oq1:=OwnQ.setD (j:=1) (u:=.slice Q3 d.q.length k3) (OwnQ.setD (j:=0) (u:=.slice A3 d.fs.length c3) HOQ.out (by decide) H04.out zaG) (by decide) k0 zaG;have HK1:=zhd k1;have HZ1:=zhd z1;have HOF1:=zhd of1;have HOQ1:=zhd oq1;have HX5:=zhd (Below.setCell (p:=⟨w.heap.size,1,none⟩) (Below.setCell (p:=⟨w.heap.size,0,none⟩) (Ext.trans HE0.out HX4.out) (Nat.le_refl _) (.slice A3 d.fs.length c3)) (Nat.le_refl _) (.slice Q3 d.q.length k3));clear g0 g1 g2 g3 g4 e0 e1 e1' k0 k1 z1 of1 oq1;obtain ⟨g0,g1,g2,g3,g4⟩:=zac HK1.out;obtain ⟨f0,f1,f2,f3,f4⟩:=zby HZ1.out;obtain ⟨d0,d1,d2,d3,d4⟩:=zac HZ1.out;go_wp2_with fail
  refine bodyPost_ret (zuP _ _ _ _ rfl (zaS HZ1.out _ _ _ _ _) rfl) rfl ?_
  refine ⟨_,rfl,⟨_,_,_,_,rfl,OwnFA.box1 HOF1.out HZ1.out,OwnQ.box1 HOQ1.out HZ1.out⟩,zaL HX5.out (Nat.le_succ _) _ _ _ _ _⟩
open Go.RowKit Go.Mv Go.MapKept Go.ChangeMaps
section
variable {P:Program} {T K E:TypeId} {F:Fence} {nF:Nat} {w:World} {ops:Array Oper} {rest:List Oper} {o:Oper} {a:Act} {Q:Exit→Act→World→Prop}
theorem zjb (hg:o.guard=none) (m x:Operand) (ok:Bool) (hop:o.op=Op.lookup T m x ok) (hT:P.underlying T=some (.map K E)) (hK:P.underlying K=some .string) (hz:(zeroValue E).run P w=.ok (.slice none 0 0) w)
  (r:Nat) (l:List Fil) (hm:a.eval m=.map (some r)) (hF:FMap w r l) (n:List UInt8) (hx:a.eval x=sv n)
  (h:∀ A c,Bs w (.slice A ((zae n l).getD []).length c) ((zae n l).getD [])→wpListIn F nF P ops Q rest (a.put o.dst (if ok then .tuple #[.slice A ((zae n l).getD []).length c,.bool (zae n l).isSome] else .slice A ((zae n l).getD []).length c)) w) :
  wpListIn F nF P ops Q (o::rest) a w:=by
 refine wpListIn_plain hg fun K' hK'=>?_
 obtain ⟨v,hrun,h1,h2⟩:=hF.lookup hT hK n hz ok
 have hv:Bs w v ((zae n l).getD []):=by
  cases hf:zae n l with
  | none=>rw[h1 hf];exact SlR.nil w 1
  | some b=>exact h2 b hf
 obtain ⟨A,c,rfl,_,_⟩:=SlR.open_ hv;unfold Oper.wpIn
 refine ⟨by simp[Oper.about,hop],?_⟩
 rw[Oper.semAt_plain F _ _ (by rw[hop];intro c hc';cases hc')]
 simp[execOp,hop,hm,hx,hrun,Result.andThen]
 exact hK' _ _ (by simpa using h A c hv)
theorem zjc (hg:o.guard=none) (m x v:Operand) (hop:o.op=Op.mapUpdate T m x v) (hT:P.underlying T=some (.map K E)) (hK:P.underlying K=some .string)
  (r:Nat) (l:List Fil) (hm:a.eval m=.map (some r)) (hF:FMap w r l) (n:List UInt8) (hx:a.eval x=sv n) (u:Value) (b:List UInt8) (hv:a.eval v=u) (hb:Bs w u b)
  (h:∀ w',FMap w' r (zbw n b l)→MT w w' r→wpListIn F nF P ops Q rest (a.put o.dst undef) w'):wpListIn F nF P ops Q (o::rest) a w:=by
 refine wpListIn_plain hg fun K' hK'=>?_
 obtain ⟨w',hrun,h1,h2⟩:=hF.update hT hK n hb;unfold Oper.wpIn
 refine ⟨by simp[Oper.about,hop],?_⟩
 rw[Oper.semAt_plain F _ _ (by rw[hop];intro c hc';cases hc')]
 simp[execOp,hop,hm,hx,hv,hrun,Result.andThen]
 exact hK' _ _ (h w' h1 h2)
theorem zki (hg:o.guard=none) (m:Operand) (hop:o.op=Op.range T m) (hT:P.underlying T=some (.map K E)) (r:Nat) (l:List Fil) (hm:a.eval m=.map (some r)) (hF:FMap w r l)
  (h:∀ w',FIt w' r w.heap.size l l→Ext w w'→wpListIn F nF P ops Q rest (a.put o.dst (.pointer (some ⟨w.heap.size,0,none⟩))) w'):wpListIn F nF P ops Q (o::rest) a w:=by
 refine wpListIn_plain hg fun K' hK'=>?_
 obtain ⟨w',hrun,h1,h2⟩:=hF.range hT;unfold Oper.wpIn
 refine ⟨by simp[Oper.about,hop],?_⟩
 rw[Oper.semAt_plain F _ _ (by rw[hop];intro c hc';cases hc')]
 simp[execOp,hop,hm,hrun,Result.andThen]
 exact hK' _ _ (h w' h1 h2)
theorem zk8 (hg:o.guard=none) (it:Operand) (hop:o.op=Op.next it false) (r i:Nat) (l L:List Fil) (hit:a.eval it=.pointer (some ⟨i,0,none⟩)) (hI:FIt w r i l L)
  (hDone:L=[]→wpListIn F nF P ops Q rest (a.put o.dst (.tuple #[.bool false])) w)
  (hMore:∀ n b A c L' w',L.Perm ((n,b)::L')→FIt w' r i l L'→Bs w' (.slice A b.length c) b→MT w w' i→r≠i→(Instr.entry (.pointer (some ⟨i,0,none⟩))).run P w'=.ok (.tuple #[sv n,.slice A b.length c]) w' →
    wpListIn F nF P ops Q rest (a.put o.dst (.tuple #[.bool true,sv n,.slice A b.length c])) w'):wpListIn F nF P ops Q (o::rest) a w:=by
 refine wpListIn_plain hg fun K' hK'=>?_
 unfold Oper.wpIn
 refine ⟨by simp[Oper.about,hop],?_⟩
 rw[Oper.semAt_plain F _ _ (by rw[hop];intro c hc';cases hc')]
 rcases hI.next (P:=P) o.type with ⟨h0,hrun⟩ | ⟨n,b,v,L',w',h1,hrun,h3,h4,h5,h6,h7⟩
 ·simp[execOp,hop,hit,hrun,Result.andThen]
  exact hK' _ _ (hDone h0)
 ·obtain ⟨A,c,rfl,_,_⟩:=SlR.open_ h4
  simp[execOp,hop,hit,hrun,Result.andThen]
  exact hK' _ _ (hMore n b A c L' w' h1 h3 h4 h5 h6 h7)
end
/-! A map while a range over a function goes on -/
theorem FMap.keep2 {A B:World} {r:Nat} {l:List Fil} (h:FMap A r l) (hr:∀ es c,A.heap[r]?=some (.map es c)→B.heap[r]?=some (.map es c)) (hk:∀ p x,A.cell? p=some x→B.cell? p=some x):FMap B r l:=by
 obtain ⟨es,c,hb,hs,he⟩:=h
 exact ⟨es,c,hr _ _ hb,hs,he.keep hk⟩
theorem FMap.moves {A B:World} {r n:Nat} {l:List Fil} (h:FMap A r l) (hm:Moves (zab (fun _ _=>False) n) A B) (hr:r<n):FMap B r l:=by
 refine h.keep2 (fun es c hb=>hm.same _ _ hb ?_) (fun p x hc=>hm.cell hc fun o ho hcs=>?_)
 ·rintro (h | ⟨h,_⟩)
  ·exact h
  ·omega
 ·rintro (h | ⟨_,h⟩)
  ·exact h
  ·rw[hcs] at h;cases h
theorem Bs.moves {A B:World} {n:Nat} {v:Value} {b:List UInt8} (h:Bs A v b) (hm:Moves (zab (fun _ _=>False) n) A B):Bs B v b:=by
 refine SlR.keep h fun p x hc=>hm.cell hc fun o ho hcs=>?_
 rintro (h | ⟨_,h⟩)
 ·exact h
 ·rw[hcs] at h;cases h
theorem Kept.mt {K:Nat→Obj→Prop} {A B C:World} {r:Nat} (h:Kept K A B) (hm:MT B C r) (hr:∀ o,A.heap[r]?=some o→¬ K r o):Kept K A C :=
 ⟨Nat.le_trans h.size (Nat.le_of_eq hm.size.symm),fun k o hk ho=>by
   have hk2:=h.same k o hk ho
   refine (hm.block k (fun e=>?_)).trans hk2
   subst e
   exact hr o hk ho⟩
open Go.RowKit Go.Mv Go.Shelf
def zf8 (fs:List Fil):Nat→List (Nat×Fil)
 | 0=>[]
 | k+1=>(k,fs.getD k ([],[]))::zf8 fs k
theorem znw (fs:List Fil):∀ k,k≤fs.length→(zf8 fs k).map (·.2)=(fs.take k).reverse
 | 0,_=>rfl
 | k+1,h=>by
  rw[zf8,List.map_cons,znw fs k (by omega),List.take_succ_eq_append_getElem (by omega),List.reverse_append]
  simp[List.getD_eq_getElem?_getD,List.getElem?_eq_getElem (show k<fs.length by omega)]
theorem ztH {wo A B:World} {n:Nat} (h:Hold wo A) (hk:Kept (zab (fun _ o=>o.isCells=true) n) A B):Hold wo B:=fun q u hq=>by
 refine hk.cell (h q u hq) fun o ho=>?_
 obtain ⟨o',ho',hcs⟩:=cells_of_cell (h q u hq);rw[ho] at ho'
 cases ho'
 exact .inl hcs
attribute [local go_sem] Oper.semAt_some in
theorem zrf (wo W0:World) (v:Value) (fs:List Fil) (hF:Fs wo v fs) (hlen:fs.length≤4000000) (hH:Hold wo W0) (B:Nat) (hB:Boxed W0 B 22 v) (h1:∀ p u,wo.cell? p=some u→p.block<W0.heap.size) :
  Seq Tryz.prog 210 #[.pointer (some ⟨B,0,none⟩)] (fun (x:Nat×Fil) av W=>∃ C d,av = #[.int .i64 x.1,.agg #[sv x.2.1,.slice C x.2.2.length d]]∧Bs W (.slice C x.2.2.length d) x.2.2) (fun _ o=>o.isCells=true) (fun _ _=>False) (zf8 fs fs.length) W0:=by
 intro l J Jx hJ hJx hY h0;obtain ⟨A,c,rfl,hb1,hb2⟩:=Fs.open_ hF
 refine (callsIn_wd (ro:=none) (n:=9)).1 ?_
 refine callsIn_of_wp Tryz.func210 rfl trivial ?_ rfl
 simp only[Tryz.ntmps210,List.size_toArray,List.length_cons,List.length_nil,Nat.reduceAdd,Nat.reduceSub,Array.replicate_succ,Array.replicate_zero,List.push_toArray,List.append_toArray,List.nil_append,List.cons_append];have Hes:=zhd hF;clear hF;obtain ⟨all,hall⟩:∃ all,zf8 fs fs.length=all:=⟨_,rfl⟩
 rw[hall] at hY ⊢
 have HA:=zhd hall;have c1:=hB.cell;clear hall
 gi_wp2
 clear c1
 gi_loopw [3] (fun j W=>∃ (z:Int) (pre:List (Nat×Fil)),j=.int .i64 z∧-1≤z∧z<fs.length∧Hid (all=pre++zf8 fs (z+1).toNat)∧Hid (J pre W)∧Hold wo W∧Boxed W B 22 (.slice A fs.length c)∧W0.heap.size≤W.heap.size) (fun j _=>(intOf j+1).toNat)
 case atStart=>exact ⟨(fs.length:Int)-1,[],by go_num,by omega,by omega,by rw[show ((fs.length:Int)-1+1).toNat=fs.length from by omega];exact HA.out.symm,h0,hH,hB,Nat.le_refl _⟩
 case round =>
  obtain ⟨z,pre,rfl,hz1,hz2,HP,HJ,HH,bB,hsz⟩:=hrel
  by_cases hz:0≤z
  ·obtain ⟨k,rfl⟩:=Int.eq_ofNat_of_zero_le hz
   have hlt:k<fs.length:=by omega
   obtain ⟨_,b,off,rfl,hc⟩:=(Hes.out.keep HH).at_ (by omega);obtain ⟨hc0,B2,d2,hc1,hbs⟩:=hc k hlt;have hPP:=HP.out
   rw[show ((k:Int)+1).toNat=k+1 from by omega,zf8,show fs.getD k ([],[])=fs[k] from by simp[List.getD_eq_getElem?_getD,List.getElem?_eq_getElem hlt]] at hPP
   have HPP:=zhd hPP;have Hno:=zhd hY;have HBS:=zhd hbs;clear hc hPP hY hbs
   generalize fs[k]=x at *
   have hy:=Hno.out pre (k,x) _ HPP.out wr #[.int .i64 (k:Int),.agg #[sv x.1,.slice B2 x.2.length d2]] HJ.out hsz ⟨B2,d2,rfl,HBS.out⟩;have Hy:=zhd hy;have HH1:=zhd HH;have c1:=bB.cell;clear hy HH
   simp only[sv] at *
   gi_wp2
   refine zbf Hy.out ?_
   rintro e W' ⟨hk',⟨rfl,hj⟩ | ⟨rfl,hj⟩⟩
   ·refine ⟨true,rfl,?_⟩
    have d1:Boxed W' B 22 (.slice (some ⟨b,off,none⟩) fs.length c):=hk'.boxed bB (.inl rfl)
    have hs':=Nat.le_trans hsz hk'.size;have HH2:=zhd (ztH HH1.out hk');have HJ3:=zhd hj
    have hsp:all=(pre++[(k,x)])++zf8 fs k:=by rw[List.append_assoc];exact HPP.out
    have Hsp:=zhd hsp;clear hj hk' hsp Hy hc0 hc1 c1
    gi_wp2
    exact ⟨⟨(k:Int)-1,pre++[(k,x)],by go_num,by omega,by omega,by rw[show ((k:Int)-1+1).toNat=k from by omega];exact Hsp.out,HJ3.out,HH2.out,d1,hs'⟩,by simp[intOf]⟩
   ·refine ⟨false,rfl,?_⟩
    have HJ3:=zhd hj;clear hj hk' hc0 hc1 c1
    gi_wp2
    refine bodyPost_ret (results_none rfl _ _ _) rfl ?_
    refine ⟨⟨_,rfl⟩,.inr ⟨pre++[(k,x)],?_,HJ3.out⟩⟩
    exact ⟨zf8 fs k,by rw[List.append_assoc];exact HPP.out.symm⟩
  ·obtain rfl:z = -1:=by omega
   have hPP:=HP.out
   rw[show ((-1:Int)+1).toNat=0 from rfl,show zf8 fs 0=[] from rfl,List.append_nil] at hPP
   subst hPP;clear HP hY
   gi_wp2
   refine bodyPost_end (results_none rfl _ _ _) rfl ?_
   exact ⟨⟨_,rfl⟩,.inl HJ.out⟩
theorem zte (A:Option Addr) (n c:Nat) (w:World):Calls Tryz.prog 173 #[.slice A n c] w fun e w'=>e=.returned (.func (.func 210) #[] #[.pointer (some ⟨w.heap.size,0,none⟩)])∧w.alloc (.cells #[.slice A n c] 22)=w':=by
 go_enter Tryz.func173,Tryz.ntmps173
 go_wp2
 go_ret
 exact ⟨rfl,rfl⟩
theorem FMap.putObj {W:World} {r D:Nat} {l:List Fil} (h:FMap W r l) (hD:r≠D) {o:Obj} (hK:W.heap[D]?=some o) (hc:o.isCells=false) (o':Obj):FMap (W.putObj D o') r l :=
 h.keep2 (fun _ _ hb=>(World.putObj_heap_other hD).trans hb) (fun _ _ hc'=>zci hc' hK hc o')
def zhw (pre:List (Nat×Fil)):List Fil:=pre.foldl (fun m x=>zbw x.2.1 x.2.2 m) []
theorem zp7 (pre:List (Nat×Fil)) (x:Nat×Fil):zhw (pre++[x])=zbw x.2.1 x.2.2 (zhw pre):=by unfold zhw;rw[List.foldl_append];rfl
theorem zrT (fs:List Fil):zhw (zf8 fs fs.length)=zcN fs:=by
 have h1:∀ (l:List (Nat×Fil)) (m:List Fil),l.foldl (fun m x=>zbw x.2.1 x.2.2 m) m=(l.map (·.2)).foldl (fun m p=>zbw p.1 p.2 m) m:=by
  intro l
  induction l with
  | nil=>intro m;rfl
  | cons a l ih=>intro m;rw[List.foldl_cons,List.map_cons,List.foldl_cons,ih]
 have h2:∀ l:List Fil,l.foldr (fun p m=>zbw p.1 p.2 m) []=zcN l:=by
  intro l
  induction l with
  | nil=>rfl
  | cons a l ih=>rw[List.foldr_cons,ih];rfl
 unfold zhw;rw[h1,znw fs _ (Nat.le_refl _),List.take_length,List.foldl_reverse,h2]
def TfI (w:World) (pre:List (Nat×Fil)) (X:World):Prop:=FMap X w.heap.size (zhw pre)∧Boxed X (w.heap.size+1) 160 (.map (some w.heap.size))∧Ext w X
attribute [local go_sem] Oper.semAt_some in
theorem zqI (v:Value) (fs:List Fil) (w:World) (hF:Fs w v fs) (hl:fs.length≤2000000):Calls Tryz.prog 148 #[v] w fun e w'=>∃ r,e=.returned (.map (some r))∧FMap w' r (zcN fs)∧w.heap.size≤r∧Ext w w':=by
 obtain ⟨A,c,rfl,_,_⟩:=Fs.open_ hF;have HF:=zhd hF;clear hF;have hmm:=@run_makeMap Tryz.prog
 refine (callsIn_wd (ro:=none) (n:=9)).1 ?_
 refine callsIn_of_wp_marks Tryz.func148 rfl trivial ?_ rfl
 simp only[Tryz.ntmps148,List.size_toArray,List.length_cons,List.length_nil,Nat.reduceAdd,Nat.reduceSub,Array.replicate_succ,Array.replicate_zero,List.push_toArray,List.append_toArray,List.nil_append,List.cons_append]
 gi_wp2_with (refine ⟨trivial,?_⟩;gi_at_call 173;refine (callsIn_wd.2 (zte _ _ _ _)).mono ?_;rintro e w' ⟨rfl,rfl⟩)
 have q1:Boxed (((w.alloc (.map #[] 0)).alloc (.cells #[.map (some w.heap.size)] 160)).alloc (.cells #[.slice A fs.length c] 22)) (w.heap.size+1) 160 (.map (some w.heap.size)):=by
  have:=(Boxed.new (w.alloc (.map #[] 0)) 160 (.map (some w.heap.size))).alloc (.cells #[.slice A fs.length c] 22)
  rwa [World.size_alloc] at this
 have q2:Boxed (((w.alloc (.map #[] 0)).alloc (.cells #[.map (some w.heap.size)] 160)).alloc (.cells #[.slice A fs.length c] 22)) (w.heap.size+1+1) 22 (.slice A fs.length c):=by
  have:=Boxed.new ((w.alloc (.map #[] 0)).alloc (.cells #[.map (some w.heap.size)] 160)) 22 (.slice A fs.length c)
  rwa [World.size_alloc,World.size_alloc] at this
 have hE3:Ext w (((w.alloc (.map #[] 0)).alloc (.cells #[.map (some w.heap.size)] 160)).alloc (.cells #[.slice A fs.length c] 22)):=Ext.alloc (Ext.alloc (Ext.alloc (Ext.refl _) _) _) _
 have q0:FMap (((w.alloc (.map #[] 0)).alloc (.cells #[.map (some w.heap.size)] 160)).alloc (.cells #[.slice A fs.length c] 22)) w.heap.size []:=(FMap.new w).ext (Ext.alloc (Ext.alloc (Ext.refl _) _) _)
 have h0:TfI w [] (((w.alloc (.map #[] 0)).alloc (.cells #[.map (some w.heap.size)] 160)).alloc (.cells #[.slice A fs.length c] 22)):=⟨q0,q1,hE3⟩
 have hs3:(((w.alloc (.map #[] 0)).alloc (.cells #[.map (some w.heap.size)] 160)).alloc (.cells #[.slice A fs.length c] 22)).heap.size=w.heap.size+3:=by simp
 clear q0 q1 hmm
 generalize ((w.alloc (.map #[] 0)).alloc (.cells #[.map (some w.heap.size)] 160)).alloc (.cells #[.slice A fs.length c] 22)=w3 at *
 refine zbO (a:=⟨_,_⟩) rfl (enters_of Tryz.func210 (by kernel_rfl) rfl)
  (fun W1 hb hs=>zrf w W1 _ fs HF.out (by omega) (fun q u hq=>Ext.cell (Ext.trans hE3 hb) hq) (w.heap.size+1+1) (q2.kept (row:=none) (Ext.grown hb none) (by simp)) (fun p u hq=>by have:=World.block_lt_of_cell? _ _ hq;omega))
  (fun k o h=>h.elim) (fun k o h=>h) (fun x av W h=>by obtain ⟨C,d,rfl,_⟩:=h;rfl)
  (TfI w) (fun _ _ _=>False) ?hI (fun _ _ _ _ h _=>h) h0
  (fun x a' W=>∃ nb C d,a'=⟨#[.slice A fs.length c,undef,.map none,.pointer (some ⟨w.heap.size+1,0,none⟩),undef,.pointer (some ⟨nb,0,none⟩),.map (some w.heap.size),.slice A fs.length c,.func (.func 210) #[] #[.pointer (some ⟨w.heap.size+1+1,0,none⟩)],.int .i64 x.1,.agg #[sv x.2.1,.slice C x.2.2.length d],undef,undef,undef,undef,undef,undef],[]⟩∧Blk W nb 51 #[sv x.2.1,.slice C x.2.2.length d]∧Bs W (.slice C x.2.2.length d) x.2.2)
  ?hAx ?assign ?body ?done ?stop
 case hI =>
  rintro s X Y ⟨hf,hb,hE⟩ hm
  refine ⟨hf.moves hm (by omega),hm.boxed hb ?_,hm.belowOf hE ?_ (Nat.le_refl _)⟩
  ·rintro (h | h)
   ·exact h
   ·cases h.2
  ·rintro k o hk (h | h)
   ·exact h
   ·have:=h.1;omega
 case hAx =>
  rintro x a' X Y ⟨nb,C,d,rfl,hb,hbs⟩ hm
  refine ⟨nb,C,d,rfl,hm.same _ _ hb ?_,Bs.moves hbs hm⟩
  rintro (h | h)
  ·exact h
  ·cases h.2
 case assign =>
  rintro l' pre x post W av K' hx ⟨hf,hb,hE⟩ hsz ⟨C,d,rfl,hbs⟩ hK
  simp only[sv] at *
  gi_wp2
  exact hK _ _ (Kept.refl.alloc _) ⟨hf.ext (Ext.alloc (Ext.refl _) _),hb.alloc _,Ext.alloc hE _⟩ ⟨_,C,d,rfl,Blk.new _ _ _,Bs.ext hbs (Ext.alloc (Ext.refl _) _)⟩
 case body =>
  rintro l' pre ⟨j,n,b⟩ post a' W hx hl' hr ⟨hf,hb,hE⟩ hsz ⟨nb,C,d,rfl,hx1,hbs⟩
  dsimp only at *
  obtain ⟨g0,g1⟩:=zik hx1;have c1:=hb.cell
  simp only[sv] at *
  gi_wp2_with (gi_at_mapUpdate;refine zjc rfl (.tmp 11) (.tmp 13) (.tmp 15) rfl Tryz.underlying160 Tryz.underlying9 w.heap.size (zhw pre) rfl hf n rfl _ b rfl hbs ?_;intro W2 hf2 hm2)
  refine ⟨Kept.mt Kept.refl hm2 ?_,by rw[zp7];exact hf2,hm2.blk hb,hm2.ext hE (Nat.le_refl _)⟩
  rintro o ho (h | h)
  ·obtain ⟨es,cc,hh,_⟩:=hf
   rw[hh] at ho
   cases ho
   cases h
  ·have:=h.1
   omega
 case done =>
  rintro D W hD ⟨hf,hb,hE⟩ hK;have hc:=hb.cell
  gi_wp2
  refine zbg hK _ (results_tmp rfl _ _ _) ?_
  exact ⟨w.heap.size,rfl,by rw[←zrT];exact hf.putObj (by omega) hK rfl _,Nat.le_refl _,zar hE (by omega) _⟩
 case stop =>
  rintro D cd pre W _ _ h _
  exact h.elim
end Go.Proofs.YtgonhdeochgkoaaGreatDoor
