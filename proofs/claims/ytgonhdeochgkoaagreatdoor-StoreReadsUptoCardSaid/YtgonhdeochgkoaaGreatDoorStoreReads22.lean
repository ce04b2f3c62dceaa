/- Merged: DskP2 Row DOwn -/
import Derived.Test.YtgonhdeochgkoaaGreatDoorStoreReads21
set_option linter.all false
set_option maxHeartbeats 8000000
set_option maxRecDepth 100000
namespace Go.Proofs.YtgonhdeochgkoaaGreatDoor
open Go.RowKit Go.Mv
/-! How many bytes -/
def tot (l:List Fil):Nat:=(l.map fun p=>p.2.length).sum
theorem zcG (p:Fil) (l:List Fil):tot (p::l)=p.2.length+tot l:=by simp[tot]
theorem zml {l l':List Fil} (h:l.Perm l'):tot l=tot l':=by unfold tot;exact (h.map _).sum_nat
theorem zgl (n b:List UInt8):∀ l:List Fil,tot (zbe n b l)+((zai n l).getD []).length=tot l+b.length
 | []=>by simp[zbe,tot,zai]
 | p::l=>by
  have ih:=zgl n b l
  rw[zbe,zai]
  split
  ·rw[zcG,zcG];simp;omega
  ·rw[zcG,zcG];omega
theorem zic (n:List UInt8):∀ l:List Fil,tot (za7 n l)+((zai n l).getD []).length=tot l
 | []=>by simp[za7,tot,zai]
 | p::l=>by
  have ih:=zic n l
  rw[za7,zai]
  split
  ·rw[zcG];simp;omega
  ·rw[zcG,zcG];omega
theorem zoh (n:List UInt8) (l:List Fil):((zai n l).getD []).length≤tot l:=by have:=zic n l;omega
theorem zfD (m:List Fil) (o:Oq):tot (zbk m o)≤tot m+o.b.length:=by
 unfold zbk
 split
 ·have:=zgl o.n [] m;simp at this;omega
 ·split
  ·split
   ·omega
   ·rename_i b hb
    have:=zgl o.n (b++o.b) m
    rw[hb] at this
    simp at this
    omega
  ·split
   ·split
    ·omega
    ·rename_i b hb
     have h1:=zgl o.t b (za7 o.n m)
     have h2:=zic o.n m
     rw[hb] at h2
     simp at h2
     omega
   ·split
    ·have:=zic o.n m;omega
    ·omega
def za8 (q:List Oq):Nat:=(q.map fun o=>o.b.length).sum
theorem zcb (o:Oq) (q:List Oq):za8 (o::q)=o.b.length+za8 q:=by simp[za8]
theorem zeD (q q':List Oq):za8 (q++q')=za8 q+za8 q':=by simp[za8]
theorem zkN:∀ (q:List Oq) (m:List Fil),tot (q.foldl zbk m)≤tot m+za8 q
 | [],m=>by simp[za8]
 | o::q,m=>by
  have h1:=zfD m o
  have h2:=zkN q (zbk m o)
  rw[List.foldl_cons,zcb]
  omega
theorem zhX:∀ l:List Fil,tot (zcq l)≤tot l
 | []=>Nat.le_refl _
 | p::l=>by
  have h1:=zhX l
  have h2:=zgl p.1 p.2 (zcq l)
  rw[zcq,zcG]
  omega
theorem zg8 (fs:List Fil) (q:List Oq):tot (zbE fs q)≤tot fs+za8 q:=by
 have h1:=zkN q (zcq fs)
 have h2:=zhX fs
 unfold zbE
 omega
theorem zoZ {l m:List Fil} (h:Tells l m):l.Perm m:=by
 have nd:∀ {l:List Fil},Apart l→l.Nodup:=fun {l} h=>by
  unfold Apart List.Nodup at h
  rw[List.pairwise_map] at h
  exact List.Pairwise.imp (fun h e=>h (congrArg Prod.fst e)) h
 refine (List.perm_ext_iff_of_nodup (nd h.s.apart) (nd h.a)).2 fun p=>⟨fun hp=>zdj (b:=p.2) (by rw[←h.g];exact zc4 h.s.apart hp),fun hp=>zdj (b:=p.2) (by rw[h.g];exact zc4 h.a hp)⟩
theorem zka (fs:List Fil) (q:List Oq):tot (zj6 fs q)=tot (zbE fs q):=zml (zoZ (zhW fs q))
/-! Disks -/
structure Dk where
 fs:List Fil
 q:List Oq
 quota:Int
 fuse:Int
 dead:Bool
def Dk.now (d:Dk):List Fil:=zj6 d.fs d.q
def zb4 (o:Oq):Bool:=(decide (o.k=1)||decide (o.k=2)||decide (o.k=3)||decide (o.k=4)) && !decide (o.n=[])&&(!decide (o.k=3) || !decide (o.t=[]))
def zeV:List UInt8→List Fil→Bool
 | _,[]=>true
 | last,p::l=>ltB last p.1&&zeV p.1 l
def Dk.right (d:Dk):Bool:=zeV [] d.fs&&d.q.all zb4&&decide (d.q.length≤400)&&decide (0≤d.quota)&&decide (0≤d.fuse)&&decide ((tot d.now:Int)≤d.quota)
def Dk.burn (d:Dk):Dk:=if 0<d.fuse then { d with fuse:=d.fuse-1,dead:=decide (d.fuse-1=0) } else d
def Dk.may (d:Dk):Int:=if d.right=false then 2 else if d.dead=true then 40 else 0
def Dk.doS (d:Dk) (o:Oq):Dk×Int :=
 if d.may≠0 then (d,d.may) else
 if zb4 o=false then (d,2) else
 if zai o.n d.now=none∧o.k≠1 then (d,42) else
 if (o.k=2∧d.quota<(tot d.now:Int)+(o.b.length:Int))∨d.q.length=400 then (d,41) else ({ d with q:=d.q++[o] }.burn,0)
def Dk.syncS (d:Dk):Dk×Int:=if d.may≠0 then (d,d.may) else ({ d with fs:=d.now,q:=[] }.burn,0)
def zcH (sync:Bool):Dk→List Oq→Dk×Int
 | d,[]=>if sync=true then d.syncS else (d,0)
 | d,o::l=>if (d.doS o).2=0 then zcH sync (d.doS o).1 l else d.doS o
theorem zfr (o:Oq):zb4 o=true↔(o.k=1∨o.k=2∨o.k=3∨o.k=4)∧o.n≠[]∧(o.k=3→o.t≠[]):=by
 unfold zb4
 simp only[Bool.and_eq_true,Bool.or_eq_true,decide_eq_true_eq,Bool.not_eq_true',decide_eq_false_iff_not]
 constructor
 ·rintro ⟨⟨h1,h2⟩,h3⟩
  exact ⟨by omega,h2,fun h=>h3.elim (fun h'=>absurd h h') id⟩
 ·rintro ⟨h1,h2,h3⟩
  refine ⟨⟨by omega,h2⟩,?_⟩
  by_cases h:o.k=3
  ·exact .inr (h3 h)
  ·exact .inl h
def zbf (g:Nat) (u:Value):Prop:=∀ b off n c,0<n→u=.slice (some ⟨b,off,none⟩) n c→b≠g
theorem zaR (g:Nat) (l:List UInt8):zbf g (sv l):=fun _ _ _ _ _ h=>by cases h
theorem zei (g:Nat) (k:IntKind) (n:Int):zbf g (.int k n):=fun _ _ _ _ _ h=>by cases h
theorem Bs.away {W W':World} {g:Nat} {u:Value} {b:List UInt8} (h:Bs W u b) (ha:zbf g u) (hk:∀ p x,W.cell? p=some x→p.block≠g→W'.cell? p=some x):Bs W' u b:=by
 obtain ⟨hl,A,c,rfl,h1,h2,h3⟩:=h
 refine ⟨hl,A,c,rfl,h1,h2,fun hn=>?_⟩
 obtain ⟨b',off,rfl,hc⟩:=h3 hn
 exact ⟨b',off,rfl,fun j x hx=>hk _ _ (hc j x hx) (ha b' off _ _ hn rfl)⟩
theorem Bs.fresh {W:World} {u:Value} {b:List UInt8} (h:Bs W u b) {g:Nat} (hg:W.heap.size≤g):zbf g u:=by
 intro b' off n c hn hu
 obtain ⟨hl,A,c',rfl,h1,h2,h3⟩:=h
 cases hu
 obtain ⟨b2,off2,e,hc⟩:=h3 hn
 cases e
 have hb:0<(b.map bv).length:=by rw[List.length_map];exact hn
 have:=World.block_lt_of_cell? _ _ (hc 0 _ (List.getElem?_eq_getElem hb))
 simp at this
 omega
theorem OwnB.away {W:World} {base:Nat} {u:Value} {b:List UInt8} (h:OwnB W base u b) {g:Nat} (hg:g<base):zbf g u:=by
 intro b' off n c _ hu
 subst hu
 rcases h.2 with ⟨hn,_⟩ | ⟨g',cap,cur,e,hb,_⟩
 ·cases hn
 ·cases e
  omega
def RowOf {α:Type} (sz:Nat) (E:World→(Nat→Option Value)→α→Prop) (W:World) (xs:List Value) (l:List α):Prop :=
 xs.length=l.length*sz∧∀ (k:Nat) (hk:k<l.length),E W (fun i=>if i<sz then xs[k*sz+i]? else none) l[k]
theorem RowOf.nil {α:Type} {sz:Nat} {E:World→(Nat→Option Value)→α→Prop} {W:World}:RowOf sz E W [] []:=⟨by simp,fun k hk=>by simp at hk⟩
theorem RowOf.append {α:Type} {sz:Nat} {E:World→(Nat→Option Value)→α→Prop} {W:World} {xs ys:List Value} {l m:List α} (h1:RowOf sz E W xs l) (h2:RowOf sz E W ys m):RowOf sz E W (xs++ys) (l++m):=by
 refine ⟨by rw[List.length_append,List.length_append,h1.1,h2.1,Nat.add_mul],fun k hk=>?_⟩
 rw[List.length_append] at hk
 have hl:=h1.1
 by_cases h:k<l.length
 ·have:=h1.2 k h
  rw[List.getElem_append_left h]
  have e:(fun i=>if i<sz then (xs++ys)[k*sz+i]? else none)=fun i=>if i<sz then xs[k*sz+i]? else none:=by
   funext i
   split
   ·rename_i hi
    have:k*sz+i<xs.length:=by
     rw[hl]
     calc k*sz+i<k*sz+sz:=by omega
      _=(k+1)*sz:=by rw[Nat.add_mul,Nat.one_mul]
      _≤l.length*sz:=Nat.mul_le_mul_right _ h
    rw[List.getElem?_append_left this]
   ·rfl
  rw[e]
  exact this
 ·have h':l.length≤k:=by omega
  have:=h2.2 (k-l.length) (by omega)
  rw[List.getElem_append_right h']
  have e:(fun i=>if i<sz then (xs++ys)[k*sz+i]? else none)=fun i=>if i<sz then ys[(k-l.length)*sz+i]? else none:=by
   funext i
   split
   ·have h2:l.length*sz≤k*sz:=Nat.mul_le_mul_right _ h'
    rw[List.getElem?_append_right (by rw[hl];omega),hl,Nat.sub_mul]
    congr 1
    omega
   ·rfl
  rw[e]
  exact this
structure zdu {α:Type} (sz:Nat) (E:World→(Nat→Option Value)→α→Prop):Prop where
 keep:∀ {W W':World} {g:Nat} {c:Nat→Option Value} {p:α},E W c p→(∀ i u,c i=some u→zbf g u)→(∀ p x,W.cell? p=some x→p.block≠g→W'.cell? p=some x)→E W' c p
 fresh:∀ {W:World} {c:Nat→Option Value} {p:α},E W c p→∀ i u,i<sz→c i=some u→zbf W.heap.size u
 one:∀ {W:World} {c:Nat→Option Value} {p:α},E W c p→∀ i u,i<sz→c i=some u→u.oneCell'=true
section
variable {α:Type} {sz:Nat} {E:World→(Nat→Option Value)→α→Prop}
theorem zgZ {xs:List Value} {l:List α} (hl:xs.length=l.length*sz) {u:Value} (hu:u∈xs):∃ (k i:Nat),k<l.length∧i<sz∧xs[k*sz+i]?=some u:=by
 obtain ⟨j,hj,rfl⟩:=List.mem_iff_getElem.1 hu
 have hs:0<sz:=by
  rcases Nat.eq_zero_or_pos sz with h | h
  ·rw[h,Nat.mul_zero] at hl;omega
  ·exact h
 refine ⟨j / sz,j % sz,?_,Nat.mod_lt _ hs,?_⟩
 ·rw[Nat.div_lt_iff_lt_mul hs];omega
 ·rw[Nat.div_add_mod' j sz,List.getElem?_eq_getElem hj]
theorem RowOf.keep (hE:zdu sz E) {W W':World} {g:Nat} {xs:List Value} {l:List α} (h:RowOf sz E W xs l) (ha:∀ u∈xs,zbf g u) (hk:∀ p x,W.cell? p=some x→p.block≠g→W'.cell? p=some x):RowOf sz E W' xs l:=by
 refine ⟨h.1,fun k hk'=>hE.keep (h.2 k hk') (fun i u hu=>?_) hk⟩
 split at hu
 ·exact ha u (List.mem_of_getElem? hu)
 ·cases hu
theorem RowOf.fresh (hE:zdu sz E) {W:World} {xs:List Value} {l:List α} (h:RowOf sz E W xs l):∀ u∈xs,zbf W.heap.size u:=by
 intro u hu
 obtain ⟨k,i,hk,hi,hx⟩:=zgZ h.1 hu
 exact hE.fresh (h.2 k hk) i u hi (by rw[if_pos hi];exact hx)
theorem RowOf.one (hE:zdu sz E) {W:World} {xs:List Value} {l:List α} (h:RowOf sz E W xs l):∀ u∈xs,u.oneCell'=true:=by
 intro u hu
 obtain ⟨k,i,hk,hi,hx⟩:=zgZ h.1 hu
 exact hE.one (h.2 k hk) i u hi (by rw[if_pos hi];exact hx)
theorem RowOf.ext (hE:zdu sz E) {W W':World} {xs:List Value} {l:List α} (h:RowOf sz E W xs l) (hX:Ext W W'):RowOf sz E W' xs l :=
 h.keep hE (h.fresh hE) fun _ _ hc _=>hX.cell hc
def OwnX (sz:Nat) (E:World→(Nat→Option Value)→α→Prop) (t:TypeId) (w:World) (base:Nat) (v:Value) (l:List α):Prop :=
 ∃ xs,w.ownsRow base t sz v l.length xs∧RowOf sz E w xs l∧∀ g,v.ownBlock=some g→∀ u∈xs,zbf g u
theorem OwnX.nil (t:TypeId) (w:World) (base:Nat):OwnX sz E t w base (.slice none 0 0) []:=⟨[],⟨by simp,.inl ⟨rfl,rfl⟩⟩,RowOf.nil,fun g h=>by cases h⟩
theorem OwnX.ext (hE:zdu sz E) {t:TypeId} {w w':World} {base:Nat} {v:Value} {l:List α} (h:OwnX sz E t w base v l) (hX:Ext w w'):OwnX sz E t w' base v l:=by
 obtain ⟨xs,h1,h2,h3⟩:=h
 exact ⟨xs,zae h1 hX,h2.ext hE hX,h3⟩
theorem OwnX.base {t:TypeId} {w:World} {base base':Nat} {v:Value} {l:List α} (h:OwnX sz E t w base v l) (hb:base'≤base):OwnX sz E t w base' v l:=by
 obtain ⟨xs,h1,h2,h3⟩:=h
 exact ⟨xs,zah h1 hb,h2,h3⟩
theorem OwnX.open_ {t:TypeId} {w:World} {base:Nat} {v:Value} {l:List α} (h:OwnX sz E t w base v l):∃ A c,v=.slice A l.length c:=by
 obtain ⟨xs,h1,_⟩:=h
 obtain ⟨A,c,rfl,_,_⟩:=SlR.open_ (SlR.of_own h1)
 exact ⟨A,c,rfl⟩
theorem zee (hE:zdu sz E) {ops:Array Oper} {rest:List Oper} {o:Oper} {a:Act} {w:World} {Q:Exit→Act→World→Prop} (hgd:o.guard=none) (s x:Operand) (T:TypeId)
  (ho:o.op=.call { callee:=.builtin .append,args:=#[s,x],argTypes:=#[T,T] }) (t:TypeId) (i0:TypeInfo) (z:Value) (bytes:Nat) (hT:Tryz.prog.underlying T=some (.slice t)) (hi:Tryz.prog.info? t=some i0) (hz0:i0.zero=some z) (hz1:i0.size=sz) (hz2:i0.bytes=bytes) (hzs:z.cells.size=sz) (hsz:0<sz) (hby:bytes≤1000)
  (base:Nat) (v:Value) (l:List α) (hs:a.eval s=v) (hown:OwnX sz E t w base v l) (vx:Value) (m:List α) (ys:List Value) (hx:a.eval x=vx) (hr:SlR w sz vx m.length ys) (hry:RowOf sz E w ys m) (hc0:0<m.length)
  (hay:∀ g,v.ownBlock=some g→∀ u∈ys,zbf g u) (hlen:l.length+m.length≤4000000) (hbase:base≤w.heap.size)
  (h:∀ A c w',OwnX sz E t w' base (.slice A (l.length+m.length) c) (l++m)→zey base w w'→w.grownBy w' v.ownBlock→wpList Tryz.prog ops Q rest (a.put o.dst (.slice A (l.length+m.length) c)) w'):wpList Tryz.prog ops Q (o::rest) a w:=by
 obtain ⟨xs,h1,h2,h3⟩:=hown
 have hbb:(l.length+m.length)*bytes≤140737488355328:=Nat.le_trans (Nat.mul_le_mul hlen hby) (by decide)
 obtain ⟨v',w',hrun,g1,g2⟩:=zaT (P:=Tryz.prog) w base T o.type t i0 _ sz bytes hT hi hz0 hz1 hz2 hzs hsz v l.length xs h1 vx m.length ys hr (hry.one hE) (by unfold maxLen;omega) hbb hbase
 have hblk:v'.ownBlock=v.ownBlock∨v'.ownBlock=some w.heap.size:=by
  obtain ⟨hl,A,c,rfl,_,_,hc⟩:=hr
  obtain ⟨b,off,rfl,hcell⟩:=hc hc0
  have hadd:∀ j,(⟨b,off,none⟩:Addr).add j=⟨b,off+j,none⟩:=by intro j;unfold Addr.add;split <;> simp_all
  exact zdf (P:=Tryz.prog) w base T o.type t i0 _ sz bytes hT hi hz0 hz1 hz2 v l.length xs h1 ⟨b,off,none⟩ m.length c ys hl hc0 (fun j u hu=>by rw[hadd];exact hcell j u hu) (hry.one hE) (by unfold maxLen;omega) hbb hrun
 have hkeep:∀ {zs:List Value} {k:List α},RowOf sz E w zs k→(∀ g,v.ownBlock=some g→∀ u∈zs,zbf g u)→RowOf sz E w' zs k:=by
  intro zs k hzk haz
  cases hg:v.ownBlock with
  | none =>
   refine hzk.keep hE (hzk.fresh hE) fun p y hc _=>?_
   exact (World.cell?_of_block (g2.block _ (World.block_lt_of_cell? _ _ hc) (by rw[hg];simp))).trans hc
  | some g =>
   refine hzk.keep hE (haz g hg) fun p y hc hne=>?_
   exact (World.cell?_of_block (g2.block _ (World.block_lt_of_cell? _ _ hc) (by rw[hg];simpa using hne))).trans hc
 refine wpList_plain hgd fun K hK=>?_
 unfold Oper.wp execOp
 simp only[ho,resolve,invoke,builtin,Sem.run_bind,Sem.run_pure,Result.andThen_ok,List.map_toArray,List.map_cons,List.map_nil,hs,hx,hrun]
 refine hK _ _ ?_
 obtain ⟨A,c,rfl,_,_⟩:=SlR.open_ (SlR.of_own g1)
 refine h A c w' ⟨xs++ys,?_,(hkeep h2 h3).append (hkeep hry hay),fun g hg u hu=>?_⟩ (fun W0 hX hb=>Ext.grownOwn hX (zah h1 hb) g2) g2
 ·rw[List.length_append]
  exact g1
 ·rcases hblk with hb | hb
  ·rw[hb] at hg
   rcases List.mem_append.1 hu with hu | hu
   ·exact h3 g hg u hu
   ·exact hay g hg u hu
  ·rw[hb] at hg
   cases hg
   rcases List.mem_append.1 hu with hu | hu
   ·exact h2.fresh hE u hu
   ·exact hry.fresh hE u hu
end
/-! Files -/
def zjQ (W:World) (c:Nat→Option Value) (p:Fil):Prop:=c 0=some (sv p.1)∧∃ u,c 1=some u∧Bs W u p.2
theorem zbw:zdu 2 zjQ where
 keep h ha hk:=by
  obtain ⟨h1,u,h2,h3⟩:=h
  exact ⟨h1,u,h2,Bs.away h3 (ha 1 u h2) hk⟩
 fresh h i u hi hu:=by
  obtain ⟨h1,v,h2,h3⟩:=h
  match i,hi with
  | 0,_=>rw[h1] at hu;cases hu;exact zaR _ _
  | 1,_=>rw[h2] at hu;cases hu;exact Bs.fresh h3 (Nat.le_refl _)
 one h i u hi hu:=by
  obtain ⟨h1,v,h2,h3⟩:=h
  match i,hi with
  | 0,_=>rw[h1] at hu;cases hu;rfl
  | 1,_ =>
   rw[h2] at hu
   cases hu
   obtain ⟨A,c,rfl,_,_⟩:=SlR.open_ h3
   rfl
abbrev OwnF (w:World) (base:Nat) (v:Value) (l:List Fil):Prop:=OwnX 2 zjQ 51 w base v l
theorem fs_row {W:World} {v:Value} {l:List Fil}:Fs W v l↔∃ xs,SlR W 2 v l.length xs∧RowOf 2 zjQ W xs l:=by
 constructor
 ·rintro ⟨xs,h1,h2⟩
  exact ⟨xs,h1,h1.1,fun k hk=>by
   obtain ⟨h3,u,h4,h5⟩:=h2 k hk
   exact ⟨h3,u,h4,h5⟩⟩
 ·rintro ⟨xs,h1,h2⟩
  exact ⟨xs,h1,fun k hk=>by
   obtain ⟨h3,u,h4,h5⟩:=h2.2 k hk
   exact ⟨h3,u,h4,h5⟩⟩
theorem OwnF.fs {w:World} {base:Nat} {v:Value} {l:List Fil} (h:OwnF w base v l):Fs w v l:=by
 obtain ⟨xs,h1,h2,_⟩:=h
 exact fs_row.2 ⟨xs,SlR.of_own h1,h2⟩
/-! Operations -/
def OqE (W:World) (c:Nat→Option Value) (o:Oq):Prop:=c 0=some (.int .u8 o.k)∧c 1=some (sv o.n)∧c 2=some (sv o.t)∧∃ u,c 3=some u∧Bs W u o.b
theorem zcx:zdu 4 OqE where
 keep h ha hk:=by
  obtain ⟨h0,h1,h2,u,h3,h4⟩:=h
  exact ⟨h0,h1,h2,u,h3,Bs.away h4 (ha 3 u h3) hk⟩
 fresh h i u hi hu:=by
  obtain ⟨h0,h1,h2,v,h3,h4⟩:=h
  match i,hi with
  | 0,_=>rw[h0] at hu;cases hu;exact zei _ _ _
  | 1,_=>rw[h1] at hu;cases hu;exact zaR _ _
  | 2,_=>rw[h2] at hu;cases hu;exact zaR _ _
  | 3,_=>rw[h3] at hu;cases hu;exact Bs.fresh h4 (Nat.le_refl _)
 one h i u hi hu:=by
  obtain ⟨h0,h1,h2,v,h3,h4⟩:=h
  match i,hi with
  | 0,_=>rw[h0] at hu;cases hu;rfl
  | 1,_=>rw[h1] at hu;cases hu;rfl
  | 2,_=>rw[h2] at hu;cases hu;rfl
  | 3,_ =>
   rw[h3] at hu
   cases hu
   obtain ⟨A,c,rfl,_,_⟩:=SlR.open_ h4
   rfl
abbrev OwnQ (w:World) (base:Nat) (v:Value) (l:List Oq):Prop:=OwnX 4 OqE 86 w base v l
def Qs (W:World) (v:Value) (l:List Oq):Prop:=∃ xs,SlR W 4 v l.length xs∧RowOf 4 OqE W xs l
theorem Qs.ext {W W':World} {v:Value} {l:List Oq} (h:Qs W v l) (hX:Ext W W'):Qs W' v l:=by
 obtain ⟨xs,h1,h2⟩:=h
 exact ⟨xs,h1.ext hX,h2.ext zcx hX⟩
theorem OwnQ.qs {w:World} {base:Nat} {v:Value} {l:List Oq} (h:OwnQ w base v l):Qs w v l:=by
 obtain ⟨xs,h1,h2,_⟩:=h
 exact ⟨xs,SlR.of_own h1,h2⟩
theorem Qs.open_ {W:World} {v:Value} {l:List Oq} (h:Qs W v l):∃ A c,v=.slice A l.length c∧l.length≤c∧c≤9223372036854775807:=by
 obtain ⟨xs,h1,_⟩:=h
 exact SlR.open_ h1
theorem Qs.at_ {W:World} {A:Option Addr} {m c:Nat} {l:List Oq} (h:Qs W (.slice A m c) l) (hn:0<l.length):m=l.length∧∃ b off,A=some ⟨b,off,none⟩∧∀ (k:Nat) (hk:k<l.length),
  W.cell? ⟨b,off+k*4,none⟩=some (.int .u8 l[k].k)∧W.cell? ⟨b,off+k*4+1,none⟩=some (sv l[k].n)∧W.cell? ⟨b,off+k*4+2,none⟩=some (sv l[k].t)∧∃ B d,W.cell? ⟨b,off+k*4+3,none⟩=some (.slice B l[k].b.length d)∧Bs W (.slice B l[k].b.length d) l[k].b:=by
 obtain ⟨xs,h1,h2⟩:=h
 obtain ⟨rfl,b,off,rfl,hc⟩:=SlR.at_ h1 hn
 refine ⟨rfl,b,off,rfl,fun k hk=>?_⟩
 obtain ⟨g0,g1,g2,u,g3,g4⟩:=h2.2 k hk
 have g0:xs[k*4+0]?=some (.int .u8 l[k].k):=g0
 have g1:xs[k*4+1]?=some (sv l[k].n):=g1
 have g2:xs[k*4+2]?=some (sv l[k].t):=g2
 have g3:xs[k*4+3]?=some u:=g3
 obtain ⟨B,d,rfl,_,_⟩:=SlR.open_ g4
 exact ⟨hc _ _ g0,by rw[Nat.add_assoc];exact hc _ _ g1,by rw[Nat.add_assoc];exact hc _ _ g2,B,d,by rw[Nat.add_assoc];exact hc _ _ g3,g4⟩
/-! Disks -/
def DkV (W:World) (v:Value) (d:Dk):Prop:=∃ vf vq,v=.agg #[vf,vq,.int .i64 d.quota,.int .i64 d.fuse,.bool d.dead]∧Fs W vf d.fs∧Qs W vq d.q
theorem DkV.ext {W W':World} {v:Value} {d:Dk} (h:DkV W v d) (hX:Ext W W'):DkV W' v d:=by
 obtain ⟨vf,vq,rfl,h1,h2⟩:=h
 exact ⟨vf,vq,rfl,h1.ext hX,h2.ext hX⟩
open Go.RowKit Go.Mv Go.Shelf
theorem zh5 (v:Value) (bs:List UInt8) (w:World) (h:Bs w v bs) (hl:bs.length≤2000000):Calls Tryz.prog 132 #[v] w fun e w'=>∃ A c,e=.returned (.slice A bs.length c)∧OwnB w' w.heap.size (.slice A bs.length c) bs∧Ext w w':=by
 obtain ⟨A,c,rfl,h1,h2⟩:=SlR.open_ h
 have hnil:=fun (W:World)=>Lib.run_eql_slice_nil (P:=Tryz.prog) W
 cases A with
 | none =>
  have hb:bs=[]:=by
   cases hbs:bs with
   | nil=>rfl
   | cons b l =>
    have:=(SlR.at_ h (by rw[hbs];simp)).2
    obtain ⟨_,_,e,_⟩:=this
    cases e
  subst hb
  go_enter Tryz.func132,Tryz.ntmps132
  go_wp2
  go_ret
  exact ⟨_,_,rfl,World.ownsRow_nil _ _ _ _,Ext.refl _⟩
 | some a =>
  have HB:=zhd h
  go_enter Tryz.func132,Tryz.ntmps132
  go_wp2_with (at_builtin;refine zdt rfl (.tmp 5) (.tmp 6) rfl w.heap.size _ [] rfl (zd7 w) _ bs rfl (HB.out.ext (Ext.alloc (Ext.refl _) _)) (by simp;omega) (by simp) ?_;intro A1 c1 w1 ho1 hG1;have hE1:Ext w w1:=hG1 w (Ext.alloc (Ext.refl _) _) (Nat.le_refl _);simp only[List.length_nil,Nat.zero_add,List.nil_append] at ho1 ⊢)
  go_ret
  exact ⟨_,_,rfl,ho1,hE1⟩
theorem zhu {W:World} {b:Nat} {t:TypeId} {a v:Value} (h:Blk W b t #[a,v]):W.cell? ⟨b,0,none⟩=some a∧W.cell? ⟨b,1,none⟩=some v:=⟨h.cell 0 rfl,h.cell 1 rfl⟩
theorem blk4 {W:World} {b:Nat} {t:TypeId} {a v u x:Value} (h:Blk W b t #[a,v,u,x]):W.cell? ⟨b,0,none⟩=some a∧W.cell? ⟨b,1,none⟩=some v∧W.cell? ⟨b,2,none⟩=some u∧W.cell? ⟨b,3,none⟩=some x:=⟨h.cell 0 rfl,h.cell 1 rfl,h.cell 2 rfl,h.cell 3 rfl⟩
theorem zrn {W:World} {b:Nat} {t:TypeId} {a v:Value} (h:Blk W b t #[a,v]) (a' v':Value):Blk ((W.setCell ⟨b,0,none⟩ a').setCell ⟨b,1,none⟩ v') b t #[a',v']:=(h.set 0 a').set 1 v'
theorem zro {W:World} {b:Nat} {t:TypeId} {a v u x:Value} (h:Blk W b t #[a,v,u,x]) (a' v' u' x':Value):Blk ((((W.setCell ⟨b,0,none⟩ a').setCell ⟨b,1,none⟩ v').setCell ⟨b,2,none⟩ u').setCell ⟨b,3,none⟩ x') b t #[a',v',u',x']:=(((h.set 0 a').set 1 v').set 2 u').set 3 x'
theorem zlz {w W:World} (h:Ext w W) {b:Nat} (hb:w.heap.size≤b) (a v:Value):Ext w ((W.setCell ⟨b,0,none⟩ a).setCell ⟨b,1,none⟩ v):=Below.setCell (p:=⟨b,1,none⟩) (Below.setCell (p:=⟨b,0,none⟩) h hb _) hb _
theorem zlA {w W:World} (h:Ext w W) {b:Nat} (hb:w.heap.size≤b) (a v u x:Value):Ext w ((((W.setCell ⟨b,0,none⟩ a).setCell ⟨b,1,none⟩ v).setCell ⟨b,2,none⟩ u).setCell ⟨b,3,none⟩ x) :=
 Below.setCell (p:=⟨b,3,none⟩) (Below.setCell (p:=⟨b,2,none⟩) (zlz h hb a v) hb _) hb _
theorem zrX {W:World} {b:Nat} {t:TypeId} {a v:Value} (hB:Blk W b t #[a,v]) {e:TypeId} (hte:t≠e) {base size k:Nat} {y:Value} {xs:List Value} (hr:W.ownsRow base e size y k xs) (a' v':Value):((W.setCell ⟨b,0,none⟩ a').setCell ⟨b,1,none⟩ v').ownsRow base e size y k xs:=by
 have r1:=hr.kept (zaa _ b 0 a') (.inr (hB.not_row hte hr).symm)
 exact r1.kept (zaa _ b 1 v') (.inr ((hB.set 0 a').not_row hte r1).symm)
theorem zrY {W:World} {b:Nat} {t:TypeId} {a v u x:Value} (hB:Blk W b t #[a,v,u,x]) {e:TypeId} (hte:t≠e) {base size k:Nat} {y:Value} {xs:List Value} (hr:W.ownsRow base e size y k xs) (a' v' u' x':Value):((((W.setCell ⟨b,0,none⟩ a').setCell ⟨b,1,none⟩ v').setCell ⟨b,2,none⟩ u').setCell ⟨b,3,none⟩ x').ownsRow base e size y k xs:=by
 have r1:=hr.kept (zaa _ b 0 a') (.inr (hB.not_row hte hr).symm)
 have b1:=hB.set 0 a'
 have r2:=r1.kept (zaa _ b 1 v') (.inr (b1.not_row hte r1).symm)
 have b2:=b1.set 1 v'
 have r3:=r2.kept (zaa _ b 2 u') (.inr (b2.not_row hte r2).symm)
 have b3:=b2.set 2 u'
 exact r3.kept (zaa _ b 3 x') (.inr (b3.not_row hte r3).symm)
theorem zdQ {W:World} {b:Nat} {t:TypeId} {cs:Array Value} (hB:Blk W b t cs) {e:TypeId} (hte:t≠e) {base size k j:Nat} {y:Value} {xs:List Value} (hr:W.ownsRow base e size y k xs) (a':Value):(W.setCell ⟨b,j,none⟩ a').ownsRow base e size y k xs :=
 hr.kept (zaa _ b j a') (.inr (hB.not_row hte hr).symm)
theorem zub:Tryz.prog.underlying 51=some (.struct (Tryz.prog.fieldsOf 51)):=by kernel_rfl
theorem opU:Tryz.prog.underlying 86=some (.struct (Tryz.prog.fieldsOf 86)):=by kernel_rfl
theorem zhz:Tryz.prog.underlying 25=some (.struct (Tryz.prog.fieldsOf 25)):=by kernel_rfl
theorem zrB (tmps:Array Value) (W:World) (b:Nat) (cs:Array Value) (h4:tmps.getD 2 undef=.pointer (some ⟨b,0,none⟩)) (hb:Blk W b 51 cs) (hs:cs.size=2):(results Tryz.f87 tmps).run Tryz.prog W=.ok (.agg cs) W:=by
 have hl:=hb.load (P:=Tryz.prog) zub rfl (by rw[hs];kernel_rfl)
 have h4':tmps[2]?.getD undef=.pointer (some ⟨b,0,none⟩):=by simpa using h4
 simp[results,Tryz.results87,h4',asAddr,hl]
theorem ztO (tmps:Array Value) (W:World) (b:Nat) (cs:Array Value) (h4:tmps.getD 2 undef=.pointer (some ⟨b,0,none⟩)) (hb:Blk W b 86 cs) (hs:cs.size=4):(results Tryz.f89 tmps).run Tryz.prog W=.ok (.agg cs) W:=by
 have hl:=hb.load (P:=Tryz.prog) opU rfl (by rw[hs];kernel_rfl)
 have h4':tmps[2]?.getD undef=.pointer (some ⟨b,0,none⟩):=by simpa using h4
 simp[results,Tryz.results89,h4',asAddr,hl]
theorem zrA (n:List UInt8) (v:Value) (b:List UInt8) (w:World) (hB:Bs w v b) (hl:b.length≤2000000):Calls Tryz.prog 87 #[.agg #[sv n,v]] w fun e w'=>∃ A c,e=.returned (.agg #[sv n,.slice A b.length c])∧OwnB w' w.heap.size (.slice A b.length c) b∧Ext w w':=by
 obtain ⟨A,c,rfl,_,_⟩:=SlR.open_ hB
 have hb0:=(Blk.new w 51 #[sv n,.slice A b.length c]).alloc (.cells #[sv [],.slice none 0 0] 51)
 have hb1:=Blk.new (w.alloc (.cells #[sv n,.slice A b.length c] 51)) 51 #[sv [],.slice none 0 0]
 rw[World.size_alloc] at hb1
 have hE:Ext w ((w.alloc (.cells #[sv n,.slice A b.length c] 51)).alloc (.cells #[sv [],.slice none 0 0] 51)):=Ext.alloc (Ext.alloc (Ext.refl _) _) _
 have HB:=zhd (hB.ext hE)
 have HE:=zhd hE
 have H0:=zhd hb0
 have H1:=zhd hb1
 clear hb0 hb1 hE hB
 unfold sv at *
 obtain ⟨g0,g1⟩:=zhu H0.out
 go_enter Tryz.func87,Tryz.ntmps87
 go_wp2_with fail
 refine wp_region_held_drew (S:=fun W=>W.cell? ⟨w.heap.size,0,none⟩=some (.string ⟨n.toArray⟩)∧W.cell? ⟨w.heap.size,1,none⟩=some (.slice A b.length c)) (by kernel_rfl) ⟨g0,g1⟩ (fun _=>?_)
 refine tkN 0 rfl ?_
 refine tkN 1 rfl ?_
 refine tkN 2 rfl ?_
 refine tkN 3 rfl ?_
 refine ar1 4 rfl (fun K hK=>?_)
 go_simp
 refine (zh5 _ b _ (Bs.ext HB.out (Ext.drew (Ext.refl _))) hl).mono ?_
 rintro e w1 ⟨A1,c1,rfl,ho1,hE1'⟩
 have hE1:=Ext.trans (Ext.drew (Ext.refl _)) hE1'
 clear g0 g1
 obtain ⟨g0,g1⟩:=zhu (H0.out.ext hE1)
 obtain ⟨d0,d1⟩:=zhu (H1.out.ext hE1)
 have f0:=(H1.out.ext hE1).frozen 0
 have f1:=(H1.out.ext hE1).frozen 1
 refine shK hK _ _ ⟨g0,g1⟩ (fun _=>?_)
 refine tkN 5 rfl ?_
 refine ar1 6 rfl (fun K hK=>?_)
 go_simp
 have q2:=zrn (H1.out.ext hE1) (.string ⟨n.toArray⟩) (.slice A1 b.length c1)
 have q0:=((H0.out.ext hE1).other (by omega:w.heap.size≠w.heap.size+1) 0 (.string ⟨n.toArray⟩)).other (by omega:w.heap.size≠w.heap.size+1) 1 (.slice A1 b.length c1)
 refine shK hK _ _ (zhu q0) (fun _=>?_)
 refine wpAnyH_done (by kernel_rfl) ?_ _
 go_wp2_with fail
 refine bodyPost_ret (zrB _ _ _ _ rfl q2 rfl) rfl ?_
 have hz:w.heap.size≤w1.heap.size:=(Ext.trans HE.out hE1).size
 refine ⟨_,_,rfl,zah (zrX (H1.out.ext hE1) (by decide) ho1 _ _) (by have:=HE.out.size;exact this),zlz (Ext.trans HE.out hE1) (Nat.le_succ _) _ _⟩
theorem zlV (o:Oq) (v:Value) (w:World) (hB:Bs w v o.b) (hl:o.b.length≤2000000):Calls Tryz.prog 89 #[.agg #[.int .u8 o.k,sv o.n,sv o.t,v]] w fun e w'=>∃ A c,e=.returned (.agg #[.int .u8 o.k,sv o.n,sv o.t,.slice A o.b.length c])∧OwnB w' w.heap.size (.slice A o.b.length c) o.b∧Ext w w':=by
 obtain ⟨A,c,rfl,_,_⟩:=SlR.open_ hB
 obtain ⟨k,n,t,b⟩:=o
 dsimp only at *
 have hb0:=(Blk.new w 86 #[.int .u8 k,sv n,sv t,.slice A b.length c]).alloc (.cells #[.int .u8 0,sv [],sv [],.slice none 0 0] 86)
 have hb1:=Blk.new (w.alloc (.cells #[.int .u8 k,sv n,sv t,.slice A b.length c] 86)) 86 #[.int .u8 0,sv [],sv [],.slice none 0 0]
 rw[World.size_alloc] at hb1
 have hE:Ext w ((w.alloc (.cells #[.int .u8 k,sv n,sv t,.slice A b.length c] 86)).alloc (.cells #[.int .u8 0,sv [],sv [],.slice none 0 0] 86)):=Ext.alloc (Ext.alloc (Ext.refl _) _) _
 have HB:=zhd (hB.ext hE)
 have HE:=zhd hE
 have H0:=zhd hb0
 have H1:=zhd hb1
 clear hb0 hb1 hE hB
 unfold sv at *
 obtain ⟨g0,g1,g2,g3⟩:=blk4 H0.out
 go_enter Tryz.func89,Tryz.ntmps89
 go_wp2_with fail
 refine (zh5 _ b _ HB.out hl).mono ?_
 rintro e w1 ⟨A1,c1,rfl,ho1,hE1⟩
 clear g0 g1 g2 g3
 have h0:=H0.out.ext hE1
 have h1:=H1.out.ext hE1
 obtain ⟨g0,g1,g2,g3⟩:=blk4 h0
 obtain ⟨d0,d1,d2,d3⟩:=blk4 h1
 have e0:=h0.frozen 3
 have f0:=h1.frozen 0
 have f1:=h1.frozen 1
 have f2:=h1.frozen 2
 have f3:=h1.frozen 3
 have q0:=zhd h0
 have q1:=zhd h1
 have HO:=zhd ho1
 have HE1:=zhd hE1
 clear h0 h1 ho1 hE1
 go_wp2_with fail
 have k1:=q1.out.other (show w.heap.size+1≠w.heap.size by omega) 3 (.slice A1 b.length c1)
 have k2:=zro k1 (.int .u8 k) (.string ⟨n.toArray⟩) (.string ⟨t.toArray⟩) (.slice A1 b.length c1)
 refine bodyPost_ret (ztO _ _ _ _ rfl k2 rfl) rfl ?_
 refine ⟨_,_,rfl,zah (zrY k1 (by decide) (zdQ q0.out (by decide) HO.out _) _ _ _ _) (by have:=HE.out.size;exact this),zlA (Below.setCell (p:=⟨w.heap.size,3,none⟩) (Ext.trans HE.out HE1.out) (Nat.le_refl _) _) (Nat.le_succ _) _ _ _ _⟩
theorem zjY:(Tryz.prog.info? 51).map (fun i=>(i.zero,i.size,i.bytes))=some (some (.agg #[.string ⟨#[]⟩,.slice none 0 0]),2,40):=by kernel_rfl
theorem zh6:(Tryz.prog.info? 86).map (fun i=>(i.zero,i.size,i.bytes))=some (some (.agg #[.int .u8 0,.string ⟨#[]⟩,.string ⟨#[]⟩,.slice none 0 0]),4,64):=by kernel_rfl
theorem zlW {α:Type} {sz:Nat} {E:World→(Nat→Option Value)→α→Prop} {t:TypeId} {w:World} {base:Nat} {v:Value} {l:List α} (h:OwnX sz E t w base v l) {g:Nat} (hg:v.ownBlock=some g):g<w.heap.size:=by
 obtain ⟨xs,h1,_⟩:=h
 rcases h1.2 with ⟨rfl,_⟩ | ⟨g',cap,cur,rfl,_,hh,_⟩
 ·cases hg
 ·cases hg
  exact (Array.getElem?_eq_some_iff.1 hh).1
theorem zi4 {W:World} {n b:List UInt8} {u:Value} (h:Bs W u b):RowOf 2 zjQ W [sv n,u] [(n,b)]:=by
 refine ⟨rfl,fun k hk=>?_⟩
 obtain rfl:k=0:=by simpa using hk
 exact ⟨rfl,u,rfl,h⟩
theorem zfA {W:World} {o:Oq} {u:Value} (h:Bs W u o.b):RowOf 4 OqE W [.int .u8 o.k,sv o.n,sv o.t,u] [o]:=by
 refine ⟨rfl,fun k hk=>?_⟩
 obtain rfl:k=0:=by simpa using hk
 exact ⟨rfl,rfl,rfl,u,rfl,h⟩
theorem zeW (W:World) (cs:List Value) (t:TypeId) (sz:Nat) (hs:cs.length=1*sz) {n:Nat} (hn:W.heap.size=n):SlR (W.alloc (.cells cs.toArray t)) sz (.slice (some ⟨n,0,none⟩) 1 1) 1 cs:=by
 subst hn
 refine ⟨hs,_,_,rfl,Nat.le_refl _,by simp[maxLen],fun _=>⟨_,_,rfl,fun j u hu=>?_⟩⟩
 rw[Nat.zero_add]
 exact (Blk.new W t cs.toArray).cell j (by simpa using hu)
theorem ziY (v:Value) (fs:List Fil) (w:World) (hF:Fs w v fs) (hl:fs.length≤2000000) (hbl:∀ f∈fs,f.2.length≤2000000):Calls Tryz.prog 86 #[v,.func (.func 87) #[] #[]] w fun e w'=>∃ A c,e=.returned (.slice A fs.length c)∧OwnF w' w.heap.size (.slice A fs.length c) fs∧Ext w w':=by
 obtain ⟨A,c,rfl,_,_⟩:=Fs.open_ hF
 have HF:=zhd hF
 have HBL:=zhd hbl
 clear hF hbl
 obtain ⟨i0,hi,hz0,hz1,hz2⟩:=info_parts zjY
 go_enter Tryz.func86,Tryz.ntmps86
 go_wp2_with fail
 go_loopw [4,9] (fun vo i wr=>∃ k:Nat,k≤fs.length∧i=.int .i64 k∧(∃ A' c',vo=.slice A' k c')∧Hid (OwnF wr w.heap.size vo (fs.take k))∧Ext w wr) (fun _ i _=>fs.length-(intOf i).toNat)
 case atStart=>exact ⟨0,Nat.zero_le _,rfl,⟨_,_,rfl⟩,OwnX.nil _ _ _,Ext.refl _⟩
 case round =>
  obtain ⟨k,hk,rfl,⟨A',c',rfl⟩,HO,hX⟩:=hrel
  by_cases hlt:k<fs.length
  ·obtain ⟨_,b,off,rfl,hc⟩:=(HF.out.ext hX).at_ (by omega)
   obtain ⟨hc0,B2,d2,hc1,hbs⟩:=hc k hlt
   have hb2:=HBL.out _ (List.getElem_mem hlt)
   have htk:fs.take (k+1)=fs.take k++[fs[k]]:=List.take_succ_eq_append_getElem hlt
   have HTK:=zhd htk
   have hlen:(fs.take k).length=k:=by rw[List.length_take];omega
   have HLEN:=zhd hlen
   have HBS:=zhd hbs
   clear hc htk hlen hbs
   generalize fs[k]=x at *
   obtain ⟨n,bb⟩:=x
   dsimp only at *
   have hX1:Ext wr (wr.alloc (.cells #[sv n,.slice B2 bb.length d2] 51)):=Ext.alloc (Ext.refl _) _
   have hbx:=Blk.new wr 51 #[sv n,.slice B2 bb.length d2]
   have hcl:=zrA n _ bb _ (Bs.ext HBS.out hX1) hb2
   have HC:=zhd hcl
   have HX1:=zhd hX1
   obtain ⟨x0,x1⟩:=zhu hbx
   clear hcl hX1 hbx
   simp only[sv] at hc0 x0 x1 HC ⊢
   go_wp2_with fail
   refine HC.out.mono ?_
   rintro e w1 ⟨A1,c1,rfl,ho1,hE1⟩
   have HO1:=zhd ho1
   have hE13:=Ext.trans HX1.out hE1
   have hE15:Ext wr (w1.alloc (.cells #[.string ⟨n.toArray⟩,.slice A1 bb.length c1] 51)):=Ext.alloc hE13 _
   have HOX:=zhd (OwnX.ext zbw HO.out hE15)
   have haw:∀ g,(Value.slice A' k c').ownBlock=some g→∀ u∈[.string ⟨n.toArray⟩,.slice A1 bb.length c1],zbf g u:=by
    intro g hg u hu
    have hgl:=zlW HO.out hg
    simp only[List.mem_cons,List.not_mem_nil,or_false] at hu
    rcases hu with rfl | rfl
    ·exact zaR _ n
    ·exact HO1.out.away (by simp;omega)
   have HAW:=zhd haw
   have HE15:=zhd hE15
   clear haw ho1 hE1 hE13 hE15 x0 x1  hc0
   go_wp2_with (at_builtin;refine zee zbw rfl (.tmp 13) (.tmp 17) 22 rfl 51 i0 _ 40 Tryz.underlying22 hi hz0 hz1 hz2 rfl (by decide) (by decide) w.heap.size _ (fs.take k) rfl HOX.out _ [(n,bb)] [.string ⟨n.toArray⟩,.slice A1 bb.length c1] rfl (zeW w1 [.string ⟨n.toArray⟩,.slice A1 bb.length c1] 51 2 rfl rfl) (zi4 (n:=n) (Bs.ext HO1.out.bs (Ext.alloc (Ext.refl _) _))) (by simp) HAW.out (by rw[HLEN.out];simp;omega) (Ext.trans hX HE15.out).size ?_;intro A3 c3 w3 ho3 hG3 hg3;rw[←HTK.out,HLEN.out] at ho3;simp only[HLEN.out,List.length_cons,List.length_nil,Nat.zero_add] at ho3 ⊢;have hX3:=hG3 w (Ext.trans hX HE15.out) (Nat.le_refl _))
   go_roundw
   case rel=>exact ⟨k+1,by omega,by go_num,⟨_,_,rfl⟩,ho3,hX3⟩
   case measure=>simp[intOf];omega
  ·go_wp2_with fail
   go_ret
   obtain rfl:k=fs.length:=by omega
   have:=HO.out
   rw[List.take_length] at this
   exact ⟨_,_,rfl,this,hX⟩
end Go.Proofs.YtgonhdeochgkoaaGreatDoor
