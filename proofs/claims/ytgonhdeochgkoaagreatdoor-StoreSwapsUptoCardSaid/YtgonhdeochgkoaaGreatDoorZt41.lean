/- Merged: Law DskP2 PutsP SwapP R5a R5b R5c -/
import Derived.Test.YtgonhdeochgkoaaGreatDoorZt38
set_option linter.all false
set_option maxHeartbeats 8000000
set_option maxRecDepth 100000
namespace Go.Proofs.YtgonhdeochgkoaaGreatDoor
open Go.RowKit Go.Mv
def w12:List Ent:=[⟨1,0,0⟩,⟨2,1,7⟩]
/-! How many bytes -/
theorem zk3 (l l':List Fil):tot (l++l')=tot l+tot l':=by simp[tot]
/-! Disks -/
theorem zlQ:∀ (l:List Fil) (last:List UInt8),zbG last l=true↔Srt l∧∀ p∈l,ltB last p.1=true
 | [],_=>by simp[zbG,Srt]
 | p::l,last=>by
  rw[zbG,Bool.and_eq_true,zlQ l p.1];unfold Srt;rw[List.pairwise_cons]
  constructor
  ·rintro ⟨h1,h2,h3⟩
   refine ⟨⟨h3,h2⟩,fun q hq=>?_⟩
   rcases List.mem_cons.1 hq with rfl | hq
   ·exact h1
   ·exact zgo h1 (h3 q hq)
  ·rintro ⟨⟨h1,h2⟩,h3⟩
   exact ⟨h3 p List.mem_cons_self,h2,h1⟩
theorem ltB_nil {n:List UInt8}:ltB [] n=true↔n≠[]:=by cases n <;> simp[ltB,Op.bytesLess]
theorem rises_nil {l:List Fil}:zbG [] l=true↔Srt l∧∀ p∈l,p.1≠[]:=by
 rw[zlQ]
 exact ⟨fun h=>⟨h.1,fun p hp=>ltB_nil.1 (h.2 p hp)⟩,fun h=>⟨h.1,fun p hp=>ltB_nil.2 (h.2 p hp)⟩⟩
structure Rt (d:Dk):Prop where
 f:zbG [] d.fs=true
 q:∀ o∈d.q,zbi o=true
 l:d.q.length≤400
 u:0≤d.fuse
 t:(tot d.now:Int)≤d.quota
theorem ziH (d:Dk):d.right=true↔Rt d:=by
 unfold Dk.right;simp only[Bool.and_eq_true,decide_eq_true_eq,List.all_eq_true]
 constructor
 ·rintro ⟨⟨⟨⟨⟨h1,h2⟩,h3⟩,h4⟩,h5⟩,h6⟩
  exact ⟨h1,h2,h3,h5,h6⟩
 ·rintro ⟨h1,h2,h3,h5,h6⟩
  exact ⟨⟨⟨⟨⟨h1,h2⟩,h3⟩,by omega⟩,h5⟩,h6⟩
theorem ztS (fs:List Fil) (q:List Oq) (o:Oq):zed fs (q++[o])=zbt (zed fs q) o:=by unfold zed;rw[List.foldl_append];rfl
theorem zr3 (fs:List Fil) (q:List Oq) (o:Oq):zbF fs (q++[o])=zbn (zbF fs q) o:=by unfold zbF;rw[List.foldl_append];rfl
theorem zld (d:Dk):d.burn.fs=d.fs:=by unfold Dk.burn;split <;> rfl
theorem zkq (d:Dk):d.burn.q=d.q:=by unfold Dk.burn;split <;> rfl
theorem zpJ (d:Dk):d.burn.quota=d.quota:=by unfold Dk.burn;split <;> rfl
theorem zmM (d:Dk):d.burn.now=d.now:=by unfold Dk.now;rw[zld,zkq]
theorem Rt.burn {d:Dk} (h:Rt d):Rt d.burn:=by
 refine ⟨by rw[zld];exact h.f,by rw[zkq];exact h.q,by rw[zkq];exact h.l,?_,by rw[zmM,zpJ];exact h.t⟩
 have:=h.u
 unfold Dk.burn
 split
 ·dsimp only;omega
 ·exact this
theorem zv3 (fs:List Fil) (q:List Oq) (o:Oq):tot (zed fs (q++[o]))≤tot (zed fs q)+(if o.k=2 then o.b.length else 0):=by
 rw[zfY,zfY,zr3]
 generalize zbF fs q=m
 by_cases h2:o.k=2
 ·rw[if_pos h2]
  exact zek m o
 ·rw[if_neg h2]
  have:=zek m { o with b:=[] }
  have e:zbn m { o with b:=[] }=zbn m o:=by
   unfold zbn;dsimp only;rw[if_neg h2,if_neg h2]
  rw[e] at this
  exact this
theorem zco {d:Dk} (h:Rt d):Srt d.now∧∀ p∈d.now,p.1≠[]:=by
 obtain ⟨hs,hn⟩:=rises_nil.1 h.f
 have key:∀ (q:List Oq) (l:List Fil),(∀ o∈q,zbi o=true)→Srt l→(∀ p∈l,p.1≠[])→∀ p∈q.foldl zbt l,p.1≠[]:=by
  intro q
  induction q with
  | nil=>intro l _ _ h;exact h
  | cons o q ih =>
   intro l hq hsl hl;have ho:=(zcE o).1 (hq o List.mem_cons_self)
   have hw:∀ (l:List Fil) (n b:List UInt8),n≠[]→(∀ p∈l,p.1≠[])→∀ p∈withS l (n,b),p.1≠[]:=by
    intro l n b hn hl p hp
    rcases (ziZ _ _ p).1 hp with rfl | hp
    ·exact hn
    ·exact hl p ((zb0 _ _).subset hp)
   have h1:∀ p∈zbt l o,p.1≠[]:=by
    unfold zbt
    split
    ·exact hw _ _ _ ho.2.1 hl
    ·split
     ·exact hl
     ·split
      ·exact hw _ _ _ ho.2.1 hl
      ·split
       ·rename_i h3
        exact hw _ _ _ (ho.2.2 h3.1) fun p hp=>hl p ((zb0 _ _).subset hp)
       ·split
        ·exact fun p hp=>hl p ((zb0 _ _).subset hp)
        ·exact hl
   have h2:Srt (zbt l o):=((Tells.mk hsl hsl.apart fun _=>rfl:Tells l l).done o).s
   exact ih _ (fun o' ho'=>hq o' (List.mem_cons_of_mem _ ho')) h2 h1
 refine ⟨(zfy d.fs d.q).s,?_⟩
 obtain ⟨h1,h2⟩:=zhT d.fs [] List.Pairwise.nil
 refine key d.q _ h.q h1 fun p hp=>?_
 have hg:=zbZ h1.apart (show (p.1,p.2)∈_ from hp)
 rw[h2] at hg
 exact hn p (zcZ (b:=p.2) hg)
theorem Rt.doS {d:Dk} (h:Rt d) {o:Oq} (he:(d.doS o).2=0):Rt (d.doS o).1:=by
 unfold Dk.doS at he ⊢
 split at he
 ·rename_i h1;exact absurd he h1
 ·split at he
  ·cases he
  ·rename_i h2
   split at he
   ·cases he
   ·split at he
    ·cases he
    ·rename_i h1 h3 h4
     rw[if_neg h1,if_neg h2,if_neg h3,if_neg h4]
     apply Rt.burn
     have hl:=h.l;have ht:=h.t;have hto:=zv3 d.fs d.q o
     refine ⟨h.f,fun o' ho'=>?_,?_,h.u,?_⟩
     ·rcases List.mem_append.1 ho' with ho' | ho'
      ·exact h.q o' ho'
      ·rw[List.mem_singleton] at ho'
       subst ho'
       simpa using h2
     ·rw[List.length_append]
      simp only[List.length_cons,List.length_nil];omega
     ·show (tot (zed d.fs (d.q++[o])):Int)≤d.quota
      have e:tot d.now=tot (zed d.fs d.q):=rfl
      split at hto
      ·rename_i hk
       rw[←e] at hto
       have h5:¬ d.quota<(tot d.now:Int)+(o.b.length:Int):=fun h=>h4 (.inl ⟨hk,h⟩)
       omega
      ·rw[←e] at hto
       omega
theorem ziM:∀ (l pre:List Fil),Srt (pre++l)→l.foldl zbl pre=pre++l
 | [],pre,_=>by simp
 | p::l,pre,h=>by
  have hp:∀ q∈pre,ltB q.1 p.1=true:=fun q hq=>(List.pairwise_append.1 h).2.2 q hq p List.mem_cons_self
  have hn:zae p.1 pre=none:=zdD fun q hq=>zkL (hp q hq)
  have hi:∀ {pre:List Fil},(∀ q∈pre,ltB q.1 p.1=true)→zcF p pre=pre++[p]:=by
   intro pre
   induction pre with
   | nil=>intro _;rfl
   | cons q pre ih=>intro hp;rw[zcF,if_pos (hp q List.mem_cons_self),ih fun q hq=>hp q (List.mem_cons_of_mem _ hq)];rfl
  rw[List.foldl_cons]
  have:zbl pre p=pre++[p]:=by
   unfold zbl
   rw[if_pos (by rw[hn];rfl)]
   unfold withS;rw[zgl (getF_isNone.1 hn),hi hp]
  rw[this,ziM l (pre++[p]) (by rw[List.append_assoc];exact h),List.append_assoc]
  rfl
theorem zne {l:List Fil} (h:Srt l):zed l []=l:=ziM l [] h
theorem Rt.sync {d:Dk} (h:Rt d) (he:d.syncS.2=0):Rt d.syncS.1∧d.syncS.1.fs=d.now∧d.syncS.1.q=[]:=by
 unfold Dk.syncS at he ⊢
 split at he
 ·rename_i h1;exact absurd he h1
 ·rename_i h1
  rw[if_neg h1];have hn:=zco h
  refine ⟨Rt.burn (d:={ d with fs:=d.now,q:=[] }) ⟨rises_nil.2 hn,fun o ho=>(by cases ho),(by simp),h.u,?_⟩,zld _,zkq _⟩
  show (tot (zed d.now []):Int)≤d.quota
  rw[zne hn.1]
  exact h.t
theorem ziC {d:Dk} (h:Rt d):d.may=if d.dead=true then 40 else 0:=by
 unfold Dk.may
 rw[if_neg (by rw[(ziH d).2 h];simp)]
theorem zkB {d:Dk} (h:Rt d) {o:Oq} (hf:zbi o=true) (hx:zae o.n d.now≠none∨o.k=1):(d.doS o).2=0∨(d.doS o).2=40∨(d.doS o).2=41:=by
 unfold Dk.doS;have hm:=ziC h
 split
 ·rename_i h1
  rw[hm] at h1 ⊢
  split
  ·exact .inr (.inl rfl)
  ·rename_i h2;rw[if_neg h2] at h1;exact absurd rfl h1
 ·rw[if_neg (by rw[hf];simp),if_neg (fun hh=>hx.elim (fun h=>h hh.1) fun h=>hh.2 h)]
  split
  ·exact .inr (.inr rfl)
  ·exact .inl rfl
theorem zkC {d:Dk} {o:Oq} (he:(d.doS o).2=0):(d.doS o).1.now=zbt d.now o:=by
 unfold Dk.doS at he ⊢
 split at he
 ·rename_i h1;exact absurd he h1
 ·rename_i h1
  rw[if_neg h1]
  split at he
  ·cases he
  ·rename_i h2
   rw[if_neg h2]
   split at he
   ·cases he
   ·rename_i h3
    rw[if_neg h3]
    split at he
    ·cases he
    ·rename_i h4
     rw[if_neg h4,zmM]
     exact ztS _ _ _
theorem znF {d:Dk} (h:Rt d):d.syncS.2=0∨d.syncS.2=40:=by
 unfold Dk.syncS;have hm:=ziC h
 split
 ·rename_i h1
  rw[hm] at h1 ⊢
  split
  ·exact .inr rfl
  ·rename_i h2;rw[if_neg h2] at h1;exact absurd rfl h1
 ·exact .inl rfl
theorem zog (l:List Fil) (n:List UInt8):zbt l (za3 n)=withS l (n,[]):=by
 unfold zbt za3;rw[if_pos rfl]
theorem zof {l:List Fil} {n c:List UInt8} (b:List UInt8) (h:zae n l=some c):zbt l (za6 n b)=withS l (n,c++b):=by
 unfold zbt za6;rw[if_neg (by simp)];dsimp only;rw[h];dsimp only;rw[if_pos rfl]
theorem zoh {l:List Fil} {n c:List UInt8} (h:zae n l=some c):zbt l (zbb n)=za8 n l:=by
 unfold zbt zbb;rw[if_neg (by simp)];dsimp only;rw[h];dsimp only;rw[if_neg (by simp),if_neg (by simp),if_pos rfl]
theorem zi2 {d:Dk} (h:Rt d) {n:List UInt8} (b:List UInt8) (hn:n≠[]) :
  ((zaF true d [za3 n,za6 n b]).2=0→(zaF true d [za3 n,za6 n b]).1.q=[]∧Srt (zaF true d [za3 n,za6 n b]).1.fs∧Rt (zaF true d [za3 n,za6 n b]).1∧∀ x,zae x (zaF true d [za3 n,za6 n b]).1.fs=if x=n then some b else zae x d.now) ∧
  ((zaF true d [za3 n,za6 n b]).2=0∨(zaF true d [za3 n,za6 n b]).2=40∨(zaF true d [za3 n,za6 n b]).2=41):=by
 have hs0:Srt d.now:=(zco h).1
 unfold zaF
 have hf1:zbi (za3 n)=true:=(zcE _).2 ⟨.inl rfl,hn,fun h=>by simp[za3] at h⟩
 have hf2:zbi (za6 n b)=true:=(zcE _).2 ⟨.inr (.inl rfl),hn,fun h=>by simp[za6] at h⟩
 by_cases h1:(d.doS (za3 n)).2=0
 ·rw[if_pos h1]
  have hr1:=h.doS h1;have hw1:=zkC h1;rw[zog] at hw1
  generalize (d.doS (za3 n)).1=d1 at *
  have hs1:Srt d1.now:=(zco hr1).1
  have hg1:zae n d1.now=some []:=by rw[hw1,zep hs0,if_pos rfl]
  unfold zaF
  by_cases h2:(d1.doS (za6 n b)).2=0
  ·rw[if_pos h2]
   have hr2:=hr1.doS h2;have hw2:=zkC h2;rw[zof b hg1] at hw2
   generalize (d1.doS (za6 n b)).1=d2 at *
   unfold zaF;rw[if_pos rfl]
   refine ⟨fun h3=>?_,?_⟩
   ·obtain ⟨hr3,hf3,hq3⟩:=hr2.sync h3
    refine ⟨hq3,by rw[hf3];exact (zco hr2).1,hr3,fun x=>?_⟩
    rw[hf3,hw2,zep hs1];dsimp only
    split
    ·rfl
    ·rename_i hx
     rw[hw1,zep hs0];dsimp only;rw[if_neg hx]
   ·rcases znF hr2 with h | h
    ·exact .inl h
    ·exact .inr (.inl h)
  ·rw[if_neg h2]
   exact ⟨fun h=>absurd h h2,zkB hr1 hf2 (.inl (by show zae n d1.now≠none;rw[hg1];simp))⟩
 ·rw[if_neg h1]
  exact ⟨fun h=>absurd h h1,zkB h hf1 (.inr rfl)⟩
theorem zky {n:List UInt8}:∀ {l:List Fil},Apart l→za8 n l=l.filter fun p=>!decide (p.1=n)
 | [],_=>rfl
 | p::l,h=>by
  rw[za8,List.filter_cons]
  by_cases hp:p.1=n
  ·rw[if_pos hp,if_neg (by simp[hp]),List.filter_eq_self.2 fun q hq=>by have:=zeN h hq;rw[hp] at this;simpa using Ne.symm this]
  ·rw[if_neg hp,if_pos (by simp[hp]),zky (zdP h)]
theorem zmT:∀ (ns:List (List UInt8)) {d:Dk},Rt d→ns.Nodup→(∀ n∈ns,zae n d.now≠none) →
  ((zaF false d (ns.map zbb)).2=0→Rt (zaF false d (ns.map zbb)).1∧(zaF false d (ns.map zbb)).1.now=d.now.filter fun p=>!decide (p.1∈ns)) ∧
  ((zaF false d (ns.map zbb)).2=0∨(zaF false d (ns.map zbb)).2=40∨(zaF false d (ns.map zbb)).2=41)
 | [],d,h,_,_=>by
  rw[List.map_nil];unfold zaF;rw[if_neg (by simp)]
  exact ⟨fun _=>⟨h,by rw[List.filter_eq_self.2 fun p _=>by simp]⟩,.inl rfl⟩
 | n::ns,d,h,hn,hg=>by
  have hs0:=(zco h).1;obtain ⟨c,hc⟩:=Option.ne_none_iff_exists'.1 (hg n List.mem_cons_self)
  have hne:n≠[]:=by
   have:=(zco h).2 _ (zcZ hc)
   exact this
  have hf:zbi (zbb n)=true:=(zcE _).2 ⟨.inr (.inr (.inr rfl)),hne,fun h=>by simp[zbb] at h⟩
  have hn':=List.nodup_cons.1 hn;rw[List.map_cons];unfold zaF
  by_cases h1:(d.doS (zbb n)).2=0
  ·rw[if_pos h1]
   have hr1:=h.doS h1;have hw1:=zkC h1;rw[zoh hc] at hw1
   generalize (d.doS (zbb n)).1=d1 at *
   obtain ⟨h2,h3⟩:=zmT ns hr1 hn'.2 fun x hx=>by
    rw[hw1,zec hs0.apart,if_neg (by rintro rfl;exact hn'.1 hx)]
    exact hg x (List.mem_cons_of_mem _ hx)
   refine ⟨fun h4=>?_,h3⟩
   obtain ⟨h5,h6⟩:=h2 h4
   refine ⟨h5,?_⟩
   rw[h6,hw1,zky hs0.apart,List.filter_filter]
   apply List.filter_congr
   intro p _
   simp[List.mem_cons,not_or,Bool.and_comm]
  ·rw[if_neg h1]
   exact ⟨fun h=>absurd h h1,zkB h hf (.inl (by show zae n d.now≠none;rw[hc];simp))⟩
theorem zsq {l:List Fil} (ks:List (List UInt8)):(l.filter fun p=>!decide (p.1∈zaH l ks))=l.filter fun p=>decide (p.1∈ks):=by
 apply List.filter_congr
 intro p hp;unfold zaH;rw[Bool.eq_iff_iff];simp only[Bool.not_eq_true',decide_eq_false_iff_not,decide_eq_true_eq,List.mem_filter,not_and,Bool.not_eq_true,Bool.not_eq_false']
 constructor
 ·intro h
  have:=h (List.mem_map.2 ⟨p,hp,rfl⟩)
  simpa using this
 ·intro h _
  simpa using h
theorem zhm {d:Dk} (h:Rt d) (ks:List (List UInt8)) :
  ((zb1 d ks).2=0→Rt (zb1 d ks).1∧(zb1 d ks).1.now=d.now.filter fun p=>decide (p.1∈ks))∧((zb1 d ks).2=0∨(zb1 d ks).2=40∨(zb1 d ks).2=41):=by
 have hs:=(zco h).1
 obtain ⟨h1,h2⟩:=zmT (zaH d.now ks) h (List.Nodup.sublist List.filter_sublist hs.apart) (fun n hn=>by
  obtain ⟨p,hp,rfl⟩:=List.mem_map.1 (List.mem_filter.1 hn).1
  rw[zbZ hs.apart (show (p.1,p.2)∈d.now from hp)]
  simp)
 unfold zb1
 refine ⟨fun h3=>?_,h2⟩
 obtain ⟨h4,h5⟩:=h1 h3
 exact ⟨h4,by rw[h5,zsq]⟩
open Go.RowKit Go.Mv Go.Shelf
theorem zml {fs:List Fil} {k:Nat} (h:k<fs.length):tot (fs.take (k+1))=tot (fs.take k)+fs[k].2.length:=by
 rw[List.take_succ_eq_append_getElem h,zk3]
 simp[tot]
theorem zoW (fs:List Fil) (k:Nat):tot (fs.take k)≤tot fs:=by
 have:=congrArg tot (List.take_append_drop k fs)
 rw[zk3] at this;omega
theorem zsx (v:Value) (fs:List Fil) (w:World) (hF:Fs w v fs) (hl:fs.length≤4000000) (hb:tot fs≤2000000000):Calls Tryz.prog 81 #[v] w fun e w'=>e=.returned (.int .i64 (tot fs))∧w=w':=by
 obtain ⟨A,c,rfl,h1,h2⟩:=Fs.open_ hF;have HF:=zhd hF;have HB:=zhd hb;clear hF hb
 go_enter Tryz.func81,Tryz.ntmps81
 go_wp2_with fail
 go_loopw [3,4] (fun n i wr=>∃ j:Nat,j≤fs.length∧i=.int .i64 j∧n=.int .i64 (tot (fs.take j))∧w=wr) (fun _ i _=>fs.length-(intOf i).toNat)
 case atStart=>exact ⟨0,by omega,rfl,rfl,rfl⟩
 case round =>
  obtain ⟨j,hj,rfl,rfl,rfl⟩:=hrel
  by_cases hlt:j<fs.length
  ·obtain ⟨_,b,off,rfl,hc⟩:=HF.out.at_ (by omega)
   obtain ⟨_,B2,d2,hc1,_⟩:=hc j hlt;have ht:=zml hlt;have ht2:=zoW fs (j+1);have ht3:=HB.out;have HT:=zhd ht
   have hz:(tot (fs.take j):Int)+(fs[j].2.length:Int)≤2000000000:=by omega
   clear hc ht ht2 ht3
   generalize fs[j].2.length=m at *
   go_wp2_with fail
   go_roundw
   case rel=>exact ⟨j+1,by omega,by go_num,by rw[HT.out];go_num,trivial⟩
   case measure=>simp[intOf];omega
  ·obtain rfl:j=fs.length:=by omega
   go_wp2_with fail;go_ret
   exact ⟨by rw[List.take_length];rfl,rfl⟩
theorem zrc (v:Value) (d:Dk) (w:World) (hD:DkV w v d) (hl:d.fs.length+d.q.length≤900000) (hb:tot d.fs+zaT d.q≤900000) (hn:d.now.length≤4000000) :
  Calls Tryz.prog 41 #[v] w fun e w'=>e=.returned (.int .i64 (tot d.now))∧Ext w w':=by
 obtain ⟨vf,vq,rfl,hF,hQ⟩:=hD;obtain ⟨A,c,rfl,_,_⟩:=Fs.open_ hF;obtain ⟨B,e2,rfl,_,_⟩:=Qs.open_ hQ
 have hE0:Ext w (w.alloc (.cells #[.slice A d.fs.length c,.slice B d.q.length e2,.int .i64 d.quota,.int .i64 d.fuse,.bool d.dead] 25)):=Ext.alloc (Ext.refl _) _
 have hb0:=Blk.new w 25 #[.slice A d.fs.length c,.slice B d.q.length e2,.int .i64 d.quota,.int .i64 d.fuse,.bool d.dead]
 have hc:=zdx _ d _ (show DkV _ _ d from ⟨_,_,rfl,hF.ext hE0,hQ.ext hE0⟩) hl hb
 have HC:=zhd hc;have HE0:=zhd hE0;have htn:=zgd d.fs d.q
 have hnow:tot d.now=tot (zbF d.fs d.q):=zfY d.fs d.q
 have HT:=zhd (show tot d.now≤2000000000 by omega)
 have HN:=zhd hn;clear hF hQ hE0 hc htn hnow hb hn;obtain ⟨g0,g1,g2,g3,g4⟩:=zac hb0;clear hb0
 go_enter Tryz.func41,Tryz.ntmps41
 go_wp2_with fail
 refine HC.out.mono ?_
 rintro e w1 ⟨⟨v1,rfl,hf1⟩,hE1⟩;have HF1:=zhd hf1;have HE1:=zhd (Ext.trans HE0.out hE1);clear hf1 hE1 g0 g1 g2 g3 g4 HC;go_wp2_with fail
 refine (zsx _ _ w1 HF1.out HN.out HT.out).mono ?_
 rintro e w2 ⟨rfl,rfl⟩;go_wp2_with fail;go_ret
 exact ⟨rfl,HE1.out⟩
theorem zrB (o:Oq) (v:Value) (w:World) (hB:Bs w v o.b):Calls Tryz.prog 40 #[.agg #[.int .u8 o.k,sv o.n,sv o.t,v]] w fun e w'=>e=.returned (.bool (zbi o))∧Ext w w':=by
 obtain ⟨A,c,rfl,_,_⟩:=SlR.open_ hB;obtain ⟨k,n,t,b⟩:=o
 dsimp only at *
 have hX:Ext w (w.alloc (.cells #[.int .u8 k,sv n,sv t,.slice A b.length c] 86)):=Ext.alloc (Ext.refl _) _
 have hbx:=Blk.new w 86 #[.int .u8 k,sv n,sv t,.slice A b.length c];have HX:=zhd hX;clear hX hB
 simp only[sv] at *
 obtain ⟨F,hF⟩:∃ F,zbi ⟨k,n,t,b⟩=F:=⟨_,rfl⟩;rw[hF];have hiff:=zcE ⟨k,n,t,b⟩;rw[hF] at hiff;dsimp only at hiff;have HF:=zhd hiff;clear hF hiff;obtain ⟨g0,g1,g2,g3⟩:=blk4 hbx;clear hbx
 go_enter Tryz.func40,Tryz.ntmps40
 go_wp2_with fail
 all_goals
  try (have h33:k=3:=(by assumption);subst h33)
  first
   | (have h35:n=[]:=(by assumption)
      subst h35;go_ret
      refine ⟨ret_bool ?_,HX.out⟩
      have h9:=HF.out;rw[Bool.eq_iff_iff,h9]
      simp
      done)
   | (go_ret
      refine ⟨ret_bool ?_,HX.out⟩
      have h9:=HF.out;rw[Bool.eq_iff_iff,h9]
      by_cases hn:n=[] <;> by_cases ht:t=[] <;> first | contradiction | (simp[hn,ht];done) | (simp[hn,ht];omega))
theorem mcR5bb0 {P:Prop} (h:P:=by
 clear g0 g1 g2 g3 g4
 go_loopw [4] (fun i wr=>∃ j:Nat,j≤d.q.length∧j≤61∧i=.int .i64 j∧Hid (∀ q (_:q<j) (h2:q<d.q.length),d.q[q].b.length≤1000)∧Hid (Blk wr w.heap.size 25 #[.slice A d.fs.length c,.slice B d.q.length e2,.int .i64 d.quota,.int .i64 d.fuse,.bool d.dead])∧Hid (Ext w wr)) (fun i _=>d.q.length-(intOf i).toNat)
 case atStart=>exact ⟨0,by omega,by omega,rfl,zhd fun q hq=>by omega,HB,HE⟩
 case round =>
  clear HB HE;obtain ⟨j2,hj,hj2,rfl,Hn,HB,HE⟩:=hrel;obtain ⟨g0,g1,g2,g3,g4⟩:=zac HB.out
  by_cases hlt:j2<d.q.length∧j2≤60
  ·obtain ⟨hlt,h30⟩:=hlt
   obtain ⟨_,b,off,rfl,hc⟩:=(HQ.out.ext HE.out).at_ (by omega);obtain ⟨hc0,hc1,hc2,B2,d2,hc3,hB2⟩:=hc j2 hlt
   have hlz:(j2:Int)<(d.q.length:Int):=by omega
   have hp:1000<d.q[j2].b.length→R=true:=fun h=>by rw[←HR.out];exact zjV hlt h30 h
   have hq:d.q[j2].b.length≤1000→∀ q (_:q<j2+1) (h2:q<d.q.length),d.q[q].b.length≤1000:=fun h q h3 h2=>by
    by_cases e:q=j2
    ·subst e;exact h
    ·exact Hn.out q (by omega) h2
   have Hp:=zhd hp;have Hq:=zhd hq;clear hc hp hq HR Hn hB2 hc0 hc1 hc2
   generalize d.q[j2].b.length=n2 at *
   by_cases c1:1000<n2
   ·have:=Hp.out c1
    subst this
    have c1z:(1000:Int)<(n2:Int):=by omega
    go_wp2_with fail;go_ret
    exact ⟨rfl,HE.out⟩
   ·have c1z:¬ (1000:Int)<(n2:Int):=by omega
    have Hq2:=zhd (Hq.out (by omega));clear Hp Hq;go_wp2_with fail
    go_roundw
    case rel=>exact ⟨j2+1,by omega,by omega,by go_num,Hq2,HB,HE⟩
    case measure=>simp[intOf];omega
  ·have hfirst2:∀ q (_:q≤60) (h2:q<d.q.length),d.q[q].b.length≤1000:=fun q h1 h2=>Hn.out q (by omega) h2
   have HN2:=zhd hfirst2;clear hfirst2 Hn
   have HRR:=zhd (show zcm d=(decide (30<d.fs.length)||decide (60<d.q.length)) from zkI HN.out HN2.out)
   clear HN HN2
   by_cases hlt3:(j2:Int)<(d.q.length:Int)
   ·have h61:¬ (j2:Int)≤60:=by omega
    go_wp2_with fail
    all_goals
     go_ret
     refine ⟨ret_bool ?_,HE.out⟩
     rw[←HR.out,HRR.out,Bool.eq_iff_iff]
     simp
     omega
   ·go_wp2_with fail
    all_goals
     go_ret
     refine ⟨ret_bool ?_,HE.out⟩
     rw[←HR.out,HRR.out,Bool.eq_iff_iff]
     simp
     omega):P:=h
def zcm (d:Dk):Bool:=(d.fs.take 31).any (fun f=>decide (1000<f.2.length))||(d.q.take 61).any (fun o=>decide (1000<o.b.length))||decide (30<d.fs.length)||decide (60<d.q.length)
theorem zlE {d:Dk} {j:Nat} (h:j<d.fs.length) (h2:j≤30) (h3:1000<d.fs[j].2.length):zcm d=true:=by
 unfold zcm
 have:(d.fs.take 31).any (fun f=>decide (1000<f.2.length))=true:=by
  rw[List.any_eq_true]
  exact ⟨d.fs[j],List.mem_take_iff_getElem.2 ⟨j,by omega,rfl⟩,by simpa using h3⟩
 rw[this];simp
theorem zjV {d:Dk} {j:Nat} (h:j<d.q.length) (h2:j≤60) (h3:1000<d.q[j].b.length):zcm d=true:=by
 unfold zcm
 have:(d.q.take 61).any (fun o=>decide (1000<o.b.length))=true:=by
  rw[List.any_eq_true]
  exact ⟨d.q[j],List.mem_take_iff_getElem.2 ⟨j,by omega,rfl⟩,by simpa using h3⟩
 rw[this];simp
theorem zhr {d:Dk} (h:30<d.fs.length∨60<d.q.length):zcm d=true:=by
 unfold zcm
 rcases h with h | h <;> simp[h]
theorem zrH {d:Dk} (h1:∀ q (_:q≤30) (h2:q<d.fs.length),d.fs[q].2.length≤1000) (h2:∀ q (_:q≤60) (h2:q<d.q.length),d.q[q].b.length≤1000) (h3:d.fs.length≤30) (h4:d.q.length≤60):zcm d=false:=by
 unfold zcm
 have a1:(d.fs.take 31).any (fun f=>decide (1000<f.2.length))=false:=by
  rw[List.any_eq_false];intro x hx;obtain ⟨j,hj,rfl⟩:=List.mem_take_iff_getElem.1 hx
  have:=h1 j (by omega) (by omega)
  simpa using this
 have a2:(d.q.take 61).any (fun o=>decide (1000<o.b.length))=false:=by
  rw[List.any_eq_false];intro x hx;obtain ⟨j,hj,rfl⟩:=List.mem_take_iff_getElem.1 hx
  have:=h2 j (by omega) (by omega)
  simpa using this
 rw[a1,a2]
 simp;omega
theorem ziz {d:Dk} (h:zcm d=false):d.fs.length≤30∧d.q.length≤60∧tot d.fs≤30000∧zaT d.q≤60000:=by
 have h3:d.fs.length≤30:=by
  rcases Nat.lt_or_ge 30 d.fs.length with h1 | h1
  ·rw[zhr (.inl h1)] at h;cases h
  ·exact h1
 have h4:d.q.length≤60:=by
  rcases Nat.lt_or_ge 60 d.q.length with h1 | h1
  ·rw[zhr (.inr h1)] at h;cases h
  ·exact h1
 have a1:∀ f∈d.fs,f.2.length≤1000:=by
  intro f hf;obtain ⟨j,hj,rfl⟩:=List.getElem_of_mem hf
  rcases Nat.lt_or_ge 1000 d.fs[j].2.length with h1 | h1
  ·rw[zlE hj (by omega) h1] at h;cases h
  ·exact h1
 have a2:∀ o∈d.q,o.b.length≤1000:=by
  intro f hf;obtain ⟨j,hj,rfl⟩:=List.getElem_of_mem hf
  rcases Nat.lt_or_ge 1000 d.q[j].b.length with h1 | h1
  ·rw[zjV hj (by omega) h1] at h;cases h
  ·exact h1
 have s:∀ (l:List Nat),(∀ x∈l,x≤1000)→l.sum≤l.length*1000:=by
  intro l
  induction l with
  | nil=>intro _;simp
  | cons x l ih =>
   intro hx
   have:=ih fun y hy=>hx y (List.mem_cons_of_mem _ hy)
   have:=hx x (List.mem_cons_self ..)
   simp only[List.sum_cons,List.length_cons];omega
 refine ⟨h3,h4,?_,?_⟩
 ·have:=s (d.fs.map fun p=>p.2.length) (by intro x hx;obtain ⟨f,hf,rfl⟩:=List.mem_map.1 hx;exact a1 f hf)
  rw[List.length_map] at this;unfold tot;omega
 ·have:=s (d.q.map fun p=>p.b.length) (by intro x hx;obtain ⟨f,hf,rfl⟩:=List.mem_map.1 hx;exact a2 f hf)
  rw[List.length_map] at this;unfold zaT;omega
theorem zkI {d:Dk} (h1:∀ q (_:q≤30) (h2:q<d.fs.length),d.fs[q].2.length≤1000) (h2:∀ q (_:q≤60) (h2:q<d.q.length),d.q[q].b.length≤1000):zcm d=(decide (30<d.fs.length)||decide (60<d.q.length)):=by
 by_cases h:30<d.fs.length∨60<d.q.length
 ·rw[zhr h]
  rcases h with h | h <;> simp[h]
 ·rw[zrH h1 h2 (by omega) (by omega)]
  symm
  simp
  omega
theorem zpp (v:Value) (d:Dk) (w:World) (hD:DkV w v d) (hl1:d.fs.length≤2000000) (hl2:d.q.length≤2000000):Calls Tryz.prog 39 #[v] w fun e w'=>e=.returned (.bool (zcm d))∧Ext w w':=by
 obtain ⟨vf,vq,rfl,hF,hQ⟩:=hD;obtain ⟨A,c,rfl,_,_⟩:=Fs.open_ hF;obtain ⟨B,e2,rfl,_,_⟩:=Qs.open_ hQ
 have hE0:Ext w (w.alloc (.cells #[.slice A d.fs.length c,.slice B d.q.length e2,.int .i64 d.quota,.int .i64 d.fuse,.bool d.dead] 25)):=Ext.alloc (Ext.refl _) _
 have hb0:=Blk.new w 25 #[.slice A d.fs.length c,.slice B d.q.length e2,.int .i64 d.quota,.int .i64 d.fuse,.bool d.dead];obtain ⟨R,hR⟩:∃ R,zcm d=R:=⟨_,rfl⟩;rw[hR];have HR:=zhd hR;have HF:=zhd hF;have HQ:=zhd hQ;have HE:=zhd hE0;have HB:=zhd hb0;clear hR hF hQ hE0 hb0;obtain ⟨g0,g1,g2,g3,g4⟩:=zac HB.out
 go_enter Tryz.func39,Tryz.ntmps39
 go_wp2_with fail;clear g0 g1 g2 g3 g4
 go_loopw [3] (fun i wr=>∃ j:Nat,j≤d.fs.length∧j≤31∧i=.int .i64 j∧Hid (∀ q (_:q<j) (h2:q<d.fs.length),d.fs[q].2.length≤1000)∧Hid (Blk wr w.heap.size 25 #[.slice A d.fs.length c,.slice B d.q.length e2,.int .i64 d.quota,.int .i64 d.fuse,.bool d.dead])∧Hid (Ext w wr)) (fun i _=>d.fs.length-(intOf i).toNat)
 case atStart=>exact ⟨0,by omega,by omega,rfl,zhd fun q hq=>by omega,HB,HE⟩
 case round =>
  clear HB HE;obtain ⟨j,hj,hj2,rfl,Hn,HB,HE⟩:=hrel;obtain ⟨g0,g1,g2,g3,g4⟩:=zac HB.out
  by_cases hlt:j<d.fs.length∧j≤30
  ·obtain ⟨hlt,h30⟩:=hlt
   obtain ⟨_,b,off,rfl,hc⟩:=(HF.out.ext HE.out).at_ (by omega);obtain ⟨hc0,B2,d2,hc1,hB2⟩:=hc j hlt
   have hlz:(j:Int)<(d.fs.length:Int):=by omega
   have hp:1000<d.fs[j].2.length→R=true:=fun h=>by rw[←HR.out];exact zlE hlt h30 h
   have hq:d.fs[j].2.length≤1000→∀ q (_:q<j+1) (h2:q<d.fs.length),d.fs[q].2.length≤1000:=fun h q h3 h2=>by
    by_cases e:q=j
    ·subst e;exact h
    ·exact Hn.out q (by omega) h2
   have Hp:=zhd hp;have Hq:=zhd hq;clear hc hp hq HR Hn hB2 hc0
   generalize d.fs[j].2.length=n2 at *
   by_cases c1:1000<n2
   ·have:=Hp.out c1
    subst this
    have c1z:(1000:Int)<(n2:Int):=by omega
    go_wp2_with fail;go_ret
    exact ⟨rfl,HE.out⟩
   ·have c1z:¬ (1000:Int)<(n2:Int):=by omega
    have Hq2:=zhd (Hq.out (by omega));clear Hp Hq;go_wp2_with fail
    go_roundw
    case rel=>exact ⟨j+1,by omega,by omega,by go_num,Hq2,HB,HE⟩
    case measure=>simp[intOf];omega
  ·have hfirst:∀ q (_:q≤30) (h2:q<d.fs.length),d.fs[q].2.length≤1000:=fun q h1 h2=>Hn.out q (by omega) h2
   have HN:=zhd hfirst;clear hfirst Hn
   by_cases hlt2:(j:Int)<(d.fs.length:Int)
   ·have h30:¬ (j:Int)≤30:=by omega
    go_wp2_with fail
    exact mcR5bb0
   ·go_wp2_with fail
    exact mcR5bb0
theorem zjm (v:Value) (d:Dk) (w:World) (hD:DkV w v d) (hl1:d.fs.length≤2000000) (hl2:d.q.length≤2000000):Calls Tryz.prog 8 #[v] w fun e w'=>e=.returned (.bool (zcm d))∧Ext w w':=by
 obtain ⟨vf,vq,rfl,hF,hQ⟩:=hD;obtain ⟨A,c,rfl,_,_⟩:=Fs.open_ hF;obtain ⟨B,e2,rfl,_,_⟩:=Qs.open_ hQ
 have hE0:Ext w (w.alloc (.cells #[.slice A d.fs.length c,.slice B d.q.length e2,.int .i64 d.quota,.int .i64 d.fuse,.bool d.dead] 25)):=Ext.alloc (Ext.refl _) _
 have hb0:=Blk.new w 25 #[.slice A d.fs.length c,.slice B d.q.length e2,.int .i64 d.quota,.int .i64 d.fuse,.bool d.dead]
 have HC:=zhd (zpp _ d _ (show DkV _ _ d from ⟨_,_,rfl,hF.ext hE0,hQ.ext hE0⟩) hl1 hl2)
 have HE:=zhd hE0;clear hF hQ hE0;obtain ⟨g0,g1,g2,g3,g4⟩:=zac hb0;clear hb0
 go_enter Tryz.func8,Tryz.ntmps8
 go_wp2_with fail
 refine HC.out.mono ?_
 rintro e w1 ⟨rfl,hE1⟩;have HE1:=zhd (Ext.trans HE.out hE1);clear g0 g1 g2 g3 g4 hE1;go_wp2_with fail;go_ret
 exact ⟨rfl,HE1.out⟩
theorem mcR5cb0 {P:Prop} (h:P:=by
 subst hf;refine tkN 0 rfl ?_;refine tkN 1 rfl ?_;refine tkN 2 rfl ?_;refine tkN 3 rfl ?_;refine tkN 4 rfl ?_;refine tkN 5 rfl ?_;refine tkN 6 rfl ?_;refine tkN 7 rfl ?_;refine tkS 8 rfl ?_;refine tkS 9 rfl ?_;refine tkS 10 rfl ?_;refine tkS 11 rfl ?_;refine tkS 12 rfl ?_;refine tkS 13 rfl ?_;refine tkS 14 rfl ?_;refine tkS 15 rfl ?_;refine tkS 16 rfl ?_;refine tkS 17 rfl ?_;refine tkS 18 rfl ?_;refine tkS 19 rfl ?_;refine tkS 20 rfl ?_;refine tkS 21 rfl ?_;refine tkS 22 rfl ?_;refine tkS 23 rfl ?_;refine tkS 24 rfl ?_;refine tkS 25 rfl ?_;refine tkN 26 rfl ?_;refine wpAnyH_done (by kernel_rfl) ?_ _;go_wp2_with fail;go_ret
 exact ⟨rfl,Ext.drew HE.out⟩):P:=h
def zd8 (fs:List Fil) (k:Nat):List UInt8:=if k=0 then [] else ((fs[k-1]?).map (·.1)).getD []
theorem zqr {fs:List Fil} {k:Nat} (h:k<fs.length):zbG (zd8 fs k) (fs.drop k)=(ltB (zd8 fs k) fs[k].1&&zbG (zd8 fs (k+1)) (fs.drop (k+1))):=by
 rw[List.drop_eq_getElem_cons h,zbG]
 have:zd8 fs (k+1)=fs[k].1:=by
  unfold zd8;rw[if_neg (by omega)]
  simp[h]
 rw[this]
theorem ziA {fs:List Fil} {k:Nat} (h:k<fs.length):zd8 fs (k+1)=fs[k].1:=by
 unfold zd8;rw[if_neg (by omega)]
 simp[h]
structure R4I (w:World) (b:Nat) (cs:Array Value) (W:World):Prop where
 bl:Blk W b 25 cs
 e:Ext w W
theorem zkm (v:Value) (d:Dk) (w:World) (hD:DkV w v d) (hl:d.fs.length+d.q.length≤900000) (hb:tot d.fs+zaT d.q≤900000) (hnl:d.now.length≤4000000) :
  Calls Tryz.prog 9 #[v] w fun e w'=>e=.returned (.bool d.right)∧Ext w w':=by
 obtain ⟨vf,vq,rfl,hF,hQ⟩:=hD;obtain ⟨A,c,rfl,_,_⟩:=Fs.open_ hF;obtain ⟨B,e2,rfl,_,_⟩:=Qs.open_ hQ
 have hE0:Ext w (w.alloc (.cells #[.slice A d.fs.length c,.slice B d.q.length e2,.int .i64 d.quota,.int .i64 d.fuse,.bool d.dead] 25)):=Ext.alloc (Ext.refl _) _
 have hb0:=Blk.new w 25 #[.slice A d.fs.length c,.slice B d.q.length e2,.int .i64 d.quota,.int .i64 d.fuse,.bool d.dead];have HF:=zhd hF;have HQ:=zhd hQ;have HBB:=zhd hb;have HNL:=zhd hnl
 have HI:=zhd (show R4I w w.heap.size #[.slice A d.fs.length c,.slice B d.q.length e2,.int .i64 d.quota,.int .i64 d.fuse,.bool d.dead] _ from ⟨hb0,hE0⟩)
 obtain ⟨R,hR⟩:∃ R,d.right=R:=⟨_,rfl⟩;have HR:=zhd hR;rw[hR];clear hF hQ hb hE0 hR hnl;obtain ⟨g0,g1,g2,g3,g4⟩:=zac hb0;clear hb0
 go_enter Tryz.func9,Tryz.ntmps9
 go_wp2_with fail;clear g0 g1 g2 g3 g4
 go_loopw [3] (fun i wr=>∃ k:Nat,k≤d.fs.length∧i=.int .i64 k∧Hid (zbG [] d.fs=zbG (zd8 d.fs k) (d.fs.drop k))∧Hid (R4I w w.heap.size #[.slice A d.fs.length c,.slice B d.q.length e2,.int .i64 d.quota,.int .i64 d.fuse,.bool d.dead] wr)) (fun i _=>d.fs.length-(intOf i).toNat)
 case atStart=>exact ⟨0,Nat.zero_le _,rfl,rfl,HI⟩
 case round =>
  clear HI;obtain ⟨k,hk,rfl,Hri,HI⟩:=hrel;have HE:=zhd HI.out.e;obtain ⟨g0,g1,g2,g3,g4⟩:=zac HI.out.bl
  by_cases hlt:k<d.fs.length
  ·obtain ⟨_,b,off,rfl,hc⟩:=(HF.out.ext HI.out.e).at_ (by omega)
   obtain ⟨hc0,_⟩:=hc k hlt;have hri:=Hri.out;rw[zqr hlt] at hri;have HRI:=zhd hri
   have hlz:(k:Int)<(d.fs.length:Int):=by omega
   clear hri Hri
   cases k with
   | zero =>
    clear hc
    generalize d.fs[0].1=n at *
    simp only[sv] at *
    simp only[Nat.zero_mul,Nat.add_zero] at hc0;go_wp2_with fail
    refine wp_region_held_drew (S:=fun W=>W.cell? ⟨w.heap.size,0,none⟩=some (.slice (some ⟨b,off,none⟩) d.fs.length c)∧W.cell? ⟨b,off,none⟩=some (.string ⟨n.toArray⟩)) (by kernel_rfl) ⟨g0,hc0⟩ (fun _=>?_)
    by_cases hn:n=[]
    case pos =>
     have hne:(n==[])=true:=by simpa using hn
     have hf:false=R:=by
      rw[←HR.out];unfold Dk.right
      rw[HRI.out,hn,show ltB (zd8 d.fs 0) []=false from rfl,Bool.false_and]
      rfl
     exact mcR5cb0
    have hne:(n==[])=false:=by simpa using hn
    have HRI2:=zhd (show zbG [] d.fs=zbG (zd8 d.fs 1) (d.fs.drop 1) by rw[HRI.out,show ltB (zd8 d.fs 0) n=true from ltB_nil.2 hn,Bool.true_and])
    clear hn HRI;refine tkN 0 rfl ?_;refine tkN 1 rfl ?_;refine tkN 2 rfl ?_;refine tkN 3 rfl ?_;refine tkN 4 rfl ?_;refine tkN 5 rfl ?_;refine tkN 6 rfl ?_;refine tkN 7 rfl ?_;refine tkN 8 rfl ?_;refine tkN 9 rfl ?_;refine tkN 10 rfl ?_;refine tkS 11 rfl ?_;refine tkS 12 rfl ?_;refine tkS 13 rfl ?_;refine tkS 14 rfl ?_;refine tkS 15 rfl ?_;refine tkS 16 rfl ?_;refine tkS 17 rfl ?_;refine tkS 18 rfl ?_;refine tkS 19 rfl ?_;refine tkS 20 rfl ?_;refine tkS 21 rfl ?_;refine tkS 22 rfl ?_;refine tkS 23 rfl ?_;refine tkS 24 rfl ?_;refine tkN 25 rfl ?_;refine tkN 26 rfl ?_;refine wpAnyH_done (by kernel_rfl) ?_ _;go_wp2_with fail
    go_roundw
    case rel=>exact ⟨1,by omega,by go_num,HRI2,⟨HI.out.bl.ext (Ext.drew (Ext.refl _)),Ext.drew HE.out⟩⟩
    case measure=>simp[intOf];omega
   | succ j =>
    obtain ⟨hp0,_⟩:=hc j (by omega)
    have hj0:(0:Int)≤(j:Int)+1:=by omega
    have hj1:(0:Int)<(j:Int)+1:=by omega
    have hj2:IntKind.i64.wrap (j:Int)=(j:Int):=by rw[IntKind.wrap_i64];omega
    have hj3:(j:Int)<(d.fs.length:Int):=by omega
    have hri:=HRI.out;rw[ziA (by omega:j<d.fs.length),ziA hlt] at hri;have HL2:=zhd (ziA hlt);have HRI2:=zhd hri
    have hle:j+1<d.fs.length:=hlt
    clear hri HRI;clear hc;obtain ⟨n,hn0⟩:∃ n,d.fs[j+1].1=n:=⟨_,rfl⟩;obtain ⟨l,hl0⟩:∃ l,d.fs[j].1=l:=⟨_,rfl⟩;rw[hn0] at hc0 HRI2 HL2;rw[hl0] at hp0 HRI2;clear hn0 hl0
    simp only[sv] at *
    go_wp2_with fail
    refine wp_region_held_drew (S:=fun W=>W.cell? ⟨w.heap.size,0,none⟩=some (.slice (some ⟨b,off,none⟩) d.fs.length c)∧W.cell? ⟨b,off+(j+1)*2,none⟩=some (.string ⟨n.toArray⟩)∧W.cell? ⟨b,off+j*2,none⟩=some (.string ⟨l.toArray⟩)) (by kernel_rfl) ⟨g0,hc0,hp0⟩ (fun _=>?_)
    by_cases hn:n=[]
    case pos =>
     have hne:(n==[])=true:=by simpa using hn
     have hf:false=R:=by
      rw[←HR.out];unfold Dk.right
      rw[HRI2.out,hn,show ltB l []=false from (by cases l <;> rfl),Bool.false_and]
      rfl
     exact mcR5cb0
    have hne:(n==[])=false:=by simpa using hn
    clear hn
    cases hcmp:ltB l n with
    | false =>
     have hc2:Op.bytesLess l n=false:=hcmp
     have hf:false=R:=by
      rw[←HR.out];unfold Dk.right;rw[HRI2.out,hcmp];rfl
     subst hf;clear hcmp;refine tkN 0 rfl ?_;refine tkN 1 rfl ?_;refine tkN 2 rfl ?_;refine tkN 3 rfl ?_;refine tkN 4 rfl ?_;refine tkN 5 rfl ?_;refine tkN 6 rfl ?_;refine tkN 7 rfl ?_;refine tkN 8 rfl ?_;refine tkN 9 rfl ?_;refine tkN 10 rfl ?_;refine tkN 11 rfl ?_;refine tkN 12 rfl ?_;refine tkN 13 rfl ?_;refine tkN 14 rfl ?_;refine tkN 15 rfl ?_;refine tkN 16 rfl ?_;refine tkN 17 rfl ?_;refine tkN 18 rfl ?_;refine tkN 19 rfl ?_;refine tkN 20 rfl ?_;refine tkN 21 rfl ?_;refine tkN 22 rfl ?_;refine tkN 23 rfl ?_;refine tkN 24 rfl ?_;refine tkN 25 rfl ?_;refine tkN 26 rfl ?_;refine wpAnyH_done (by kernel_rfl) ?_ _;go_wp2_with fail;go_ret
     exact ⟨rfl,Ext.drew HE.out⟩
    | true =>
     have hc2:Op.bytesLess l n=true:=hcmp
     have HRI3:=zhd (show zbG [] d.fs=zbG (zd8 d.fs (j+1+1)) (d.fs.drop (j+1+1)) from by rw[HRI2.out,hcmp,Bool.true_and,HL2.out])
     clear hcmp HRI2 HL2;refine tkN 0 rfl ?_;refine tkN 1 rfl ?_;refine tkN 2 rfl ?_;refine tkN 3 rfl ?_;refine tkN 4 rfl ?_;refine tkN 5 rfl ?_;refine tkN 6 rfl ?_;refine tkN 7 rfl ?_;refine tkN 8 rfl ?_;refine tkN 9 rfl ?_;refine tkN 10 rfl ?_;refine tkN 11 rfl ?_;refine tkN 12 rfl ?_;refine tkN 13 rfl ?_;refine tkN 14 rfl ?_;refine tkN 15 rfl ?_;refine tkN 16 rfl ?_;refine tkN 17 rfl ?_;refine tkN 18 rfl ?_;refine tkN 19 rfl ?_;refine tkN 20 rfl ?_;refine tkN 21 rfl ?_;refine tkN 22 rfl ?_;refine tkN 23 rfl ?_;refine tkN 24 rfl ?_;refine tkN 25 rfl ?_;refine tkN 26 rfl ?_;refine wpAnyH_done (by kernel_rfl) ?_ _;go_wp2_with fail
     go_roundw
     case rel=>exact ⟨j+1+1,by omega,by go_num,HRI3,⟨HI.out.bl.ext (Ext.drew (Ext.refl _)),Ext.drew HE.out⟩⟩
     case measure=>simp[intOf];omega
  ·obtain rfl:k=d.fs.length:=by omega
   have hri:=Hri.out;rw[List.drop_length,zbG] at hri
   have HRR:=zhd (show (d.q.all zbi&&decide (d.q.length≤400)&&decide (0≤d.quota)&&decide (0≤d.fuse)&&decide ((tot d.now:Int)≤d.quota))=R from by rw[←HR.out];unfold Dk.right;rw[hri,Bool.true_and])
   clear Hri hri HR;go_wp2_with fail;clear g0 g1 g2 g3 g4
   go_loopw [4] (fun i wr=>∃ k:Nat,k≤d.q.length∧i=.int .i64 k∧Hid (d.q.all zbi=(d.q.drop k).all zbi)∧Hid (R4I w w.heap.size #[.slice A d.fs.length c,.slice B d.q.length e2,.int .i64 d.quota,.int .i64 d.fuse,.bool d.dead] wr)) (fun i _=>d.q.length-(intOf i).toNat)
   case atStart=>exact ⟨0,Nat.zero_le _,rfl,rfl,HI⟩
   case round =>
    clear HI HE;obtain ⟨k2,hk2,rfl,Hall,HI⟩:=hrel;have HE:=zhd HI.out.e;obtain ⟨g0,g1,g2,g3,g4⟩:=zac HI.out.bl
    by_cases hlt2:k2<d.q.length
    ·obtain ⟨_,b,off,rfl,hc⟩:=(HQ.out.ext HI.out.e).at_ (by omega)
     obtain ⟨c0,c1,c2,B3,d3,c3,hB3⟩:=hc k2 hlt2;have hal:=Hall.out;rw[List.drop_eq_getElem_cons hlt2,List.all_cons] at hal;have HAL:=zhd hal
     have HC:=zhd (fun W hW=>zrB d.q[k2] _ W (Bs.ext hB3 hW))
     clear hc hal Hall hB3
     generalize d.q[k2]=o at *
     simp only[sv] at *
     go_wp2_with fail
     refine (HC.out _ (Ext.refl _)).mono ?_
     rintro e w1 ⟨rfl,hE1⟩
     have HI1:=zhd (show R4I w w.heap.size #[.slice A d.fs.length c,.slice (some ⟨b,off,none⟩) d.q.length e2,.int .i64 d.quota,.int .i64 d.fuse,.bool d.dead] w1 from ⟨HI.out.bl.ext hE1,Ext.trans HE.out hE1⟩)
     clear g0 g1 g2 g3 g4 HI HE hE1
     cases hfi:zbi o with
     | false =>
      have hf:false=R:=by rw[←HRR.out,HAL.out,hfi];rfl
      subst hf;clear HAL HRR;go_wp2_with fail;go_ret
      exact ⟨rfl,HI1.out.e⟩
     | true =>
      have HAL2:=zhd (show d.q.all zbi=(d.q.drop (k2+1)).all zbi by rw[HAL.out,hfi,Bool.true_and])
      clear HAL hfi;go_wp2_with fail
      go_roundw
      case rel=>exact ⟨k2+1,by omega,by go_num,HAL2,HI1⟩
      case measure=>simp[intOf];omega
    ·obtain rfl:k2=d.q.length:=by omega
     have hal:=Hall.out;rw[List.drop_length] at hal
     have HRR2:=zhd (show (decide (d.q.length≤400)&&decide (0≤d.quota)&&decide (0≤d.fuse)&&decide ((tot d.now:Int)≤d.quota))=R from by rw[←HRR.out,hal];rfl)
     clear hal Hall HRR;have HBL:=zhd HI.out.bl;go_wp2_with fail
     refine wp_region_held_drew (S:=fun W=>W.cell? ⟨w.heap.size,0,none⟩=some (.slice A d.fs.length c)∧W.cell? ⟨w.heap.size,1,none⟩=some (.slice B d.q.length e2)∧W.cell? ⟨w.heap.size,2,none⟩=some (.int .i64 d.quota)∧W.cell? ⟨w.heap.size,3,none⟩=some (.int .i64 d.fuse)∧W.cell? ⟨w.heap.size,4,none⟩=some (.bool d.dead)) (by kernel_rfl) ⟨g0,g1,g2,g3,g4⟩ (fun _=>?_)
     by_cases h4:d.q.length≤400
     case neg =>
      have h4b:decide (((d.q.length:Nat):Int)≤400)=false:=by simp;omega
      have hf:false=R:=by rw[←HRR2.out];simp[h4]
      subst hf;clear HRR2 h4;refine tkN 0 rfl ?_;refine tkN 1 rfl ?_;refine tkN 2 rfl ?_;refine tkN 3 rfl ?_;refine tkN 4 rfl ?_;refine tkS 5 rfl ?_;refine tkS 6 rfl ?_;refine tkS 7 rfl ?_;refine tkN 8 rfl ?_;refine tkN 9 rfl ?_;refine tkS 10 rfl ?_;refine tkS 11 rfl ?_;refine tkS 12 rfl ?_;refine tkN 13 rfl ?_;refine tkN 14 rfl ?_;refine tkS 15 rfl ?_;refine tkS 16 rfl ?_;refine tkS 17 rfl ?_;refine tkS 18 rfl ?_;refine tkS 19 rfl ?_;refine tkN 20 rfl ?_;refine tkN 21 rfl ?_;refine wpAnyH_done (by kernel_rfl) ?_ _;go_wp2_with fail;go_ret
      exact ⟨rfl,Ext.drew HE.out⟩
     have h4b:decide (((d.q.length:Nat):Int)≤400)=true:=by simp;omega
     have HRR3:=zhd (show (decide (0≤d.quota)&&decide (0≤d.fuse)&&decide ((tot d.now:Int)≤d.quota))=R from by rw[←HRR2.out];simp[h4])
     clear HRR2 h4
     by_cases hq0:0≤d.quota
     case neg =>
      have hqb:decide (0≤d.quota)=false:=by simpa using hq0
      have hf:false=R:=by rw[←HRR3.out,hqb];rfl
      subst hf;clear HRR3 hq0;refine tkN 0 rfl ?_;refine tkN 1 rfl ?_;refine tkN 2 rfl ?_;refine tkN 3 rfl ?_;refine tkN 4 rfl ?_;refine tkN 5 rfl ?_;refine tkN 6 rfl ?_;refine tkN 7 rfl ?_;refine tkN 8 rfl ?_;refine tkN 9 rfl ?_;refine tkS 10 rfl ?_;refine tkS 11 rfl ?_;refine tkS 12 rfl ?_;refine tkN 13 rfl ?_;refine tkN 14 rfl ?_;refine tkS 15 rfl ?_;refine tkS 16 rfl ?_;refine tkS 17 rfl ?_;refine tkS 18 rfl ?_;refine tkS 19 rfl ?_;refine tkN 20 rfl ?_;refine tkN 21 rfl ?_;refine wpAnyH_done (by kernel_rfl) ?_ _;go_wp2_with fail;go_ret
      exact ⟨rfl,Ext.drew HE.out⟩
     have hqb:decide (0≤d.quota)=true:=by simpa using hq0
     have HRR4:=zhd (show (decide (0≤d.fuse)&&decide ((tot d.now:Int)≤d.quota))=R from by rw[←HRR3.out,hqb];rfl)
     clear HRR3 hq0
     by_cases hf0:0≤d.fuse
     case neg =>
      have hfb:decide (0≤d.fuse)=false:=by simpa using hf0
      have hf:false=R:=by rw[←HRR4.out,hfb];rfl
      subst hf;clear HRR4 hf0;refine tkN 0 rfl ?_;refine tkN 1 rfl ?_;refine tkN 2 rfl ?_;refine tkN 3 rfl ?_;refine tkN 4 rfl ?_;refine tkN 5 rfl ?_;refine tkN 6 rfl ?_;refine tkN 7 rfl ?_;refine tkN 8 rfl ?_;refine tkN 9 rfl ?_;refine tkN 10 rfl ?_;refine tkN 11 rfl ?_;refine tkN 12 rfl ?_;refine tkN 13 rfl ?_;refine tkN 14 rfl ?_;refine tkS 15 rfl ?_;refine tkS 16 rfl ?_;refine tkS 17 rfl ?_;refine tkS 18 rfl ?_;refine tkS 19 rfl ?_;refine tkN 20 rfl ?_;refine tkN 21 rfl ?_;refine wpAnyH_done (by kernel_rfl) ?_ _;go_wp2_with fail;go_ret
      exact ⟨rfl,Ext.drew HE.out⟩
     have hfb:decide (0≤d.fuse)=true:=by simpa using hf0
     have HRR5:=zhd (show decide ((tot d.now:Int)≤d.quota)=R from by rw[←HRR4.out,hfb];rfl)
     clear HRR4 hf0;refine tkN 0 rfl ?_;refine tkN 1 rfl ?_;refine tkN 2 rfl ?_;refine tkN 3 rfl ?_;refine tkN 4 rfl ?_;refine tkN 5 rfl ?_;refine tkN 6 rfl ?_;refine tkN 7 rfl ?_;refine tkN 8 rfl ?_;refine tkN 9 rfl ?_;refine tkN 10 rfl ?_;refine tkN 11 rfl ?_;refine tkN 12 rfl ?_;refine tkN 13 rfl ?_;refine tkN 14 rfl ?_;refine tkN 15 rfl ?_;refine tkN 17 rfl ?_;refine tkN 18 rfl ?_
     refine ar1 16 rfl (fun K hK=>?_)
     go_simp
     refine (zrc _ d _ (show DkV _ _ d from ⟨_,_,rfl,HF.out.ext (Ext.drew HE.out),HQ.out.ext (Ext.drew HE.out)⟩) hl HBB.out HNL.out).mono ?_
     rintro e w2 ⟨rfl,hE2'⟩;have hE2:=Ext.trans (Ext.drew (Ext.refl _)) hE2';have HE2:=zhd (Ext.trans HE.out hE2);clear g0 g1 g2 g3 g4;obtain ⟨g0,g1,g2,g3,g4⟩:=zac (HBL.out.ext hE2);clear hE2 hE2'
     refine shK hK _ _ ⟨g0,g1,g2,g3,g4⟩ (fun _=>?_)
     refine tkN 19 rfl ?_;refine tkN 20 rfl ?_;refine tkN 21 rfl ?_;refine wpAnyH_done (by kernel_rfl) ?_ _;go_wp2_with fail;go_ret
     exact ⟨by rw[←HRR5.out];rfl,HE2.out⟩
end Go.Proofs.YtgonhdeochgkoaaGreatDoor
