/- Merged: Concat AppB -/
import Derived.Test.YtgonhdeochgkoaaGreatDoorZt2
set_option linter.all false
set_option maxHeartbeats 8000000
set_option maxRecDepth 100000
namespace Go.Proofs.YtgonhdeochgkoaaGreatDoor
open Go.RowKit Go.Mv
theorem zbp (va vb:Value) (a b:List UInt8) (w:World) (ha:Bs w va a) (hb:Bs w vb b) :
  Calls Tryz.prog 105 #[va,vb] w fun e w'=>e=.returned (.bool (decide (a=b)))∧w=w':=by
 obtain ⟨A,ca,rfl,h1,h2⟩:=SlR.open_ ha;obtain ⟨B,cb,rfl,h3,h4⟩:=SlR.open_ hb;have hca:=zaM (P:=Tryz.prog) w 38 9 5 Tryz.underlying38 Tryz.underlying5 Tryz.underlying9 ha;have hcb:=zaM (P:=Tryz.prog) w 38 9 5 Tryz.underlying38 Tryz.underlying5 Tryz.underlying9 hb
 go_enter Tryz.func105,Tryz.ntmps105
 go_wp2
 go_ret
 exact ⟨ret_bool (by rw[Bool.eq_iff_iff];simp),rfl⟩
def Parts (w:World) (v:Value) (bss:List (List UInt8)):Prop:=∃ vs:List Value,vs.length=bss.length∧SlR w 1 v bss.length vs∧∀ i (h:i<vs.length) (h':i<bss.length),Bs w vs[i] bss[i]
theorem Parts.ext {w w':World} {v:Value} {bss:List (List UInt8)} (h:Parts w v bss) (he:Ext w w'):Parts w' v bss:=by
 obtain ⟨vs,hl,h1,h2⟩:=h
 exact ⟨vs,hl,h1.ext he,fun i hi hi'=>(h2 i hi hi').ext he⟩
theorem ziu (bss:List (List UInt8)) (k:Nat) (h:k<bss.length):(bss.take (k+1)).flatten=(bss.take k).flatten++bss[k]:=by
 rw[List.take_succ_eq_append_getElem h,List.flatten_append,List.flatten_cons,List.flatten_nil,List.append_nil]
theorem ziv (bss:List (List UInt8)) (k:Nat):(bss.take k).flatten.length≤bss.flatten.length:=by
 conv=>rhs;rw[←List.take_append_drop k bss,List.flatten_append]
 simp
set_option maxRecDepth 100000 in
theorem zeu (v:Value) (bss:List (List UInt8)) (w:World) (h:Parts w v bss) (hl:bss.flatten.length≤70368744177664) :
  Calls Tryz.prog 195 #[v] w (zkk w bss.flatten):=by
 obtain ⟨vs,hvl,hsl,hvs⟩:=h;obtain ⟨A,c,rfl,h1,h2⟩:=SlR.open_ hsl;obtain ⟨i0,hi,hz0,hz1,hz2⟩:=info_parts zcA;have Hvl:=zhd hvl
 have hv1:vs.length≤bss.length:=by omega
 have hv2:bss.length≤vs.length:=by omega
 clear hvl
 go_enter Tryz.func195,Tryz.ntmps195
 go_wp2_with fail
 go_loop [3,11] (fun sz i=>∃ k m:Nat,k≤bss.length∧i=.int .i64 k∧sz=.int .i64 m∧Hid (m=(bss.take k).flatten.length)) (fun _ i=>bss.length-(intOf i).toNat)
 case atStart=>exact ⟨0,0,Nat.zero_le _,rfl,rfl,rfl⟩
 case round =>
  obtain ⟨k,m,hk,rfl,rfl,Hm⟩:=hrel
  by_cases hlt:k<bss.length
  ·obtain ⟨_,b,off,rfl,hc⟩:=SlR.at_ hsl (by omega)
   have hkv:k<vs.length:=by omega
   have hck:=hc k vs[k] (List.getElem?_eq_getElem hkv);obtain ⟨A',c',hvk,h3,h4⟩:=SlR.open_ (hvs k hkv hlt);rw[hvk] at hck;have hle:=ziv bss (k+1);have hft:=ziu bss k hlt;rw[hft,List.length_append,←Hm.out] at hle;have Hft:=zhd hft
   generalize hq:bss.flatten.length=q at hle hl
   clear hc hvk hft hq;go_wp2_with fail
   go_round
   case rel=>exact ⟨k+1,m+bss[k].length,by omega,by go_num,by go_num,by show _=_;rw[Hft.out,List.length_append,←Hm.out]⟩
   case measure=>simp[intOf];omega
  ·have hm:=Hm.out
   rw[List.take_of_length_le (by omega)] at hm
   have hm2:m≤70368744177664:=by omega
   clear hm
   go_wp2_with (go_at_call 233;refine (zsY _ _ (by omega)).mono ?_;rintro e w1 ⟨v1,rfl,hown1,hE1⟩)
   go_loopw [6,27] (fun ns i wr=>∃ k:Nat,k≤bss.length∧i=.int .i64 k∧wr.ownsRow w.heap.size 5 1 ns (bss.take k).flatten.length ((bss.take k).flatten.map bv)∧Ext w wr) (fun _ i _=>bss.length-(intOf i).toNat)
   case atStart=>exact ⟨0,Nat.zero_le _,rfl,hown1,hE1⟩
   case round =>
    obtain ⟨k,hk,rfl,hown,hE⟩:=hrel
    by_cases hlt:k<bss.length
    ·obtain ⟨_,b,off,rfl,hc⟩:=SlR.at_ (SlR.ext hsl hE) (by omega)
     have hkv:k<vs.length:=by omega
     have hck:=hc k vs[k] (List.getElem?_eq_getElem hkv);have hbk:=(hvs k hkv hlt).ext hE;obtain ⟨A',c',hvk,h3,h4⟩:=SlR.open_ hbk;rw[hvk] at hck hbk;have hle:=ziv bss (k+1);have hft:=ziu bss k hlt;rw[hft,List.length_append] at hle;have Hft:=zhd hft;clear hc hvk hft
     go_wp2_with (at_builtin;refine zbJ _ rfl (.tmp 31) (.tmp 32) 38 rfl w.heap.size 5 i0 (.int .u8 0) 1 1 Tryz.underlying38 hi hz0 hz1 hz2 rfl (by decide) _ _ _ rfl hown _ bss[k].length (bss[k].map bv) rfl hbk (zdI _) (by unfold maxLen;omega) (by omega) hE.size ?_;intro v' w1 hown' hgrow)
     go_roundw
     case rel =>
      refine ⟨k+1,by omega,by go_num,?_,Ext.grownOwn hE hown hgrow⟩
      rw[Hft.out]
      simpa using hown'
     case measure=>simp[intOf];omega
    ·have hk':bss.take k=bss:=List.take_of_length_le (by omega)
     rw[hk'] at hown;clear hk';go_wp2_with fail;go_ret
     exact ⟨_,rfl,hown,hE⟩
end Go.Proofs.YtgonhdeochgkoaaGreatDoor

namespace Go.Mv
open Go.RowKit
theorem zdA {P:Program} (w:World) (base:Nat) (t ty e:TypeId) (i:TypeInfo) (z:Value) (size bytes:Nat) (ht:P.underlying t=some (.slice e)) (hi:P.info? e=some i) (hz:i.zero=some z)
  (hsize:i.size=size) (hby:i.bytes=bytes)
  (v:Value) (n:Nat) (xs:List Value) (hown:w.ownsRow base e size v n xs)
  (a:Addr) (m c:Nat) (news:List Value) (hl:news.length=m*size) (hm:0<m) (hnews:∀ j u,news[j]?=some u→w.cell? (a.add j)=some u) (h1:∀ u∈news,u.oneCell'=true)
  (h63:n+m≤maxLen) (hbytes:(n+m)*bytes≤140737488355328) {v':Value} {w':World} (hrun:(Builtin.append_ #[t,t] ty #[v,.slice (some a) m c]).run P w=.ok v' w'):v'.ownBlock=v.ownBlock∨v'.ownBlock=some w.heap.size:=by
 subst hsize;subst hby
 have hsmall:n+m≤9223372036854775807:=by simp only[maxLen] at h63;omega
 rcases hown.2 with ⟨rfl,rfl⟩ | ⟨g,cap,cur,rfl,hbg,hg,hnc,hcm,hcs,htake⟩
 ·have hr:=run_append_nil (P:=P) w t ty e i z ht hi hz a m c news hl hnews (by omega) (by omega) (by have hb:=hbytes;simp only[Nat.zero_add] at hb;omega)
  rw[hr] at hrun
  cases hrun
  exact .inr rfl
 ·by_cases hroom:n+m≤cap
  ·have hfit:n*i.size+news.length≤cur.size:=by rw[hl,hcs,←Nat.add_mul];exact Nat.mul_le_mul_right _ hroom
   have hr:=run_append_room (P:=P) w t ty e i ht hi g n cap cur hg a m c news hl hnews h1 hroom hfit;rw[hr] at hrun
   cases hrun
   exact .inl rfl
  ·have holds:∀ j u,xs[j]?=some u→w.cell? ((⟨g,0,none⟩:Addr).add j)=some u:=hown.cells (g:=g) rfl
   have hr:=run_append_grow (P:=P) w t ty e i z ht hi hz ⟨g,0,none⟩ n cap xs hown.1 holds a m c news hl hnews (by omega) (by omega) (growslice_fits (by omega) hbytes);rw[hr] at hrun
   cases hrun
   exact .inr rfl
end Go.Mv
