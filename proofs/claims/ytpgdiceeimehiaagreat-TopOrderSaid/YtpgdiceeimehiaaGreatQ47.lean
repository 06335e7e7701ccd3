/- Part 47 of the proof that spotop.TopOrder returns true for all arguments and leaves what was there as it was. -/
import Derived.Deep.DeepCutAuto
import Derived.Deep.CutBlock
import Derived.Test.YtpgdiceeimehiaaGreatQ24
import Derived.Test.YtpgdiceeimehiaaGreatQ25
import Derived.Test.YtpgdiceeimehiaaGreatQ46
set_option maxRecDepth 100000
set_option maxHeartbeats 16000000
open Go.Lib (hid)
namespace Go.Proofs.YtpgdiceeimehiaaGreat
open Go.RowKit
section
variable {w w':World} {c:Cn} {K:Cor.Q} {κ:Nat→Nat} {m:Cor.St} {b:Ac.B} {s:Ac.St} {xb:Nat} {v:Value} {sh:List Sh} {t:Tr.St}
theorem walks_last (x:Nat) (l:List Int) (w:World) (h:Trc w c K κ m b s xb v sh t) (hpc:t.pc=1) (hw:t.words=(x:Int) :: l) (hx:x<8) (hh:(t.head:Int)<c.frags) (hz:m.words[8 * t.head+x]?=some noneW) (hl:l=[]) (hb:t.bs.length≤6) :
  Calls Tryz.prog 279 #[.pointer (some ⟨xb,0,none⟩),.pointer (some ⟨K.mb,0,none⟩),.pointer (some ⟨K.sb,0,none⟩)] w (TAns w c K κ b s xb v sh true (fun m' t'=>m'=m∧∃ wv',t'={ t with pc:=9,next:=0,wv:=wv',words:=l })):=by
 have HS:=hid h
 have HH:=hid (And.intro hw (And.intro hh hz))
 have p11:=h.tr.p11
 rw [hpc] at p11
 have HL:=hid hl
 have HB:=hid hb
 clear h hw hh hz hl hb
 go_enter Tryz.func279,Tryz.ntmps279
 go_wp2_with fail
 refine wp_scope_hop 1 (fun C HC0=>?_)
 have HC:=hid HC0
 clear HC0
 go_upto_region 7 with fail
 obtain ⟨A,cw,hwv,hl1,hl2,-,-,hcs⟩:=HS.out.tr.wr
 have hlen:t.words.length=l.length+1:=by rw [HH.out.1];rfl
 rw [hlen] at hwv hl1
 obtain ⟨g,off,hA,hg,-⟩:=hcs (by omega)
 subst hA
 have g0:w.cell? ⟨g,off,none⟩=some (.int .i64 (x:Int)):=by
  have:=hg 0 (by rw [hlen];omega)
  rw [HH.out.1] at this
  exact this
 have p14:=HS.out.tr.p14
 have p16:=HS.out.tr.p16
 rw [hwv] at p16
 have HWV:=hid hwv
 have HL2:=hid hl2
 have j1:(0:Int)<(l.length:Int)+1:=by omega
 clear hwv hg hcs hlen p11 hl2
 go_cut [7,9] (fun s7 s9 wx=>s7=.complex .f64 noneW.1 noneW.2∧s9=.bool true∧Only (fun k=>k=K.mb) w wx∧Mm.At wx K.mb K.mg m.words)
 case first =>
  go_region_with (go_at_call 276;refine (Tr.read_in t.head x K.mb K.mg m.words noneW w.drew HS.out.drew.tr HS.out.drew.sys.cor.mem HH.out.2.1 hx HH.out.2.2).mono ?_;rintro e w2 ⟨rfl,ho2,hm2⟩)
  all_goals
   go_wp2_with fail
   go_meet
   exact ⟨rfl,rfl,((Only.refl (fun k=>k=K.mb) w).drewN 1).trans ho2 (fun _ _ h=>h),hm2⟩
 case rest =>
  obtain ⟨rfl,rfl,hoc,hmc⟩:=hcut
  have e2:=(HS.out.mem_ hoc hmc).1
  have s2:=(HS.out.mem_ hoc hmc).2
  have HS2:=hid s2
  have HE2:=hid e2
  clear hoc hmc e2 s2 g0 p14 p16
  go_wp2_with fail
  refine (is_none _).mono ?_
  rintro e w3 ⟨rfl,rfl⟩
  have p16:=HS2.out.tr.p16
  rw [HWV.out] at p16
  have ff:=HS2.out.tr.fz
  obtain ⟨A2,hA2⟩:∃ A2,(if cw=1 then some (⟨g,off,none⟩:Addr) else some ⟨g,off+1,none⟩)=A2:=⟨_,rfl⟩
  go_upto_region 11 with fail
  have hT:=HS2.out.tr.wr
  rw [HWV.out,HH.out.1] at hT
  have hT2:=hT.tail g off rfl
  rw [hA2,Nat.add_sub_cancel] at hT2
  have hk2:∀ k,(Value.slice A2 l.length (cw-1)).ownBlock=some k→k=g:=fun k hk=>by
   rw [← hA2] at hk
   split at hk <;> (injection hk with hk;exact hk.symm)
  have hro:∀ k,Tr.Ro v sh { t with wv:=.slice A2 l.length (cw-1),words:=l } k→Tr.Ro v sh t k:=fun k hk=>by
   rcases hk with hk | hk | hk
   ·exact .inl hk
   ·exact .inr (.inl hk)
   ·rw [hk2 k hk];exact .inr (.inr (by rw [HWV.out];rfl))
  have h3:=HS2.out.tr.putx 16 (.slice A2 l.length (cw-1)) { t with wv:=.slice A2 l.length (cw-1),words:=l } (fun n=>⟨n,rfl⟩) HS2.out.tr.refs hT2 (fun k hk=>HS2.out.tr.ro k (hro k hk))
  obtain ⟨e3,s3⟩:=HS2.out.mine (Tr.only_x (Only.refl _ wc) 16 (.slice A2 l.length (cw-1))) h3 (fun k hk=>.inl (hro k hk))
  have HS3:=hid s3
  have HE3:=hid (HE2.out.trans e3)
  clear hT hT2 hk2 hro h3 e3 s3 hA2 p16 ff
  generalize paint wc.heap.size κ 8=κ3 at *
  generalize wc.setCell ⟨xb,16,none⟩ (.slice A2 l.length (cw-1))=w3 at *
  go_wp2_with fail
  refine (index_none _).mono ?_
  rintro e w4 ⟨rfl,rfl⟩
  have p17:=HS3.out.tr.p17
  have ff:=HS3.out.tr.fz
  go_upto_region 12 with fail
  have h4:=HS3.out.tr.put 17 (.int .i64 0) { t with wv:=.slice A2 l.length (cw-1),words:=l,next:=0 } (fun n=>⟨n,rfl⟩) ⟨rfl,rfl,rfl,rfl⟩
  obtain ⟨e4,s4⟩:=HS3.out.mine (Tr.only_x (Only.refl _ w3) 17 (.int .i64 0)) h4 (fun k hk=>.inl hk)
  have HS4:=hid s4
  have HE4:=hid (HE3.out.trans e4)
  clear h4 e4 s4 p17 ff
  generalize paint w3.heap.size κ3 8=κ4 at *
  generalize w3.setCell ⟨xb,17,none⟩ (.int .i64 0)=w4 at *
  go_wp2_with fail
  go_step3
  refine Hop_goto ((congrArg (fun d=>findLabel d 3) HC.out).trans rfl) ?_
  clear HC
  go_wp2_with fail
  refine (Tr.goes_end w4 HS4.out.tr HL.out HB.out).mono ?_
  rintro e w5 ⟨rfl,hp5⟩
  obtain ⟨e5,s5⟩:=HS4.out.mine (hp5.mono (T:=fun k=>k=xb) (fun _ _ f=>f.elim)) (HS4.out.tr.pure hp5) (fun k hk=>.inl hk)
  have HS5:=hid s5
  have HE5:=hid (HE4.out.trans e5)
  clear e5 s5 hp5
  have p11:=HS5.out.tr.p11
  have ff:=HS5.out.tr.fz
  go_upto_region 28 with fail
  have h6:=HS5.out.tr.put 11 (.int .i64 9) { t with wv:=.slice A2 l.length (cw-1),words:=l,next:=0,pc:=9 } (fun n=>⟨n,rfl⟩) ⟨rfl,rfl,rfl,rfl⟩
  obtain ⟨e6,s6⟩:=HS5.out.mine (Tr.only_x (Only.refl _ w5) 11 (.int .i64 9)) h6 (fun k hk=>.inl hk)
  have HS6:=hid s6
  have HE6:=hid (HE5.out.trans e6)
  clear h6 e6 s6 p11 ff
  go_wp2_with fail
  simp only [Hop_ret]
  go_ret
  exact ⟨rfl,_,_,_,HE6.out,HS6.out,rfl,_,rfl⟩
end
end Go.Proofs.YtpgdiceeimehiaaGreat
namespace Go.Proofs.YtpgdiceeimehiaaGreat.Law
open Go.RowKit
open Ac (Vl OpD CT zeroVl opV)
open Opn (SgOk Made kn)
section
variable {w:World} {K:Cor.Q} {κ:Nat→Nat} {m m':Cor.St} {b:Ac.B} {s s':Ac.St} {yb hb lg:Nat} {y:Cyc.St} {o:Option Tr.St} {L:List OpD} {q T n:Nat} {l:List Nat} {nx:Nat→Option Nat} {g:Option Nat} {u:Nat→Bool} {bl:Bool} {p k:Nat} {pol:Bool} {e:Ln.En}
theorem Hs.post (h:Hs m s true) {st:Int} (h0:0≤st) (h4:st≤4) (h1:m'.st=st) (h2:m'.stats=m.stats):Hs m' s false :=
 ⟨h2.trans h.stats,h.s0,by rw [h1];exact ⟨h0,h4⟩,by
  rcases h.pc with h5 | h5 | ⟨_,_,h5⟩
  ·exact .inl h5
  ·exact .inr (.inl h5)
  ·exact absurd (h.pol rfl) h5,fun e=>by cases e⟩
theorem Hs.yes (h:Hs m s pol) (e:s.status=m.st):Hs m s true:=⟨h.stats,h.s0,h.m0,h.pc,fun _=>e⟩
theorem Hs.of (h:Hs m s pol) (h1:m'.st=m.st) (h2:m'.stats=m.stats):Hs m' s pol:=⟨h2.trans h.stats,h.s0,by rw [h1];exact h.m0,by rw [h1];exact h.pc,by rw [h1];exact h.pol⟩
theorem Hs.poll (h:Hs m s pol):m.stats[0]?=some s.status:=by rw [h.stats];rfl
theorem Hs.eq (h:Hs m s pol):(s.status == -1 || s.status == m.st)=decide (s.status=m.st):=by
 have:=h.s0
 have h1:(s.status == -1)=false:=by simp;omega
 rw [h1,Bool.false_or]
 by_cases e:s.status=m.st <;> simp [e]
theorem Wc.to {bl':Bool} {pol':Bool} {p':Nat} {u':Nat→Bool} {e':Ln.En} (h:Wc L q l nx g u bl p pol e m s) (h2:m'.words=m.words) (hcm:Cm m' (tM u' bl' (l.take p'))) (hu:∀ i∈l,u' i=true) (hen:m'.s.en=[e']) (he:e'.thread=0∧e'.frags=6∧e'.spine=0∧e'.state=0) (hs:Hs m' s pol'):Wc L q l nx g u' bl' p' pol' e' m' s :=
 ⟨h.tb.like (h.tb.al.same h2 (fun i hi=>by
  rw [hcm.get (h.tb.al.lt i hi)]
  unfold tM
  rw [if_pos (hu i hi)]
  exact ⟨_,rfl⟩)) rfl rfl,h.pos,hcm,hu,hen,he,h.ph,hs⟩
theorem Wc.keep {pol':Bool} (h:Wc L q l nx g u bl p pol e m s) (h1:m'.s=m.s) (h2:m'.words=m.words) (h3:m'.lost=m.lost) (hs:Hs m' s pol'):Wc L q l nx g u bl p pol' e m' s :=
 h.to h2 (h.cm.same h1 h3) h.up (by rw [h1];exact h.en) h.e0 hs
theorem C1.yy (h:C1 q l y u bl k e) {y':Cyc.St} (h1:y'.started=y.started) (h2:y'.finished=y.finished) (h3:y'.sense=y.sense):C1 q l y' u bl k e:=⟨h.k01,by rw [h1,h2];exact h.n,h.ec,h.en,by rw [h3];exact h.b⟩
theorem C0.yy (h:C0 q l y u bl k e) {y':Cyc.St} (h1:y'.started=y.started) (h2:y'.finished=y.finished) (h3:y'.sense=y.sense):C0 q l y' u bl k e:=⟨h.k01,by rw [h1,h2];exact h.n,h.ec,by rw [h3];exact h.b⟩
theorem K01.le (h:K01 q l u k):k≤1:=by rcases h with h | ⟨h,-⟩ <;> omega
theorem tM_le (u:Nat→Bool) (b:Bool) (P:List Nat) (i:Nat):(tM u b P i).st≤2:=by
 unfold tM
 split
 ·show 2≤2;omega
 ·show 0≤2;omega
theorem Wc.mark {z:Nat} (h:Wc L q l nx g u bl p pol e m s) (hz:l[p]?=some z) (h2:m'.words=m.words) (hl:m'.s.l=m.s.l.set z { tM u bl (l.take p) z with sense:=bl }) (hf:m'.s.fr=m.s.fr) (h1:m'.lost=m.lost) (h3:m'.s.u=m.s.u) (h4:m'.s.kept=m.s.kept) (h5:m'.s.sx=m.s.sx) (h6:m'.s.forced=m.s.forced) (h7:m'.s.en=m.s.en) (hs:Hs m' s pol):Wc L q l nx g u bl (p+1) pol e m' s:=by
 have hzl:=List.mem_of_getElem? hz
 have hu:=h.up z hzl
 have hzt:tM u bl (l.take p) z=⟨2,true,if z∈l.take p then bl else !bl⟩:=by unfold tM;rw [if_pos hu]
 refine h.to h2 ⟨?_,?_,h1.trans h.cm.lost,by rw [h3];exact h.cm.u,h4.trans h.cm.kept,h5.trans h.cm.sx,h6.trans h.cm.forced,tM_le _ _ _⟩ h.up (h7.trans h.en) h.e0 hs
 ·rw [hl,h.cm.l,tb_set]
  refine tb_ext (fun j hj=>?_)
  have htk:l.take (p+1)=l.take p++[z]:=by rw [List.take_add_one,hz];rfl
  by_cases ej:j=z
  ·rw [ej,up_me,hzt]
   unfold tM
   rw [if_pos hu,htk,if_pos (show z∈l.take p++[z] by simp)]
  ·rw [up_ne ej]
   unfold tM
   rw [htk]
   have:(j∈l.take p++[z]) ↔ j∈l.take p:=by simp [ej]
   by_cases e5:j∈l.take p
   ·rw [if_pos e5,if_pos (this.2 e5)]
   ·rw [if_neg e5,if_neg (fun x=>e5 (this.1 x))]
 ·rw [hf,h.cm.fr]
  refine tb_ext (fun j _=>?_)
  unfold tM
  split <;> rfl
theorem take_not {z:Nat} (hn:l.Nodup) (hz:l[p]?=some z):z ∉ l.take p:=by
 intro hm
 obtain ⟨i,hi,hx⟩:=List.mem_iff_getElem.1 hm
 rw [List.getElem_take] at hx
 have hi2:i<p:=by rw [List.length_take] at hi;omega
 obtain ⟨hp,hz2⟩:=List.getElem?_eq_some_iff.1 hz
 have:=(List.getElem_inj (h₀:=by omega) (h₁:=hp) hn).1 (hx.trans hz2.symm)
 omega
theorem Wc.white {z:Nat} (h:Wc L q l nx g u bl p pol e m s) (hz:l[p]?=some z):m.s.l[z]?=some (tM u bl (l.take p) z)∧Sd.white (tM u bl (l.take p) z) bl=true∧(tM u bl (l.take p) z).st=2:=by
 have hzl:=List.mem_of_getElem? hz
 have hu:=h.up z hzl
 have hzt:tM u bl (l.take p) z=⟨2,true,!bl⟩:=by unfold tM;rw [if_pos hu,if_neg (take_not h.tb.nd hz)]
 refine ⟨h.cm.get (h.tb.al.lt z hzl),?_,by rw [hzt]⟩
 rw [hzt]
 cases bl <;> rfl
theorem Wc.first (h:Wc L q l nx g u bl p pol e m s):∃ z,l[0]?=some z∧g=some z∧z<44:=by
 have hc:=h.tb.ch
 have hl:=h.tb.len
 have hp:=h.pos
 cases hll:l with
 | nil=>rw [hll] at hl;simp at hl;omega
 | cons z l' =>
  have h44:=h.tb.al.lt z (by rw [hll];simp)
  rw [hll] at hc
  generalize g=gg at hc
  cases hc with
  | cons _=>exact ⟨z,by simp,rfl,h44⟩
theorem ch_last {x:Nat} (h:Ch nx g l) (hx:l[k]?=some x) (hk:l.length≤k+1):nx x=none:=by
 have h1:=h.drop hx
 obtain ⟨hlt,ek⟩:=List.getElem?_eq_some_iff.1 hx
 rw [List.drop_eq_getElem_cons hlt,ek] at h1
 have h2:=h1.uncons
 rw [List.drop_eq_nil_of_le (by omega)] at h2
 generalize nx x=z at h2
 cases h2
 rfl
abbrev CStep (L:List OpD) (q T:Nat) (K:Cor.Q) (b:Ac.B) (hb lg yb:Nat) (w:World) (κ:Nat→Nat):Prop:=Calls Tryz.prog 10 #[.pointer (some ⟨hb,0,none⟩),.int .i64 0] w (StepOk L q (T+1) K b hb lg yb w κ 0)
theorem c_idle (hK:Kok K) (h:Mt w c0 K κ m b s yb y hb lg o) (ho:OwnOk s T) (hw:Wc L q l nx g u bl p pol e m s)
  (hst:y.stage=0) (hc:C0 q l y u bl k e) (hp:p=0) (hx:m.xs=[]) (hs:m.st=0) (hl:pol=true):CStep L q T K b hb lg yb w κ:=by
 refine go_0n hK h ho (fun w1 κ1 hy=>cstep_idle_yes w1 hy hst ?_) ?_
 ·rw [hw.en]
  have:Ln.isW e=true:=by simp [Ln.isW,hw.e0.2.2.2]
  simp [this]
 ·rintro w' κ' m' y' ⟨rfl,rfl⟩
  exact .wait l nx g u bl p k pol e hw (.start0 rfl rfl (hc.yy rfl rfl rfl) hp hx hs hl)
theorem c_start0 (hK:Kok K) (h:Mt w c0 K κ m b s yb y hb lg o) (ho:OwnOk s T) (hw:Wc L q l nx g u bl p pol e m s)
  (hst:y.stage=1) (h2:y.at_=0) (hc:C0 q l y u bl k e) (hp:p=0) (hx:m.xs=[]) (hs:m.st=0) (hl:pol=true):CStep L q T K b hb lg yb w κ:=by
 refine go_0n hK h ho (fun w1 κ1 hy=>cstep_starts _ w1 hy hst (fun w2 _ hy2=>starts_begin w2 hy2 h2)) ?_
 rintro w' κ' m' y' ⟨rfl,rfl⟩
 have hi:Ln.isW e=true:=by simp [Ln.isW,hw.e0.2.2.2]
 have hcm:=hw.cm
 exact .wait l nx g u bl p k pol (Ln.note e) (hw.to rfl ⟨hcm.l,hcm.fr,hcm.lost,hcm.u,hcm.kept,hcm.sx,rfl,hcm.st2⟩ hw.up (by show m.s.en.map Ln.note=_;rw [hw.en];rfl) hw.e0 (hw.hs.of rfl rfl)) (.start2 hst rfl ⟨hc.k01,hc.n,hc.ec,hc.b⟩ hi hp hx hs hl)
theorem c_start2 (hK:Kok K) (h:Mt w c0 K κ m b s yb y hb lg o) (ho:OwnOk s T) (hw:Wc L q l nx g u bl p pol e m s)
  (hst:y.stage=1) (h2:y.at_=2) (hc:C0 q l y u bl k e) (hn:e.noted=true) (hp:p=0) (hx:m.xs=[]) (hl:pol=true):CStep L q T K b hb lg yb w κ:=by
 have hk:=hc.k01.le
 have hcn:=hc.n
 subst hl
 refine go_0n hK h ho (fun w1 κ1 hy=>cstep_starts _ w1 hy hst (fun w2 _ hy2=>starts_post w2 hy2 h2 (by omega))) ?_
 rintro w' κ' m' y' ⟨rfl,rfl⟩
 exact .wait l nx g u bl p k false e (hw.keep rfl rfl rfl (hw.hs.post (st:=1) (by omega) (by omega) rfl rfl)) (.first0 rfl rfl rfl ⟨hc.k01,⟨by show y.started+1=_;omega,hcn.2⟩,hc.ec,hn,hc.b⟩ hp hx rfl)
theorem c_first0 (hK:Kok K) (h:Mt w c0 K κ m b s yb y hb lg o) (ho:OwnOk s T) (hw:Wc L q l nx g u bl p pol e m s)
  (hst:y.stage=2) (h2:y.at_=0) (hi:y.i=0) (hc:C1 q l y u bl k e) (hp:p=0) (hx:m.xs=[]) (hs:m.st=1):CStep L q T K b hb lg yb w κ:=by
 by_cases hd:s.status=m.st
 ·refine go_0n hK h ho (fun w1 κ1 hy=>cstep_first _ w1 hy hst (fun w2 _ hy2=>hands_yes 2 3 w2 hy2 h2 s.status hi rfl hw.hs.poll (by rw [hw.hs.eq,decide_eq_true hd]))) ?_
  rintro w' κ' m' y' ⟨rfl,rfl⟩
  exact .wait l nx g u bl p k true e (hw.keep rfl rfl rfl (hw.hs.yes hd)) (.first2 hst rfl (hc.yy rfl rfl rfl) hp hx hs rfl)
 ·refine go_0n hK h ho (fun w1 κ1 hy=>cstep_first _ w1 hy hst (fun w2 _ hy2=>hands_no 2 3 w2 hy2 h2 s.status hi rfl hw.hs.poll (by rw [hw.hs.eq,decide_eq_false hd]))) ?_
  rintro w' κ' m' y' ⟨rfl,rfl⟩
  exact .wait l nx g u bl p k pol e hw (.first0 hst h2 hi hc hp hx hs)
theorem c_first2 (hK:Kok K) (h:Mt w c0 K κ m b s yb y hb lg o) (ho:OwnOk s T) (hw:Wc L q l nx g u bl p pol e m s)
  (hst:y.stage=2) (h2:y.at_=2) (hc:C1 q l y u bl k e) (hp:p=0) (hx:m.xs=[]) (hl:pol=true):CStep L q T K b hb lg yb w κ:=by
 subst hl
 refine go_0n hK h ho (fun w1 κ1 hy=>cstep_first _ w1 hy hst (fun w2 _ hy2=>hands_post 2 3 w2 hy2 h2 (by omega) (by omega))) ?_
 rintro w' κ' m' y' ⟨rfl,rfl⟩
 exact .wait l nx g u bl p k false e (hw.keep rfl rfl rfl (hw.hs.post (st:=2) (by omega) (by omega) rfl rfl)) (.both0 rfl rfl rfl (hc.yy rfl rfl rfl) hp hx rfl)
theorem c_both0 (hK:Kok K) (h:Mt w c0 K κ m b s yb y hb lg o) (ho:OwnOk s T) (hw:Wc L q l nx g u bl p pol e m s)
  (hst:y.stage=3) (h2:y.at_=0) (hi:y.i=0) (hc:C1 q l y u bl k e) (hp:p=0) (hx:m.xs=[]) (hs:m.st=2):CStep L q T K b hb lg yb w κ:=by
 by_cases hd:s.status=m.st
 ·refine go_0n hK h ho (fun w1 κ1 hy=>cstep_both _ w1 hy hst (fun w2 _ hy2=>hands_yes 3 4 w2 hy2 h2 s.status hi rfl hw.hs.poll (by rw [hw.hs.eq,decide_eq_true hd]))) ?_
  rintro w' κ' m' y' ⟨rfl,rfl⟩
  exact .wait l nx g u bl p k true e (hw.keep rfl rfl rfl (hw.hs.yes hd)) (.both2 hst rfl (hc.yy rfl rfl rfl) hp hx hs rfl)
 ·refine go_0n hK h ho (fun w1 κ1 hy=>cstep_both _ w1 hy hst (fun w2 _ hy2=>hands_no 3 4 w2 hy2 h2 s.status hi rfl hw.hs.poll (by rw [hw.hs.eq,decide_eq_false hd]))) ?_
  rintro w' κ' m' y' ⟨rfl,rfl⟩
  exact .wait l nx g u bl p k pol e hw (.both0 hst h2 hi hc hp hx hs)
theorem c_both2 (hK:Kok K) (h:Mt w c0 K κ m b s yb y hb lg o) (ho:OwnOk s T) (hw:Wc L q l nx g u bl p pol e m s)
  (hst:y.stage=3) (h2:y.at_=2) (hc:C1 q l y u bl k e) (hp:p=0) (hx:m.xs=[]) (hl:pol=true):CStep L q T K b hb lg yb w κ:=by
 subst hl
 refine go_0n hK h ho (fun w1 κ1 hy=>cstep_both _ w1 hy hst (fun w2 _ hy2=>hands_post 3 4 w2 hy2 h2 (by omega) (by omega))) ?_
 rintro w' κ' m' y' ⟨rfl,rfl⟩
 exact .wait l nx g u bl p k false e (hw.keep rfl rfl rfl (hw.hs.post (st:=3) (by omega) (by omega) rfl rfl)) (.roots0 rfl rfl rfl (hc.yy rfl rfl rfl) hp hx rfl)
theorem c_roots0 (hK:Kok K) (h:Mt w c0 K κ m b s yb y hb lg o) (ho:OwnOk s T) (hw:Wc L q l nx g u bl p pol e m s)
  (hst:y.stage=4) (h2:y.at_=0) (hi:y.i=0) (hc:C1 q l y u bl k e) (hp:p=0) (hx:m.xs=[]) (hs:m.st=3):CStep L q T K b hb lg yb w κ:=by
 obtain ⟨z,hz,hg,hz44⟩:=hw.first
 refine go_0n hK h ho (fun w1 κ1 hy=>cstep_roots _ w1 hy hst (fun w2 _ hy2=>roots_read z 352 w2 hy2 h2 hi rfl (by decide) (by rw [hw.tb.al.gw,hg];rfl) (by omega))) ?_
 rintro w' κ' m' y' ⟨rfl,rfl⟩
 exact .wait l nx g u bl p k pol e hw (.rootsG z hst rfl hi hz rfl (hc.yy rfl rfl rfl) hp hx hs)
theorem c_rootsG {z:Nat} (hK:Kok K) (h:Mt w c0 K κ m b s yb y hb lg o) (ho:OwnOk s T) (hw:Wc L q l nx g u bl p pol e m s)
  (hst:y.stage=4) (h2:y.at_=3) (hi:y.i=0) (hz:l[0]?=some z) (hh:y.head=(z:Int)) (hc:C1 q l y u bl k e) (hp:p=0) (hx:m.xs=[]) (hs:m.st=3):CStep L q T K b hb lg yb w κ:=by
 subst hp
 obtain ⟨w1',w2',w3'⟩:=hw.white hz
 have hb:=hc.b
 refine go_0n hK h ho (fun w1 κ1 hy=>cstep_roots _ w1 hy hst (fun w2 _ hy2=>roots_grey z _ w2 hy2 h2 hi hh w1' (by rw [← hb];exact w2') w3' (by rw [hx,hK.most];decide))) ?_
 rintro w' κ' m' y' ⟨⟨pv',rfl⟩,rfl⟩
 exact .wait l nx g u bl 1 k pol e (hw.mark hz rfl (by show m.s.l.set z _=_;rw [← hb]) rfl rfl rfl rfl rfl rfl rfl (hw.hs.of rfl rfl)) (.rootsP z hst (.inl ⟨rfl,rfl⟩) hz (hc.yy rfl rfl rfl) rfl (by show m.xs++[(z:Int)]=_;rw [hx];rfl) hs)
theorem c_rootsP {z:Nat} (hK:Kok K) (h:Mt w c0 K κ m b s yb y hb lg o) (ho:OwnOk s T) (hw:Wc L q l nx g u bl p pol e m s)
  (hst:y.stage=4) (h2:(y.at_=0∧y.i=1)∨(y.at_=1∧y.i=0)) (hz:l[0]?=some z) (hc:C1 q l y u bl k e) (hp:p=1) (hx:m.xs=[(z:Int)]) (hs:m.st=3):CStep L q T K b hb lg yb w κ:=by
 by_cases hd:s.status=m.st
 ·rcases h2 with ⟨h2,hi⟩ | ⟨h2,hi⟩
  ·refine go_0n hK h ho (fun w1 κ1 hy=>cstep_roots _ w1 hy hst (fun w2 _ hy2=>roots_poll0_yes s.status w2 hy2 h2 hi rfl rfl hw.hs.poll (by rw [hw.hs.eq,decide_eq_true hd]))) ?_
   rintro w' κ' m' y' ⟨rfl,rfl⟩
   exact .wait l nx g u bl p k true e (hw.keep rfl rfl rfl (hw.hs.yes hd)) (.mark1 z rfl rfl (hc.yy rfl rfl rfl) (by omega) (by rw [hp];exact hz) hx hs rfl)
  ·refine go_0n hK h ho (fun w1 κ1 hy=>cstep_roots _ w1 hy hst (fun w2 _ hy2=>roots_poll1_yes s.status w2 hy2 h2 hi rfl rfl hw.hs.poll (by rw [hw.hs.eq,decide_eq_true hd]))) ?_
   rintro w' κ' m' y' ⟨rfl,rfl⟩
   exact .wait l nx g u bl p k true e (hw.keep rfl rfl rfl (hw.hs.yes hd)) (.mark1 z rfl rfl (hc.yy rfl rfl rfl) (by omega) (by rw [hp];exact hz) hx hs rfl)
 ·rcases h2 with ⟨h2,hi⟩ | ⟨h2,hi⟩
  ·refine go_0n hK h ho (fun w1 κ1 hy=>cstep_roots _ w1 hy hst (fun w2 _ hy2=>roots_poll0_no s.status w2 hy2 h2 hi rfl rfl hw.hs.poll (by rw [hw.hs.eq,decide_eq_false hd]))) ?_
   rintro w' κ' m' y' ⟨rfl,rfl⟩
   exact .wait l nx g u bl p k pol e hw (.rootsP z hst (.inr ⟨rfl,rfl⟩) hz (hc.yy rfl rfl rfl) hp hx hs)
  ·refine go_0n hK h ho (fun w1 κ1 hy=>cstep_roots _ w1 hy hst (fun w2 _ hy2=>roots_poll1_no s.status w2 hy2 h2 hi rfl rfl hw.hs.poll (by rw [hw.hs.eq,decide_eq_false hd]))) ?_
   rintro w' κ' m' y' ⟨rfl,rfl⟩
   exact .wait l nx g u bl p k pol e hw (.rootsP z hst (.inr ⟨rfl,rfl⟩) hz (hc.yy rfl rfl rfl) hp hx hs)
theorem c_mark0 (hK:Kok K) (h:Mt w c0 K κ m b s yb y hb lg o) (ho:OwnOk s T) (hw:Wc L q l nx g u bl p pol e m s)
  (hst:y.stage=5) (h2:y.at_=0) (hc:C1 q l y u bl k e) (hp:p=q) (hx:m.xs=[]) (hs:m.st=3) (hl:pol=true):CStep L q T K b hb lg yb w κ:=by
 refine go_0n hK h ho (fun w1 κ1 hy=>cstep_marks _ w1 hy hst (fun w2 _ hy2=>marks_none w2 hy2 h2 hx)) ?_
 rintro w' κ' m' y' ⟨rfl,rfl⟩
 exact .wait l nx g u bl p k pol e hw (.lost hst rfl (hc.yy rfl rfl rfl) hp hx hs hl)
theorem c_lost (hK:Kok K) (h:Mt w c0 K κ m b s yb y hb lg o) (ho:OwnOk s T) (hw:Wc L q l nx g u bl p pol e m s)
  (hst:y.stage=5) (h2:y.at_=5) (hc:C1 q l y u bl k e) (hp:p=q) (hx:m.xs=[]) (hs:m.st=3) (hl:pol=true):CStep L q T K b hb lg yb w κ:=by
 refine go_0n hK h ho (fun w1 κ1 hy=>cstep_marks _ w1 hy hst (fun w2 _ hy2=>marks_lost w2 hy2 h2 hw.cm.lost)) ?_
 rintro w' κ' m' y' ⟨rfl,rfl⟩
 exact .wait l nx g u bl p k pol e (hw.keep rfl rfl hw.cm.lost.symm (hw.hs.of rfl rfl)) (.turn0 rfl rfl rfl (hc.yy rfl rfl rfl) hp hx hs hl)
theorem c_mark1 {z:Nat} (hK:Kok K) (h:Mt w c0 K κ m b s yb y hb lg o) (ho:OwnOk s T) (hw:Wc L q l nx g u bl p pol e m s)
  (hst:y.stage=5) (h2:y.at_=0) (hc:C1 q l y u bl k e) (hp:1≤p) (hz:l[p-1]?=some z) (hx:m.xs=[(z:Int)]) (hs:m.st=3) (hl:pol=true):CStep L q T K b hb lg yb w κ:=by
 refine go_0 hK h ho (fun w1 κ1 hy _=>(cstep_marks _ w1 hy hst (fun w2 _ hy2=>marks_next [] z w2 hy2 h2 (by rw [hx];rfl) hK.few)).mono ?_)
 rintro r w' ⟨hr,κ',m',y',he,hy',⟨pv',rfl⟩,xb,v,sh,rfl,ht,hal⟩
 exact ⟨hr,κ',_,_,he,hy',some _,fun t et=>by injection et with et;subst et;exact ⟨xb,v,sh,rfl,Trx.of ht,hal⟩,.wait l nx g u bl p k pol e (hw.keep rfl rfl rfl (hw.hs.of rfl rfl)) (.tr0 _ hst rfl (hc.yy rfl rfl rfl) hp rfl hs hl rfl hz rfl rfl)⟩
theorem go_tr {t:Tr.St} (hK:Kok K) (h:Mt w c0 K κ m b s yb y hb lg o) (ho:OwnOk s T) (hst:y.stage=5) (h2:y.at_=4) (hot:o=some t) (d:Bool) (Q:Cor.St→Tr.St→Prop)
  (hc:∀ (xb:Nat) (v:Value) (sh:List Sh) w1 κ1,alike K.csh sh→Trc w1 c0 K κ1 m b s xb v sh t→Calls Tryz.prog 155 #[.pointer (some ⟨xb,0,none⟩),.pointer (some ⟨K.mb,0,none⟩),.pointer (some ⟨K.sb,0,none⟩)] w1 (TAns w1 c0 K κ1 b s xb v sh d Q))
  (hq:∀ m' t',Q m' t'→Sx L q m' s (if d=true then { y with at_:=0 } else y) (some t')):CStep L q T K b hb lg yb w κ:=by
 refine go_0 hK h ho (fun w1 κ1 hy ht=>?_)
 obtain ⟨xb,v,sh,hptr,hx,hal⟩:=ht t hot
 cases d with
 | true =>
  refine (cstep_marks _ w1 hy hst (fun w2 he2 hy2=>marks_trace_true xb v sh t Q w2 hy2 h2 ((hx.ext he2 (fun x hx=>by omega)).to hy2.sys) hptr (fun w3 ht3=>hc xb v sh w3 κ1 hal ht3))).mono ?_
  rintro r w' ⟨hr,κ',m',y',he,hy',rfl,t',ht',hq'⟩
  exact ⟨hr,κ',m',_,he,hy',some t',fun t et=>by injection et with et;subst et;exact ⟨xb,v,sh,hptr,Trx.of ht',hal⟩,hq m' t' hq'⟩
 | false =>
  refine (cstep_marks _ w1 hy hst (fun w2 he2 hy2=>marks_trace_false xb v sh t Q w2 hy2 h2 ((hx.ext he2 (fun x hx=>by omega)).to hy2.sys) hptr (fun w3 ht3=>hc xb v sh w3 κ1 hal ht3))).mono ?_
  rintro r w' ⟨hr,κ',m',y',he,hy',rfl,t',ht',hq'⟩
  exact ⟨hr,κ',m',_,he,hy',some t',fun t et=>by injection et with et;subst et;exact ⟨xb,v,sh,hptr,Trx.of ht',hal⟩,hq m' t' hq'⟩
theorem bs2_all (j:Nat) (c:Bool) (h:bs2[j]?=some c):c=true:=by
 rcases j with _ | _ | j
 ·simp [bs2] at h;exact h
 ·simp [bs2] at h;exact h
 ·simp [bs2] at h
theorem c_tr0 {t:Tr.St} (hK:Kok K) (h:Mt w c0 K κ m b s yb y hb lg o) (ho:OwnOk s T) (hw:Wc L q l nx g u bl p pol e m s)
  (hst:y.stage=5) (h2:y.at_=4) (hc:C1 q l y u bl k e) (hp:1≤p) (hx:m.xs=[]) (hs:m.st=3) (hl:pol=true) (hot:o=some t) (hth:l[p-1]?=some t.head) (hs2:t.sense=y.sense) (hpc:t.pc=0):CStep L q T K b hb lg yb w κ:=by
 obtain ⟨sv,hsv⟩:=hK.s2
 have hm:=List.mem_of_getElem? hth
 have h44:=hw.tb.al.lt _ hm
 refine go_tr hK h ho hst h2 hot false (fun m' t'=>m'=m∧∃ rv' wv',t'={ t with pc:=1,rv:=rv',bs:=bs2,wv:=wv',words:=Tr.wl (1+1) }) (fun xb v sh w1 κ1 hal ht=>?_) ?_
 ·obtain ⟨t0,ht0,hta,htb⟩:=Vw.alike_get hal hsv
  refine tstep false _ w1 ht (.inl hpc) (fun w2 ht2=>(does_first 0 1 1 t0 w2 ht2 hpc (by show (t.head:Int)<44;omega) (hw.tb.al.obj _ hm).w1 ht0 hta (by omega) (by omega) (by rw [htb];rfl) (by omega) (fun j c hj=>bs2_all j c (by rw [htb] at hj;exact hj))).mono ?_) ?_
  ·rintro r w' ⟨hr,κ',m',t',he,ht',rfl,rv',wv',rfl⟩
   exact ⟨hr,κ',_,_,he,ht',rfl,rv',wv',by rw [htb]⟩
  ·rintro m' t' ⟨rfl,rv',wv',rfl⟩
   rfl
 ·rintro m' t' ⟨rfl,rv',wv',rfl⟩
  exact .wait l nx g u bl p k pol e hw (.tr1 _ hst h2 hc hp hx hs hl rfl hth hs2 rfl rfl rfl)
theorem c_tr1 {t:Tr.St} (hK:Kok K) (h:Mt w c0 K κ m b s yb y hb lg o) (ho:OwnOk s T) (hw:Wc L q l nx g u bl p pol e m s)
  (hst:y.stage=5) (h2:y.at_=4) (hc:C1 q l y u bl k e) (hp:1≤p) (hx:m.xs=[]) (hs:m.st=3) (hl:pol=true) (hot:o=some t) (hth:l[p-1]?=some t.head) (hs2:t.sense=y.sense) (hpc:t.pc=1) (hwd:t.words=[2,3]) (hbs:t.bs=bs2):CStep L q T K b hb lg yb w κ:=by
 have hm:=List.mem_of_getElem? hth
 have h44:=hw.tb.al.lt _ hm
 have hlen:=hw.tb.len
 have hlt:=(List.getElem?_eq_some_iff.1 hth).1
 have hw2:=(hw.tb.al.obj _ hm).w2
 cases hz:l[p]? with
 | some z =>
  have hnx:nx t.head=some z:=hw.tb.ch.link hth (by rw [show p-1+1=p from by omega];exact hz)
  have hz44:=hw.tb.al.lt z (List.mem_of_getElem? hz)
  rw [hnx] at hw2
  refine go_tr hK h ho hst h2 hot false (fun m' t'=>m'=m∧∃ wv',t'={ t with pc:=2,next:=z,wv:=wv',words:=[3] }) (fun xb v sh w1 κ1 hal ht=>?_) ?_
  ·exact tstep false _ w1 ht (.inr (.inl hpc)) (fun w2 ht2=>does_walks true _ w2 ht2 (.inl hpc) (walks_ref 2 [3] z w2 ht2 hpc hwd (by omega) (by show (t.head:Int)<44;omega) hw2 (by omega))) (by rintro m' t' ⟨rfl,wv',rfl⟩;rfl)
  ·rintro m' t' ⟨rfl,wv',rfl⟩
   exact .wait l nx g u bl p k pol e hw (.tr2 _ hst h2 hc hp hx hs hl rfl hth hs2 rfl rfl hbs hz)
 | none =>
  have hpl:l.length≤p:=by simpa using hz
  have hnx:nx t.head=none:=ch_last hw.tb.ch hth (by omega)
  rw [hnx] at hw2
  refine go_tr hK h ho hst h2 hot false (fun m' t'=>m'=m∧∃ wv',t'={ t with pc:=1,next:=0,wv:=wv',words:=[3] }) (fun xb v sh w1 κ1 hal ht=>?_) ?_
  ·exact tstep false _ w1 ht (.inr (.inl hpc)) (fun w2 ht2=>does_walks true _ w2 ht2 (.inl hpc) (walks_none 2 [3] 3 [] w2 ht2 hpc hwd (by omega) (by show (t.head:Int)<44;omega) hw2 rfl)) (by rintro m' t' ⟨rfl,wv',rfl⟩;rfl)
  ·rintro m' t' ⟨rfl,wv',rfl⟩
   exact .wait l nx g u bl p k pol e hw (.tr3 _ hst h2 hc (.inl ⟨by omega,hx⟩) hs hl rfl hm rfl rfl hbs)
theorem c_tr2 {t:Tr.St} (hK:Kok K) (h:Mt w c0 K κ m b s yb y hb lg o) (ho:OwnOk s T) (hw:Wc L q l nx g u bl p pol e m s)
  (hst:y.stage=5) (h2:y.at_=4) (hc:C1 q l y u bl k e) (hp:1≤p) (hx:m.xs=[]) (hs:m.st=3) (hl:pol=true) (hot:o=some t) (hth:l[p-1]?=some t.head) (hs2:t.sense=y.sense) (hpc:t.pc=2) (hwd:t.words=[3]) (hbs:t.bs=bs2) (hz:l[p]?=some t.next):CStep L q T K b hb lg yb w κ:=by
 have hm:=List.mem_of_getElem? hth
 obtain ⟨w1',w2',w3'⟩:=hw.white hz
 have hb:=hc.b
 have hb2:t.sense=bl:=hs2.trans hb.symm
 refine go_tr hK h ho hst h2 hot false (fun m' t'=>(∃ pv',m'={ m with pv:=pv',xs:=m.xs++[(t.next:Int)],s:={ m.s with l:=m.s.l.set t.next { tM u bl (l.take p) t.next with sense:=t.sense } } })∧t'={ t with pc:=1 }) (fun xb v sh w1 κ1 hal ht=>?_) ?_
 ·exact tstep false _ w1 ht (.inr (.inr hpc)) (fun w2 ht2=>does_walks true _ w2 ht2 (.inr hpc) (walks_grey _ 3 [] w2 ht2 hpc hwd w1' (by rw [hb2];exact w2') w3' (by rw [hx,hK.most];decide))) (by rintro m' t' ⟨⟨pv',rfl⟩,rfl⟩;rfl)
 ·rintro m' t' ⟨⟨pv',rfl⟩,rfl⟩
  exact .wait l nx g u bl (p+1) k pol e (hw.mark hz rfl (by show m.s.l.set t.next _=_;rw [hb2]) rfl rfl rfl rfl rfl rfl rfl (hw.hs.of rfl rfl)) (.tr3 _ hst h2 hc (.inr ⟨t.next,by omega,hz,by show m.xs++[(t.next:Int)]=_;rw [hx];rfl⟩) hs hl rfl hm rfl hwd hbs)
theorem c_tr3 {t:Tr.St} (hK:Kok K) (h:Mt w c0 K κ m b s yb y hb lg o) (ho:OwnOk s T) (hw:Wc L q l nx g u bl p pol e m s)
  (hst:y.stage=5) (h2:y.at_=4) (hc:C1 q l y u bl k e) (hx:(p=q∧m.xs=[])∨∃ z:Nat,1≤p∧l[p-1]?=some z∧m.xs=[(z:Int)]) (hs:m.st=3) (hl:pol=true) (hot:o=some t) (hm:t.head∈l) (hpc:t.pc=1) (hwd:t.words=[3]) (hbs:t.bs=bs2):CStep L q T K b hb lg yb w κ:=by
 have h44:=hw.tb.al.lt _ hm
 have hw3:=(hw.tb.al.obj _ hm).w3
 refine go_tr hK h ho hst h2 hot true (fun m' t'=>m'=m∧∃ wv',t'={ t with pc:=9,next:=0,wv:=wv',words:=[] }) (fun xb v sh w1 κ1 hal ht=>?_) ?_
 ·exact tstep true _ w1 ht (.inr (.inl hpc)) (fun w2 ht2=>does_walks true _ w2 ht2 (.inl hpc) (walks_last 3 [] w2 ht2 hpc hwd (by omega) (by show (t.head:Int)<44;omega) hw3 rfl (by rw [hbs];decide))) (by rintro m' t' ⟨rfl,wv',rfl⟩;rfl)
 ·rintro m' t' ⟨rfl,wv',rfl⟩
  rw [if_pos rfl]
  rcases hx with ⟨hp,hx⟩ | ⟨z,hp,hz,hx⟩
  ·exact .wait l nx g u bl p k pol e hw (.mark0 hst rfl (hc.yy rfl rfl rfl) hp hx hs hl)
  ·exact .wait l nx g u bl p k pol e hw (.mark1 z hst rfl (hc.yy rfl rfl rfl) hp hz hx hs hl)
end
end Go.Proofs.YtpgdiceeimehiaaGreat.Law
