/- Part 48 of the proof that spotop.TopOrder returns true for all arguments and leaves what was there as it was. -/
import Derived.Test.YtpgdiceeimehiaaGreatQ47
set_option maxRecDepth 100000
set_option maxHeartbeats 16000000
open Go.Lib (hid)
namespace Go.Proofs.YtpgdiceeimehiaaGreat.Law
open Go.RowKit
open Ac (Vl OpD CT zeroVl opV)
section
variable {w:World} {K:Cor.Q} {κ:Nat→Nat} {m m':Cor.St} {b:Ac.B} {s s':Ac.St} {yb hb lg:Nat} {y:Cyc.St} {o:Option Tr.St} {L:List OpD} {q T n:Nat} {l:List Nat} {nx:Nat→Option Nat} {g:Option Nat} {u:Nat→Bool} {bl:Bool} {p k:Nat} {pol:Bool} {e:Ln.En}
theorem c_turn0 (hK:Kok K) (h:Mt w c0 K κ m b s yb y hb lg o) (ho:OwnOk s T) (hw:Wc L q l nx g u bl p pol e m s)
  (hst:y.stage=6) (h2:y.at_=0) (hi:y.i=0) (hc:C1 q l y u bl k e) (hp:p=q) (hx:m.xs=[]) (hs:m.st=3) (hl:pol=true):CStep L q T K b hb lg yb w κ:=by
 refine go_0n hK h ho (fun w1 κ1 hy=>cstep_turns _ w1 hy hst (fun w2 _ hy2=>turns_turn w2 hy2 h2 (hw.cm.u _))) ?_
 rintro w' κ' m' y' ⟨rfl,rfl⟩
 have hcm:=hw.cm
 exact .wait l nx g u bl p k pol e (hw.to rfl ⟨hcm.l,hcm.fr,hcm.lost,hcm.u,hcm.u _,hcm.sx,hcm.forced,hcm.st2⟩ hw.up hw.en hw.e0 (hw.hs.of rfl rfl)) (.turn2 hst rfl hi (hc.yy rfl rfl rfl) hp hx hs hl)
theorem c_turn2 (hK:Kok K) (h:Mt w c0 K κ m b s yb y hb lg o) (ho:OwnOk s T) (hw:Wc L q l nx g u bl p pol e m s)
  (hst:y.stage=6) (h2:y.at_=2) (hi:y.i=0) (hc:C1 q l y u bl k e) (hp:p=q) (hx:m.xs=[]) (hl:pol=true):CStep L q T K b hb lg yb w κ:=by
 subst hl
 refine go_0n hK h ho (fun w1 κ1 hy=>cstep_turns _ w1 hy hst (fun w2 _ hy2=>turns_post w2 hy2 h2)) ?_
 rintro w' κ' m' y' ⟨rfl,rfl⟩
 exact .wait l nx g u bl p k false e (hw.keep rfl rfl rfl (hw.hs.post (st:=4) (by omega) (by omega) rfl rfl)) (.turn1 hst rfl hi (hc.yy rfl rfl rfl) hp hx rfl)
theorem c_turn1 (hK:Kok K) (h:Mt w c0 K κ m b s yb y hb lg o) (ho:OwnOk s T) (hw:Wc L q l nx g u bl p pol e m s)
  (hst:y.stage=6) (h2:y.at_=1) (hi:y.i=0) (hc:C1 q l y u bl k e) (hp:p=q) (hx:m.xs=[]) (hs:m.st=4):CStep L q T K b hb lg yb w κ:=by
 by_cases hd:s.status=m.st
 ·refine go_0n hK h ho (fun w1 κ1 hy=>cstep_turns _ w1 hy hst (fun w2 _ hy2=>turns_yes w2 hy2 h2 s.status hi rfl hw.hs.poll (by rw [hw.hs.eq,decide_eq_true hd]))) ?_
  rintro w' κ' m' y' ⟨rfl,rfl⟩
  exact .wait l nx g u bl p k true e (hw.keep rfl rfl rfl (hw.hs.yes hd)) (.haul0 rfl rfl rfl (hc.yy rfl rfl rfl) hp hx hs rfl)
 ·refine go_0n hK h ho (fun w1 κ1 hy=>cstep_turns _ w1 hy hst (fun w2 _ hy2=>turns_no w2 hy2 h2 s.status hi rfl hw.hs.poll (by rw [hw.hs.eq,decide_eq_false hd]))) ?_
  rintro w' κ' m' y' ⟨rfl,rfl⟩
  exact .wait l nx g u bl p k pol e hw (.turn1 hst h2 hi hc hp hx hs)
theorem c_haul0 (hK:Kok K) (h:Mt w c0 K κ m b s yb y hb lg o) (ho:OwnOk s T) (hw:Wc L q l nx g u bl p pol e m s)
  (hst:y.stage=7) (h2:y.at_=0) (hh:y.h=.pointer none) (hc:C1 q l y u bl k e) (hp:p=q) (hx:m.xs=[]) (hs:m.st=4) (hl:pol=true):CStep L q T K b hb lg yb w κ:=by
 refine go_0n hK h ho (fun w1 κ1 hy=>cstep_hauls _ w1 hy hst (fun w2 _ hy2=>hauls_do m.s.cur w2 hy2 h2 hh rfl (hw.cm.u _) hK.few)) ?_
 rintro w' κ' m' y' ⟨rfl,hv',rfl⟩
 exact .wait l nx g u bl p k pol e hw (.haul2 hst rfl (hc.yy rfl rfl rfl) hp hx hs hl)
theorem c_haul2 (hK:Kok K) (h:Mt w c0 K κ m b s yb y hb lg o) (ho:OwnOk s T) (hw:Wc L q l nx g u bl p pol e m s)
  (hst:y.stage=7) (h2:y.at_=2) (hc:C1 q l y u bl k e) (hp:p=q) (hx:m.xs=[]) (hl:pol=true):CStep L q T K b hb lg yb w κ:=by
 subst hl
 refine go_0n hK h ho (fun w1 κ1 hy=>cstep_hauls _ w1 hy hst (fun w2 _ hy2=>hauls_post w2 hy2 h2)) ?_
 rintro w' κ' m' y' ⟨rfl,rfl⟩
 exact .wait l nx g u bl p k false e (hw.keep rfl rfl rfl (hw.hs.post (st:=0) (by omega) (by omega) rfl rfl)) (.settle0 rfl rfl rfl (hc.yy rfl rfl rfl) hp hx rfl)
theorem c_settle0 (hK:Kok K) (h:Mt w c0 K κ m b s yb y hb lg o) (ho:OwnOk s T) (hw:Wc L q l nx g u bl p pol e m s)
  (hst:y.stage=8) (h2:y.at_=0) (hi:y.i=0) (hc:C1 q l y u bl k e) (hp:p=q) (hx:m.xs=[]) (hs:m.st=0):CStep L q T K b hb lg yb w κ:=by
 by_cases hd:s.status=m.st
 ·refine go_0n hK h ho (fun w1 κ1 hy=>cstep_settles _ w1 hy hst (fun w2 _ hy2=>settles_yes w2 hy2 h2 s.status hi rfl hw.hs.poll (by rw [hw.hs.eq,decide_eq_true hd]))) ?_
  rintro w' κ' m' y' ⟨rfl,rfl⟩
  exact .wait l nx g u bl p k true e (hw.keep rfl rfl rfl (hw.hs.yes hd)) (.settle7 hst rfl (hc.yy rfl rfl rfl) hp hx hs rfl)
 ·refine go_0n hK h ho (fun w1 κ1 hy=>cstep_settles _ w1 hy hst (fun w2 _ hy2=>settles_no w2 hy2 h2 s.status hi rfl hw.hs.poll (by rw [hw.hs.eq,decide_eq_false hd]))) ?_
  rintro w' κ' m' y' ⟨rfl,rfl⟩
  exact .wait l nx g u bl p k pol e hw (.settle0 hst h2 hi hc hp hx hs)
theorem c_settle7 (hK:Kok K) (h:Mt w c0 K κ m b s yb y hb lg o) (ho:OwnOk s T) (hw:Wc L q l nx g u bl p pol e m s)
  (hst:y.stage=8) (h2:y.at_=7) (hc:C1 q l y u bl k e) (hp:p=q) (hx:m.xs=[]) (hs:m.st=0) (hl:pol=true):CStep L q T K b hb lg yb w κ:=by
 refine go_0n hK h ho (fun w1 κ1 hy=>cstep_settles _ w1 hy hst (fun w2 _ hy2=>settles_done w2 hy2 h2 hw.cm.kept)) ?_
 rintro w' κ' m' y' ⟨rfl,rfl⟩
 have hcm:=hw.cm
 refine .wait l nx g u bl p k pol e (hw.to rfl ⟨hcm.l,hcm.fr,hcm.lost,fun j=>?_,rfl,hcm.sx,hcm.forced,hcm.st2⟩ hw.up hw.en hw.e0 (hw.hs.of rfl rfl)) (.sweep rfl (by show 0<44;omega) (fun i hi=>absurd hi (by show ¬ i<0;omega)) (hc.yy rfl rfl rfl) hp hx hs hl)
 show (if j=1-m.s.cur then 0 else m.s.u j)=0
 split
 ·rfl
 ·exact hcm.u j
theorem K01.sub {u':Nat→Bool} (h:K01 q l u k) (hu:∀ i,u' i=true→u i=true):K01 q l u' k:=by
 rcases h with h | ⟨h1,h2,h3⟩
 ·exact .inl h
 ·exact .inr ⟨h1,fun i hi hu'=>h2 i hi (hu i hu'),h3⟩
theorem take_all (h:l.length≤p):l.take p=l:=List.take_of_length_le h
def upU (u:Nat→Bool) (j:Nat):Nat→Bool:=fun i=>if i=j then false else u i
theorem c_sweep (hK:Kok K) (h:Mt w c0 K κ m b s yb y hb lg o) (ho:OwnOk s T) (hw:Wc L q l nx g u bl p pol e m s)
  (hst:y.stage=9) (hi:y.i<44) (hu:∀ i,i<y.i→u i=true→i∈l) (hc:C1 q l y u bl k e) (hp:p=q) (hx:m.xs=[]) (hs:m.st=0) (hl:pol=true):CStep L q T K b hb lg yb w κ:=by
 have hcm:=hw.cm
 have hget:=hcm.get hi
 have htk:l.take p=l:=take_all (by rw [hw.tb.len];omega)
 have hb:=hc.b
 by_cases hsw:u y.i=true∧y.i ∉ l
 ·have ht:tM u bl (l.take p) y.i=⟨2,true,!bl⟩:=by unfold tM;rw [if_pos hsw.1,htk,if_neg hsw.2]
  have hser:∀ w1 κ1,Cor.At w1 c0 K κ1 m→Calls Tryz.prog 114 #[.pointer (some ⟨K.q.sp,0,none⟩),.int .i64 (y.i:Int),.bool y.sense] w1 fun e w'=>e=.returned (.bool true)∧∃ κ' m',Ext Cor.C5 w1 κ1 w' κ'∧Cor.At w' c0 K κ' m'∧m'={ m with s:={ m.s with l:=m.s.l.set y.i ⟨0,false,false⟩,fr:=m.s.fr.set y.i true } }:=fun w1 κ1 ha =>
   (Cor.sweep_yes y.i _ y.sense w1 ha hget (by rw [ht]) (by rw [ht,hb];cases y.sense <;> decide) (by rw [hcm.fr,tb_get hi,ht];rfl)).mono fun e w' ⟨he,κ',h1,h2⟩=>⟨he,κ',_,h1,h2,rfl⟩
  have hcm':Cm { m with s:={ m.s with l:=m.s.l.set y.i ⟨0,false,false⟩,fr:=m.s.fr.set y.i true } } (tM (upU u y.i) bl (l.take p)):=by
   refine ⟨?_,?_,hcm.lost,hcm.u,hcm.kept,hcm.sx,hcm.forced,tM_le _ _ _⟩
   ·show m.s.l.set y.i _=_
    rw [hcm.l,tb_set]
    refine tb_ext (fun j _=>?_)
    unfold up tM upU
    by_cases e:j=y.i
    ·rw [if_pos e,if_pos e,if_neg (by simp)]
    ·rw [if_neg e,if_neg e]
   ·show m.s.fr.set y.i true=_
    rw [hcm.fr,tb_set]
    refine tb_ext (fun j _=>?_)
    unfold up tM upU
    by_cases e:j=y.i
    ·rw [if_pos e,if_pos e,if_neg (by simp)];rfl
    ·rw [if_neg e,if_neg e]
  have hsub:∀ i,upU u y.i i=true→u i=true:=fun i h=>by
   unfold upU at h
   split at h
   ·cases h
   ·exact h
  have hup:∀ i∈l,upU u y.i i=true:=fun i hil=>by
   unfold upU
   rw [if_neg (fun (e:i=y.i)=>hsw.2 (e ▸ hil))]
   exact hw.up i hil
  have hu2:∀ i,i<y.i+1→upU u y.i i=true→i∈l:=fun i hi2 h=>by
   by_cases e:i=y.i
   ·subst e;unfold upU at h;rw [if_pos rfl] at h;cases h
   ·exact hu i (by omega) (hsub i h)
  have hwc:Wc L q l nx g (upU u y.i) bl p pol e { m with s:={ m.s with l:=m.s.l.set y.i ⟨0,false,false⟩,fr:=m.s.fr.set y.i true } } s:=hw.to rfl hcm' hup hw.en hw.e0 (hw.hs.of rfl rfl)
  by_cases hlast:y.i+1=44
  ·refine go_0n hK h ho (fun w1 κ1 hy=>cstep_sweeps _ w1 hy hst (fun w2 _ hy2=>sweeps_yes_last _ w2 hy2 (by rw [hlast];rfl) (by decide) hser)) ?_
   rintro w' κ' m' y' ⟨rfl,rfl⟩
   exact .wait l nx g (upU u y.i) bl p k pol e hwc (.serve0 rfl rfl (fun i hi3=>hu2 i (by omega)) ⟨hc.k01.sub hsub,hc.n,hc.ec,hc.en,hc.b⟩ hp hx hs hl)
  ·refine go_0n hK h ho (fun w1 κ1 hy=>cstep_sweeps _ w1 hy hst (fun w2 _ hy2=>sweeps_yes _ w2 hy2 (by show ((y.i+1:Nat):Int)<44;omega) (by decide) hser)) ?_
   rintro w' κ' m' y' ⟨rfl,rfl⟩
   exact .wait l nx g (upU u y.i) bl p k pol e hwc (.sweep hst (by show y.i+1<44;omega) hu2 ⟨hc.k01.sub hsub,hc.n,hc.ec,hc.en,hc.b⟩ hp hx hs hl)
 ·have hin:u y.i=true→y.i∈l:=fun h=>Classical.byContradiction fun h2=>hsw ⟨h,h2⟩
  have hser:∀ w1 κ1,Cor.At w1 c0 K κ1 m→Calls Tryz.prog 114 #[.pointer (some ⟨K.q.sp,0,none⟩),.int .i64 (y.i:Int),.bool y.sense] w1 fun e w'=>e=.returned (.bool false)∧∃ κ' m',Ext Cor.C5 w1 κ1 w' κ'∧Cor.At w' c0 K κ' m'∧m'=m:=fun w1 κ1 ha =>
   (Cor.sweep_no y.i _ y.sense w1 ha hget (fun h2=>by
    unfold tM at h2 ⊢
    by_cases hu1:u y.i=true
    ·rw [if_pos hu1,htk,if_pos (hin hu1)];exact hb
    ·rw [if_neg hu1] at h2;cases h2)).mono fun e w' ⟨he,κ',h1,h2⟩=>⟨he,κ',_,h1,h2,rfl⟩
  have hu2:∀ i,i<y.i+1→u i=true→i∈l:=fun i hi2 h=>by
   by_cases e:i=y.i
   ·subst e;exact hin h
   ·exact hu i (by omega) h
  by_cases hlast:y.i+1=44
  ·refine go_0n hK h ho (fun w1 κ1 hy=>cstep_sweeps _ w1 hy hst (fun w2 _ hy2=>sweeps_no_last _ w2 hy2 (by rw [hlast];rfl) (by decide) hser)) ?_
   rintro w' κ' m' y' ⟨rfl,rfl⟩
   exact .wait l nx g u bl p k pol e hw (.serve0 rfl rfl (fun i hi3=>hu2 i (by omega)) (hc.yy rfl rfl rfl) hp hx hs hl)
  ·refine go_0n hK h ho (fun w1 κ1 hy=>cstep_sweeps _ w1 hy hst (fun w2 _ hy2=>sweeps_no _ w2 hy2 (by show ((y.i+1:Nat):Int)<44;omega) (by decide) hser)) ?_
   rintro w' κ' m' y' ⟨rfl,rfl⟩
   exact .wait l nx g u bl p k pol e hw (.sweep hst (by show y.i+1<44;omega) hu2 (hc.yy rfl rfl rfl) hp hx hs hl)
theorem c_serve0 (hK:Kok K) (h:Mt w c0 K κ m b s yb y hb lg o) (ho:OwnOk s T) (hw:Wc L q l nx g u bl p pol e m s)
  (hst:y.stage=10) (h2:y.at_=0) (hu:∀ i,i<44→u i=true→i∈l) (hc:C1 q l y u bl k e) (hp:p=q) (hx:m.xs=[]) (hs:m.st=0) (hl:pol=true):CStep L q T K b hb lg yb w κ:=by
 have hk:=hc.k01.le
 have hec:=hc.ec
 refine go_0n hK h ho (fun w1 κ1 hy=>cstep_serves _ w1 hy hst (fun w2 _ hy2=>serves_end w2 hy2 h2 (fun e' he'=>by rw [hw.en] at he';simp only [List.mem_singleton] at he';subst he';omega))) ?_
 rintro w' κ' m' y' ⟨rfl,rfl⟩
 have hi:Ln.isW e=true:=by simp [Ln.isW,hw.e0.2.2.2]
 have hcm:=hw.cm
 refine .wait l nx g u bl p k pol (Ln.tick e) (hw.to rfl ⟨hcm.l,hcm.fr,hcm.lost,hcm.u,hcm.kept,hcm.sx,hcm.forced,hcm.st2⟩ hw.up (by show m.s.en.map Ln.tick=_;rw [hw.en];rfl) hw.e0 (hw.hs.of rfl rfl)) (.serve7 hst rfl hu hc.k01 hc.n ?_ hc.b hp hx hs hl)
 show (if e.noted=true∧Ln.isW e=true then e.cycles+1 else e.cycles)=(k:Int)+1
 rw [if_pos ⟨hc.en,hi⟩,hec]
theorem Wc.free (hw:Wc L q l nx g u bl p pol e m s) (hu:∀ i,i<44→u i=true→i∈l):Po.cnt m.s.fr=44-q:=by
 rw [hw.cm.fr,cnt_tb,← hw.tb.len,← count_out (n:=44) hw.tb.nd (fun i hi=>hw.tb.al.lt i hi)]
 refine List.countP_congr (fun i hi=>?_)
 have h44:i<44:=List.mem_range.1 hi
 unfold tM
 by_cases e:u i=true
 ·rw [if_pos e]
  simp [hu i h44 e]
 ·rw [if_neg e]
  have:i ∉ l:=fun hm=>e (hw.up i hm)
  simp [this]
theorem c_serve7 (hK:Kok K) (h:Mt w c0 K κ m b s yb y hb lg o) (ho:OwnOk s T) (hw:Wc L q l nx g u bl p pol e m s)
  (hst:y.stage=10) (h2:y.at_=7) (hu:∀ i,i<44→u i=true→i∈l) (hk:K01 q l u k) (hn:y.started=k+1∧y.finished=k) (hc:e.cycles=(k+1:Int)) (hbl:bl=y.sense) (hp:p=q) (hx:m.xs=[]) (hs:m.st=0) (hl:pol=true):CStep L q T K b hb lg yb w κ:=by
 have hfree:=hw.free hu
 have hkl:=hk.le
 have hcm:=hw.cm
 have hh:=hw.hs
 have htk:l.take p=l:=take_all (by rw [hw.tb.len];omega)
 have hstat:s.status=0:=by rw [hh.pol hl,hs]
 have hqt:∀ (m':Cor.St),m'.st=m.st→m'.stats=m.stats→Qt m' s:=fun m' h1 h2=>⟨h1.trans hs,hstat,by rw [h2,hh.stats,hstat]⟩
 have hpc:s.pc=5∨s.pc=0:=by
  rcases hh.pc with h5 | h5 | ⟨_,_,h5⟩
  ·exact .inl h5
  ·exact .inr h5
  ·exact absurd (hh.pol hl) h5
 by_cases h38:38<q
 ·have hfit:¬ 6≤Po.cnt m.s.fr:=by rw [hfree];omega
  rcases (by omega:k=0∨k=1) with rfl | rfl
  ·refine go_0n hK h ho (fun w1 κ1 hy=>cstep_serves _ w1 hy hst (fun w2 _ hy2=>serves_idle (fun m'=>m'=m) w2 hy2 h2 (by omega) (fun w3 κ3 hc3=>(Cor.serve_wait e 6 y.sense w3 hc3 (by omega) (by omega) hw.en hw.e0.2.2.2 hw.e0.2.1 hw.e0.2.2.1 (by omega) hfit).mono fun e w' ⟨he,κ',h1,h2⟩=>⟨he,κ',_,h1,h2,rfl⟩))) ?_
   rintro w' κ' m' y' ⟨rfl,rfl⟩
   refine .wait l nx g u (!bl) 0 1 pol e (hw.to rfl (hcm.ext (fun i hi=>?_) (tM_le _ _ _)) hw.up hw.en hw.e0 hw.hs) (.idle rfl ⟨.inr ⟨rfl,hu,h38⟩,⟨hn.1,by show y.finished+1=1;omega⟩,by rw [hc];rfl,by rw [hbl]⟩ rfl hx hs hl)
   unfold tM
   by_cases e:u i=true
   ·rw [if_pos e,if_pos e,htk,if_pos (hu i hi e),if_neg (by simp)]
    cases bl <;> rfl
   ·rw [if_neg e,if_neg e]
  ·refine go_0n hK h ho (fun w1 κ1 hy=>cstep_serves _ w1 hy hst (fun w2 _ hy2=>serves_more (fun m'=>m'={ m with s:={ m.s with en:=[Ln.failed e] } }) w2 hy2 h2 (fun w3 κ3 hc3=>(Cor.serve_fail e 6 y.sense w3 hc3 (by omega) (by omega) hw.en hw.e0.2.2.2 hw.e0.2.1 hw.e0.2.2.1 (by omega) hfit).mono fun e w' ⟨he,κ',h1,h2⟩=>⟨he,κ',_,h1,h2,rfl⟩))) ?_
   rintro w' κ' m' y' ⟨rfl,rfl⟩
   exact .failed l nx g (Ln.failed e) (tM u bl (l.take p)) (hw.tb.like (hw.tb.al.same rfl hw.tb.al.tab) rfl rfl) ⟨hcm.l,hcm.fr,hcm.lost,hcm.u,hcm.kept,hcm.sx,hcm.forced,hcm.st2⟩ hw.ph hpc rfl ⟨rfl,hw.e0.1⟩ (hqt _ rfl rfl) ⟨.inr ⟨hst,h2,by omega⟩,fun e' he'=>by simp only [List.mem_singleton] at he';subst he';show (2:Int)≠0;omega,by omega⟩ h38
 ·have hfit:6≤Po.cnt m.s.fr:=by rw [hfree];omega
  obtain ⟨xs,hxs⟩:∃ xs,Po.take m.s.fr 6=xs:=⟨_,rfl⟩
  obtain ⟨hx1,hx2,hx3⟩:=take_spec (l:=m.s.fr) (k:=6) (by omega) hfit
  rw [hxs] at hx1 hx2 hx3
  refine go_0n hK h ho (fun w1 κ1 hy=>cstep_serves _ w1 hy hst (fun w2 _ hy2=>serves_more (fun m'=>∃ gv,m'={ m with s:={ m.s with l:=Sp.setAll m.s.l xs 2 y.sense,fr:=Po.off m.s.fr xs,en:=[Ln.granted e gv (Po.natI xs) (-1)] } }) w2 hy2 h2 (fun w3 κ3 hc3=>(Cor.serve_yes e 6 y.sense w3 hc3 (by omega) (by omega) hw.en hw.e0.2.2.2 hw.e0.2.1 hw.e0.2.2.1 hfit (by rw [hcm.fr,hcm.l,tb_len,tb_len])).mono fun e w' ⟨he,gv,κ',h1,h2⟩=>⟨he,κ',_,h1,h2,gv,by rw [hxs]⟩))) ?_
  rintro w' κ' m' y' ⟨⟨gv,rfl⟩,rfl⟩
  have hcm':=hcm.grant xs y'.sense { m with s:={ m.s with l:=Sp.setAll m.s.l xs 2 y'.sense,fr:=Po.off m.s.fr xs,en:=[Ln.granted e gv (Po.natI xs) (-1)] } } rfl rfl rfl rfl rfl rfl rfl
  have hlt:∀ i∈l,tM u bl (l.take p) i=⟨2,true,bl⟩:=fun i hi=>by unfold tM;rw [if_pos (hw.up i hi),htk,if_pos hi]
  have htk2:=Tk.of (l:=l) hcm hcm' hx1 hx3 hx2 (fun i hi=>by rw [hlt i hi])
  refine .got l nx g xs (Ln.granted e gv (Po.natI xs) (-1)) _ (hw.tb.like (hw.tb.al.same rfl (fun i hi=>?_)) rfl rfl) htk2 hw.ph hpc rfl ⟨rfl,hw.e0.1,rfl⟩ (hqt _ rfl rfl) ⟨.inr ⟨hst,h2,by omega⟩,fun e' he'=>by simp only [List.mem_singleton] at he';subst he';show (1:Int)≠0;omega,by omega⟩ (by omega)
  refine ⟨bl,(hcm'.get (hw.tb.al.lt i hi)).trans ?_⟩
  show some (if i∈xs then _ else _)=_
  rw [if_neg (fun hx=>(htk2.out i hx).1 hi),hlt i hi]
end
end Go.Proofs.YtpgdiceeimehiaaGreat.Law
namespace Go.Proofs.YtpgdiceeimehiaaGreat.Law
open Go.RowKit
open Ac (Vl OpD CT zeroVl opV)
section
variable {w:World} {K:Cor.Q} {κ:Nat→Nat} {m m':Cor.St} {b:Ac.B} {s s':Ac.St} {yb hb lg:Nat} {y:Cyc.St} {o:Option Tr.St} {L:List OpD} {q T n:Nat}
theorem ab_start {a:A} {r:List TOp} (hK:Kok K) (hbo:b.ops=L) (hb0:b.t=0) (hL:L.length≤100000) (hq1:1≤q) (h:Mt w c0 K κ m b s yb y hb lg o) (ht:Ta L q a r m s y) (hq:Qt m s) (hn:s.own=(n:Int)) (hnT:n≤T) (hT:T≤1000000) (h1:s.phase=2) (h2:s.at_=0) (h3:Cm m (tA a.cnt)) :
  Calls Tryz.prog 10 #[.pointer (some ⟨hb,0,none⟩),.int .i64 1] w (StepOk L q (T+1) K b hb lg yb w κ 1):=by
 cases r with
 | nil=>exact ab_big hK hbo hb0 hq1 h ht hq hn hnT hT h1 h2 h3
 | cons t r' =>
  obtain ⟨a',hx⟩:∃ a',Ex a t a':=by
   obtain ⟨e,l,n,hr,-⟩:=ht.run
   cases hr with
   | cons hh _=>exact ⟨_,hh⟩
  have hx':=hx
  cases hx with
  | new0 hc=>exact ab_new hK hbo hb0 h ht hq hn hnT hT h1 h2 h3 hc
  | look1=>exact ab_look hK hbo hL h ht hq hn hnT hT h1 h2 h3
  | store01 h0 hv=>exact ab_store (j:=0) (j2:=1) hK hbo hL h ht hq hn hnT hT h1 h2 h3 rfl rfl rfl rfl (by unfold locs;rw [h0];rfl) (by unfold locs;rw [hv];rfl) (ht.ok.l0 _ h0 _ rfl).1 (ht.ok.l0 _ h0 _ rfl).2 hx' rfl (fun j e=>by cases e)
  | set0 hv=>exact ab_set hK hbo hL h ht hq hn hnT hT h1 h2 h3 hv
  | load11 hl=>exact ab_load (j:=1) (ja:=1) hK hbo hL h ht hq hn hnT hT h1 h2 h3 rfl rfl rfl (by unfold locs;rw [hl];rfl) (ht.ok.l1 _ hl _ rfl).1 (ht.ok.l1 _ hl _ rfl).2 hx' ⟨rfl,rfl,rfl⟩ rfl rfl (by omega) (fun j e=>by cases e)
  | load21 hl=>exact ab_load (j:=1) (ja:=2) hK hbo hL h ht hq hn hnT hT h1 h2 h3 rfl rfl rfl (by unfold locs;rw [hl];rfl) (ht.ok.l1 _ hl _ rfl).1 (ht.ok.l1 _ hl _ rfl).2 hx' ⟨rfl,rfl,rfl⟩ rfl rfl (by omega) (fun j e=>by cases e)
  | load22 hl=>exact ab_load (j:=2) (ja:=2) hK hbo hL h ht hq hn hnT hT h1 h2 h3 rfl rfl rfl (by unfold locs;rw [hl];rfl) (ht.ok.l2 _ hl _ rfl).1 (ht.ok.l2 _ hl _ rfl).2 hx' ⟨rfl,rfl,rfl⟩ rfl rfl (by omega) (fun j e=>by cases e)
  | store12 h0 hv=>exact ab_store (j:=1) (j2:=2) hK hbo hL h ht hq hn hnT hT h1 h2 h3 rfl rfl rfl rfl (by unfold locs;rw [h0];rfl) (by unfold locs;rw [hv];rfl) (ht.ok.l1 _ h0 _ rfl).1 (ht.ok.l1 _ h0 _ rfl).2 hx' rfl (fun j e=>by cases e)
  | clear0=>exact ab_clear hK hbo hL h ht hq hn hnT hT h1 h2 h3 (by omega) hx' rfl ⟨rfl,rfl,rfl⟩
  | clear1=>exact ab_clear hK hbo hL h ht hq hn hnT hT h1 h2 h3 (by omega) hx' rfl ⟨rfl,rfl,rfl⟩
  | clear2=>exact ab_clear hK hbo hL h ht hq hn hnT hT h1 h2 h3 (by omega) hx' rfl ⟨rfl,rfl,rfl⟩
theorem step_1 (hK:Kok K) (hbo:b.ops=L) (hb0:b.t=0) (hL:L.length≤100000) (hq1:1≤q) (h:Mt w c0 K κ m b s yb y hb lg o) (hS:Sx L q m s y o) (ho:OwnOk s T) (hT:T≤1000000) :
  Calls Tryz.prog 10 #[.pointer (some ⟨hb,0,none⟩),.int .i64 1] w (StepOk L q (T+1) K b hb lg yb w κ 1):=by
 have hf:=hS.fin hK
 have ho':=ho
 obtain ⟨n,hn,hnT⟩:=ho
 cases hS with
 | out a r ht h0 hc h3 hst hs=>exact out_step hK hb0 h ht h0 hc h3 hst hs ho'
 | ab a r ht hm hq =>
  cases hm with
  | border h1 h2 h3=>exact ab_border hK hbo h ht hq h1 h2 h3
  | start h1 h2 h3=>exact ab_start hK hbo hb0 hL hq1 h ht hq hn hnT hT h1 h2 h3
  | wr r' j hr hc h1 h2 hj hw hd hg h3=>subst hr;exact ab_make hK hbo h ht hq hn hnT hT h1 h2 hc hj hw hd hg h3
  | bo r' hr hc h1 h2 hd hg h3=>subst hr;exact ab_born hK hbo hL h ht hq hn hnT hT h1 h2 hc hd hg h3
  | rd t a' r' i ja hr h1 h2 hf ha hi hi2 hx hnn hl hja hja4 hk h3=>subst hr;exact ab_rd hK hbo hL h ht hq hn hnT hT h1 h2 hf ha hi hi2 hx hnn hl hja hja4 h3
  | wt t a' r' i v hr h1 h2 ha hi hi2 hw hx hnn h3=>subst hr;exact ab_wt hK hbo hL h ht hq hn hnT hT h1 h2 ha hi hi2 hw hx hnn h3
 | wait l nx g u bl p k pol e hw hp=>exact wait_step hK hb0 h hw hp ho' hT
 | got l nx g xs e tf htb ht h1 h2 he he1 hq hc h38=>exact got_step hK hbo hb0 h htb ht h1 h2 he he1 hq hc h38 ho' hT
 | failed l nx g e tf htb ht h1 h2 he he1 hq hc h38=>exact failed_step hK hb0 hL h htb ht h1 h2 he he1 hq hc h38 ho' hT
 | bw l nx g xs sd j tf htb ht h1 h2 hj hw hd hg he hq hc h38=>exact bw_step hK hbo h htb ht hq hn hnT hT h1 h2 hj hw hd hg he hc h38
 | bb l nx g xs sd tf htb ht h1 h2 hd hg he hq hc h38=>exact bb_step hK hbo hL h htb ht hq hn hnT hT h1 h2 hd hg he hc h38
 | kb l nx g xs tf al hk hl v2 v3 hv2 loc cm hv3 h1 he hq hc=>exact kb_step hK hbo hL h hf al hk hl hv2 loc cm hv3 h1 he hq hc ho' hT
theorem step_0 (hK:Kok K) (h:Mt w c0 K κ m b s yb y hb lg o) (hS:Sx L q m s y o) (ho:OwnOk s T):CStep L q T K b hb lg yb w κ:=by
 cases hS with
 | out a r ht h0 hc h3 hst hs =>
  have hy:=ht.y0
  exact quiet_0 hK h ⟨.inl ⟨hy.1,by omega⟩,fun e he=>by rw [ht.en] at he;simp at he,by omega⟩ h3 ho (fun y' _ e=>by rw [e hy.1];exact .out a r ht h0 hc h3 hst hs)
 | ab a r ht hm hq =>
  have hy:=ht.y0
  obtain ⟨tf,h3,-⟩:=hm.tab
  exact quiet_0 hK h ⟨.inl ⟨hy.1,by omega⟩,fun e he=>by rw [ht.en] at he;simp at he,by omega⟩ h3 ho (fun y' _ e=>by rw [e hy.1];exact .ab a r ht hm hq)
 | got l nx g xs e tf htb ht h1 h2 he he1 hq hc h38=>exact quiet_0 hK h hc ht.cm ho (fun y' hc' _=>.got l nx g xs e tf htb ht h1 h2 he he1 hq hc' h38)
 | failed l nx g e tf htb ht h1 h2 he he1 hq hc h38=>exact quiet_0 hK h hc ht ho (fun y' hc' _=>.failed l nx g e tf htb ht h1 h2 he he1 hq hc' h38)
 | bw l nx g xs sd j tf htb ht h1 h2 hj hw hd hg he hq hc h38=>exact quiet_0 hK h hc ht.cm ho (fun y' hc' _=>.bw l nx g xs sd j tf htb ht h1 h2 hj hw hd hg he hq hc' h38)
 | bb l nx g xs sd tf htb ht h1 h2 hd hg he hq hc h38=>exact quiet_0 hK h hc ht.cm ho (fun y' hc' _=>.bb l nx g xs sd tf htb ht h1 h2 hd hg he hq hc' h38)
 | kb l nx g xs tf al hk hl v2 v3 hv2 loc cm hv3 h1 he hq hc=>exact quiet_0 hK h hc cm ho (fun y' hc' _=>.kb l nx g xs tf al hk hl v2 v3 hv2 loc cm hv3 h1 he hq hc')
 | wait l nx g u bl p k pol e hw hp =>
  cases hp with
  | idle h1 hc hp hx hs hl=>exact c_idle hK h ho hw h1 hc hp hx hs hl
  | start0 h1 h2 hc hp hx hs hl=>exact c_start0 hK h ho hw h1 h2 hc hp hx hs hl
  | start2 h1 h2 hc hn hp hx hs hl=>exact c_start2 hK h ho hw h1 h2 hc hn hp hx hl
  | first0 h1 h2 hi hc hp hx hs=>exact c_first0 hK h ho hw h1 h2 hi hc hp hx hs
  | first2 h1 h2 hc hp hx hs hl=>exact c_first2 hK h ho hw h1 h2 hc hp hx hl
  | both0 h1 h2 hi hc hp hx hs=>exact c_both0 hK h ho hw h1 h2 hi hc hp hx hs
  | both2 h1 h2 hc hp hx hs hl=>exact c_both2 hK h ho hw h1 h2 hc hp hx hl
  | roots0 h1 h2 hi hc hp hx hs=>exact c_roots0 hK h ho hw h1 h2 hi hc hp hx hs
  | rootsG z h1 h2 hi hz hh hc hp hx hs=>exact c_rootsG hK h ho hw h1 h2 hi hz hh hc hp hx hs
  | rootsP z h1 h2 hz hc hp hx hs=>exact c_rootsP hK h ho hw h1 h2 hz hc hp hx hs
  | mark1 z h1 h2 hc hp hz hx hs hl=>exact c_mark1 hK h ho hw h1 h2 hc hp hz hx hs hl
  | mark0 h1 h2 hc hp hx hs hl=>exact c_mark0 hK h ho hw h1 h2 hc hp hx hs hl
  | lost h1 h2 hc hp hx hs hl=>exact c_lost hK h ho hw h1 h2 hc hp hx hs hl
  | tr0 t h1 h2 hc hp hx hs hl hot hth hs2 hpc=>exact c_tr0 hK h ho hw h1 h2 hc hp hx hs hl hot hth hs2 hpc
  | tr1 t h1 h2 hc hp hx hs hl hot hth hs2 hpc hwd hbs=>exact c_tr1 hK h ho hw h1 h2 hc hp hx hs hl hot hth hs2 hpc hwd hbs
  | tr2 t h1 h2 hc hp hx hs hl hot hth hs2 hpc hwd hbs hz=>exact c_tr2 hK h ho hw h1 h2 hc hp hx hs hl hot hth hs2 hpc hwd hbs hz
  | tr3 t h1 h2 hc hx hs hl hot hm hpc hwd hbs=>exact c_tr3 hK h ho hw h1 h2 hc hx hs hl hot hm hpc hwd hbs
  | turn0 h1 h2 hi hc hp hx hs hl=>exact c_turn0 hK h ho hw h1 h2 hi hc hp hx hs hl
  | turn2 h1 h2 hi hc hp hx hs hl=>exact c_turn2 hK h ho hw h1 h2 hi hc hp hx hl
  | turn1 h1 h2 hi hc hp hx hs=>exact c_turn1 hK h ho hw h1 h2 hi hc hp hx hs
  | haul0 h1 h2 hh hc hp hx hs hl=>exact c_haul0 hK h ho hw h1 h2 hh hc hp hx hs hl
  | haul2 h1 h2 hc hp hx hs hl=>exact c_haul2 hK h ho hw h1 h2 hc hp hx hl
  | settle0 h1 h2 hi hc hp hx hs=>exact c_settle0 hK h ho hw h1 h2 hi hc hp hx hs
  | settle7 h1 h2 hc hp hx hs hl=>exact c_settle7 hK h ho hw h1 h2 hc hp hx hs hl
  | sweep h1 hi hu hc hp hx hs hl=>exact c_sweep hK h ho hw h1 hi hu hc hp hx hs hl
  | serve0 h1 h2 hu hc hp hx hs hl=>exact c_serve0 hK h ho hw h1 h2 hu hc hp hx hs hl
  | serve7 h1 h2 hu hk hn hc hb hp hx hs hl=>exact c_serve7 hK h ho hw h1 h2 hu hk hn hc hb hp hx hs hl
theorem step_any (j:Nat) (hj:j<2) (hK:Kok K) (hbo:b.ops=L) (hb0:b.t=0) (hL:L.length≤100000) (hq1:1≤q) (h:Mt w c0 K κ m b s yb y hb lg o) (hS:Sx L q m s y o) (ho:OwnOk s T) (hT:T≤1000000) :
  Calls Tryz.prog 10 #[.pointer (some ⟨hb,0,none⟩),.int .i64 (j:Int)] w (StepOk L q (T+1) K b hb lg yb w κ (j:Int)):=by
 rcases (by omega:j=0∨j=1) with rfl | rfl
 ·exact step_0 hK h hS ho
 ·exact step_1 hK hbo hb0 hL hq1 h hS ho hT
end
end Go.Proofs.YtpgdiceeimehiaaGreat.Law
