/- Part 45 of the proof that spotop.TopOrder returns true for all arguments and leaves what was there as it was. -/
import Derived.StillTailTactics
import Derived.Deep.QuietTactic
import Derived.BigQuiet
import Derived.Deep.DeepCutAuto
import Derived.Deep.CutBlock
import Derived.Deep.RegionHeld3
import Derived.Test.YtpgdiceeimehiaaGreatQ02
import Derived.Test.YtpgdiceeimehiaaGreatQ15
import Derived.Test.YtpgdiceeimehiaaGreatQ18
import Derived.Test.YtpgdiceeimehiaaGreatQ25
import Derived.Test.YtpgdiceeimehiaaGreatQ28
set_option maxRecDepth 100000
set_option maxHeartbeats 16000000
open Go.Lib (hid)
namespace Go.Proofs.YtpgdiceeimehiaaGreat
open Go.RowKit
section
variable {w:World} {c:Cn} {K:Cor.Q} {κ:Nat→Nat} {m:Cor.St} {b:Ac.B} {s:Ac.St} {yb:Nat} {y:Cyc.St}
theorem roots_read (j ad:Nat) (w:World) (h:Cys w c K κ m b s yb y) (hat:y.at_=0) (hi:y.i=0) (hg:c.globals=1) (had:8 * c.frags+2 * c.spine=(ad:Int)) (hz:m.words[ad]?=some (refW j)) (hj:j≤1000000) :
  Calls Tryz.prog 59 #[.pointer (some ⟨yb,0,none⟩),.pointer (some ⟨K.kb,0,none⟩)] w (CAns w c K κ b s yb (.tuple #[]) (fun _ _ m' y'=>m'=m∧y'={ y with head:=(j:Int),at_:=3 })):=by
 have HS0:=hid h
 have HE0:Hid (Ext CY w κ w κ):=hid (Ext.refl _ _ _)
 have HI:=hid hi
 have HG:=hid (And.intro hg had)
 have HZ:=hid hz
 have p1:=h.cyc.p1
 rw [hat] at p1
 have p2:=h.cyc.p2
 rw [hi] at p2
 clear h hg had hz
 go_enter Tryz.func59,Tryz.ntmps59
 clear hat hi
 have k2:=(HS0.out.sys.cor.qc).2.2.1
 rw [HG.out.1] at k2
 go_wp2_with fail
 refine wp_scope_hop 0 (fun C HC0=>?_)
 have HC:=hid HC0
 clear HC0
 go_wp2_with fail
 go_quiet (fail)
 have HS1:=hid (HS0.out.pure ((Only.refl (fun _=>False) w).drewN nq))
 have HE1:Hid (Ext CY w κ (w.drewN nq) κ):=hid (Ext.pure ((Only.refl (fun _=>False) w).drewN nq))
 clear p1 p2 k2 HS0 HE0
 generalize w.drewN nq=w1 at *
 obtain ⟨Av,cv,hcv⟩:∃ A cc,K.cv=.slice A K.csh.length cc:=by
  obtain ⟨⟨A,cc,h,_⟩,_⟩:=HS1.out.sys.cor.conf
  exact ⟨A,cc,h⟩
 have HCV:=hid hcv
 obtain ⟨k0,k1,k2,k3,k4,k5,k6,k7,k8⟩:=HS1.out.sys.cor.qc
 rw [hcv] at k8
 have p2:=HS1.out.cyc.p2
 rw [HI.out] at p2
 have p3:=HS1.out.cyc.p3
 have ff:=HS1.out.cyc.fz
 clear hcv
 go_upto_region 6 with fail
 go_cut [5] (fun s5 wx=>s5=.int .i64 0∧∃ W7,Pure w1 W7∧wx=W7.setCell ⟨yb,3,none⟩ (.int .i64 (ad:Int)))
 case first =>
  go_region_with (first | (go_at_call 50;refine (HCV.out ▸ global_in c _ K.csh 0 _ HS1.out.drew.sys.cor.conf HS1.out.sys.cor.ok (by omega) (by rw [HG.out.1];omega)).mono ?_;rw [show 8 * c.frags+2 * c.spine+0=(ad:Int) from by have:=HG.out.2;omega];rintro e w7 ⟨rfl,hp7⟩;have s7:=HS1.out.pure (Pure.then (b:=w1.drew) ((Only.refl (fun _=>False) w1).drewN 1) hp7);have d3:=s7.cyc.p3;have dz:=s7.cyc.fz;clear s7))
  all_goals
   go_wp2_with fail
   go_meet
   exact ⟨rfl,_,Pure.then (b:=w1.drew) ((Only.refl (fun _=>False) w1).drewN 1) hp7,rfl⟩
 case rest =>
  obtain ⟨rfl,W7,hpw,rfl⟩:=hcut
  have s7:=HS1.out.pure hpw
  have h8:=s7.cyc.put 3 (.int .i64 (ad:Int)) { y with head:=(ad:Int) } (fun _ _ _=>⟨_,_,_,rfl⟩)
  obtain ⟨e8,s8⟩:=s7.mine (Cyc.only_y (Only.refl _ W7) 3 (.int .i64 (ad:Int))) h8
  have HS8:=hid s8
  have HE8:=hid (HE1.out.trans ((Ext.pure (C:=CY) (κ:=κ) hpw).trans e8))
  clear s7 h8 e8 s8 hpw k0 k1 k2 k3 k4 k5 k6 k7 k8 p2 p3 ff
  generalize W7.setCell ⟨yb,3,none⟩ (.int .i64 (ad:Int))=w8 at *
  have q9:=HS8.out.sys.cor.q9
  have p3:w8.cell? ⟨yb,3,none⟩=some (.int .i64 (ad:Int)):=HS8.out.cyc.p3
  go_upto_region 8 with fail
  go_cut [4,5] (fun s4 s5 wx=>s4=.complex .f64 (refW j).1 (refW j).2∧s5=.int .i64 0∧Ext Cor.C5 w8 κ wx κ∧Cor.At wx c K κ m)
  case first =>
   go_region_with (first | (go_at_call 97;refine (Cor.read ad (refW j) _ HS8.out.drew.sys.cor HZ.out).mono ?_;rintro e w9 ⟨rfl,he9,hc9⟩))
   all_goals
    go_wp2_with fail
    go_meet
    exact ⟨rfl,rfl,(Ext.pure ((Only.refl (fun _=>False) w8).drewN 1)).trans he9,hc9⟩
  case rest =>
   obtain ⟨rfl,rfl,he9,hc9⟩:=hcut
   obtain ⟨e9,s9⟩:=HS8.out.cored he9 hc9
   have HS9:=hid s9
   have HE9:=hid (HE8.out.trans e9)
   clear he9 hc9 e9 s9 q9 p3
   go_wp2_with fail
   refine (index_ref j _ hj).mono ?_
   rintro e w10 ⟨rfl,rfl⟩
   have p3:=HS9.out.cyc.p3
   have p1:=HS9.out.cyc.p1
   have ff:=HS9.out.cyc.fz
   have h10:=(HS9.out.cyc.put 3 (.int .i64 (j:Int)) { y with head:=(j:Int) } (fun _ _ _=>⟨_,_,_,rfl⟩)).put 1 (.int .i64 3) { y with head:=(j:Int),at_:=3 } (fun _ _ _=>⟨_,_,_,rfl⟩)
   obtain ⟨e10,s10⟩:=HS9.out.mine (Cyc.only_y (Cyc.only_y (Only.refl _ wc) 3 (.int .i64 (j:Int))) 1 (.int .i64 3)) h10
   have HS10:=hid s10
   have HE10:=hid (HE9.out.trans e10)
   clear h10 e10 s10
   go_wp2_with fail
   simp only [Hop_ret]
   go_end0
   exact ⟨rfl,_,_,_,HE10.out,HS10.out,rfl,rfl⟩
theorem roots_grey (j:Nat) (o:Tab.One) (w:World) (h:Cys w c K κ m b s yb y) (hat:y.at_=3) (hi:y.i=0) (hh:y.head=(j:Int)) (ho:m.s.l[j]?=some o) (hwh:Sd.white o y.sense=true) (h2:o.st=2) (hl:m.xs.length<K.most) :
  Calls Tryz.prog 59 #[.pointer (some ⟨yb,0,none⟩),.pointer (some ⟨K.kb,0,none⟩)] w (CAns w c K κ b s yb (.tuple #[]) (fun _ _ m' y'=>(∃ pv',m'={ m with pv:=pv',xs:=m.xs++[(j:Int)],s:={ m.s with l:=m.s.l.set j { o with sense:=y.sense } } })∧y'={ y with at_:=0,i:=1 })):=by
 have HS0:=hid h
 have HE0:Hid (Ext CY w κ w κ):=hid (Ext.refl _ _ _)
 have HI:=hid hi
 have HO:=hid (And.intro ho (And.intro hwh (And.intro h2 hl)))
 have p1:=h.cyc.p1
 rw [hat] at p1
 have p3:=h.cyc.p3
 rw [hh] at p3
 have p7:=h.cyc.p7
 clear h ho hwh h2 hl
 go_enter Tryz.func59,Tryz.ntmps59
 clear hat hi hh
 have q10:=HS0.out.sys.cor.q10
 go_wp2_with fail
 refine wp_scope_hop 1 (fun C HC0=>?_)
 have HC:=hid HC0
 clear HC0
 go_wp2_with fail
 go_still_tail 12,(by kernel_rfl)
 change wpList _ _ _ _ _ w.drew
 have HS1:=hid HS0.out.drew
 have HE1:Hid (Ext CY w κ w.drew κ):=hid (Ext.pure ((Only.refl (fun _=>False) w).drewN 1))
 clear p1 p3 p7 q10 HS0 HE0
 generalize w.drew=w1 at *
 go_wp2_with fail
 refine (Cor.grey_yes j o y.sense w1 HS1.out.sys.cor HO.out.1 HO.out.2.1 HO.out.2.2.1 HO.out.2.2.2).mono ?_
 rintro r w2 ⟨rfl,pv2,κ2,he2,hc2⟩
 obtain ⟨e2,s2⟩:=HS1.out.cored he2 hc2
 have HS2:=hid s2
 have HE2:=hid (HE1.out.trans e2)
 clear he2 hc2 e2 s2
 go_wp2_with fail
 go_step3
 refine Hop_goto ((congrArg (fun d=>findLabel d 0) HC.out).trans rfl) ?_
 clear HC
 have p1:=HS2.out.cyc.p1
 have p2:=HS2.out.cyc.p2
 rw [HI.out] at p2
 have ff:=HS2.out.cyc.fz
 have h10:=(HS2.out.cyc.put 1 (.int .i64 0) { y with at_:=0 } (fun _ _ _=>⟨_,_,_,rfl⟩)).put 2 (.int .i64 1) { y with at_:=0,i:=1 } (fun _ _ _=>⟨_,_,_,rfl⟩)
 obtain ⟨e10,s10⟩:=HS2.out.mine (Cyc.only_y (Cyc.only_y (Only.refl _ w2) 1 (.int .i64 0)) 2 (.int .i64 1)) h10
 have HS10:=hid s10
 have HE10:=hid (HE2.out.trans e10)
 clear h10 e10 s10
 go_wp2_with fail
 try (first | simp only [Hop_normal] | simp only [Hop_ret])
 go_end0
 exact ⟨rfl,_,_,_,HE10.out,HS10.out,⟨_,rfl⟩,rfl⟩
theorem roots_poll0_yes (z:Int) (w:World) (h:Cys w c K κ m b s yb y) (hat:y.at_=0) (hi:y.i=1) (hg:c.globals=1) (ht:c.threads=1) (hz:m.stats[0]?=some z) (hd:(z == -1 || z == m.st)=true) :
  Calls Tryz.prog 59 #[.pointer (some ⟨yb,0,none⟩),.pointer (some ⟨K.kb,0,none⟩)] w (CAns w c K κ b s yb (.tuple #[]) (fun _ _ m' y'=>m'=m∧y'={ y with stage:=5,at_:=0,i:=0 })):=by
 have HS0:=hid h
 have HE0:Hid (Ext CY w κ w κ):=hid (Ext.refl _ _ _)
 have HI:=hid hi
 have HAT:=hid hat
 have HG:=hid hg
 have HZ:=hid (And.intro ht (And.intro hz hd))
 have p1:=h.cyc.p1
 rw [hat] at p1
 have p2:=h.cyc.p2
 rw [hi] at p2
 clear h hg ht hz hd
 go_enter Tryz.func59,Tryz.ntmps59
 clear hat hi
 have k2:=(HS0.out.sys.cor.qc).2.2.1
 rw [HG.out] at k2
 go_wp2_with fail
 refine wp_scope_hop 1 (fun C HC0=>?_)
 have HC:=hid HC0
 clear HC0
 go_wp2_with fail
 go_quiet (fail)
 have HS1:=hid (HS0.out.pure ((Only.refl (fun _=>False) w).drewN nq))
 have HE1:Hid (Ext CY w κ (w.drewN nq) κ):=hid (Ext.pure ((Only.refl (fun _=>False) w).drewN nq))
 clear p1 p2 k2 HS0 HE0
 generalize w.drewN nq=w1 at *
 go_wp2_with fail
 go_step3
 refine Hop_goto ((congrArg (fun d=>findLabel d 1) HC.out).trans rfl) ?_
 clear HC
 have p1:=HS1.out.cyc.p1
 rw [HAT.out] at p1
 have p2:=HS1.out.cyc.p2
 have ff:=HS1.out.cyc.fz
 go_upto_region 18 with fail
 obtain ⟨e2,s2⟩:=HS1.out.mine (Cyc.only_y (Cyc.only_y (Only.refl _ w1) 1 (.int .i64 1)) 2 (.int .i64 0)) ((HS1.out.cyc.put 1 (.int .i64 1) { y with at_:=1 } (fun _ _ _=>⟨_,_,_,rfl⟩)).put 2 (.int .i64 0) { y with at_:=1,i:=0 } (fun _ _ _=>⟨_,_,_,rfl⟩))
 have HS2:=hid s2
 have HE2:=hid (HE1.out.trans e2)
 clear e2 s2
 clear p1 p2 ff
 generalize ((w1.setCell ⟨yb,1,none⟩ (.int .i64 1)).setCell ⟨yb,2,none⟩ (.int .i64 0))=w2 at *
 go_wp2_with fail
 refine (polls_yes w2 HS2.out z rfl HZ.out.1 HZ.out.2.1 HZ.out.2.2).mono ?_
 rintro r w5 ⟨rfl,κ5,m5,y5,e5,s5,rfl,rfl⟩
 have HS5:=hid s5
 have HE5:=hid (HE2.out.trans e5)
 clear e5 s5
 go_wp2_with fail
 refine (enters_ (5) w5 HS5.out).mono ?_
 rintro r w6 ⟨rfl,κ6,m6,y6,e6,s6,rfl,rfl,rfl⟩
 have HS6:=hid s6
 have HE6:=hid (HE5.out.trans e6)
 clear e6 s6
 go_wp2_with fail
 first | simp only [Hop_normal] | simp only [Hop_ret]
 go_end0
 exact ⟨rfl,_,_,_,HE6.out,HS6.out,rfl,rfl⟩
theorem roots_poll1_yes (z:Int) (w:World) (h:Cys w c K κ m b s yb y) (hat:y.at_=1) (hi:y.i=0) (hg:c.globals=1) (ht:c.threads=1) (hz:m.stats[0]?=some z) (hd:(z == -1 || z == m.st)=true) :
  Calls Tryz.prog 59 #[.pointer (some ⟨yb,0,none⟩),.pointer (some ⟨K.kb,0,none⟩)] w (CAns w c K κ b s yb (.tuple #[]) (fun _ _ m' y'=>m'=m∧y'={ y with stage:=5,at_:=0,i:=0 })):=by
 have HS0:=hid h
 have HE0:Hid (Ext CY w κ w κ):=hid (Ext.refl _ _ _)
 have HI:=hid hi
 have HAT:=hid hat
 have HG:=hid hg
 have HZ:=hid (And.intro ht (And.intro hz hd))
 have p1:=h.cyc.p1
 rw [hat] at p1
 have p2:=h.cyc.p2
 rw [hi] at p2
 clear h hg ht hz hd
 go_enter Tryz.func59,Tryz.ntmps59
 clear hat hi
 have k2:=(HS0.out.sys.cor.qc).2.2.1
 rw [HG.out] at k2
 go_wp2_with fail
 refine wp_scope_hop 1 (fun C HC0=>?_)
 have HC:=hid HC0
 clear HC0
 go_wp2_with fail
 go_quiet (fail)
 have HS1:=hid (HS0.out.pure ((Only.refl (fun _=>False) w).drewN nq))
 have HE1:Hid (Ext CY w κ (w.drewN nq) κ):=hid (Ext.pure ((Only.refl (fun _=>False) w).drewN nq))
 clear p1 p2 k2 HS0 HE0
 generalize w.drewN nq=w1 at *
 go_wp2_with fail
 go_step3
 refine Hop_goto ((congrArg (fun d=>findLabel d 1) HC.out).trans rfl) ?_
 clear HC
 have p1:=HS1.out.cyc.p1
 rw [HAT.out] at p1
 have p2:=HS1.out.cyc.p2
 have ff:=HS1.out.cyc.fz
 clear p2 ff
 go_wp2_with fail
 refine (polls_yes w1 HS1.out z HI.out HZ.out.1 HZ.out.2.1 HZ.out.2.2).mono ?_
 rintro r w5 ⟨rfl,κ5,m5,y5,e5,s5,rfl,rfl⟩
 have HS5:=hid s5
 have HE5:=hid (HE1.out.trans e5)
 clear e5 s5
 go_wp2_with fail
 refine (enters_ (5) w5 HS5.out).mono ?_
 rintro r w6 ⟨rfl,κ6,m6,y6,e6,s6,rfl,rfl,rfl⟩
 have HS6:=hid s6
 have HE6:=hid (HE5.out.trans e6)
 clear e6 s6
 go_wp2_with fail
 first | simp only [Hop_normal] | simp only [Hop_ret]
 go_end0
 exact ⟨rfl,_,_,_,HE6.out,HS6.out,rfl,rfl⟩
theorem roots_poll0_no (z:Int) (w:World) (h:Cys w c K κ m b s yb y) (hat:y.at_=0) (hi:y.i=1) (hg:c.globals=1) (ht:c.threads=1) (hz:m.stats[0]?=some z) (hd:(z == -1 || z == m.st)=false) :
  Calls Tryz.prog 59 #[.pointer (some ⟨yb,0,none⟩),.pointer (some ⟨K.kb,0,none⟩)] w (CAns w c K κ b s yb (.tuple #[]) (fun _ _ m' y'=>m'=m∧y'={ y with at_:=1,i:=0 })):=by
 have HS0:=hid h
 have HE0:Hid (Ext CY w κ w κ):=hid (Ext.refl _ _ _)
 have HI:=hid hi
 have HAT:=hid hat
 have HG:=hid hg
 have HZ:=hid (And.intro ht (And.intro hz hd))
 have p1:=h.cyc.p1
 rw [hat] at p1
 have p2:=h.cyc.p2
 rw [hi] at p2
 clear h hg ht hz hd
 go_enter Tryz.func59,Tryz.ntmps59
 clear hat hi
 have k2:=(HS0.out.sys.cor.qc).2.2.1
 rw [HG.out] at k2
 go_wp2_with fail
 refine wp_scope_hop 1 (fun C HC0=>?_)
 have HC:=hid HC0
 clear HC0
 go_wp2_with fail
 go_quiet (fail)
 have HS1:=hid (HS0.out.pure ((Only.refl (fun _=>False) w).drewN nq))
 have HE1:Hid (Ext CY w κ (w.drewN nq) κ):=hid (Ext.pure ((Only.refl (fun _=>False) w).drewN nq))
 clear p1 p2 k2 HS0 HE0
 generalize w.drewN nq=w1 at *
 go_wp2_with fail
 go_step3
 refine Hop_goto ((congrArg (fun d=>findLabel d 1) HC.out).trans rfl) ?_
 clear HC
 have p1:=HS1.out.cyc.p1
 rw [HAT.out] at p1
 have p2:=HS1.out.cyc.p2
 have ff:=HS1.out.cyc.fz
 go_upto_region 18 with fail
 obtain ⟨e2,s2⟩:=HS1.out.mine (Cyc.only_y (Cyc.only_y (Only.refl _ w1) 1 (.int .i64 1)) 2 (.int .i64 0)) ((HS1.out.cyc.put 1 (.int .i64 1) { y with at_:=1 } (fun _ _ _=>⟨_,_,_,rfl⟩)).put 2 (.int .i64 0) { y with at_:=1,i:=0 } (fun _ _ _=>⟨_,_,_,rfl⟩))
 have HS2:=hid s2
 have HE2:=hid (HE1.out.trans e2)
 clear e2 s2
 clear p1 p2 ff
 generalize ((w1.setCell ⟨yb,1,none⟩ (.int .i64 1)).setCell ⟨yb,2,none⟩ (.int .i64 0))=w2 at *
 go_wp2_with fail
 refine (polls_no w2 HS2.out z rfl HZ.out.1 HZ.out.2.1 HZ.out.2.2).mono ?_
 rintro r w5 ⟨rfl,κ5,m5,y5,e5,s5,rfl,rfl⟩
 have HS5:=hid s5
 have HE5:=hid (HE2.out.trans e5)
 clear e5 s5
 go_wp2_with fail
 first | simp only [Hop_normal] | simp only [Hop_ret]
 go_end0
 exact ⟨rfl,_,_,_,HE5.out,HS5.out,rfl,rfl⟩
theorem roots_poll1_no (z:Int) (w:World) (h:Cys w c K κ m b s yb y) (hat:y.at_=1) (hi:y.i=0) (hg:c.globals=1) (ht:c.threads=1) (hz:m.stats[0]?=some z) (hd:(z == -1 || z == m.st)=false) :
  Calls Tryz.prog 59 #[.pointer (some ⟨yb,0,none⟩),.pointer (some ⟨K.kb,0,none⟩)] w (CAns w c K κ b s yb (.tuple #[]) (fun _ _ m' y'=>m'=m∧y'={ y with at_:=1,i:=0 })):=by
 have HS0:=hid h
 have HE0:Hid (Ext CY w κ w κ):=hid (Ext.refl _ _ _)
 have HI:=hid hi
 have HAT:=hid hat
 have HG:=hid hg
 have HZ:=hid (And.intro ht (And.intro hz hd))
 have p1:=h.cyc.p1
 rw [hat] at p1
 have p2:=h.cyc.p2
 rw [hi] at p2
 clear h hg ht hz hd
 go_enter Tryz.func59,Tryz.ntmps59
 clear hat hi
 have k2:=(HS0.out.sys.cor.qc).2.2.1
 rw [HG.out] at k2
 go_wp2_with fail
 refine wp_scope_hop 1 (fun C HC0=>?_)
 have HC:=hid HC0
 clear HC0
 go_wp2_with fail
 go_quiet (fail)
 have HS1:=hid (HS0.out.pure ((Only.refl (fun _=>False) w).drewN nq))
 have HE1:Hid (Ext CY w κ (w.drewN nq) κ):=hid (Ext.pure ((Only.refl (fun _=>False) w).drewN nq))
 clear p1 p2 k2 HS0 HE0
 generalize w.drewN nq=w1 at *
 go_wp2_with fail
 go_step3
 refine Hop_goto ((congrArg (fun d=>findLabel d 1) HC.out).trans rfl) ?_
 clear HC
 have p1:=HS1.out.cyc.p1
 rw [HAT.out] at p1
 have p2:=HS1.out.cyc.p2
 have ff:=HS1.out.cyc.fz
 clear p2 ff
 go_wp2_with fail
 refine (polls_no w1 HS1.out z HI.out HZ.out.1 HZ.out.2.1 HZ.out.2.2).mono ?_
 rintro r w5 ⟨rfl,κ5,m5,y5,e5,s5,rfl,rfl⟩
 have HS5:=hid s5
 have HE5:=hid (HE1.out.trans e5)
 clear e5 s5
 go_wp2_with fail
 first | simp only [Hop_normal] | simp only [Hop_ret]
 go_end0
 exact ⟨rfl,_,_,_,HE5.out,HS5.out,rfl,by have h1:=HAT.out;have h2:=HI.out;clear HAT HI HS5 HE5;revert h1 h2;cases y5;intro h1 h2;simp only at h1 h2;subst h1 h2;rfl⟩
end
end Go.Proofs.YtpgdiceeimehiaaGreat
namespace Go.Proofs.YtpgdiceeimehiaaGreat.Hl
open Go.RowKit
structure St where
 from_:Int
 sense:Bool
 pc:Int
def cs (c:Cn) (v:Value) (s:St) (n:Int):Array Value:=#[.int .i64 c.frags,.int .i64 c.spine,.int .i64 c.globals,.int .i64 c.threads,.int .i64 c.locals,.int .i64 c.cache,.int .i64 c.stack,.int .i64 c.low,v,.int .i64 s.from_,.int .i64 0,.bool s.sense,.int .i64 s.pc,.int .i64 0,.int .i64 0,.int .i64 0,.int .i64 0,.int .i64 0,.complex .f64 0 0,.int .i64 0,.int .i64 0,.int .i64 n]
structure At (w:World) (hb:Nat) (c:Cn) (v:Value) (sh:List Sh) (s:St):Prop where
 me:∃ n:Int,w.heap[hb]?=some (.cells (cs c v s n) 227 (0,0))
 conf:ShsR w w.heap.size v sh
 ok:checkI c sh=0
 ro:∀ k,CfS v sh k→k≠hb
section
variable {w w':World} {hb:Nat} {c:Cn} {v:Value} {sh:List Sh} {s:St}
theorem At.p0 (h:At w hb c v sh s):w.cell? ⟨hb,0,none⟩=some (.int .i64 c.frags):=by
 obtain ⟨n,hn⟩:=h.me
 rw [cell_of_row w _ _ _ _ _ hn];rfl
theorem At.p1 (h:At w hb c v sh s):w.cell? ⟨hb,1,none⟩=some (.int .i64 c.spine):=by
 obtain ⟨n,hn⟩:=h.me
 rw [cell_of_row w _ _ _ _ _ hn];rfl
theorem At.p2 (h:At w hb c v sh s):w.cell? ⟨hb,2,none⟩=some (.int .i64 c.globals):=by
 obtain ⟨n,hn⟩:=h.me
 rw [cell_of_row w _ _ _ _ _ hn];rfl
theorem At.p3 (h:At w hb c v sh s):w.cell? ⟨hb,3,none⟩=some (.int .i64 c.threads):=by
 obtain ⟨n,hn⟩:=h.me
 rw [cell_of_row w _ _ _ _ _ hn];rfl
theorem At.p4 (h:At w hb c v sh s):w.cell? ⟨hb,4,none⟩=some (.int .i64 c.locals):=by
 obtain ⟨n,hn⟩:=h.me
 rw [cell_of_row w _ _ _ _ _ hn];rfl
theorem At.p5 (h:At w hb c v sh s):w.cell? ⟨hb,5,none⟩=some (.int .i64 c.cache):=by
 obtain ⟨n,hn⟩:=h.me
 rw [cell_of_row w _ _ _ _ _ hn];rfl
theorem At.p6 (h:At w hb c v sh s):w.cell? ⟨hb,6,none⟩=some (.int .i64 c.stack):=by
 obtain ⟨n,hn⟩:=h.me
 rw [cell_of_row w _ _ _ _ _ hn];rfl
theorem At.p7 (h:At w hb c v sh s):w.cell? ⟨hb,7,none⟩=some (.int .i64 c.low):=by
 obtain ⟨n,hn⟩:=h.me
 rw [cell_of_row w _ _ _ _ _ hn];rfl
theorem At.p8 (h:At w hb c v sh s):w.cell? ⟨hb,8,none⟩=some (v):=by
 obtain ⟨n,hn⟩:=h.me
 rw [cell_of_row w _ _ _ _ _ hn];rfl
theorem At.p9 (h:At w hb c v sh s):w.cell? ⟨hb,9,none⟩=some (.int .i64 s.from_):=by
 obtain ⟨n,hn⟩:=h.me
 rw [cell_of_row w _ _ _ _ _ hn];rfl
theorem At.p10 (h:At w hb c v sh s):w.cell? ⟨hb,10,none⟩=some (.int .i64 0):=by
 obtain ⟨n,hn⟩:=h.me
 rw [cell_of_row w _ _ _ _ _ hn];rfl
theorem At.p12 (h:At w hb c v sh s):w.cell? ⟨hb,12,none⟩=some (.int .i64 s.pc):=by
 obtain ⟨n,hn⟩:=h.me
 rw [cell_of_row w _ _ _ _ _ hn];rfl
theorem At.p19 (h:At w hb c v sh s):w.cell? ⟨hb,19,none⟩=some (.int .i64 0):=by
 obtain ⟨n,hn⟩:=h.me
 rw [cell_of_row w _ _ _ _ _ hn];rfl
theorem At.p20 (h:At w hb c v sh s):w.cell? ⟨hb,20,none⟩=some (.int .i64 0):=by
 obtain ⟨n,hn⟩:=h.me
 rw [cell_of_row w _ _ _ _ _ hn];rfl
theorem At.p21 (h:At w hb c v sh s):∃ n:Int,w.cell? ⟨hb,21,none⟩=some (.int .i64 n):=by
 obtain ⟨n,hn⟩:=h.me
 exact ⟨n,by rw [cell_of_row w _ _ _ _ _ hn];rfl⟩
theorem At.fz (h:At w hb c v sh s) (k:Nat):w.frozen? ⟨hb,k,none⟩=false:=by
 obtain ⟨n,hn⟩:=h.me
 exact frozen_of_row w _ k _ _ hn
theorem At.only {T:Nat→Prop} (h:At w hb c v sh s) (ho:Only T w w') (hf:¬ T hb) (hn:∀ k,CfS v sh k→¬ T k):At w' hb c v sh s:=by
 obtain ⟨n,hm⟩:=h.me
 exact ⟨⟨n,ho.blk hm hf⟩,h.conf.only ho hn,h.ok,h.ro⟩
theorem At.pure (h:At w hb c v sh s) (ho:Pure w w'):At w' hb c v sh s:=h.only ho (fun f=>f) (fun _ _ f=>f)
theorem At.put (h:At w hb c v sh s) (i:Nat) (u:Value) (s':St) (e:∀ n,∃ n',(cs c v s n).setIfInBounds i u=cs c v s' n'):At (w.setCell ⟨hb,i,none⟩ u) hb c v sh s':=by
 obtain ⟨n,hm⟩:=h.me
 obtain ⟨n',hn'⟩:=e n
 have h2:=set_me (i:=i) (u:=u) hm
 rw [hn'] at h2
 have ho:Only (fun k=>k=hb) w (w.setCell ⟨hb,i,none⟩ u):=(Only.refl (fun k=>k=hb) w).setCell (p:=⟨hb,i,none⟩) (fun _=>rfl) _
 exact ⟨⟨n',h2⟩,h.conf.only ho (fun k hk e=>h.ro k hk e),h.ok,h.ro⟩
theorem only_h {a:World} (h:Only (fun k=>k=hb) a w) (i:Nat) (u:Value):Only (fun k=>k=hb) a (w.setCell ⟨hb,i,none⟩ u):=h.setCell (p:=⟨hb,i,none⟩) (fun _=>rfl) _
end
section
variable {w w':World} {hb:Nat} {c:Cn} {v:Value} {sh:List Sh} {s:St}
theorem check_0 (c:Cn) (v:Value) (sh:List Sh) (w:World) (hl:ShsR w w.heap.size v sh) (hok:checkI c sh=0):Calls Tryz.prog 6 #[cnV c v] w fun e w'=>e=.returned (.int .i64 0)∧Pure w w':=by
 have:=check_any c v sh w hl
 rw [hok] at this
 exact this
theorem looks_0 (mp sp:Value) (w:World) (h:At w hb c v sh s) (hpc:s.pc=0):Calls Tryz.prog 224 #[.pointer (some ⟨hb,0,none⟩),mp,sp] w fun e w'=>e=.returned (.bool true)∧Only (fun k=>k=hb) w w'∧At w' hb c v sh { s with pc:=11 }:=by
 have H:=hid h
 have p12:=h.p12
 rw [hpc] at p12
 have p10:=h.p10
 have ff:=h.fz
 clear h hpc
 go_enter Tryz.func224,Tryz.ntmps224
 go_wp2_with fail
 refine wp_scope_hop 0 (fun C HC0=>?_)
 clear HC0
 go_wp2_with fail
 have h1:=H.out.put 12 (.int .i64 11) { s with pc:=11 } (fun n=>⟨n,rfl⟩)
 have o1:=only_h (Only.refl (fun k=>k=hb) w) 12 (.int .i64 11)
 simp only [Hop_ret]
 go_ret
 exact ⟨rfl,o1,h1⟩
theorem does_0 (mp sp cp:Value) (w:World) (h:At w hb c v sh s) (hpc:s.pc=0) (hf:s.from_=0∨s.from_=1):Calls Tryz.prog 162 #[.pointer (some ⟨hb,0,none⟩),mp,sp,cp] w fun e w'=>e=.returned (.bool true)∧Only (fun k=>k=hb) w w'∧At w' hb c v sh { s with pc:=11 }:=by
 obtain ⟨A,cc,hv⟩:∃ A cc,v=.slice A sh.length cc:=by
  obtain ⟨⟨A,cc,e,_⟩,_⟩:=h.conf
  exact ⟨A,cc,e⟩
 subst hv
 have hsp:(0:Int)≤c.spine:=by have:=check_bd h.ok;omega
 have H:=hid h
 have HPC:=hid hpc
 clear h hpc
 have HCUT:Hid (∀ (w1:World),Pure w w1→At w1 hb c (.slice A sh.length cc) sh s):=hid (fun w1 hp=>H.out.pure hp)
 rcases hf with hf | hf
 ·have p0:=H.out.p0
  have p1:=H.out.p1
  have p2:=H.out.p2
  have p3:=H.out.p3
  have p4:=H.out.p4
  have p5:=H.out.p5
  have p6:=H.out.p6
  have p7:=H.out.p7
  have p8:=H.out.p8
  have p9:=H.out.p9
  rw [hf] at p9
  have p10:=H.out.p10
  clear hf
  go_enter Tryz.func162,Tryz.ntmps162
  go_wp2_with fail
  refine region_class (fun w'=>Pure w w') ((Only.refl _ w).drewN 1) (by kernel_rfl) (by kernel_rfl) ?_
  intro S f _ hfp hmk
  have q0:=fun s=>(hfp s).keep p0
  have q1:=fun s=>(hfp s).keep p1
  have q2:=fun s=>(hfp s).keep p2
  have q3:=fun s=>(hfp s).keep p3
  have q4:=fun s=>(hfp s).keep p4
  have q5:=fun s=>(hfp s).keep p5
  have q6:=fun s=>(hfp s).keep p6
  have q7:=fun s=>(hfp s).keep p7
  have q8:=fun s=>(hfp s).keep p8
  have q9:=fun s=>(hfp s).keep p9
  have qA:=fun s=>(hfp s).keep p10
  have HF:=hid hfp
  have HMK:=hid hmk
  clear hfp hmk p0 p1 p2 p3 p4 p5 p6 p7 p8 p9 p10
  repeat (go_big_quiet_step ((go_at_call 6;exact class_call HMK.out (HF.out _) (fun w' hD k=>hD.then k) (check_0 c _ sh _ (H.out.pure (HF.out _)).conf H.out.ok))))
  refine wpQuiet_nil ?_
  rintro w2 ⟨q,rfl⟩
  have hpw:=HF.out q
  clear q0 q1 q2 q3 q4 q5 q6 q7 q8 q9 qA HF HMK
  generalize f q=wc at *
  have H2:=hid (HCUT.out wc hpw)
  have O2:=hid (hpw.mono (T:=fun k=>k=hb) (fun _ _ f=>f.elim))
  have p12:=H2.out.p12
  rw [HPC.out] at p12
  clear hpw
  go_wp2_with fail
  refine (looks_0 mp sp wc H2.out HPC.out).mono ?_
  rintro e w3 ⟨rfl,ho3,h3⟩
  have H3:=hid (And.intro (O2.out.trans ho3 (fun _ _ h=>h)) h3)
  clear ho3 h3
  go_wp2_with fail
  go_ret
  exact ⟨rfl,H3.out⟩
 ·have p0:=H.out.p0
  have p1:=H.out.p1
  have p2:=H.out.p2
  have p3:=H.out.p3
  have p4:=H.out.p4
  have p5:=H.out.p5
  have p6:=H.out.p6
  have p7:=H.out.p7
  have p8:=H.out.p8
  have p9:=H.out.p9
  rw [hf] at p9
  have p10:=H.out.p10
  clear hf
  go_enter Tryz.func162,Tryz.ntmps162
  go_wp2_with fail
  refine region_class (fun w'=>Pure w w') ((Only.refl _ w).drewN 1) (by kernel_rfl) (by kernel_rfl) ?_
  intro S f _ hfp hmk
  have q0:=fun s=>(hfp s).keep p0
  have q1:=fun s=>(hfp s).keep p1
  have q2:=fun s=>(hfp s).keep p2
  have q3:=fun s=>(hfp s).keep p3
  have q4:=fun s=>(hfp s).keep p4
  have q5:=fun s=>(hfp s).keep p5
  have q6:=fun s=>(hfp s).keep p6
  have q7:=fun s=>(hfp s).keep p7
  have q8:=fun s=>(hfp s).keep p8
  have q9:=fun s=>(hfp s).keep p9
  have qA:=fun s=>(hfp s).keep p10
  have HF:=hid hfp
  have HMK:=hid hmk
  clear hfp hmk p0 p1 p2 p3 p4 p5 p6 p7 p8 p9 p10
  repeat (go_big_quiet_step ((go_at_call 6;exact class_call HMK.out (HF.out _) (fun w' hD k=>hD.then k) (check_0 c _ sh _ (H.out.pure (HF.out _)).conf H.out.ok))))
  refine wpQuiet_nil ?_
  rintro w2 ⟨q,rfl⟩
  have hpw:=HF.out q
  clear q0 q1 q2 q3 q4 q5 q6 q7 q8 q9 qA HF HMK
  generalize f q=wc at *
  have H2:=hid (HCUT.out wc hpw)
  have O2:=hid (hpw.mono (T:=fun k=>k=hb) (fun _ _ f=>f.elim))
  have p12:=H2.out.p12
  rw [HPC.out] at p12
  clear hpw
  go_wp2_with fail
  refine (looks_0 mp sp wc H2.out HPC.out).mono ?_
  rintro e w3 ⟨rfl,ho3,h3⟩
  have H3:=hid (And.intro (O2.out.trans ho3 (fun _ _ h=>h)) h3)
  clear ho3 h3
  go_wp2_with fail
  go_ret
  exact ⟨rfl,H3.out⟩
theorem step_0 (mp sp cp:Value) (w:World) (h:At w hb c v sh s) (hpc:s.pc=0) (hf:s.from_=0∨s.from_=1):Calls Tryz.prog 110 #[.pointer (some ⟨hb,0,none⟩),mp,sp,cp] w fun e w'=>e=.returned (.bool true)∧Only (fun k=>k=hb) w w'∧At w' hb c v sh { s with pc:=11 }:=by
 have H:=hid h
 have HPC:=hid (And.intro hpc hf)
 have p12:=h.p12
 rw [hpc] at p12
 obtain ⟨n,p21⟩:=h.p21
 have ff:=h.fz
 clear h hpc hf
 go_enter Tryz.func110,Tryz.ntmps110
 go_upto_region 4 with fail
 have h1:=H.out.put 21 (.int .i64 (wrap64 (n+1))) s (fun n2=>⟨wrap64 (n+1),rfl⟩)
 have H1:=hid h1
 have O1:=hid (only_h (Only.refl (fun k=>k=hb) w) 21 (.int .i64 (wrap64 (n+1))))
 clear h1 p12 p21 ff
 generalize w.setCell ⟨hb,21,none⟩ (.int .i64 (wrap64 (n+1)))=w1 at *
 go_wp2_with fail
 refine (does_0 mp sp cp w1 H1.out HPC.out.1 HPC.out.2).mono ?_
 rintro e w2 ⟨rfl,ho2,h2⟩
 have H2:=hid (And.intro (O1.out.trans ho2 (fun _ _ h=>h)) h2)
 have p12:=h2.p12
 clear ho2 h2
 go_wp2_with fail
 go_ret
 exact ⟨rfl,H2.out⟩
theorem errno_in (w:World) (h:At w hb c v sh s):Calls Tryz.prog 111 #[.pointer (some ⟨hb,0,none⟩)] w fun e w'=>e=.returned (.int .i64 0)∧w=w':=by
 have p:=h.p19
 clear h
 go_enter Tryz.func111,Tryz.ntmps111
 go_wp2_with fail
 go_ret
 exact ⟨rfl,rfl⟩
theorem moved_in (w:World) (h:At w hb c v sh s):Calls Tryz.prog 112 #[.pointer (some ⟨hb,0,none⟩)] w fun e w'=>e=.returned (.int .i64 0)∧w=w':=by
 have p:=h.p20
 clear h
 go_enter Tryz.func112,Tryz.ntmps112
 go_wp2_with fail
 go_ret
 exact ⟨rfl,rfl⟩
theorem new_in (fr:Int) (se:Bool) (w:World) (hl:ShsR w w.heap.size v sh) (hok:checkI c sh=0) (hx:∀ s∈sh,s.bs.length≤1000000) :
  Calls Tryz.prog 108 #[cnV c v,.int .i64 fr,.int .i64 0,.bool se] w fun e w'=>∃ hb v' m,e=.returned (.pointer (some ⟨hb,0,none⟩))∧Pure w w'∧w.heap.size≤hb∧(∀ k,CfS v' m k→w.heap.size≤k∧k<w'.heap.size)∧At w' hb c v' m ⟨fr,se,0⟩:=by
 obtain ⟨A,cc,rfl⟩:∃ A cc,v=.slice A sh.length cc:=by
  obtain ⟨⟨A,cc,e,_⟩,_⟩:=hl
  exact ⟨A,cc,e⟩
 have hr:=Row.new w c (.slice A sh.length cc)
 have HR:=hid hr
 have HL:=hid (fun (w':World) (hp:Pure w w')=>hl.pure hp)
 have HX:=hid hx
 have HOK:=hid hok
 clear hr hl hx hok
 go_enter Tryz.func108,Tryz.ntmps108
 go_upto_region 1 with fail
 have HZ0:Hid ((w.alloc (.cells #[.int .i64 c.frags,.int .i64 c.spine,.int .i64 c.globals,.int .i64 c.threads,.int .i64 c.locals,.int .i64 c.cache,.int .i64 c.stack,.int .i64 c.low,.slice A sh.length cc] 24)).heap.size=w.heap.size+1):=hid (by simp)
 generalize w.alloc (.cells #[.int .i64 c.frags,.int .i64 c.spine,.int .i64 c.globals,.int .i64 c.threads,.int .i64 c.locals,.int .i64 c.cache,.int .i64 c.stack,.int .i64 c.low,.slice A sh.length cc] 24)=W at *
 obtain ⟨k0,k1,k2,k3,k4,k5,k6,k7,k8,kf⟩:=HR.out.cells
 go_wp2_with fail
 refine (copy_in c _ sh W (HL.out W HR.out.2.2) HOK.out HX.out).mono ?_
 rintro e w2 ⟨A2,d2,m2,rfl,hp2,hs2,hf2,ha2⟩
 have HP2:=hid (HR.out.2.2.then hp2)
 have HS2:=hid hs2
 have HF2:Hid (∀ k,CfS (.slice A2 sh.length d2) m2 k→w.heap.size≤k∧k<w2.heap.size):=hid (fun k hk=>by have:=hf2 k hk;have:=HZ0.out;omega)
 have HA2:=hid ha2
 clear hp2 hs2 hf2 ha2 k0 k1 k2 k3 k4 k5 k6 k7 k8 kf
 go_wp2_with fail
 go_ret
 have hm:=heap_alloc_new w2 (.cells (cs c (.slice A2 sh.length d2) ⟨fr,se,0⟩ 0) 227)
 have hp:=(Only.refl (fun _=>False) w2).alloc (.cells (cs c (.slice A2 sh.length d2) ⟨fr,se,0⟩ 0) 227)
 exact ⟨w2.heap.size,_,m2,rfl,HP2.out.then hp,HP2.out.size,fun k hk=>⟨(HF2.out k hk).1,Nat.lt_of_lt_of_le (HF2.out k hk).2 hp.size⟩,⟨⟨0,hm⟩,HS2.out.pure hp,by rw [← HA2.out.check];exact HOK.out,fun k hk e=>by have:=(HF2.out k hk).2;omega⟩⟩
end
end Go.Proofs.YtpgdiceeimehiaaGreat.Hl
