/- Part 26 of the proof that spotop.TopOrder returns true for all arguments and leaves what was there as it was. -/
import Derived.StillTailTactics
import Derived.Deep.QuietTactic
import Derived.BigQuiet
import Derived.Deep.DeepCutAuto
import Derived.Deep.CutBlock
import Derived.Deep.RegionHeld3
import Derived.Deep.LoopGhost
import Derived.Laws.OwnMore
import Derived.Test.YtpgdiceeimehiaaGreatQ17
import Derived.Test.YtpgdiceeimehiaaGreatQ18
import Derived.Test.YtpgdiceeimehiaaGreatQ19
import Derived.Test.YtpgdiceeimehiaaGreatQ25
set_option maxRecDepth 100000
set_option maxHeartbeats 16000000
open Go.Lib (hid)
namespace Go.Proofs.YtpgdiceeimehiaaGreat
open Go.RowKit
section
variable {w:World} {c:Cn} {K:Cor.Q} {κ:Nat→Nat} {m:Cor.St} {b:Ac.B} {s:Ac.St} {yb:Nat} {y:Cyc.St}
theorem cstep_any (st:Int) (f:FuncId) (args:Array Value) (Q:World→(Nat→Nat)→Cor.St→Cyc.St→Prop) (w:World) (h:Cys w c K κ m b s yb y) (hst:y.stage=st) (hsf:(st=1∧f=57∧args=#[.pointer (some ⟨yb,0,none⟩),.pointer (some ⟨K.kb,0,none⟩)])∨(st=2∧f=58∧args=#[.pointer (some ⟨yb,0,none⟩),.pointer (some ⟨K.kb,0,none⟩),.int .i64 2,.int .i64 3])∨(st=3∧f=58∧args=#[.pointer (some ⟨yb,0,none⟩),.pointer (some ⟨K.kb,0,none⟩),.int .i64 3,.int .i64 4])∨(st=4∧f=59∧args=#[.pointer (some ⟨yb,0,none⟩),.pointer (some ⟨K.kb,0,none⟩)])∨(st=5∧f=60∧args=#[.pointer (some ⟨yb,0,none⟩),.pointer (some ⟨K.kb,0,none⟩)])∨(st=6∧f=61∧args=#[.pointer (some ⟨yb,0,none⟩),.pointer (some ⟨K.kb,0,none⟩)])∨(st=7∧f=62∧args=#[.pointer (some ⟨yb,0,none⟩),.pointer (some ⟨K.kb,0,none⟩)])∨(st=8∧f=63∧args=#[.pointer (some ⟨yb,0,none⟩),.pointer (some ⟨K.kb,0,none⟩)])∨(st=9∧f=64∧args=#[.pointer (some ⟨yb,0,none⟩),.pointer (some ⟨K.kb,0,none⟩)])∨(st=10∧f=65∧args=#[.pointer (some ⟨yb,0,none⟩),.pointer (some ⟨K.kb,0,none⟩)])) (hc:∀ w1,Ext (fun x=>x=10) w κ w1 κ→Cys w1 c K κ m b s yb y→Calls Tryz.prog f args w1 (CAns w1 c K κ b s yb (.tuple #[]) Q)) :
  Calls Tryz.prog 24 #[.pointer (some ⟨yb,0,none⟩),.pointer (some ⟨K.kb,0,none⟩)] w (CAns w c K κ b s yb (.tuple #[]) Q):=by
 rcases hsf with ⟨rfl,rfl,rfl⟩ | ⟨rfl,rfl,rfl⟩ | ⟨rfl,rfl,rfl⟩ | ⟨rfl,rfl,rfl⟩ | ⟨rfl,rfl,rfl⟩ | ⟨rfl,rfl,rfl⟩ | ⟨rfl,rfl,rfl⟩ | ⟨rfl,rfl,rfl⟩ | ⟨rfl,rfl,rfl⟩ | ⟨rfl,rfl,rfl⟩
 all_goals
  have HS:=hid h
  have HST:=hid hst
  have HC:=hid hc
  have p13:=h.cyc.p13
  have p8:=h.cyc.p8
  have p0:=h.cyc.p0
  rw [hst] at p0
  obtain ⟨n12,p12⟩:=h.cyc.p12
  have ff:=h.cyc.fz
  obtain ⟨sn,hsn⟩:∃ sn,y.started=sn:=⟨_,rfl⟩
  rw [hsn] at p8
  clear h hst hc hsn
  cases sn with
  | zero =>
   have HS1:=HS
   have HE1:Hid (Ext (fun x=>x=10) w κ w κ):=hid (Ext.refl _ _ _)
   go_enter Tryz.func24,Tryz.ntmps24
   go_wp2_with fail
   refine (HC.out w HE1.out HS1.out).mono ?_
   rintro r w2 ⟨rfl,κ2,m2,y2,e2,s2,q2⟩
   have HQ:=hid (And.intro e2 (And.intro s2 q2))
   clear e2 s2 q2
   go_wp2_with fail
   go_end0
   exact ⟨rfl,κ2,m2,y2,((HE1.out.mono (D:=CY) (fun _ hx=>.inr (.inl hx))).trans HQ.out.1),HQ.out.2⟩
  | succ sn =>
   have hpos:decide ((0:Int)<((sn+1:Nat):Int))=true:=by simp
   go_enter Tryz.func24,Tryz.ntmps24
   go_upto_region 3 with fail
   have h2:=HS.out.cyc.put 12 (.int .i64 (wrap64 (n12+1))) y (fun _ _ _=>⟨_,_,_,rfl⟩)
   have o2:=Cyc.only_y (Only.refl (fun k=>k=yb) w) 12 (.int .i64 (wrap64 (n12+1)))
   have s2:=(HS.out.mine o2 h2).2
   have e2:Ext (fun x=>x=10) w κ (w.setCell ⟨yb,12,none⟩ (.int .i64 (wrap64 (n12+1)))) κ:=Ext.of (o2.mono (fun k _ hk=>by rw [hk];exact HS.out.k10))
   have HS1:=hid s2
   have HE1:=hid e2
   clear h2 o2 s2 e2 p13 p8 p12 ff p0
   generalize w.setCell ⟨yb,12,none⟩ (.int .i64 (wrap64 (n12+1)))=w1 at *
   have p0:=HS1.out.cyc.p0
   rw [HST.out] at p0
   go_wp2_with fail
   refine (HC.out w1 HE1.out HS1.out).mono ?_
   rintro r w2 ⟨rfl,κ2,m2,y2,e2,s2,q2⟩
   have HQ:=hid (And.intro e2 (And.intro s2 q2))
   clear e2 s2 q2
   go_wp2_with fail
   go_end0
   exact ⟨rfl,κ2,m2,y2,((HE1.out.mono (D:=CY) (fun _ hx=>.inr (.inl hx))).trans HQ.out.1),HQ.out.2⟩
theorem cstep_starts (Q:World→(Nat→Nat)→Cor.St→Cyc.St→Prop) (w:World) (h:Cys w c K κ m b s yb y) (hst:y.stage=1) (hc:∀ w1,Ext (fun x=>x=10) w κ w1 κ→Cys w1 c K κ m b s yb y→Calls Tryz.prog 57 #[.pointer (some ⟨yb,0,none⟩),.pointer (some ⟨K.kb,0,none⟩)] w1 (CAns w1 c K κ b s yb (.tuple #[]) Q)) :
  Calls Tryz.prog 24 #[.pointer (some ⟨yb,0,none⟩),.pointer (some ⟨K.kb,0,none⟩)] w (CAns w c K κ b s yb (.tuple #[]) Q) :=
 cstep_any _ _ _ Q w h hst (.inl ⟨rfl,rfl,rfl⟩) hc
theorem cstep_first (Q:World→(Nat→Nat)→Cor.St→Cyc.St→Prop) (w:World) (h:Cys w c K κ m b s yb y) (hst:y.stage=2) (hc:∀ w1,Ext (fun x=>x=10) w κ w1 κ→Cys w1 c K κ m b s yb y→Calls Tryz.prog 58 #[.pointer (some ⟨yb,0,none⟩),.pointer (some ⟨K.kb,0,none⟩),.int .i64 2,.int .i64 3] w1 (CAns w1 c K κ b s yb (.tuple #[]) Q)) :
  Calls Tryz.prog 24 #[.pointer (some ⟨yb,0,none⟩),.pointer (some ⟨K.kb,0,none⟩)] w (CAns w c K κ b s yb (.tuple #[]) Q) :=
 cstep_any _ _ _ Q w h hst (.inr (.inl ⟨rfl,rfl,rfl⟩)) hc
theorem cstep_both (Q:World→(Nat→Nat)→Cor.St→Cyc.St→Prop) (w:World) (h:Cys w c K κ m b s yb y) (hst:y.stage=3) (hc:∀ w1,Ext (fun x=>x=10) w κ w1 κ→Cys w1 c K κ m b s yb y→Calls Tryz.prog 58 #[.pointer (some ⟨yb,0,none⟩),.pointer (some ⟨K.kb,0,none⟩),.int .i64 3,.int .i64 4] w1 (CAns w1 c K κ b s yb (.tuple #[]) Q)) :
  Calls Tryz.prog 24 #[.pointer (some ⟨yb,0,none⟩),.pointer (some ⟨K.kb,0,none⟩)] w (CAns w c K κ b s yb (.tuple #[]) Q) :=
 cstep_any _ _ _ Q w h hst (.inr (.inr (.inl ⟨rfl,rfl,rfl⟩))) hc
theorem cstep_roots (Q:World→(Nat→Nat)→Cor.St→Cyc.St→Prop) (w:World) (h:Cys w c K κ m b s yb y) (hst:y.stage=4) (hc:∀ w1,Ext (fun x=>x=10) w κ w1 κ→Cys w1 c K κ m b s yb y→Calls Tryz.prog 59 #[.pointer (some ⟨yb,0,none⟩),.pointer (some ⟨K.kb,0,none⟩)] w1 (CAns w1 c K κ b s yb (.tuple #[]) Q)) :
  Calls Tryz.prog 24 #[.pointer (some ⟨yb,0,none⟩),.pointer (some ⟨K.kb,0,none⟩)] w (CAns w c K κ b s yb (.tuple #[]) Q) :=
 cstep_any _ _ _ Q w h hst (.inr (.inr (.inr (.inl ⟨rfl,rfl,rfl⟩)))) hc
theorem cstep_marks (Q:World→(Nat→Nat)→Cor.St→Cyc.St→Prop) (w:World) (h:Cys w c K κ m b s yb y) (hst:y.stage=5) (hc:∀ w1,Ext (fun x=>x=10) w κ w1 κ→Cys w1 c K κ m b s yb y→Calls Tryz.prog 60 #[.pointer (some ⟨yb,0,none⟩),.pointer (some ⟨K.kb,0,none⟩)] w1 (CAns w1 c K κ b s yb (.tuple #[]) Q)) :
  Calls Tryz.prog 24 #[.pointer (some ⟨yb,0,none⟩),.pointer (some ⟨K.kb,0,none⟩)] w (CAns w c K κ b s yb (.tuple #[]) Q) :=
 cstep_any _ _ _ Q w h hst (.inr (.inr (.inr (.inr (.inl ⟨rfl,rfl,rfl⟩))))) hc
theorem cstep_turns (Q:World→(Nat→Nat)→Cor.St→Cyc.St→Prop) (w:World) (h:Cys w c K κ m b s yb y) (hst:y.stage=6) (hc:∀ w1,Ext (fun x=>x=10) w κ w1 κ→Cys w1 c K κ m b s yb y→Calls Tryz.prog 61 #[.pointer (some ⟨yb,0,none⟩),.pointer (some ⟨K.kb,0,none⟩)] w1 (CAns w1 c K κ b s yb (.tuple #[]) Q)) :
  Calls Tryz.prog 24 #[.pointer (some ⟨yb,0,none⟩),.pointer (some ⟨K.kb,0,none⟩)] w (CAns w c K κ b s yb (.tuple #[]) Q) :=
 cstep_any _ _ _ Q w h hst (.inr (.inr (.inr (.inr (.inr (.inl ⟨rfl,rfl,rfl⟩)))))) hc
theorem cstep_hauls (Q:World→(Nat→Nat)→Cor.St→Cyc.St→Prop) (w:World) (h:Cys w c K κ m b s yb y) (hst:y.stage=7) (hc:∀ w1,Ext (fun x=>x=10) w κ w1 κ→Cys w1 c K κ m b s yb y→Calls Tryz.prog 62 #[.pointer (some ⟨yb,0,none⟩),.pointer (some ⟨K.kb,0,none⟩)] w1 (CAns w1 c K κ b s yb (.tuple #[]) Q)) :
  Calls Tryz.prog 24 #[.pointer (some ⟨yb,0,none⟩),.pointer (some ⟨K.kb,0,none⟩)] w (CAns w c K κ b s yb (.tuple #[]) Q) :=
 cstep_any _ _ _ Q w h hst (.inr (.inr (.inr (.inr (.inr (.inr (.inl ⟨rfl,rfl,rfl⟩))))))) hc
theorem cstep_settles (Q:World→(Nat→Nat)→Cor.St→Cyc.St→Prop) (w:World) (h:Cys w c K κ m b s yb y) (hst:y.stage=8) (hc:∀ w1,Ext (fun x=>x=10) w κ w1 κ→Cys w1 c K κ m b s yb y→Calls Tryz.prog 63 #[.pointer (some ⟨yb,0,none⟩),.pointer (some ⟨K.kb,0,none⟩)] w1 (CAns w1 c K κ b s yb (.tuple #[]) Q)) :
  Calls Tryz.prog 24 #[.pointer (some ⟨yb,0,none⟩),.pointer (some ⟨K.kb,0,none⟩)] w (CAns w c K κ b s yb (.tuple #[]) Q) :=
 cstep_any _ _ _ Q w h hst (.inr (.inr (.inr (.inr (.inr (.inr (.inr (.inl ⟨rfl,rfl,rfl⟩)))))))) hc
theorem cstep_sweeps (Q:World→(Nat→Nat)→Cor.St→Cyc.St→Prop) (w:World) (h:Cys w c K κ m b s yb y) (hst:y.stage=9) (hc:∀ w1,Ext (fun x=>x=10) w κ w1 κ→Cys w1 c K κ m b s yb y→Calls Tryz.prog 64 #[.pointer (some ⟨yb,0,none⟩),.pointer (some ⟨K.kb,0,none⟩)] w1 (CAns w1 c K κ b s yb (.tuple #[]) Q)) :
  Calls Tryz.prog 24 #[.pointer (some ⟨yb,0,none⟩),.pointer (some ⟨K.kb,0,none⟩)] w (CAns w c K κ b s yb (.tuple #[]) Q) :=
 cstep_any _ _ _ Q w h hst (.inr (.inr (.inr (.inr (.inr (.inr (.inr (.inr (.inl ⟨rfl,rfl,rfl⟩))))))))) hc
theorem cstep_serves (Q:World→(Nat→Nat)→Cor.St→Cyc.St→Prop) (w:World) (h:Cys w c K κ m b s yb y) (hst:y.stage=10) (hc:∀ w1,Ext (fun x=>x=10) w κ w1 κ→Cys w1 c K κ m b s yb y→Calls Tryz.prog 65 #[.pointer (some ⟨yb,0,none⟩),.pointer (some ⟨K.kb,0,none⟩)] w1 (CAns w1 c K κ b s yb (.tuple #[]) Q)) :
  Calls Tryz.prog 24 #[.pointer (some ⟨yb,0,none⟩),.pointer (some ⟨K.kb,0,none⟩)] w (CAns w c K κ b s yb (.tuple #[]) Q) :=
 cstep_any _ _ _ Q w h hst (.inr (.inr (.inr (.inr (.inr (.inr (.inr (.inr (.inr (⟨rfl,rfl,rfl⟩)))))))))) hc
theorem cstep_idle_no (w:World) (h:Cys w c K κ m b s yb y) (hst:y.stage=0) (hw:(decide (0<m.s.en.countP Ln.isW) || decide ((Po.cnt m.s.fr:Int)<c.low) || m.s.forced)=false) :
  Calls Tryz.prog 24 #[.pointer (some ⟨yb,0,none⟩),.pointer (some ⟨K.kb,0,none⟩)] w (CAns w c K κ b s yb (.tuple #[]) (fun _ _ m' y'=>m'=m∧y'=y)):=by
 have HS:=hid h
 have HST:=hid hst
 have HC:=hid hw
 have p13:=h.cyc.p13
 have p8:=h.cyc.p8
 have p0:=h.cyc.p0
 rw [hst] at p0
 obtain ⟨n12,p12⟩:=h.cyc.p12
 have ff:=h.cyc.fz
 obtain ⟨sn,hsn⟩:∃ sn,y.started=sn:=⟨_,rfl⟩
 rw [hsn] at p8
 clear h hst hw hsn
 cases sn with
 | zero =>
  have HS1:=HS
  have HE1:Hid (Ext (fun x=>x=10) w κ w κ):=hid (Ext.refl _ _ _)
  go_enter Tryz.func24,Tryz.ntmps24
  have q11:=HS1.out.sys.cor.q11
  go_wp2_with fail
  have hwt:=Cor.wants w HS1.out.sys.cor
  rw [HC.out] at hwt
  refine hwt.mono ?_
  clear hwt
  rintro r w2 ⟨rfl,κ2,he2,hc2⟩
  obtain ⟨e2,s2⟩:=HS1.out.cored he2 hc2
  have HS2:=hid s2
  have HE2:=hid ((HE1.out.mono (D:=CY) (fun _ hx=>.inr (.inl hx))).trans e2)
  clear he2 hc2 e2 s2 q11
  go_wp2_with fail
  go_end0
  exact ⟨rfl,_,_,_,HE2.out,HS2.out,rfl,rfl⟩
 | succ sn =>
  have hpos:decide ((0:Int)<((sn+1:Nat):Int))=true:=by simp
  go_enter Tryz.func24,Tryz.ntmps24
  go_upto_region 3 with fail
  have h2:=HS.out.cyc.put 12 (.int .i64 (wrap64 (n12+1))) y (fun _ _ _=>⟨_,_,_,rfl⟩)
  have o2:=Cyc.only_y (Only.refl (fun k=>k=yb) w) 12 (.int .i64 (wrap64 (n12+1)))
  have s2:=(HS.out.mine o2 h2).2
  have e2:Ext (fun x=>x=10) w κ (w.setCell ⟨yb,12,none⟩ (.int .i64 (wrap64 (n12+1)))) κ:=Ext.of (o2.mono (fun k _ hk=>by rw [hk];exact HS.out.k10))
  have HS1:=hid s2
  have HE1:=hid e2
  clear h2 o2 s2 e2 p13 p8 p12 ff p0
  generalize w.setCell ⟨yb,12,none⟩ (.int .i64 (wrap64 (n12+1)))=w1 at *
  have p0:=HS1.out.cyc.p0
  rw [HST.out] at p0
  have q11:=HS1.out.sys.cor.q11
  go_wp2_with fail
  have hwt:=Cor.wants w1 HS1.out.sys.cor
  rw [HC.out] at hwt
  refine hwt.mono ?_
  clear hwt
  rintro r w2 ⟨rfl,κ2,he2,hc2⟩
  obtain ⟨e2,s2⟩:=HS1.out.cored he2 hc2
  have HS2:=hid s2
  have HE2:=hid ((HE1.out.mono (D:=CY) (fun _ hx=>.inr (.inl hx))).trans e2)
  clear he2 hc2 e2 s2 q11
  go_wp2_with fail
  go_end0
  exact ⟨rfl,_,_,_,HE2.out,HS2.out,rfl,rfl⟩
theorem cstep_idle_yes (w:World) (h:Cys w c K κ m b s yb y) (hst:y.stage=0) (hw:(decide (0<m.s.en.countP Ln.isW) || decide ((Po.cnt m.s.fr:Int)<c.low) || m.s.forced)=true) :
  Calls Tryz.prog 24 #[.pointer (some ⟨yb,0,none⟩),.pointer (some ⟨K.kb,0,none⟩)] w (CAns w c K κ b s yb (.tuple #[]) (fun _ _ m' y'=>m'=m∧y'={ y with stage:=1,at_:=0,i:=0 })):=by
 have HS:=hid h
 have HST:=hid hst
 have HC:=hid hw
 have p13:=h.cyc.p13
 have p8:=h.cyc.p8
 have p0:=h.cyc.p0
 rw [hst] at p0
 obtain ⟨n12,p12⟩:=h.cyc.p12
 have ff:=h.cyc.fz
 obtain ⟨sn,hsn⟩:∃ sn,y.started=sn:=⟨_,rfl⟩
 rw [hsn] at p8
 clear h hst hw hsn
 cases sn with
 | zero =>
  have HS1:=HS
  have HE1:Hid (Ext (fun x=>x=10) w κ w κ):=hid (Ext.refl _ _ _)
  go_enter Tryz.func24,Tryz.ntmps24
  have q11:=HS1.out.sys.cor.q11
  go_wp2_with fail
  have hwt:=Cor.wants w HS1.out.sys.cor
  rw [HC.out] at hwt
  refine hwt.mono ?_
  clear hwt
  rintro r w2 ⟨rfl,κ2,he2,hc2⟩
  obtain ⟨e2,s2⟩:=HS1.out.cored he2 hc2
  have HS2:=hid s2
  have HE2:=hid ((HE1.out.mono (D:=CY) (fun _ hx=>.inr (.inl hx))).trans e2)
  clear he2 hc2 e2 s2 q11
  go_wp2_with fail
  refine (enters_ 1 w2 HS2.out).mono ?_
  rintro r w3 ⟨rfl,κ3,m3,y3,e3,s3,rfl,rfl,rfl⟩
  have HS3:=hid s3
  have HE3:=hid (HE2.out.trans e3)
  clear e3 s3
  go_wp2_with fail
  go_end0
  exact ⟨rfl,_,_,_,HE3.out,HS3.out,rfl,rfl⟩
 | succ sn =>
  have hpos:decide ((0:Int)<((sn+1:Nat):Int))=true:=by simp
  go_enter Tryz.func24,Tryz.ntmps24
  go_upto_region 3 with fail
  have h2:=HS.out.cyc.put 12 (.int .i64 (wrap64 (n12+1))) y (fun _ _ _=>⟨_,_,_,rfl⟩)
  have o2:=Cyc.only_y (Only.refl (fun k=>k=yb) w) 12 (.int .i64 (wrap64 (n12+1)))
  have s2:=(HS.out.mine o2 h2).2
  have e2:Ext (fun x=>x=10) w κ (w.setCell ⟨yb,12,none⟩ (.int .i64 (wrap64 (n12+1)))) κ:=Ext.of (o2.mono (fun k _ hk=>by rw [hk];exact HS.out.k10))
  have HS1:=hid s2
  have HE1:=hid e2
  clear h2 o2 s2 e2 p13 p8 p12 ff p0
  generalize w.setCell ⟨yb,12,none⟩ (.int .i64 (wrap64 (n12+1)))=w1 at *
  have p0:=HS1.out.cyc.p0
  rw [HST.out] at p0
  have q11:=HS1.out.sys.cor.q11
  go_wp2_with fail
  have hwt:=Cor.wants w1 HS1.out.sys.cor
  rw [HC.out] at hwt
  refine hwt.mono ?_
  clear hwt
  rintro r w2 ⟨rfl,κ2,he2,hc2⟩
  obtain ⟨e2,s2⟩:=HS1.out.cored he2 hc2
  have HS2:=hid s2
  have HE2:=hid ((HE1.out.mono (D:=CY) (fun _ hx=>.inr (.inl hx))).trans e2)
  clear he2 hc2 e2 s2 q11
  go_wp2_with fail
  refine (enters_ 1 w2 HS2.out).mono ?_
  rintro r w3 ⟨rfl,κ3,m3,y3,e3,s3,rfl,rfl,rfl⟩
  have HS3:=hid s3
  have HE3:=hid (HE2.out.trans e3)
  clear e3 s3
  go_wp2_with fail
  go_end0
  exact ⟨rfl,_,_,_,HE3.out,HS3.out,rfl,rfl⟩
end
end Go.Proofs.YtpgdiceeimehiaaGreat
namespace Go.Proofs.YtpgdiceeimehiaaGreat.Opn
open Go.RowKit
open Go.ChangeMaps (setBlock)
def str (l:List UInt8):ByteArray:=⟨l.toArray⟩
theorem str_size (l:List UInt8):(str l).size=l.length:=by simp [str,ByteArray.size]
theorem str_at (l:List UInt8) (k:Nat) (b:UInt8) (h:l[k]?=some b) (h':k<(str l).size):(str l)[k]=b:=by
 have hk:=(List.getElem?_eq_some_iff.1 h).1
 have:=(List.getElem?_eq_some_iff.1 h).2
 rw [← this]
 rfl
theorem toList_loop (bs:ByteArray):∀ (n i:Nat) (r:List UInt8),bs.size-i=n→ByteArray.toList.loop bs i r=r.reverse++bs.data.toList.drop i:=by
 intro n
 induction n with
 | zero =>
  intro i r h
  unfold ByteArray.toList.loop
  rw [if_neg (by omega),List.drop_eq_nil_of_le (by have:bs.data.size-i=0:=h;simp;omega),List.append_nil]
 | succ n ih =>
  intro i r h
  unfold ByteArray.toList.loop
  have hi:i<bs.data.toList.length:=by have:bs.data.size-i=n+1:=h;simp;omega
  rw [if_pos (by omega),ih (i+1) _ (by omega),List.drop_eq_getElem_cons hi,List.reverse_cons,List.append_assoc]
  congr 2
  simp only [ByteArray.get!,List.cons_append,List.nil_append,List.cons.injEq,and_true]
  rw [getElem!_pos bs.data i (by simpa using hi)]
  simp
theorem str_toList (l:List UInt8):(str l).toList=l:=by
 unfold ByteArray.toList
 rw [toList_loop _ _ _ _ rfl]
 simp [str]
def wl:List (ByteArray × ByteArray):=[(⟨#[]⟩,⟨#[]⟩),(⟨#[110,101,119]⟩,⟨#[97,107]⟩),(⟨#[97,114,114,97,121]⟩,⟨#[97,107,110]⟩),(⟨#[108,111,97,100]⟩,⟨#[97,98,110]⟩),(⟨#[115,116,111,114,101]⟩,⟨#[97,110,98]⟩),(⟨#[103,101,116]⟩,⟨#[97,98,110]⟩),(⟨#[112,117,116]⟩,⟨#[97,110,98]⟩),(⟨#[108,111,111,107]⟩,⟨#[97,103]⟩),(⟨#[115,101,116]⟩,⟨#[103,98]⟩),(⟨#[115,97,109,101]⟩,⟨#[97,98,99]⟩),(⟨#[108,101,110,103,116,104]⟩,⟨#[97,98]⟩),(⟨#[107,105,110,100]⟩,⟨#[97,98]⟩),(⟨#[110,117,109,98,101,114]⟩,⟨#[97,122]⟩),(⟨#[99,108,101,97,114]⟩,⟨#[97]⟩),(⟨#[99,111,112,121]⟩,⟨#[97,98]⟩),(⟨#[97,100,100]⟩,⟨#[97,98,99]⟩),(⟨#[109,117,108]⟩,⟨#[97,98,99]⟩),(⟨#[99,111,108,108,101,99,116]⟩,⟨#[]⟩),(⟨#[108,101,97,118,101]⟩,⟨#[]⟩)]
def wdW (k:Nat):ByteArray:=(wl.getD k (⟨#[]⟩,⟨#[]⟩)).1
def wdN (k:Nat):ByteArray:=(wl.getD k (⟨#[]⟩,⟨#[]⟩)).2
def wcs:Array Value:=#[.string ⟨#[]⟩,.string ⟨#[]⟩,.string ⟨#[110,101,119]⟩,.string ⟨#[97,107]⟩,.string ⟨#[97,114,114,97,121]⟩,.string ⟨#[97,107,110]⟩,.string ⟨#[108,111,97,100]⟩,.string ⟨#[97,98,110]⟩,.string ⟨#[115,116,111,114,101]⟩,.string ⟨#[97,110,98]⟩,.string ⟨#[103,101,116]⟩,.string ⟨#[97,98,110]⟩,.string ⟨#[112,117,116]⟩,.string ⟨#[97,110,98]⟩,.string ⟨#[108,111,111,107]⟩,.string ⟨#[97,103]⟩,.string ⟨#[115,101,116]⟩,.string ⟨#[103,98]⟩,.string ⟨#[115,97,109,101]⟩,.string ⟨#[97,98,99]⟩,.string ⟨#[108,101,110,103,116,104]⟩,.string ⟨#[97,98]⟩,.string ⟨#[107,105,110,100]⟩,.string ⟨#[97,98]⟩,.string ⟨#[110,117,109,98,101,114]⟩,.string ⟨#[97,122]⟩,.string ⟨#[99,108,101,97,114]⟩,.string ⟨#[97]⟩,.string ⟨#[99,111,112,121]⟩,.string ⟨#[97,98]⟩,.string ⟨#[97,100,100]⟩,.string ⟨#[97,98,99]⟩,.string ⟨#[109,117,108]⟩,.string ⟨#[97,98,99]⟩,.string ⟨#[99,111,108,108,101,99,116]⟩,.string ⟨#[]⟩,.string ⟨#[108,101,97,118,101]⟩,.string ⟨#[]⟩]
theorem wcs_at (k:Nat) (hk:k<19):wcs[k * 2]?=some (.string (wdW k))∧wcs[k * 2+1]?=some (.string (wdN k)):=by
 rcases (by omega:k=0∨k=1∨k=2∨k=3∨k=4∨k=5∨k=6∨k=7∨k=8∨k=9∨k=10∨k=11∨k=12∨k=13∨k=14∨k=15∨k=16∨k=17∨k=18) with rfl | rfl | rfl | rfl | rfl | rfl | rfl | rfl | rfl | rfl | rfl | rfl | rfl | rfl | rfl | rfl | rfl | rfl | rfl <;> exact ⟨rfl,rfl⟩
theorem words_any (k:Nat) (hk:k<19) (w:World):Calls Tryz.prog 237 #[.int .i64 k] w fun e w'=>e=.returned (.tuple #[.string (wdW k),.string (wdN k)])∧Pure w w':=by
 have hb:=heap_alloc_new w (.cells wcs 320)
 have c0:(w.alloc (.cells wcs 320)).cell? ⟨w.heap.size,k * 2,none⟩=some (.string (wdW k)):=by rw [cell_of_row _ _ _ _ _ (0,0) hb];exact (wcs_at k hk).1
 have c1:(w.alloc (.cells wcs 320)).cell? ⟨w.heap.size,k * 2+1,none⟩=some (.string (wdN k)):=by rw [cell_of_row _ _ _ _ _ (0,0) hb];exact (wcs_at k hk).2
 have C0:=hid c0
 have C1:=hid c1
 have hp:=hid ((Only.refl (fun _=>False) w).alloc (.cells wcs 320))
 have h0:(0:Int)≤(k:Int):=by omega
 have h1:(k:Int)<19:=by omega
 clear hb c0 c1
 go_enter Tryz.func237,Tryz.ntmps237
 unfold wcs at C0 C1 hp
 go_wp2_with fail
 generalize w.alloc (.cells #[.string ⟨#[]⟩,.string ⟨#[]⟩,.string ⟨#[110,101,119]⟩,.string ⟨#[97,107]⟩,.string ⟨#[97,114,114,97,121]⟩,.string ⟨#[97,107,110]⟩,.string ⟨#[108,111,97,100]⟩,.string ⟨#[97,98,110]⟩,.string ⟨#[115,116,111,114,101]⟩,.string ⟨#[97,110,98]⟩,.string ⟨#[103,101,116]⟩,.string ⟨#[97,98,110]⟩,.string ⟨#[112,117,116]⟩,.string ⟨#[97,110,98]⟩,.string ⟨#[108,111,111,107]⟩,.string ⟨#[97,103]⟩,.string ⟨#[115,101,116]⟩,.string ⟨#[103,98]⟩,.string ⟨#[115,97,109,101]⟩,.string ⟨#[97,98,99]⟩,.string ⟨#[108,101,110,103,116,104]⟩,.string ⟨#[97,98]⟩,.string ⟨#[107,105,110,100]⟩,.string ⟨#[97,98]⟩,.string ⟨#[110,117,109,98,101,114]⟩,.string ⟨#[97,122]⟩,.string ⟨#[99,108,101,97,114]⟩,.string ⟨#[97]⟩,.string ⟨#[99,111,112,121]⟩,.string ⟨#[97,98]⟩,.string ⟨#[97,100,100]⟩,.string ⟨#[97,98,99]⟩,.string ⟨#[109,117,108]⟩,.string ⟨#[97,98,99]⟩,.string ⟨#[99,111,108,108,101,99,116]⟩,.string ⟨#[]⟩,.string ⟨#[108,101,97,118,101]⟩,.string ⟨#[]⟩] 320)=W at *
 generalize w.heap.size=B at *
 have c0:=C0.out
 have c1:=C1.out
 obtain ⟨sw,hsw⟩:∃ s,wdW k=s:=⟨_,rfl⟩
 obtain ⟨sn,hsn⟩:∃ s,wdN k=s:=⟨_,rfl⟩
 rw [hsw] at c0
 rw [hsn] at c1
 have SW:=hid hsw
 have SN:=hid hsn
 clear hsw hsn
 go_quiet (fail)
 go_wp2_with fail
 go_ret2
 exact ⟨by rw [SW.out,SN.out];rfl,hp.out.drewN _⟩
theorem field_any (X:Nat) (c:Int) (o:Nat) (w:World) (h:(c=97∧o=1)∨((c=98∨c=107)∧o=2)∨(c=99∧o=3)∨((c=110∨c=103)∧o=4)) :
  Calls Tryz.prog 238 #[.pointer (some ⟨X,0,none⟩),.int .i32 c] w fun e w'=>e=.returned (.pointer (some ⟨X,o,none⟩))∧w=w':=by
 rcases h with ⟨rfl,rfl⟩ | ⟨rfl | rfl,rfl⟩ | ⟨rfl,rfl⟩ | ⟨rfl | rfl,rfl⟩
 all_goals
  go_enter Tryz.func238,Tryz.ntmps238
  go_wp2_with fail
  go_ret
  exact ⟨rfl,rfl⟩
def kwL:List (List UInt8):=[[],[110,101,119],[97,114,114,97,121],[108,111,97,100],[115,116,111,114,101],[103,101,116],[112,117,116],[108,111,111,107],[115,101,116],[115,97,109,101],[108,101,110,103,116,104],[107,105,110,100],[110,117,109,98,101,114],[99,108,101,97,114],[99,111,112,121],[97,100,100],[109,117,108],[99,111,108,108,101,99,116],[108,101,97,118,101]]
def knL:List (List UInt8):=[[],[97,107],[97,107,110],[97,98,110],[97,110,98],[97,98,110],[97,110,98],[97,103],[103,98],[97,98,99],[97,98],[97,98],[97,122],[97],[97,98],[97,98,99],[97,98,99],[],[]]
def kw (k:Nat):List UInt8:=kwL.getD k []
def kn (k:Nat):List UInt8:=knL.getD k []
theorem wd_kw (k:Nat) (hk:k<19):wdW k=str (kw k)∧wdN k=str (kn k):=by
 rcases (by omega:k=0∨k=1∨k=2∨k=3∨k=4∨k=5∨k=6∨k=7∨k=8∨k=9∨k=10∨k=11∨k=12∨k=13∨k=14∨k=15∨k=16∨k=17∨k=18) with rfl | rfl | rfl | rfl | rfl | rfl | rfl | rfl | rfl | rfl | rfl | rfl | rfl | rfl | rfl | rfl | rfl | rfl | rfl <;> exact ⟨rfl,rfl⟩
theorem words_l (k:Nat) (hk:k<19) (w:World):Calls Tryz.prog 237 #[.int .i64 k] w fun e w'=>e=.returned (.tuple #[.string (str (kw k)),.string (str (kn k))])∧Pure w w':=by
 have h:=words_any k hk w
 rwa [(wd_kw k hk).1,(wd_kw k hk).2] at h
section
variable {P:Program}
theorem next_str {w:World} {r pos:Nat} {s:ByteArray} (ty:TypeId) (hr:w.heap[r]?=some (.stringIter s pos)) (h:pos<s.size) (ha:(s[pos]'h).toNat<128) :
  (Instr.next (.pointer (some ⟨r,0,none⟩)) true ty).run P w=.ok (.tuple #[.bool true,.int .i64 pos,.int .i32 (s[pos]'h).toNat]) (setBlock w r (.stringIter s (pos+1))):=by
 simp only [Instr.next,getObj,setObj,Sem.run_bind,Sem.run,hr,Result.andThen,h,if_true,decode_ascii s pos h ha]
 simp [goInt,setBlock]
theorem next_str_end {w:World} {r pos:Nat} {s:ByteArray} (ty:TypeId) (hr:w.heap[r]?=some (.stringIter s pos)) (h:¬ pos<s.size) :
  (Instr.next (.pointer (some ⟨r,0,none⟩)) true ty).run P w=.ok (.tuple #[.bool false]) w:=by
 simp [Instr.next,getObj,Sem.run,hr,h]
end
theorem setBlock_only (w:World) (b:Nat) (o:Obj):Only (fun k=>k=b) w (setBlock w b o):=by
 refine ⟨rfl,rfl,rfl,by simp [setBlock],fun k hk hn=>?_⟩
 simp only [setBlock]
 rw [Array.getElem?_setIfInBounds_ne (fun e=>hn e.symm)]
theorem setBlock_get (w:World) (b:Nat) (o:Obj) (h:b<w.heap.size):(setBlock w b o).heap[b]?=some o:=by simp [setBlock,h]
def GSig (c:UInt8):Prop:=c=97∨c=98∨c=107∨c=99∨c=110∨c=103∨c=122
theorem kn_sig (k:Nat) (h:k<19):∀ c∈kn k,GSig c:=by
 rcases (by omega:k=0∨k=1∨k=2∨k=3∨k=4∨k=5∨k=6∨k=7∨k=8∨k=9∨k=10∨k=11∨k=12∨k=13∨k=14∨k=15∨k=16∨k=17∨k=18) with rfl | rfl | rfl | rfl | rfl | rfl | rfl | rfl | rfl | rfl | rfl | rfl | rfl | rfl | rfl | rfl | rfl | rfl | rfl <;> simp [kn,knL,GSig]
end Go.Proofs.YtpgdiceeimehiaaGreat.Opn
