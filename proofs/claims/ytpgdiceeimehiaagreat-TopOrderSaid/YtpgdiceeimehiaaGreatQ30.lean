/- Part 30 of the proof that spotop.TopOrder returns true for all arguments and leaves what was there as it was. -/
import Derived.StillTailTactics
import Derived.Test.YtpgdiceeimehiaaGreatQ26
import Derived.Test.YtpgdiceeimehiaaGreatQ29
set_option maxRecDepth 100000
set_option maxHeartbeats 16000000
open Go.Lib (hid)
namespace Go.Proofs.YtpgdiceeimehiaaGreat
open Go.RowKit
open Ac (wrs OpD opV opO op_cells Vl Wr resV resZ zeroVl res_cells res_kept nT one_new two_new lays_any done_any fails_any CT)
section
variable {w w':World} {c:Cn} {K:Cor.Q} {κ:Nat→Nat} {m:Cor.St} {b:Ac.B} {s:Ac.St}
open Ac (op_cells)
theorem step_border (P:World→(Nat→Nat)→Prop) (w:World) (h:Sys w c K κ m b s) (hph:s.phase=1) (hP:Keep9 P) (hc:∀ w1 κ1,Sys w1 c K κ1 m b s→Calls Tryz.prog 67 #[.pointer (some ⟨b.ab,0,none⟩),.pointer (some ⟨K.kb,0,none⟩)] w1 fun r w'=>r=.returned (.tuple #[])∧∃ κ',Ext CT w1 κ1 w' κ'∧P w' κ'):Calls Tryz.prog 25 #[.pointer (some ⟨b.ab,0,none⟩),.pointer (some ⟨K.kb,0,none⟩)] w (Ans w κ 0 0 0 zeroVl false P):=by
 obtain ⟨hp,-,hrz⟩:=one_new w #[.int .i64 0,.int .i64 0,.int .i64 0,.bool false,.complex .f64 0 0] 46
 have H1:=hid (h.pure9 hp)
 have HR:=hid hrz
 have HX1:Hid (paint w.heap.size κ 9 (w.heap.size)=9):=hid (paint_new (by omega))
 have HLE:Hid (w.heap.size≤w.heap.size):=hid (by omega)
 have HPH:=hid hph
 have HPP:=hid hP
 have HC:=hid hc
 clear hp hrz h hph hP hc
 go_enter Tryz.func25,Tryz.ntmps25
 go_upto_region 1 with fail
 generalize w.alloc resZ=W at *
 generalize paint w.heap.size κ 9=κ1 at *
 obtain ⟨E1,S1⟩:=H1.out
 have HE1:=hid E1
 have HS1:=hid S1
 clear E1 S1 H1
 have c3:=HS1.out.act.p3
 rw [HPH.out] at c3
 go_wp2_with fail
 refine (HC.out W κ1 HS1.out).mono ?_
 rintro r w2 ⟨rfl,κ2,e2,p2⟩
 have HQ2:=hid p2
 have HE2:=hid (HE1.out.trans e2)
 obtain ⟨hr2,hx2⟩:=res_kept e2 HX1.out nT HR.out
 have HR2:=hid hr2
 have HX2:=hid hx2
 clear e2 p2 hr2 hx2 c3
 obtain ⟨z0,z1,z2,z3,z4⟩:=res_cells HR2.out
 have f1:=fun k=>frozen_of_row w2 w.heap.size k _ _ HR2.out
 go_wp2_with fail
 refine bodyPost_ret (v:=.tuple #[.agg #[.int .i64 0,.int .i64 0,.int .i64 0,.bool false,.complex .f64 0 0],.bool false]) (by simp [results,Tryz.results25,go_sem,z0,z1,z2,z3,z4]) rfl ⟨rfl,_,(((((HE2.out.new HLE.out _ _).new HLE.out _ _).new HLE.out _ _).new HLE.out _ _).new HLE.out _ _),(HPP.out _ _ _ _ _ HX2.out (HPP.out _ _ _ _ _ HX2.out (HPP.out _ _ _ _ _ HX2.out (HPP.out _ _ _ _ _ HX2.out (HPP.out _ _ _ _ _ HX2.out HQ2.out)))))⟩
theorem step_within (a1 a2 a3:Int) (v:Vl) (d:Bool) (n:Nat) (P:World→(Nat→Nat)→Prop) (w:World) (h:Sys w c K κ m b s) (hph:s.phase=2) (hn:s.own=(n:Int)) (hn2:n≤1000000000) (hP:Keep9 P) (hc:∀ w1 κ1,Sys w1 c K κ1 m b { s with own:=((n+1:Nat):Int) }→Calls Tryz.prog 68 #[.pointer (some ⟨b.ab,0,none⟩),.pointer (some ⟨K.kb,0,none⟩)] w1 (Ans w1 κ1 a1 a2 a3 v d P)):Calls Tryz.prog 25 #[.pointer (some ⟨b.ab,0,none⟩),.pointer (some ⟨K.kb,0,none⟩)] w (Ans w κ a1 a2 a3 v d P):=by
 obtain ⟨v1,v2,v3⟩:=v
 obtain ⟨hp,-,hrz⟩:=one_new w #[.int .i64 0,.int .i64 0,.int .i64 0,.bool false,.complex .f64 0 0] 46
 have H1:=hid (h.pure9 hp)
 have HR:=hid hrz
 have HX1:Hid (paint w.heap.size κ 9 (w.heap.size)=9):=hid (paint_new (by omega))
 have HLE:Hid (w.heap.size≤w.heap.size):=hid (by omega)
 have HPH:=hid hph
 have HPP:=hid hP
 have HC:=hid hc
 have HN:=hid hn
 clear hp hrz h hph hP hc hn
 go_enter Tryz.func25,Tryz.ntmps25
 go_upto_region 1 with fail
 generalize w.alloc resZ=W at *
 generalize paint w.heap.size κ 9=κ1 at *
 obtain ⟨E1,S1⟩:=H1.out
 have HE1:=hid E1
 have HS1:=hid S1
 clear E1 S1 H1
 have c3:=HS1.out.act.p3
 rw [HPH.out] at c3
 have c10:=HS1.out.act.p10
 rw [HN.out] at c10
 have fz:=HS1.out.act.fb
 go_upto_region 12 with fail
 have h2:=HS1.out.act.put 10 (.int .i64 ((n:Int)+1)) { s with own:=((n:Int)+1) } rfl rfl ⟨rfl,rfl,rfl,rfl,rfl,rfl⟩
 have o2:Only (fun k=>k=b.ab) W (W.setCell ⟨b.ab,10,none⟩ (.int .i64 ((n:Int)+1))):=Ac.Only.me (Only.refl _ _) _ _
 obtain ⟨e2,S2⟩:=HS1.out.acted (Ac.ext_me HS1.out.act.k6 o2) h2
 have HS2:Hid (Sys _ c K κ1 m b { s with own:=((n+1:Nat):Int) }):=hid S2
 have HE2:=hid (HE1.out.trans e2)
 obtain ⟨hr2,hx2⟩:=res_kept e2 HX1.out nT HR.out
 have HR2:=hid hr2
 have HX2:=hid hx2
 clear h2 o2 e2 S2 hr2 hx2 c10 fz c3
 generalize W.setCell ⟨b.ab,10,none⟩ (.int .i64 ((n:Int)+1))=w2 at *
 go_wp2_with fail
 refine (HC.out w2 κ1 HS2.out).mono ?_
 rintro r w3 ⟨rfl,κ3,e3,p3⟩
 have HQ3:=hid p3
 have HE3:=hid (HE2.out.trans e3)
 obtain ⟨hr2,hx2⟩:=res_kept e3 HX2.out nT HR2.out
 have HR3:=hid hr2
 have HX3:=hid hx2
 clear e3 p3 hr2 hx2
 obtain ⟨z0,z1,z2,z3,z4⟩:=res_cells HR3.out
 have f1:=fun k=>frozen_of_row w3 w.heap.size k _ _ HR3.out
 go_wp2_with fail
 refine bodyPost_ret (v:=.tuple #[.agg #[.int .i64 a1,.int .i64 a2,.int .i64 a3,.bool v1,.complex .f64 v2 v3],.bool d]) (by simp [results,Tryz.results25,go_sem,z0,z1,z2,z3,z4]) rfl ⟨rfl,_,(((((HE3.out.new HLE.out _ _).new HLE.out _ _).new HLE.out _ _).new HLE.out _ _).new HLE.out _ _),(HPP.out _ _ _ _ _ HX3.out (HPP.out _ _ _ _ _ HX3.out (HPP.out _ _ _ _ _ HX3.out (HPP.out _ _ _ _ _ HX3.out (HPP.out _ _ _ _ _ HX3.out HQ3.out)))))⟩
theorem step_waiting (a1 a2 a3:Int) (v:Vl) (d:Bool) (n:Nat) (P:World→(Nat→Nat)→Prop) (w:World) (h:Sys w c K κ m b s) (hph:s.phase=3) (hn:s.own=(n:Int)) (hn2:n≤1000000000) (hP:Keep9 P) (hc:∀ w1 κ1,Sys w1 c K κ1 m b { s with own:=((n+1:Nat):Int) }→Calls Tryz.prog 69 #[.pointer (some ⟨b.ab,0,none⟩),.pointer (some ⟨K.kb,0,none⟩)] w1 (Ans w1 κ1 a1 a2 a3 v d P)):Calls Tryz.prog 25 #[.pointer (some ⟨b.ab,0,none⟩),.pointer (some ⟨K.kb,0,none⟩)] w (Ans w κ a1 a2 a3 v d P):=by
 obtain ⟨v1,v2,v3⟩:=v
 obtain ⟨hp,-,hrz⟩:=one_new w #[.int .i64 0,.int .i64 0,.int .i64 0,.bool false,.complex .f64 0 0] 46
 have H1:=hid (h.pure9 hp)
 have HR:=hid hrz
 have HX1:Hid (paint w.heap.size κ 9 (w.heap.size)=9):=hid (paint_new (by omega))
 have HLE:Hid (w.heap.size≤w.heap.size):=hid (by omega)
 have HPH:=hid hph
 have HPP:=hid hP
 have HC:=hid hc
 have HN:=hid hn
 clear hp hrz h hph hP hc hn
 go_enter Tryz.func25,Tryz.ntmps25
 go_upto_region 1 with fail
 generalize w.alloc resZ=W at *
 generalize paint w.heap.size κ 9=κ1 at *
 obtain ⟨E1,S1⟩:=H1.out
 have HE1:=hid E1
 have HS1:=hid S1
 clear E1 S1 H1
 have c3:=HS1.out.act.p3
 rw [HPH.out] at c3
 have c10:=HS1.out.act.p10
 rw [HN.out] at c10
 have fz:=HS1.out.act.fb
 go_upto_region 15 with fail
 have h2:=HS1.out.act.put 10 (.int .i64 ((n:Int)+1)) { s with own:=((n:Int)+1) } rfl rfl ⟨rfl,rfl,rfl,rfl,rfl,rfl⟩
 have o2:Only (fun k=>k=b.ab) W (W.setCell ⟨b.ab,10,none⟩ (.int .i64 ((n:Int)+1))):=Ac.Only.me (Only.refl _ _) _ _
 obtain ⟨e2,S2⟩:=HS1.out.acted (Ac.ext_me HS1.out.act.k6 o2) h2
 have HS2:Hid (Sys _ c K κ1 m b { s with own:=((n+1:Nat):Int) }):=hid S2
 have HE2:=hid (HE1.out.trans e2)
 obtain ⟨hr2,hx2⟩:=res_kept e2 HX1.out nT HR.out
 have HR2:=hid hr2
 have HX2:=hid hx2
 clear h2 o2 e2 S2 hr2 hx2 c10 fz c3
 generalize W.setCell ⟨b.ab,10,none⟩ (.int .i64 ((n:Int)+1))=w2 at *
 go_wp2_with fail
 refine (HC.out w2 κ1 HS2.out).mono ?_
 rintro r w3 ⟨rfl,κ3,e3,p3⟩
 have HQ3:=hid p3
 have HE3:=hid (HE2.out.trans e3)
 obtain ⟨hr2,hx2⟩:=res_kept e3 HX2.out nT HR2.out
 have HR3:=hid hr2
 have HX3:=hid hx2
 clear e3 p3 hr2 hx2
 obtain ⟨z0,z1,z2,z3,z4⟩:=res_cells HR3.out
 have f1:=fun k=>frozen_of_row w3 w.heap.size k _ _ HR3.out
 go_wp2_with fail
 refine bodyPost_ret (v:=.tuple #[.agg #[.int .i64 a1,.int .i64 a2,.int .i64 a3,.bool v1,.complex .f64 v2 v3],.bool d]) (by simp [results,Tryz.results25,go_sem,z0,z1,z2,z3,z4]) rfl ⟨rfl,_,(((((HE3.out.new HLE.out _ _).new HLE.out _ _).new HLE.out _ _).new HLE.out _ _).new HLE.out _ _),(HPP.out _ _ _ _ _ HX3.out (HPP.out _ _ _ _ _ HX3.out (HPP.out _ _ _ _ _ HX3.out (HPP.out _ _ _ _ _ HX3.out (HPP.out _ _ _ _ _ HX3.out HQ3.out)))))⟩
theorem step_out (w:World) (h:Sys w c K κ m b s) (hph:s.phase=0) (hz:m.stats[b.t]?=some (-1)):Calls Tryz.prog 25 #[.pointer (some ⟨b.ab,0,none⟩),.pointer (some ⟨K.kb,0,none⟩)] w (Ans w κ 0 0 0 zeroVl false (fun w' κ'=>Sys w' c K κ' { m with stats:=m.stats.set b.t m.st } b { s with status:=m.st,sense:=m.se,phase:=1,pc:=0 })):=by
 obtain ⟨hp,-,hrz⟩:=one_new w #[.int .i64 0,.int .i64 0,.int .i64 0,.bool false,.complex .f64 0 0] 46
 have H1:=hid (h.pure9 hp)
 have HR:=hid hrz
 have HX1:Hid (paint w.heap.size κ 9 (w.heap.size)=9):=hid (paint_new (by omega))
 have HLE:Hid (w.heap.size≤w.heap.size):=hid (by omega)
 have HPH:=hid hph
 have HZ:=hid hz
 clear hp hrz h hph hz
 go_enter Tryz.func25,Tryz.ntmps25
 go_upto_region 1 with fail
 generalize w.alloc resZ=W at *
 generalize paint w.heap.size κ 9=κ1 at *
 obtain ⟨E1,S1⟩:=H1.out
 have HE1:=hid E1
 have HS1:=hid S1
 clear E1 S1 H1
 have c3:=HS1.out.act.p3
 rw [HPH.out] at c3
 have q12:=HS1.out.cor.q12
 have c0:=HS1.out.act.p0
 go_upto_region 3 with fail
 go_region_with (go_at_call 66;refine (Cor.join b.t W.drew HS1.out.drew.cor HZ.out).mono ?_;rintro r w3 ⟨rfl,he3,hc3⟩)
 all_goals
  obtain ⟨e3,S3⟩:=HS1.out.drew.cored he3 hc3
  have HS3:=hid S3
  have HE3:=hid (HE1.out.trans e3.drewl)
  obtain ⟨hr2,hx2⟩:=res_kept e3.drewl HX1.out nT HR.out
  have HR3:=hid hr2
  have HX3:=hid hx2
  clear he3 hc3 e3 S3 hr2 hx2 q12 c0 c3
  have c4:=HS3.out.act.p4
  have c5:=HS3.out.act.p5
  have c3:=HS3.out.act.p3
  have c7:=HS3.out.act.p7
  have fz:=HS3.out.act.fb
  go_upto_region 16 with fail
  have h4:=(((HS3.out.act.put 4 (.int .i64 m.st) { s with status:=m.st } rfl rfl ⟨rfl,rfl,rfl,rfl,rfl,rfl⟩).put 5 (.bool m.se) { s with status:=m.st,sense:=m.se } rfl rfl ⟨rfl,rfl,rfl,rfl,rfl,rfl⟩).put 3 (.int .i64 1) { s with status:=m.st,sense:=m.se,phase:=1 } rfl rfl ⟨rfl,rfl,rfl,rfl,rfl,rfl⟩).put 7 (.int .i64 0) { s with status:=m.st,sense:=m.se,phase:=1,pc:=0 } rfl rfl ⟨rfl,rfl,rfl,rfl,rfl,rfl⟩
  have o4:Only (fun k=>k=b.ab) w3 ((((w3.setCell ⟨b.ab,4,none⟩ (.int .i64 m.st)).setCell ⟨b.ab,5,none⟩ (.bool m.se)).setCell ⟨b.ab,3,none⟩ (.int .i64 1)).setCell ⟨b.ab,7,none⟩ (.int .i64 0)):=Ac.Only.me (Ac.Only.me (Ac.Only.me (Ac.Only.me (Only.refl _ _) _ _) _ _) _ _) _ _
  obtain ⟨e4,S4⟩:=HS3.out.acted (Ac.ext_me HS3.out.act.k6 o4) h4
  have HS4:=hid S4
  have HE4:=hid (HE3.out.trans e4)
  obtain ⟨hr2,hx2⟩:=res_kept e4 HX3.out nT HR3.out
  have HR4:=hid hr2
  have HX4:=hid hx2
  clear h4 o4 e4 S4 hr2 hx2 c3 c4 c5 c7 fz
  generalize (((w3.setCell ⟨b.ab,4,none⟩ (.int .i64 m.st)).setCell ⟨b.ab,5,none⟩ (.bool m.se)).setCell ⟨b.ab,3,none⟩ (.int .i64 1)).setCell ⟨b.ab,7,none⟩ (.int .i64 0)=w4 at *
  obtain ⟨z0,z1,z2,z3,z4⟩:=res_cells HR4.out
  have f1:=fun k=>frozen_of_row w4 w.heap.size k _ _ HR4.out
  go_wp2_with fail
  refine bodyPost_ret (v:=.tuple #[.agg #[.int .i64 0,.int .i64 0,.int .i64 0,.bool false,.complex .f64 0 0],.bool false]) (by simp [results,Tryz.results25,go_sem,z0,z1,z2,z3,z4]) rfl ⟨rfl,_,(((((HE4.out.new HLE.out _ _).new HLE.out _ _).new HLE.out _ _).new HLE.out _ _).new HLE.out _ _),(((((HS4.out.cell9 HX4.out _ _).cell9 HX4.out _ _).cell9 HX4.out _ _).cell9 HX4.out _ _).cell9 HX4.out _ _)⟩
theorem step_gone (w:World) (h:Sys w c K κ m b s) (hph:s.phase=4):Calls Tryz.prog 25 #[.pointer (some ⟨b.ab,0,none⟩),.pointer (some ⟨K.kb,0,none⟩)] w (Ans w κ 0 0 0 zeroVl false (fun w' κ'=>Sys w' c K κ' m b s)):=by
 obtain ⟨hp,-,hrz⟩:=one_new w #[.int .i64 0,.int .i64 0,.int .i64 0,.bool false,.complex .f64 0 0] 46
 have H1:=hid (h.pure9 hp)
 have HR:=hid hrz
 have HX1:Hid (paint w.heap.size κ 9 (w.heap.size)=9):=hid (paint_new (by omega))
 have HLE:Hid (w.heap.size≤w.heap.size):=hid (by omega)
 have HPH:=hid hph
 clear hp hrz h hph
 go_enter Tryz.func25,Tryz.ntmps25
 go_upto_region 1 with fail
 generalize w.alloc resZ=W at *
 generalize paint w.heap.size κ 9=κ1 at *
 obtain ⟨E1,S1⟩:=H1.out
 have HE1:=hid E1
 have HS1:=hid S1
 clear E1 S1 H1
 have c3:=HS1.out.act.p3
 rw [HPH.out] at c3
 obtain ⟨z0,z1,z2,z3,z4⟩:=res_cells HR.out
 have f1:=fun k=>frozen_of_row W w.heap.size k _ _ HR.out
 go_wp2_with fail
 refine bodyPost_ret (v:=.tuple #[.agg #[.int .i64 0,.int .i64 0,.int .i64 0,.bool false,.complex .f64 0 0],.bool false]) (by simp [results,Tryz.results25,go_sem,z0,z1,z2,z3,z4]) rfl ⟨rfl,_,(((((HE1.out.new HLE.out _ _).new HLE.out _ _).new HLE.out _ _).new HLE.out _ _).new HLE.out _ _),(((((HS1.out.cell9 HX1.out _ _).cell9 HX1.out _ _).cell9 HX1.out _ _).cell9 HX1.out _ _).cell9 HX1.out _ _)⟩
end
open Go.RowKit
structure Hp (w:World) (hb lg:Nat) (K:Cor.Q) (yb:Nat) (b:Ac.B):Prop where
 me:∃ (n:Int) (cc:Nat),w.heap[hb]?=some (.cells #[.pointer (some ⟨K.kb,0,none⟩),.pointer (some ⟨yb,0,none⟩),.slice (some ⟨lg,0,none⟩) 1 cc,.int .i64 n] 59 (0,0))
 row:w.cell? ⟨lg,0,none⟩=some (.pointer (some ⟨b.ab,0,none⟩))
 lt:lg<w.heap.size
section
variable {w w':World} {hb lg:Nat} {K:Cor.Q} {yb:Nat} {b:Ac.B}
theorem Hp.p0 (h:Hp w hb lg K yb b):w.cell? ⟨hb,0,none⟩=some (.pointer (some ⟨K.kb,0,none⟩)):=by
 obtain ⟨n,cc,hn⟩:=h.me
 rw [cell_of_row w _ _ _ _ _ hn];rfl
theorem Hp.p1 (h:Hp w hb lg K yb b):w.cell? ⟨hb,1,none⟩=some (.pointer (some ⟨yb,0,none⟩)):=by
 obtain ⟨n,cc,hn⟩:=h.me
 rw [cell_of_row w _ _ _ _ _ hn];rfl
theorem Hp.p2 (h:Hp w hb lg K yb b):∃ cc,w.cell? ⟨hb,2,none⟩=some (.slice (some ⟨lg,0,none⟩) 1 cc):=by
 obtain ⟨n,cc,hn⟩:=h.me
 exact ⟨cc,by rw [cell_of_row w _ _ _ _ _ hn];rfl⟩
theorem Hp.p3 (h:Hp w hb lg K yb b):∃ n:Int,w.cell? ⟨hb,3,none⟩=some (.int .i64 n):=by
 obtain ⟨n,cc,hn⟩:=h.me
 exact ⟨n,by rw [cell_of_row w _ _ _ _ _ hn];rfl⟩
theorem Hp.fz (h:Hp w hb lg K yb b) (k:Nat):w.frozen? ⟨hb,k,none⟩=false:=by
 obtain ⟨n,cc,hn⟩:=h.me
 exact frozen_of_row w _ k _ _ hn
theorem Hp.lb (h:Hp w hb lg K yb b):hb<w.heap.size:=by
 obtain ⟨n,cc,hn⟩:=h.me
 exact (Array.getElem?_eq_some_iff.1 hn).1
theorem Hp.only {T:Nat→Prop} (h:Hp w hb lg K yb b) (ho:Only T w w') (h1:¬ T hb) (h2:¬ T lg):Hp w' hb lg K yb b:=by
 obtain ⟨n,cc,hn⟩:=h.me
 exact ⟨⟨n,cc,ho.blk hn h1⟩,(ho.cell (p:=⟨lg,0,none⟩) h.lt h2).trans h.row,Nat.lt_of_lt_of_le h.lt ho.size⟩
theorem Hp.step (h:Hp w hb lg K yb b) (hne:lg≠hb) (n:Int):Hp (w.setCell ⟨hb,3,none⟩ (.int .i64 n)) hb lg K yb b:=by
 obtain ⟨n0,cc,hn⟩:=h.me
 have ho:Only (fun k=>k=hb) w (w.setCell ⟨hb,3,none⟩ (.int .i64 n)):=(Only.refl (fun k=>k=hb) w).setCell (p:=⟨hb,3,none⟩) (fun _=>rfl) _
 exact ⟨⟨n,cc,set_me (i:=3) (u:=.int .i64 n) hn⟩,(ho.cell (p:=⟨lg,0,none⟩) h.lt hne).trans h.row,Nat.lt_of_lt_of_le h.lt ho.size⟩
end
structure Mac (w:World) (c:Cn) (K:Cor.Q) (κ:Nat→Nat) (m:Cor.St) (b:Ac.B) (s:Ac.St) (yb:Nat) (y:Cyc.St) (hb lg:Nat):Prop where
 cys:Cys w c K κ m b s yb y
 hp:Hp w hb lg K yb b
 k12:κ hb=12
 k8:κ lg=8
def CM (x:Nat):Prop:=(1≤x∧x≤7)∨x=10∨x=11∨x=12
section
variable {w w':World} {c:Cn} {K:Cor.Q} {κ κ':Nat→Nat} {m m':Cor.St} {b:Ac.B} {s s':Ac.St} {yb hb lg:Nat} {y y':Cyc.St}
theorem Ext12.sys {C:Nat→Prop} (h:Sys w c K κ m b s) (he:Ext C w κ w' κ') (hC:∀ x,C x→x=9∨10≤x):Sys w' c K κ' m b s:=⟨h.cor.ext he (fun x hx=>by have:=hC x hx;omega),h.act.ext he (fun x hx=>by have:=hC x hx;omega)⟩
theorem Cys.ext12 {C:Nat→Prop} (h:Cys w c K κ m b s yb y) (he:Ext C w κ w' κ') (hC:∀ x,C x→x=9∨11≤x):Cys w' c K κ' m b s yb y :=
 ⟨Ext12.sys h.sys he (fun x hx=>by have:=hC x hx;omega),h.cyc.only he.only (fun hx=>by rw [h.k10] at hx;have:=hC _ hx;omega),(he.same _ h.cyc.lt).trans h.k10⟩
theorem Mac.cycled (h:Mac w c K κ m b s yb y hb lg) (he:Ext CY w κ w' κ') (hc:Cys w' c K κ' m' b s yb y'):Mac w' c K κ' m' b s yb y' hb lg :=
 ⟨hc,h.hp.only he.only (fun hx=>by rw [h.k12] at hx;unfold CY at hx;omega) (fun hx=>by rw [h.k8] at hx;unfold CY at hx;omega),(he.same _ h.hp.lb).trans h.k12,(he.same _ h.hp.lt).trans h.k8⟩
theorem Mac.acted (h:Mac w c K κ m b s yb y hb lg) (he:Ext Ac.CT w κ w' κ') (hs:Sys w' c K κ' m' b s'):Mac w' c K κ' m' b s' yb y hb lg :=
 ⟨⟨hs,h.cys.cyc.only he.only (fun hx=>by rw [h.cys.k10] at hx;unfold Ac.CT at hx;omega),(he.same _ h.cys.cyc.lt).trans h.cys.k10⟩,h.hp.only he.only (fun hx=>by rw [h.k12] at hx;unfold Ac.CT at hx;omega) (fun hx=>by rw [h.k8] at hx;unfold Ac.CT at hx;omega),(he.same _ h.hp.lb).trans h.k12,(he.same _ h.hp.lt).trans h.k8⟩
theorem Mac.pure9 (h:Mac w c K κ m b s yb y hb lg) (hp:Pure w w'):Mac w' c K (paint w.heap.size κ 9) m b s yb y hb lg :=
 ⟨h.cys.ext12 (C:=fun _=>False) (Ext.paint 9 (hp.mono (fun _ _ f=>f.elim))) (fun _ f=>f.elim),h.hp.only hp (fun f=>f) (fun f=>f),(paint_old h.hp.lb).trans h.k12,(paint_old h.hp.lt).trans h.k8⟩
theorem Mac.pure (h:Mac w c K κ m b s yb y hb lg) (hp:Pure w w'):Mac w' c K κ m b s yb y hb lg:=⟨h.cys.pure hp,h.hp.only hp (fun f=>f) (fun f=>f),h.k12,h.k8⟩
theorem Mac.cell9 (h:Mac w c K κ m b s yb y hb lg) {X:Nat} (hX:κ X=9) (i:Nat) (v:Value):Mac (w.setCell ⟨X,i,none⟩ v) c K κ m b s yb y hb lg:=by
 have ho:Only (fun k=>k=X) w (w.setCell ⟨X,i,none⟩ v):=(Only.refl (fun k=>k=X) w).setCell (p:=⟨X,i,none⟩) (fun _=>rfl) v
 have he:Ext (fun x=>x=9) w κ (w.setCell ⟨X,i,none⟩ v) κ:=Ext.of (ho.mono (fun k _ hk=>by rw [hk];exact hX))
 exact ⟨h.cys.ext12 he (fun x hx=>.inl hx),h.hp.only ho (fun e=>by have:=h.k12;rw [e,hX] at this;omega) (fun e=>by have:=h.k8;rw [e,hX] at this;omega),h.k12,h.k8⟩
end
end Go.Proofs.YtpgdiceeimehiaaGreat
