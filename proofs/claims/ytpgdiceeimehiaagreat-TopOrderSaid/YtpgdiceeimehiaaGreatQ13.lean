/- Part 13 of the proof that spotop.TopOrder returns true for all arguments and leaves what was there as it was. -/
import Derived.Test.YtpgdiceeimehiaaGreatQ04
import Derived.Test.YtpgdiceeimehiaaGreatQ06
import Derived.Test.YtpgdiceeimehiaaGreatQ12
set_option maxRecDepth 100000
set_option maxHeartbeats 16000000
open Go.Lib (hid)
namespace Go.Proofs.YtpgdiceeimehiaaGreat
open Go.RowKit
namespace Sp
section
variable (c:Cn) (sh:List Sh) (q:Q) (s:St)
theorem serve_none (se:Bool) (w:World) (h:At w c sh q s) (hix:Ln.ixI Ln.isW s.en=-1) :
  Calls Tryz.prog 116 #[.pointer (some ⟨q.sp,0,none⟩),.bool se] w fun e' w'=>e'=.returned (.bool false)∧Only (F q s) w w'∧At w' c sh q s:=by
 obtain ⟨-,-,-,⟨n,c3⟩,-⟩:=h.cs
 have fb:=h.fb
 have H0:=hid h
 have H1:=hid (h.count (wrap64 (n+1)))
 have O1:=hid (only_sp (Only.refl (F q s) w) 3 (.int .i64 (wrap64 (n+1))))
 have HIX:=hid hix
 clear h hix
 go_enter Tryz.func116,Tryz.ntmps116
 go_upto_region 2 with fail
 have HZ1:Hid ((w.setCell ⟨q.sp,3,none⟩ (.int .i64 (wrap64 (n+1)))).heap.size=w.heap.size):=hid (by simp [World.setCell])
 generalize w.setCell ⟨q.sp,3,none⟩ (.int .i64 (wrap64 (n+1)))=w1 at *
 obtain ⟨-,-,-,-,-,-,-,c15⟩:=H1.out.cs
 have hof:Calls Tryz.prog 166 #[.pointer (some ⟨q.li,0,none⟩)] w1 fun e' w'=>e'=.returned (.tuple #[.agg #[.int .i64 0,.int .i64 0,.int .i64 0,.int .i64 0,.int .i64 0,.int .i64 0,.slice none 0 0],.bool false])∧Pure w1 w':=Ln.lineFirst_no q.li s.lv s.en w1 H1.out.line HIX.out
 have HOF:=hid hof
 clear hof
 go_wp2_with fail
 refine HOF.out.mono ?_
 rintro e w2 ⟨rfl,hp2⟩
 have hp3:=Pure.then hp2 ((Only.refl (fun _=>False) _).alloc (.cells #[.int .i64 0,.int .i64 0,.int .i64 0,.int .i64 0,.int .i64 0,.int .i64 0,.slice none 0 0] 229))
 have H3:=hid (H1.out.pure hp3)
 have O3:Hid (Only (F q s) w (w2.alloc (.cells #[.int .i64 0,.int .i64 0,.int .i64 0,.int .i64 0,.int .i64 0,.int .i64 0,.slice none 0 0] 229))):=hid (O1.out.trans (pure_F hp3) (fun _ _ h=>h))
 clear hp2 hp3 HOF c15
 go_wp2_with fail
 go_ret
 exact ⟨rfl,O3.out,H3.out⟩
theorem serve_wait (e:Ln.En) (k:Nat) (se:Bool) (w:World) (h:At w c sh q s) (hk:1≤k) (hk2:k≤1024) (hen:s.en=[e]) (hst:e.state=0) (hfr:e.frags=k) (hspn:e.spine=0) (hcy:e.cycles<2) (hfit:¬ k≤Po.cnt s.fr) :
  Calls Tryz.prog 116 #[.pointer (some ⟨q.sp,0,none⟩),.bool se] w fun e' w'=>e'=.returned (.bool false)∧Only (F q s) w w'∧At w' c sh q s:=by
 obtain ⟨-,-,-,⟨n,c3⟩,-⟩:=h.cs
 have fb:=h.fb
 have H0:=hid h
 have H1:=hid (h.count (wrap64 (n+1)))
 have O1:=hid (only_sp (Only.refl (F q s) w) 3 (.int .i64 (wrap64 (n+1))))
 have HEN:=hid hen
 have HST:=hid hst
 have HFR:=hid hfr
 have HSN:=hid hspn
 have HCY:=hid (show decide (e.cycles ≥ 2)=false by simpa using hcy)
 have HFIT:=hid hfit
 clear h hen hst hfr hspn hcy hfit
 go_enter Tryz.func116,Tryz.ntmps116
 go_upto_region 2 with fail
 have HZ1:Hid ((w.setCell ⟨q.sp,3,none⟩ (.int .i64 (wrap64 (n+1)))).heap.size=w.heap.size):=hid (by simp [World.setCell])
 generalize w.setCell ⟨q.sp,3,none⟩ (.int .i64 (wrap64 (n+1)))=w1 at *
 obtain ⟨-,-,-,-,-,-,-,c15⟩:=H1.out.cs
 have HOF:=hid (Ln.lineFirst_in q.li s.lv s.en 0 e w1 H1.out.line (by rw [HEN.out];rfl) (by rw [HEN.out];exact ixI_0 (by simp [Ln.isW,HST.out])))
 go_wp2_with fail
 refine HOF.out.mono ?_
 rintro e2 w2 ⟨Ag,cg,rfl,hp2,hsg,hog⟩
 have hbR:=heap_alloc_new w2 (.cells #[.int .i64 e.thread,.int .i64 e.frags,.int .i64 e.spine,.int .i64 e.state,.int .i64 e.cycles,.int .i64 e.at_,.slice Ag e.got.length cg] 229)
 have hpR:=(Only.refl (fun _=>False) w2).alloc (.cells #[.int .i64 e.thread,.int .i64 e.frags,.int .i64 e.spine,.int .i64 e.state,.int .i64 e.cycles,.int .i64 e.at_,.slice Ag e.got.length cg] 229)
 have hp3:=Pure.then hp2 hpR
 have H3:=hid (H1.out.pure hp3)
 have O3:Hid (Only (F q s) w (w2.alloc (.cells #[.int .i64 e.thread,.int .i64 e.frags,.int .i64 e.spine,.int .i64 e.state,.int .i64 e.cycles,.int .i64 e.at_,.slice Ag e.got.length cg] 229))):=hid (O1.out.trans (pure_F hp3) (fun _ _ h=>h))
 have HBR:=hid hbR
 have HRW:Hid (w.heap.size≤w2.heap.size):=hid (by have:=hp2.size;have:=HZ1.out;omega)
 have HZ3:Hid (w.heap.size≤(w2.alloc (.cells #[.int .i64 e.thread,.int .i64 e.frags,.int .i64 e.spine,.int .i64 e.state,.int .i64 e.cycles,.int .i64 e.at_,.slice Ag e.got.length cg] 229)).heap.size):=hid (by have:=hp3.size;have:=HZ1.out;omega)
 have HFX:Hid (∀ k,F q s k→k<w.heap.size):=hid (fun k hk=>H0.out.lt k hk)
 clear hp2 hp3 HOF c15 hsg hog hbR hpR
 go_upto_region 5 with fail
 generalize w2.alloc (.cells #[.int .i64 e.thread,.int .i64 e.frags,.int .i64 e.spine,.int .i64 e.state,.int .i64 e.cycles,.int .i64 e.at_,.slice Ag e.got.length cg] 229)=w3 at *
 go_wp2_with fail
 refine region_class (fun W=>At W c sh q s∧Only (F q s) w W∧w.heap.size≤W.heap.size∧W.heap[w2.heap.size]?=some (.cells #[.int .i64 e.thread,.int .i64 e.frags,.int .i64 e.spine,.int .i64 e.state,.int .i64 e.cycles,.int .i64 e.at_,.slice Ag e.got.length cg] 229 (0,0))) ⟨H3.out.pure ((Only.refl _ _).drewN 1),O3.out.drewN 1,HZ3.out,HBR.out⟩ (by kernel_rfl) (by kernel_rfl) ?_
 intro S f hS hf hmk
 have r1:∀ s',(f s').cell? ⟨w2.heap.size,1,none⟩=some (.int .i64 (k:Int)):=fun s'=>by rw [cell_of_row _ _ _ _ _ _ (hf s').2.2.2];rw [← HFR.out];rfl
 have r2:∀ s',(f s').cell? ⟨w2.heap.size,2,none⟩=some (.int .i64 0):=fun s'=>by rw [cell_of_row _ _ _ _ _ _ (hf s').2.2.2];rw [← HSN.out];rfl
 have c13:=fun s'=>(hf s').1.cs.2.2.2.2.2.1
 have c14:=fun s'=>(hf s').1.cs.2.2.2.2.2.2.1
 have c15:=fun s'=>(hf s').1.cs.2.2.2.2.2.2.2
 have d0:=fun s'=>(hf s').1.cc.1
 have d1:=fun s'=>(hf s').1.cc.2.1
 have d2:=fun s'=>(hf s').1.cc.2.2.1
 have d3:=fun s'=>(hf s').1.cc.2.2.2.1
 have d4:=fun s'=>(hf s').1.cc.2.2.2.2.1
 have d5:=fun s'=>(hf s').1.cc.2.2.2.2.2.1
 have d6:=fun s'=>(hf s').1.cc.2.2.2.2.2.2.1
 have d7:=fun s'=>(hf s').1.cc.2.2.2.2.2.2.2.1
 have d8:=fun s'=>(hf s').1.cc.2.2.2.2.2.2.2.2
 have HF:=hid hf
 have HM:=hid hmk
 clear hf hmk
 have hfs:∀ s',Calls Tryz.prog 167 #[shV c q,.int .i64 (k:Int),.int .i64 0] (f s') fun e w'=>e=.returned (.bool false)∧Pure (f s') w':=fun s'=>by have:=fits_0 c sh q s k _ (HF.out s').1 hk (by omega);rwa [decide_eq_false HFIT.out] at this
 have HFT:=hid hfs
 clear hfs
 repeat (go_big_quiet_step ((go_at_call 167;exact class_call HM.out (HF.out _) (fun _ hd hp=>⟨hd.1.pure hp,hd.2.1.trans (pure_F hp) (fun _ _ h=>h),Nat.le_trans hd.2.2.1 hp.size,Pure.blk hp hd.2.2.2⟩) (HFT.out _))))
 clear r1 r2 c13 c14 c15 d0 d1 d2 d3 d4 d5 d6 d7 d8
 refine wpQuiet_nil ?_
 rintro w5 ⟨s5,e5⟩
 have D5:=HF.out s5
 rw [← e5] at D5
 have H5:=hid D5.1
 have O5:=hid D5.2.1
 have HZ5:=hid D5.2.2.1
 have HB5:=hid D5.2.2.2
 clear e5 D5 HF HM HFT
 have r4:w5.cell? ⟨w2.heap.size,4,none⟩=some (.int .i64 e.cycles):=by rw [cell_of_row _ _ _ _ _ _ HB5.out];rfl
 have hcy:=HCY.out
 go_wp2_with fail
 go_ret
 exact ⟨rfl,O5.out,H5.out⟩
theorem serve_fail (e:Ln.En) (k:Nat) (se:Bool) (w:World) (h:At w c sh q s) (hk:1≤k) (hk2:k≤1024) (hen:s.en=[e]) (hst:e.state=0) (hfr:e.frags=k) (hspn:e.spine=0) (hcy:2≤e.cycles) (hfit:¬ k≤Po.cnt s.fr) :
  Calls Tryz.prog 116 #[.pointer (some ⟨q.sp,0,none⟩),.bool se] w fun e' w'=>e'=.returned (.bool true)∧Only (F q s) w w'∧At w' c sh q { s with en:=[Ln.failed e] }:=by
 obtain ⟨-,-,-,⟨n,c3⟩,-⟩:=h.cs
 have fb:=h.fb
 have H0:=hid h
 have H1:=hid (h.count (wrap64 (n+1)))
 have O1:=hid (only_sp (Only.refl (F q s) w) 3 (.int .i64 (wrap64 (n+1))))
 have HEN:=hid hen
 have HST:=hid hst
 have HFR:=hid hfr
 have HSN:=hid hspn
 have HCY:=hid (show decide (e.cycles ≥ 2)=true by simpa using hcy)
 have HFIT:=hid hfit
 clear h hen hst hfr hspn hcy hfit
 go_enter Tryz.func116,Tryz.ntmps116
 go_upto_region 2 with fail
 have HZ1:Hid ((w.setCell ⟨q.sp,3,none⟩ (.int .i64 (wrap64 (n+1)))).heap.size=w.heap.size):=hid (by simp [World.setCell])
 generalize w.setCell ⟨q.sp,3,none⟩ (.int .i64 (wrap64 (n+1)))=w1 at *
 obtain ⟨-,-,-,-,-,-,-,c15⟩:=H1.out.cs
 have HOF:=hid (Ln.lineFirst_in q.li s.lv s.en 0 e w1 H1.out.line (by rw [HEN.out];rfl) (by rw [HEN.out];exact ixI_0 (by simp [Ln.isW,HST.out])))
 go_wp2_with fail
 refine HOF.out.mono ?_
 rintro e2 w2 ⟨Ag,cg,rfl,hp2,hsg,hog⟩
 have hbR:=heap_alloc_new w2 (.cells #[.int .i64 e.thread,.int .i64 e.frags,.int .i64 e.spine,.int .i64 e.state,.int .i64 e.cycles,.int .i64 e.at_,.slice Ag e.got.length cg] 229)
 have hpR:=(Only.refl (fun _=>False) w2).alloc (.cells #[.int .i64 e.thread,.int .i64 e.frags,.int .i64 e.spine,.int .i64 e.state,.int .i64 e.cycles,.int .i64 e.at_,.slice Ag e.got.length cg] 229)
 have hp3:=Pure.then hp2 hpR
 have H3:=hid (H1.out.pure hp3)
 have O3:Hid (Only (F q s) w (w2.alloc (.cells #[.int .i64 e.thread,.int .i64 e.frags,.int .i64 e.spine,.int .i64 e.state,.int .i64 e.cycles,.int .i64 e.at_,.slice Ag e.got.length cg] 229))):=hid (O1.out.trans (pure_F hp3) (fun _ _ h=>h))
 have HBR:=hid hbR
 have HRW:Hid (w.heap.size≤w2.heap.size):=hid (by have:=hp2.size;have:=HZ1.out;omega)
 have HZ3:Hid (w.heap.size≤(w2.alloc (.cells #[.int .i64 e.thread,.int .i64 e.frags,.int .i64 e.spine,.int .i64 e.state,.int .i64 e.cycles,.int .i64 e.at_,.slice Ag e.got.length cg] 229)).heap.size):=hid (by have:=hp3.size;have:=HZ1.out;omega)
 have HFX:Hid (∀ k,F q s k→k<w.heap.size):=hid (fun k hk=>H0.out.lt k hk)
 clear hp2 hp3 HOF c15 hsg hog hbR hpR
 go_upto_region 5 with fail
 generalize w2.alloc (.cells #[.int .i64 e.thread,.int .i64 e.frags,.int .i64 e.spine,.int .i64 e.state,.int .i64 e.cycles,.int .i64 e.at_,.slice Ag e.got.length cg] 229)=w3 at *
 go_wp2_with fail
 refine region_class (fun W=>At W c sh q s∧Only (F q s) w W∧w.heap.size≤W.heap.size∧W.heap[w2.heap.size]?=some (.cells #[.int .i64 e.thread,.int .i64 e.frags,.int .i64 e.spine,.int .i64 e.state,.int .i64 e.cycles,.int .i64 e.at_,.slice Ag e.got.length cg] 229 (0,0))) ⟨H3.out.pure ((Only.refl _ _).drewN 1),O3.out.drewN 1,HZ3.out,HBR.out⟩ (by kernel_rfl) (by kernel_rfl) ?_
 intro S f hS hf hmk
 have r1:∀ s',(f s').cell? ⟨w2.heap.size,1,none⟩=some (.int .i64 (k:Int)):=fun s'=>by rw [cell_of_row _ _ _ _ _ _ (hf s').2.2.2];rw [← HFR.out];rfl
 have r2:∀ s',(f s').cell? ⟨w2.heap.size,2,none⟩=some (.int .i64 0):=fun s'=>by rw [cell_of_row _ _ _ _ _ _ (hf s').2.2.2];rw [← HSN.out];rfl
 have c13:=fun s'=>(hf s').1.cs.2.2.2.2.2.1
 have c14:=fun s'=>(hf s').1.cs.2.2.2.2.2.2.1
 have c15:=fun s'=>(hf s').1.cs.2.2.2.2.2.2.2
 have d0:=fun s'=>(hf s').1.cc.1
 have d1:=fun s'=>(hf s').1.cc.2.1
 have d2:=fun s'=>(hf s').1.cc.2.2.1
 have d3:=fun s'=>(hf s').1.cc.2.2.2.1
 have d4:=fun s'=>(hf s').1.cc.2.2.2.2.1
 have d5:=fun s'=>(hf s').1.cc.2.2.2.2.2.1
 have d6:=fun s'=>(hf s').1.cc.2.2.2.2.2.2.1
 have d7:=fun s'=>(hf s').1.cc.2.2.2.2.2.2.2.1
 have d8:=fun s'=>(hf s').1.cc.2.2.2.2.2.2.2.2
 have HF:=hid hf
 have HM:=hid hmk
 clear hf hmk
 have hfs:∀ s',Calls Tryz.prog 167 #[shV c q,.int .i64 (k:Int),.int .i64 0] (f s') fun e w'=>e=.returned (.bool false)∧Pure (f s') w':=fun s'=>by have:=fits_0 c sh q s k _ (HF.out s').1 hk (by omega);rwa [decide_eq_false HFIT.out] at this
 have HFT:=hid hfs
 clear hfs
 repeat (go_big_quiet_step ((go_at_call 167;exact class_call HM.out (HF.out _) (fun _ hd hp=>⟨hd.1.pure hp,hd.2.1.trans (pure_F hp) (fun _ _ h=>h),Nat.le_trans hd.2.2.1 hp.size,Pure.blk hp hd.2.2.2⟩) (HFT.out _))))
 clear r1 r2 c13 c14 c15 d0 d1 d2 d3 d4 d5 d6 d7 d8
 refine wpQuiet_nil ?_
 rintro w5 ⟨s5,e5⟩
 have D5:=HF.out s5
 rw [← e5] at D5
 have H5:=hid D5.1
 have O5:=hid D5.2.1
 have HZ5:=hid D5.2.2.1
 have HB5:=hid D5.2.2.2
 clear e5 D5 HF HM HFT
 have r4:w5.cell? ⟨w2.heap.size,4,none⟩=some (.int .i64 e.cycles):=by rw [cell_of_row _ _ _ _ _ _ HB5.out];rfl
 obtain ⟨-,-,-,-,-,-,-,c15⟩:=H5.out.cs
 have hcy:=HCY.out
 go_wp2_with fail
 refine (Ln.fail_yes q.li s.lv s.en 0 e w5 H5.out.line (by rw [HEN.out];rfl) (by rw [HEN.out];exact ixI_0 (by simp [Ln.isW,HST.out]))).mono ?_
 rintro e2 w6 ⟨rfl,h6,o6⟩
 rw [show s.en.set 0 (Ln.failed e)=[Ln.failed e] from by rw [HEN.out];rfl] at h6
 have H6:=hid (H5.out.lined o6 h6 (.inl rfl) (fun e' he b hb=>by
  rw [List.mem_singleton] at he;subst he
  have he:e∈s.en:=by rw [HEN.out];simp
  exact ⟨H5.out.gv e he b hb,fun hl=>((H5.out.line.got e he).2 b hb).1 (.inr hl)⟩))
 have O6:Hid (Only (F q s) w w6):=hid (O5.out.trans (line_F o6) (fun _ _ h=>h))
 clear o6 h6 c15 r4 hcy
 go_wp2_with fail
 go_ret
 exact ⟨rfl,O6.out,H6.out⟩
theorem serve_yes (e:Ln.En) (k:Nat) (se:Bool) (w:World) (h:At w c sh q s) (hk:1≤k) (hk2:k≤1024) (hen:s.en=[e]) (hst:e.state=0) (hfr:e.frags=k) (hspn:e.spine=0) (hfit:k≤Po.cnt s.fr) (hll:s.fr.length=s.l.length) :
  Calls Tryz.prog 116 #[.pointer (some ⟨q.sp,0,none⟩),.bool se] w fun e' w'=>∃ gv,e'=.returned (.bool true)∧Only (F q s) w w'∧At w' c sh q { s with l:=setAll s.l (Po.take s.fr k) 2 se,fr:=Po.off s.fr (Po.take s.fr k),en:=[Ln.granted e gv (Po.natI (Po.take s.fr k)) (-1)] }∧∀ b,gv.ownBlock=some b→w.heap.size≤b:=by
 have hlk:(Po.take s.fr k).length=k:=Po.take_len _ _ hfit
 obtain ⟨rows,hrows⟩:∃ x,Po.take s.fr k=x:=⟨_,rfl⟩
 rw [hrows] at hlk ⊢
 have hxs:∀ x∈rows,x<s.l.length:=fun x hx=>by rw [← hll];rw [← hrows] at hx;exact Po.take_lt _ _ hk x hx
 have HXS:=hid hxs
 have HLK:=hid hlk
 have HROWS:=hid hrows
 have hfew:=h.pool.mid.few
 have HFEW:Hid (s.l.length≤1024):=hid (by omega)
 clear hxs hlk hll hrows hfew
 obtain ⟨-,-,-,⟨n,c3⟩,-⟩:=h.cs
 have fb:=h.fb
 have H0:=hid h
 have H1:=hid (h.count (wrap64 (n+1)))
 have O1:=hid (only_sp (Only.refl (F q s) w) 3 (.int .i64 (wrap64 (n+1))))
 have HEN:=hid hen
 have HST:=hid hst
 have HFR:=hid hfr
 have HSN:=hid hspn
 have HFIT:=hid hfit
 clear h hen hst hfr hspn hfit
 go_enter Tryz.func116,Tryz.ntmps116
 go_upto_region 2 with fail
 have HZ1:Hid ((w.setCell ⟨q.sp,3,none⟩ (.int .i64 (wrap64 (n+1)))).heap.size=w.heap.size):=hid (by simp [World.setCell])
 generalize w.setCell ⟨q.sp,3,none⟩ (.int .i64 (wrap64 (n+1)))=w1 at *
 obtain ⟨-,-,-,-,-,-,-,c15⟩:=H1.out.cs
 have HOF:=hid (Ln.lineFirst_in q.li s.lv s.en 0 e w1 H1.out.line (by rw [HEN.out];rfl) (by rw [HEN.out];exact ixI_0 (by simp [Ln.isW,HST.out])))
 go_wp2_with fail
 refine HOF.out.mono ?_
 rintro e2 w2 ⟨Ag,cg,rfl,hp2,hsg,hog⟩
 have hbR:=heap_alloc_new w2 (.cells #[.int .i64 e.thread,.int .i64 e.frags,.int .i64 e.spine,.int .i64 e.state,.int .i64 e.cycles,.int .i64 e.at_,.slice Ag e.got.length cg] 229)
 have hpR:=(Only.refl (fun _=>False) w2).alloc (.cells #[.int .i64 e.thread,.int .i64 e.frags,.int .i64 e.spine,.int .i64 e.state,.int .i64 e.cycles,.int .i64 e.at_,.slice Ag e.got.length cg] 229)
 have hp3:=Pure.then hp2 hpR
 have H3:=hid (H1.out.pure hp3)
 have O3:Hid (Only (F q s) w (w2.alloc (.cells #[.int .i64 e.thread,.int .i64 e.frags,.int .i64 e.spine,.int .i64 e.state,.int .i64 e.cycles,.int .i64 e.at_,.slice Ag e.got.length cg] 229))):=hid (O1.out.trans (pure_F hp3) (fun _ _ h=>h))
 have HBR:=hid hbR
 have HRW:Hid (w.heap.size≤w2.heap.size):=hid (by have:=hp2.size;have:=HZ1.out;omega)
 have HZ3:Hid (w.heap.size≤(w2.alloc (.cells #[.int .i64 e.thread,.int .i64 e.frags,.int .i64 e.spine,.int .i64 e.state,.int .i64 e.cycles,.int .i64 e.at_,.slice Ag e.got.length cg] 229)).heap.size):=hid (by have:=hp3.size;have:=HZ1.out;omega)
 have HFX:Hid (∀ k,F q s k→k<w.heap.size):=hid (fun k hk=>H0.out.lt k hk)
 clear hp2 hp3 HOF c15 hsg hog hbR hpR
 go_upto_region 5 with fail
 generalize w2.alloc (.cells #[.int .i64 e.thread,.int .i64 e.frags,.int .i64 e.spine,.int .i64 e.state,.int .i64 e.cycles,.int .i64 e.at_,.slice Ag e.got.length cg] 229)=w3 at *
 go_wp2_with fail
 refine region_class (fun W=>At W c sh q s∧Only (F q s) w W∧w.heap.size≤W.heap.size∧W.heap[w2.heap.size]?=some (.cells #[.int .i64 e.thread,.int .i64 e.frags,.int .i64 e.spine,.int .i64 e.state,.int .i64 e.cycles,.int .i64 e.at_,.slice Ag e.got.length cg] 229 (0,0))) ⟨H3.out.pure ((Only.refl _ _).drewN 1),O3.out.drewN 1,HZ3.out,HBR.out⟩ (by kernel_rfl) (by kernel_rfl) ?_
 intro S f hS hf hmk
 have r1:∀ s',(f s').cell? ⟨w2.heap.size,1,none⟩=some (.int .i64 (k:Int)):=fun s'=>by rw [cell_of_row _ _ _ _ _ _ (hf s').2.2.2];rw [← HFR.out];rfl
 have r2:∀ s',(f s').cell? ⟨w2.heap.size,2,none⟩=some (.int .i64 0):=fun s'=>by rw [cell_of_row _ _ _ _ _ _ (hf s').2.2.2];rw [← HSN.out];rfl
 have c13:=fun s'=>(hf s').1.cs.2.2.2.2.2.1
 have c14:=fun s'=>(hf s').1.cs.2.2.2.2.2.2.1
 have c15:=fun s'=>(hf s').1.cs.2.2.2.2.2.2.2
 have d0:=fun s'=>(hf s').1.cc.1
 have d1:=fun s'=>(hf s').1.cc.2.1
 have d2:=fun s'=>(hf s').1.cc.2.2.1
 have d3:=fun s'=>(hf s').1.cc.2.2.2.1
 have d4:=fun s'=>(hf s').1.cc.2.2.2.2.1
 have d5:=fun s'=>(hf s').1.cc.2.2.2.2.2.1
 have d6:=fun s'=>(hf s').1.cc.2.2.2.2.2.2.1
 have d7:=fun s'=>(hf s').1.cc.2.2.2.2.2.2.2.1
 have d8:=fun s'=>(hf s').1.cc.2.2.2.2.2.2.2.2
 have HF:=hid hf
 have HM:=hid hmk
 clear hf hmk
 have hfs:∀ s',Calls Tryz.prog 167 #[shV c q,.int .i64 (k:Int),.int .i64 0] (f s') fun e w'=>e=.returned (.bool true)∧Pure (f s') w':=fun s'=>by have:=fits_0 c sh q s k _ (HF.out s').1 hk (by omega);rwa [decide_eq_true HFIT.out] at this
 have HFT:=hid hfs
 clear hfs
 repeat (go_big_quiet_step ((go_at_call 167;exact class_call HM.out (HF.out _) (fun _ hd hp=>⟨hd.1.pure hp,hd.2.1.trans (pure_F hp) (fun _ _ h=>h),Nat.le_trans hd.2.2.1 hp.size,Pure.blk hp hd.2.2.2⟩) (HFT.out _))))
 clear r1 r2 c13 c14 c15 d0 d1 d2 d3 d4 d5 d6 d7 d8
 refine wpQuiet_nil ?_
 rintro w5 ⟨s5,e5⟩
 have D5:=HF.out s5
 rw [← e5] at D5
 have H5:=hid D5.1
 have O5:=hid D5.2.1
 have HZ5:=hid D5.2.2.1
 have HB5:=hid D5.2.2.2
 clear e5 D5 HF HM HFT
 go_upto_region 6 with fail
 have r1:w5.cell? ⟨w2.heap.size,1,none⟩=some (.int .i64 (k:Int)):=by rw [cell_of_row _ _ _ _ _ _ HB5.out];rw [← HFR.out];rfl
 have r2:w5.cell? ⟨w2.heap.size,2,none⟩=some (.int .i64 0):=by rw [cell_of_row _ _ _ _ _ _ HB5.out];rw [← HSN.out];rfl
 obtain ⟨-,-,-,-,-,c13,c14,c15⟩:=H5.out.cs
 obtain ⟨d4,d5,d6,d7,d8,d9,d10,d11,d12⟩:=H5.out.cc
 have hD5:At w5.drew c sh q s:=H5.out.pure ((Only.refl _ _).drewN 1)
 have htk:=takes_0 c sh q s k _ hD5 hk HFIT.out
 rw [HROWS.out] at htk
 have HTK:=hid htk
 have OD5:Hid (Only (F q s) w w5.drew):=hid (O5.out.drewN 1)
 clear htk hD5
 go_region_with (go_at_call 168;refine HTK.out.mono ?_;rintro e2 w6 ⟨v,rfl,o6,own6,h6⟩)
 all_goals
  have H6:=hid h6
  have OWN6:=hid own6
  have HVF:Hid (∀ b,v.ownBlock=some b→w.heap.size≤b):=hid (fun b hb=>Nat.le_trans HZ5.out (own6.lt b hb).1)
  have O6:Hid (Only (F q s) w w6):=hid (OD5.out.trans o6 (fun _ _ h=>h))
  have HZ6:Hid (w.heap.size≤w6.heap.size):=hid (Nat.le_trans HZ5.out o6.size)
  clear o6 own6 h6 r1 r2 c13 c14 c15 d4 d5 d6 d7 d8 d9 d10 d11 d12 HTK
  have hsl:SlI w6 w6.heap.size v (Po.natI rows):=SlI.of_own (by have:=OWN6.out;simpa [Po.natI] using this) (Po.natI_range _ (fun x hx=>by have:=HXS.out x hx;have:=HFEW.out;omega))
  have HSL:=hid hsl
  clear hsl
  go_wp2_with fail
  refine (set_in c sh q { s with fr:=Po.off s.fr rows } v rows 2 (by omega) se w6 H6.out HSL.out (fun b hb hF=>by have:=HFX.out b hF;have:=HVF.out b hb;omega) HXS.out).mono ?_
  rintro e2 w7 ⟨rfl,o7,h7⟩
  have o7':Only (F q s) w6 w7:=o7
  have H7:=hid h7
  have HSL7:=hid (HSL.out.only o7' (fun b hb hF=>by have:=HFX.out b hF;have:=HVF.out b hb;omega))
  have O7:Hid (Only (F q s) w w7):=hid (O6.out.trans o7' (fun _ _ h=>h))
  have HZ7:Hid (w.heap.size≤w7.heap.size):=hid (Nat.le_trans HZ6.out o7'.size)
  clear o7 o7' h7
  obtain ⟨-,-,-,-,-,-,-,c15⟩:=H7.out.cs
  go_wp2_with fail
  refine (Ln.grant_yes q.li s.lv s.en 0 e v (Po.natI rows) (-1) w7 H7.out.line (by rw [HEN.out];rfl) (by rw [HEN.out];exact ixI_0 (by simp [Ln.isW,HST.out])) HSL7.out (by have:=HLK.out;simp [Po.natI];omega)).mono ?_
  rintro e2 w8 ⟨gv,rfl,h8,o8,hg8⟩
  rw [show s.en.set 0 (Ln.granted e gv (Po.natI rows) (-1))=[Ln.granted e gv (Po.natI rows) (-1)] from by rw [HEN.out];rfl] at h8
  have H8:=hid (H7.out.lined o8 h8 (.inl rfl) (fun e' he b hb=>by
   rw [List.mem_singleton] at he;subst he
   have:=hg8 b hb
   exact ⟨fun hF=>by have:=HFX.out b hF;have:=HZ7.out;omega,fun hl=>by have:=HFX.out b (.inr (.inr (.inr (.inr (.inr (.inr (.inl (.inr hl))))))));have:=HZ7.out;omega⟩))
  have O8:Hid (Only (F q s) w w8):=hid (O7.out.trans (line_F o8) (fun _ _ h=>h))
  have HG8:Hid (∀ b,gv.ownBlock=some b→w.heap.size≤b):=hid (fun b hb=>Nat.le_trans HZ7.out (hg8 b hb))
  clear o8 h8 c15 hg8
  go_wp2_with fail
  go_ret
  exact ⟨gv,rfl,O8.out,H8.out,HG8.out⟩
end
end Sp
open Go.RowKit
namespace Sp
section
variable (c:Cn) (sh:List Sh) (q:Q) (s:St)
theorem drain_0 (w:World) (h:At w c sh q s) (hn:0<q.ns) (hsx:s.sx=[]) :
  Calls Tryz.prog 119 #[.pointer (some ⟨q.sp,0,none⟩),.int .i64 0] w fun e' w'=>e'=.returned (.int .i64 0)∧Only (F q s) w w'∧At w' c sh q { s with sv:=.slice none 0 0,sx:=[] }:=by
 obtain ⟨-,-,-,⟨n,c3⟩,-⟩:=h.cs
 have fb:=h.fb
 have H0:=hid h
 have H1:=hid (h.count (wrap64 (n+1)))
 have O1:=hid (only_sp (Only.refl (F q s) w) 3 (.int .i64 (wrap64 (n+1))))
 have HSX:=hid hsx
 clear h hsx
 go_enter Tryz.func119,Tryz.ntmps119
 go_upto_region 2 with fail
 generalize w.setCell ⟨q.sp,3,none⟩ (.int .i64 (wrap64 (n+1)))=w1 at *
 go_wp2_with fail
 refine (stock_0 c sh q s w1 H1.out hn).mono ?_
 rintro e w2 ⟨rfl,rfl⟩
 have hsv:s.sv=.slice (match s.sv with | .slice A _ _=>A | _=>none) 0 (match s.sv with | .slice _ _ k=>k | _=>0):=by
  have ho:=H1.out.stk.own
  rw [HSX.out] at ho
  obtain ⟨A,k,h⟩:=own_form ho
  rw [h]
  rfl
 obtain ⟨A,hA⟩:∃ A,(match s.sv with | .slice A _ _=>A | _=>none)=A:=⟨_,rfl⟩
 obtain ⟨k,hk⟩:∃ k,(match s.sv with | .slice _ _ k=>k | _=>0)=k:=⟨_,rfl⟩
 rw [hA,hk] at hsv
 have HSV:=hid hsv
 clear hA hk hsv
 have hdr:=Sk.drain_any q.s0 s.sv c.cache w1 H1.out.stk.at_
 rw [HSV.out] at hdr
 have HDR:=hid hdr
 clear hdr
 go_wp2_with fail
 refine HDR.out.mono ?_
 rintro e w3 ⟨rfl,rfl⟩
 have o3:Only (Sk.StkS q.s0 s.sv) w1 (w1.setCell ⟨q.s0,0,none⟩ (.slice none 0 0)):=(Only.refl _ w1).setCell (p:=⟨q.s0,0,none⟩) (fun _=>.inl rfl) _
 have h3:=H1.out.stocked' o3 (sv':=.slice none 0 0) (sx':=[]) ⟨set_me (i:=0) (u:=.slice none 0 0) H1.out.stk.at_,World.ownsRow_nil _ _ _ _,H1.out.stk.h0,H1.out.stk.h8,by have:=H1.out.stk.h0;simpa using this,by simp⟩ (fun k hk=>by cases hk)
 have H3:=hid h3
 have O3:Hid (Only (F q s) w (w1.setCell ⟨q.s0,0,none⟩ (.slice none 0 0))):=hid (O1.out.trans (o3.mono fun k _ hk=>.inr (.inr (.inr (.inr (.inr (.inr (.inr hk))))))) (fun _ _ h=>h))
 clear o3 h3 HDR
 generalize w1.setCell ⟨q.s0,0,none⟩ (.slice none 0 0)=w4 at *
 go_wp2_with fail
 go_loopw [25] (fun i wr=>i=.int .i64 0∧wr=w4) (fun _ _=>0)
 case atStart=>exact ⟨rfl,rfl⟩
 case round =>
  obtain ⟨rfl,rfl⟩:=hrel
  go_wp2_with fail
  go_ret
  exact ⟨rfl,O3.out,H3.out⟩
end
end Sp
end Go.Proofs.YtpgdiceeimehiaaGreat
namespace Go.Proofs.YtpgdiceeimehiaaGreat.Sd
open Go.RowKit
open Co (Pi.At Pi.S)
structure At (w:World) (b tb tg pb:Nat) (pv:Value) (l:List Tab.One) (most:Nat) (lost:Bool) (xs:List Int):Prop where
 me:∃ c:Int,w.heap[b]?=some (.cells #[.pointer (some ⟨tb,0,none⟩),.pointer (some ⟨pb,0,none⟩),.int .i64 c] 113 (0,0))
 tab:Tab.At w tb tg l
 pile:Co.Pi.At w pb pv most lost xs
def S (b tb tg pb:Nat) (pv:Value) (k:Nat):Prop:=k=b∨k=tb∨k=tg∨k=pb∨pv.ownBlock=some k
section
variable {w w':World} {b tb tg pb:Nat} {pv:Value} {l:List Tab.One} {most:Nat} {lost:Bool} {xs:List Int}
theorem At.cs (h:At w b tb tg pb pv l most lost xs):w.cell? ⟨b,0,none⟩=some (.pointer (some ⟨tb,0,none⟩))∧w.cell? ⟨b,1,none⟩=some (.pointer (some ⟨pb,0,none⟩))∧∃ c:Int,w.cell? ⟨b,2,none⟩=some (.int .i64 c):=by
 obtain ⟨c,hc⟩:=h.me
 refine ⟨?_,?_,c,?_⟩ <;> (rw [cell_of_row w b _ _ _ _ hc];rfl)
theorem At.fb (h:At w b tb tg pb pv l most lost xs) (k:Nat):w.frozen? ⟨b,k,none⟩=false:=by
 obtain ⟨c,hc⟩:=h.me
 exact frozen_of_row w b k _ _ hc
theorem At.lb (h:At w b tb tg pb pv l most lost xs):b<w.heap.size:=by
 obtain ⟨c,hc⟩:=h.me
 exact (Array.getElem?_eq_some_iff.1 hc).1
theorem At.lt (h:At w b tb tg pb pv l most lost xs) (k:Nat) (hk:S b tb tg pb pv k):k<w.heap.size:=by
 rcases hk with rfl | rfl | rfl | rfl | hk
 ·exact h.lb
 ·exact h.tab.mid.lb
 ·exact h.tab.mid.lg
 ·exact h.pile.lb
 ·obtain ⟨cur,hc⟩:=own_block h.pile.own hk
  exact (Array.getElem?_eq_some_iff.1 hc).1
theorem At.only {T:Nat→Prop} (h:At w b tb tg pb pv l most lost xs) (ho:Only T w w') (hn:∀ k,S b tb tg pb pv k→¬ T k):At w' b tb tg pb pv l most lost xs:=by
 obtain ⟨c,hc⟩:=h.me
 exact ⟨⟨c,ho.blk hc (hn b (.inl rfl))⟩,h.tab.only ho (hn tb (.inr (.inl rfl))) (hn tg (.inr (.inr (.inl rfl)))),h.pile.only ho (fun k hk=>hn k (by rcases hk with rfl | hk;exact .inr (.inr (.inr (.inl rfl)));exact .inr (.inr (.inr (.inr hk)))))⟩
theorem At.pure (h:At w b tb tg pb pv l most lost xs) (ho:Pure w w'):At w' b tb tg pb pv l most lost xs:=h.only ho (fun _ _ f=>f)
theorem At.nes (h:At w b tb tg pb pv l most lost xs):b≠tb∧b≠tg∧b≠pb∧pv.ownBlock≠some b∧tb≠pb∧tg≠pb∧pv.ownBlock≠some tb∧pv.ownBlock≠some tg:=by
 obtain ⟨c,hc⟩:=h.me
 exact ⟨ne_types hc h.tab.mid.me (by decide),ne_types hc h.tab.mid.row (by decide),ne_types hc h.pile.me (by decide),own_ne h.pile.own hc (by decide),ne_types h.tab.mid.me h.pile.me (by decide),ne_types h.tab.mid.row h.pile.me (by decide),own_ne h.pile.own h.tab.mid.me (by decide),own_ne h.pile.own h.tab.mid.row (by decide)⟩
theorem At.count (h:At w b tb tg pb pv l most lost xs) (v:Int):At (w.setCell ⟨b,2,none⟩ (.int .i64 v)) b tb tg pb pv l most lost xs:=by
 obtain ⟨c,hc⟩:=h.me
 obtain ⟨n1,n2,n3,n4,-⟩:=h.nes
 have ho:Only (fun k=>k=b) w (w.setCell ⟨b,2,none⟩ (.int .i64 v)):=(Only.refl (fun k=>k=b) w).setCell (p:=⟨b,2,none⟩) (fun _=>rfl) _
 refine ⟨⟨v,by simpa using set_me (i:=2) (u:=.int .i64 v) hc⟩,h.tab.only ho (Ne.symm n1) (Ne.symm n2),h.pile.only ho (fun k hk e=>?_)⟩
 rcases hk with rfl | hk
 ·exact n3 e.symm
 ·subst e;exact n4 hk
theorem only_b {a:World} (h:Only (S b tb tg pb pv) a w) (v:Value):Only (S b tb tg pb pv) a (w.setCell ⟨b,2,none⟩ v):=h.setCell (p:=⟨b,2,none⟩) (fun _=>.inl rfl) v
theorem At.tabbed {l':List Tab.One} (h:At w b tb tg pb pv l most lost xs) (ho:Only (fun k=>k=tb∨k=tg) w w') (ht:Tab.At w' tb tg l'):At w' b tb tg pb pv l' most lost xs:=by
 obtain ⟨c,hc⟩:=h.me
 obtain ⟨n1,n2,n3,n4,n5,n6,n7,n8⟩:=h.nes
 refine ⟨⟨c,ho.blk hc (fun e=>by rcases e with e | e;exact n1 e;exact n2 e)⟩,ht,h.pile.only ho (fun k hk e=>?_)⟩
 rcases hk with rfl | hk <;> rcases e with e | e
 ·exact n5 e.symm
 ·exact n6 e.symm
 ·subst e;exact n7 hk
 ·subst e;exact n8 hk
theorem tab_S {a:World} (h:Only (fun k=>k=tb∨k=tg) a w):Only (S b tb tg pb pv) a w:=h.mono fun k _ hk=>by rcases hk with hk | hk;exact .inr (.inl hk);exact .inr (.inr (.inl hk))
theorem At.piled {pv':Value} {lost':Bool} {xs':List Int} (h:At w b tb tg pb pv l most lost xs) (ho:Only (Co.Pi.S pb pv) w w') (hp:Co.Pi.At w' pb pv' most lost' xs'):At w' b tb tg pb pv' l most lost' xs':=by
 obtain ⟨c,hc⟩:=h.me
 obtain ⟨n1,n2,n3,n4,n5,n6,n7,n8⟩:=h.nes
 exact ⟨⟨c,ho.blk hc (fun e=>by rcases e with e | e;exact n3 e;exact n4 e)⟩,h.tab.only ho (fun e=>by rcases e with e | e;exact n5 e;exact n7 e) (fun e=>by rcases e with e | e;exact n6 e;exact n8 e),hp⟩
theorem pile_S {a:World} (h:Only (Co.Pi.S pb pv) a w):Only (S b tb tg pb pv) a w:=h.mono fun k _ hk=>by rcases hk with hk | hk;exact .inr (.inr (.inr (.inl hk)));exact .inr (.inr (.inr (.inr hk)))
end
section
variable (b tb tg pb:Nat) (pv:Value) (l:List Tab.One) (most:Nat) (lost:Bool) (xs:List Int)
theorem white_in (j:Nat) (o:Tab.One) (s:Bool) (w:World) (h:Tab.At w tb tg l) (hj:l[j]?=some o):Calls Tryz.prog 148 #[.agg #[.pointer (some ⟨tb,0,none⟩)],.int .i64 j,.bool s] w fun e w'=>e=.returned (.bool (o.head && !(decide (o.st=2) && o.sense == s)))∧Pure w w':=by
 have hb:=heap_alloc_new w (.cells #[.pointer (some ⟨tb,0,none⟩)] 110)
 have hp:=(Only.refl (fun _=>False) w).alloc (.cells #[.pointer (some ⟨tb,0,none⟩)] 110)
 have HT:=hid (h.only hp (fun f=>f) (fun f=>f))
 have HP:=hid hp
 have c0:(w.alloc (.cells #[.pointer (some ⟨tb,0,none⟩)] 110)).cell? ⟨w.heap.size,0,none⟩=some (.pointer (some ⟨tb,0,none⟩)):=by rw [cell_of_row _ _ _ _ _ _ hb];rfl
 have HJ:=hid hj
 clear hj h hp hb
 go_enter Tryz.func148,Tryz.ntmps148
 go_wp2_with fail
 generalize w.alloc (.cells #[.pointer (some ⟨tb,0,none⟩)] 110)=w1 at *
 refine (Tab.head_in tb tg l j o w1 HT.out HJ.out).mono ?_
 rintro e w2 ⟨rfl,rfl⟩
 obtain ⟨hd,hhd⟩:∃ hd,o.head=hd:=⟨_,rfl⟩
 have HH:=hid hhd
 rw [hhd]
 clear hhd
 cases hd
 ·go_wp2_with fail
  go_ret
  exact ⟨ret_b (by rw [HH.out];rfl),HP.out⟩
 ·go_wp2_with fail
  refine (Tab.black_in tb tg l j o s w1 HT.out HJ.out).mono ?_
  rintro e w2 ⟨rfl,rfl⟩
  obtain ⟨bl,hbl⟩:∃ bl,(decide (o.st=2) && o.sense == s)=bl:=⟨_,rfl⟩
  have HB:=hid hbl
  rw [hbl]
  clear hbl
  go_wp2_with fail
  go_ret
  exact ⟨ret_b (by rw [HH.out,HB.out];simp),HP.out⟩
def white (o:Tab.One) (s:Bool):Bool:=o.head && !(decide (o.st=2) && o.sense == s)
theorem grey_yes (j:Nat) (o:Tab.One) (s:Bool) (w:World) (h:At w b tb tg pb pv l most lost xs) (hj:l[j]?=some o) (hw:white o s=true) (h2:o.st=2) (hl:xs.length<most):Calls Tryz.prog 96 #[.pointer (some ⟨b,0,none⟩),.int .i64 j,.bool s] w fun e w'=>e=.returned (.bool true)∧Only (S b tb tg pb pv) w w'∧∃ pv',(pv'.ownBlock=pv.ownBlock∨∃ q,pv'.ownBlock=some q∧w.heap.size≤q)∧At w' b tb tg pb pv' (l.set j { o with sense:=s }) most lost (xs++[(j:Int)]):=by
 obtain ⟨-,-,c,c2⟩:=h.cs
 have fb:=h.fb
 have H1:=hid (h.count (wrap64 (c+1)))
 have O1:=hid (only_b (Only.refl (S b tb tg pb pv) w) (.int .i64 (wrap64 (c+1))))
 have HJ:=hid hj
 have HW:=hid hw
 have H22:=hid h2
 clear hj h hw h2
 go_enter Tryz.func96,Tryz.ntmps96
 go_upto_region 2 with fail
 generalize w.setCell ⟨b,2,none⟩ (.int .i64 (wrap64 (c+1)))=w1 at *
 obtain ⟨c0,c1,-⟩:=H1.out.cs
 go_wp2_with fail
 refine (white_in tb tg l j o s w1 H1.out.tab HJ.out).mono ?_
 rw [show (o.head && !(decide (o.st=2) && o.sense == s))=true from HW.out]
 rintro e w2 ⟨rfl,hp⟩
 have O2:Hid (Only (S b tb tg pb pv) w w2):=hid (O1.out.trans (hp.mono (fun _ _ f=>f.elim)) (fun _ _ h=>h))
 have H2:=hid (H1.out.pure hp)
 clear hp c0 c1
 obtain ⟨c0,c1,-⟩:=H2.out.cs
 go_wp2_with fail
 refine (Tab.mark_yes tb tg l j o s w2 H2.out.tab HJ.out H22.out (fun e=>by have:=HW.out;rw [white,e,H22.out] at this;simp at this)).mono ?_
 rintro e w3 ⟨rfl,o3,h3⟩
 have H3:=hid (H2.out.tabbed o3 h3)
 have O3:Hid (Only (S b tb tg pb pv) w w3):=hid (O2.out.trans (tab_S o3) (fun _ _ h=>h))
 clear o3 h3 c0 c1
 obtain ⟨c0,c1,-⟩:=H3.out.cs
 go_wp2_with fail
 refine (Co.Pi.push_in pb pv most lost xs (j:Int) w3 H3.out.pile hl).mono ?_
 rintro e w4 ⟨rfl,o4,pv',hpv,h4⟩
 have H4:=hid (H3.out.piled o4 h4)
 have O4:Hid (Only (S b tb tg pb pv) w w4):=hid (O3.out.trans (pile_S o4) (fun _ _ h=>h))
 have HPV:=hid hpv
 clear o4 h4 c0 c1 hpv
 go_wp2_with fail
 go_ret
 refine ⟨rfl,O4.out,pv',?_,H4.out⟩
 rcases HPV.out with h | ⟨q,hq,hq2⟩
 ·exact .inl h
 ·exact .inr ⟨q,hq,Nat.le_trans O3.out.size hq2⟩
theorem next_no (w:World) (h:At w b tb tg pb pv l most lost []):Calls Tryz.prog 99 #[.pointer (some ⟨b,0,none⟩)] w fun e w'=>e=.returned (.tuple #[.int .i64 0,.bool false])∧Only (S b tb tg pb pv) w w'∧At w' b tb tg pb pv l most lost []:=by
 obtain ⟨-,-,c,c2⟩:=h.cs
 have fb:=h.fb
 have H1:=hid (h.count (wrap64 (c+1)))
 have O1:=hid (only_b (Only.refl (S b tb tg pb pv) w) (.int .i64 (wrap64 (c+1))))
 clear h
 go_enter Tryz.func99,Tryz.ntmps99
 go_upto_region 2 with fail
 generalize w.setCell ⟨b,2,none⟩ (.int .i64 (wrap64 (c+1)))=w1 at *
 obtain ⟨c0,c1,-⟩:=H1.out.cs
 go_wp2_with fail
 refine (Co.Pi.pop_no pb pv most lost w1 H1.out.pile).mono ?_
 rintro e w2 ⟨rfl,rfl⟩
 go_wp2_with fail
 go_ret2
 exact ⟨rfl,O1.out,H1.out⟩
theorem next_in (x:Int) (w:World) (h:At w b tb tg pb pv l most lost (xs++[x])):Calls Tryz.prog 99 #[.pointer (some ⟨b,0,none⟩)] w fun e w'=>e=.returned (.tuple #[.int .i64 x,.bool true])∧Only (S b tb tg pb pv) w w'∧∃ pv',pv'.ownBlock=pv.ownBlock∧At w' b tb tg pb pv' l most lost xs:=by
 obtain ⟨-,-,c,c2⟩:=h.cs
 have fb:=h.fb
 have H1:=hid (h.count (wrap64 (c+1)))
 have O1:=hid (only_b (Only.refl (S b tb tg pb pv) w) (.int .i64 (wrap64 (c+1))))
 clear h
 go_enter Tryz.func99,Tryz.ntmps99
 go_upto_region 2 with fail
 generalize w.setCell ⟨b,2,none⟩ (.int .i64 (wrap64 (c+1)))=w1 at *
 obtain ⟨c0,c1,-⟩:=H1.out.cs
 go_wp2_with fail
 refine (Co.Pi.pop_in pb pv most lost xs x w1 H1.out.pile).mono ?_
 rintro e w2 ⟨rfl,o2,pv',hpv,h2⟩
 have H2:=hid (H1.out.piled o2 h2)
 have O2:Hid (Only (S b tb tg pb pv) w w2):=hid (O1.out.trans (pile_S o2) (fun _ _ h=>h))
 have HPV:=hid hpv
 clear o2 h2 hpv
 go_wp2_with fail
 go_ret2
 exact ⟨rfl,O2.out,pv',HPV.out,H2.out⟩
theorem lost_any (w:World) (h:At w b tb tg pb pv l most lost xs):Calls Tryz.prog 103 #[.pointer (some ⟨b,0,none⟩)] w fun e w'=>e=.returned (.bool lost)∧Only (S b tb tg pb pv) w w'∧At w' b tb tg pb pv l most false xs:=by
 obtain ⟨-,-,c,c2⟩:=h.cs
 have fb:=h.fb
 have H1:=hid (h.count (wrap64 (c+1)))
 have O1:=hid (only_b (Only.refl (S b tb tg pb pv) w) (.int .i64 (wrap64 (c+1))))
 clear h
 go_enter Tryz.func103,Tryz.ntmps103
 go_upto_region 2 with fail
 generalize w.setCell ⟨b,2,none⟩ (.int .i64 (wrap64 (c+1)))=w1 at *
 obtain ⟨c0,c1,-⟩:=H1.out.cs
 go_wp2_with fail
 refine (Co.Pi.lost_any pb pv most lost xs w1 H1.out.pile).mono ?_
 rintro e w2 ⟨rfl,rfl⟩
 go_wp2_with fail
 refine (Co.Pi.found_any pb pv most lost xs w1 H1.out.pile).mono ?_
 rintro e w2 ⟨rfl,o2,h2⟩
 have H2:=hid (H1.out.piled o2 h2)
 have O2:Hid (Only (S b tb tg pb pv) w w2):=hid (O1.out.trans (pile_S o2) (fun _ _ h=>h))
 clear o2 h2
 go_wp2_with fail
 go_ret
 exact ⟨rfl,O2.out,H2.out⟩
end
end Go.Proofs.YtpgdiceeimehiaaGreat.Sd
