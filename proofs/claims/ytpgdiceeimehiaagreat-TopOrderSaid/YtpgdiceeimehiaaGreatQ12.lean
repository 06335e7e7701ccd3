/- Part 12 of the proof that spotop.TopOrder returns true for all arguments and leaves what was there as it was. -/
import Derived.Test.YtpgdiceeimehiaaGreatQ11
set_option maxRecDepth 100000
set_option maxHeartbeats 16000000
open Go.Lib (hid)
namespace Go.Proofs.YtpgdiceeimehiaaGreat
open Go.RowKit
namespace Sp
theorem ixI_0 {p:Ln.En→Bool} {e:Ln.En} (h:p e=true):Ln.ixI p [e]=(0:Nat):=Ln.ixI_at (k:=0) (e:=e) rfl h (fun j hj=>by omega)
section
variable (c:Cn) (sh:List Sh) (q:Q) (s:St)
theorem look_wait (e:Ln.En) (w:World) (h:At w c sh q s) (hen:s.en=[e]) (hth:e.thread=0) (hst:e.state=0) :
  Calls Tryz.prog 129 #[.pointer (some ⟨q.sp,0,none⟩),.int .i64 0] w fun e' w'=>e'=.returned (.agg #[.int .i64 0,.slice none 0 0,.int .i64 (-1)])∧Only (F q s) w w'∧At w' c sh q s:=by
 have H0:=hid h
 have HEN:=hid hen
 have HST:=hid hst
 have HTH:=hid hth
 have hG:=heap_alloc_new w (.cells #[.int .i64 0,.slice none 0 0,.int .i64 0] 191)
 have hpG:=(Only.refl (fun _=>False) w).alloc (.cells #[.int .i64 0,.slice none 0 0,.int .i64 0] 191)
 have hW:=h.pure hpG
 have HHG:=hid hG
 obtain ⟨-,-,-,⟨n,c3⟩,-⟩:=hW.cs
 have fb:=hW.fb
 have H1:=hid (hW.count (wrap64 (n+1)))
 have O1:Hid (Only (F q s) w ((w.alloc (.cells #[.int .i64 0,.slice none 0 0,.int .i64 0] 191)).setCell ⟨q.sp,3,none⟩ (.int .i64 (wrap64 (n+1))))):=hid (only_sp (pure_F hpG) 3 _)
 clear h hW hpG hG hen hst hth
 go_enter Tryz.func129,Tryz.ntmps129
 go_upto_region 2 with fail
 have hspX:w.heap.size≠q.sp:=fun e'=>by have:=H0.out.lt q.sp (.inl rfl);omega
 have HG1:Hid (((w.alloc (.cells #[.int .i64 0,.slice none 0 0,.int .i64 0] 191)).setCell ⟨q.sp,3,none⟩ (.int .i64 (wrap64 (n+1)))).heap[w.heap.size]?=some (.cells #[.int .i64 0,.slice none 0 0,.int .i64 0] 191 (0,0))):=hid (set_other HHG.out hspX)
 have HZ1:Hid (((w.alloc (.cells #[.int .i64 0,.slice none 0 0,.int .i64 0] 191)).setCell ⟨q.sp,3,none⟩ (.int .i64 (wrap64 (n+1)))).heap.size=w.heap.size+1):=hid (by simp [World.setCell])
 generalize (w.alloc (.cells #[.int .i64 0,.slice none 0 0,.int .i64 0] 191)).setCell ⟨q.sp,3,none⟩ (.int .i64 (wrap64 (n+1)))=w1 at *
 clear c3 fb HHG
 have HFX:Hid (∀ k,F q s k→k<w.heap.size):=hid (fun k hk=>H0.out.lt k hk)
 obtain ⟨-,-,-,-,-,-,-,c15⟩:=H1.out.cs
 have HOF:=hid (Ln.lineOf_in q.li s.lv s.en 0 e 0 w1 H1.out.line (by rw [HEN.out];rfl) (by rw [HEN.out];exact ixI_0 (by simp [Ln.isT,HTH.out])))
 go_wp2_with fail
 refine HOF.out.mono ?_
 rintro e2 w2 ⟨Ag,cg,rfl,hp2,hsg,hog⟩
 have hbR:=heap_alloc_new w2 (.cells #[.int .i64 e.thread,.int .i64 e.frags,.int .i64 e.spine,.int .i64 e.state,.int .i64 e.cycles,.int .i64 e.at_,.slice Ag e.got.length cg] 229)
 have hpR:=(Only.refl (fun _=>False) w2).alloc (.cells #[.int .i64 e.thread,.int .i64 e.frags,.int .i64 e.spine,.int .i64 e.state,.int .i64 e.cycles,.int .i64 e.at_,.slice Ag e.got.length cg] 229)
 have hp3:=Pure.then hp2 hpR
 have H3:=hid (H1.out.pure hp3)
 have HG3:=hid (Pure.blk hp3 HG1.out)
 have O3:Hid (Only (F q s) w (w2.alloc (.cells #[.int .i64 e.thread,.int .i64 e.frags,.int .i64 e.spine,.int .i64 e.state,.int .i64 e.cycles,.int .i64 e.at_,.slice Ag e.got.length cg] 229))):=hid (O1.out.trans (pure_F hp3) (fun _ _ h=>h))
 have HSG:Hid (SlI (w2.alloc (.cells #[.int .i64 e.thread,.int .i64 e.frags,.int .i64 e.spine,.int .i64 e.state,.int .i64 e.cycles,.int .i64 e.at_,.slice Ag e.got.length cg] 229)) (w2.alloc (.cells #[.int .i64 e.thread,.int .i64 e.frags,.int .i64 e.spine,.int .i64 e.state,.int .i64 e.cycles,.int .i64 e.at_,.slice Ag e.got.length cg] 229)).heap.size (.slice Ag e.got.length cg) e.got):=hid (hsg.only hpR (fun _ _ f=>f))
 have HOG:Hid (∀ b,(Value.slice Ag e.got.length cg).ownBlock=some b→w.heap.size+1≤b):=hid (fun b hb=>by have:=hog b hb;have:=HZ1.out;omega)
 have HZ3:Hid (w.heap.size+1≤(w2.alloc (.cells #[.int .i64 e.thread,.int .i64 e.frags,.int .i64 e.spine,.int .i64 e.state,.int .i64 e.cycles,.int .i64 e.at_,.slice Ag e.got.length cg] 229)).heap.size):=hid (by have:=hp3.size;have:=HZ1.out;omega)
 have r3:(w2.alloc (.cells #[.int .i64 e.thread,.int .i64 e.frags,.int .i64 e.spine,.int .i64 e.state,.int .i64 e.cycles,.int .i64 e.at_,.slice Ag e.got.length cg] 229)).cell? ⟨w2.heap.size,3,none⟩=some (.int .i64 e.state):=by rw [cell_of_row _ _ _ _ _ _ hbR];rfl
 have HBR:=hid hbR
 have HRW:Hid (w1.heap.size≤w2.heap.size):=hid hp2.size
 clear hp2 hp3 HOF c15 hsg hog hbR hpR
 have hD:(e.state == (0:Int))=true:=by rw [HST.out];rfl
 go_wp2_with fail
 generalize w2.alloc (.cells #[.int .i64 e.thread,.int .i64 e.frags,.int .i64 e.spine,.int .i64 e.state,.int .i64 e.cycles,.int .i64 e.at_,.slice Ag e.got.length cg] 229)=w3 at *
 refine (none_any 0 w3).mono ?_
 rintro e2 w7 ⟨rfl,hp7⟩
 have H7:=hid (H3.out.pure hp7)
 have HG7:=hid (Pure.blk hp7 HG3.out)
 have O7:Hid (Only (F q s) w w7):=hid (O3.out.trans (pure_F hp7) (fun _ _ h=>h))
 clear hp7 r3 hD
 obtain ⟨g0,g1,g2⟩:=grant_cells HG7.out
 have gf:=fun i=>frozen_of_row w7 w.heap.size i _ _ HG7.out
 go_wp2_with fail
 have hX:∀ x y z:Value,Only (fun k=>k=w.heap.size) w7 (((w7.setCell ⟨w.heap.size,0,none⟩ x).setCell ⟨w.heap.size,1,none⟩ y).setCell ⟨w.heap.size,2,none⟩ z):=fun x y z=>(((Only.refl (fun k=>k=w.heap.size) w7).setCell (p:=⟨w.heap.size,0,none⟩) (fun _=>rfl) x).setCell (p:=⟨w.heap.size,1,none⟩) (fun _=>rfl) y).setCell (p:=⟨w.heap.size,2,none⟩) (fun _=>rfl) z
 refine bodyPost_ret (v:=.agg #[.int .i64 0,.slice none 0 0,.int .i64 (-1)]) (by simp [results,Tryz.results129,go_sem,g0,g1,g2]) rfl ⟨rfl,O7.out.trans (hX _ _ _) (fun b hb e=>absurd hb (by omega)),?_⟩
 refine H7.out.only (hX _ _ _) (fun b hb e=>?_) (fun b hb e=>?_) (fun e' he b hb e''=>?_)
 ·have:=HFX.out b hb;omega
 ·have:=(H0.out.ro b hb).2;omega
 ·have:=((H0.out.line.got e' he).2 b hb).2;omega
theorem look_granted (e:Ln.En) (w:World) (h:At w c sh q s) (hen:s.en=[e]) (hth:e.thread=0) (hst:e.state=1) :
  Calls Tryz.prog 129 #[.pointer (some ⟨q.sp,0,none⟩),.int .i64 0] w fun e' w'=>∃ Ag cg lv',e'=.returned (.agg #[.int .i64 1,.slice Ag e.got.length cg,.int .i64 e.at_])∧Only (F q s) w w'∧At w' c sh q { s with lv:=lv',en:=[] }∧lv'.ownBlock=s.lv.ownBlock∧SlI w' w'.heap.size (.slice Ag e.got.length cg) e.got∧∀ b,(Value.slice Ag e.got.length cg).ownBlock=some b→w.heap.size<b:=by
 have H0:=hid h
 have HEN:=hid hen
 have HST:=hid hst
 have HTH:=hid hth
 have hG:=heap_alloc_new w (.cells #[.int .i64 0,.slice none 0 0,.int .i64 0] 191)
 have hpG:=(Only.refl (fun _=>False) w).alloc (.cells #[.int .i64 0,.slice none 0 0,.int .i64 0] 191)
 have hW:=h.pure hpG
 have HHG:=hid hG
 obtain ⟨-,-,-,⟨n,c3⟩,-⟩:=hW.cs
 have fb:=hW.fb
 have H1:=hid (hW.count (wrap64 (n+1)))
 have O1:Hid (Only (F q s) w ((w.alloc (.cells #[.int .i64 0,.slice none 0 0,.int .i64 0] 191)).setCell ⟨q.sp,3,none⟩ (.int .i64 (wrap64 (n+1))))):=hid (only_sp (pure_F hpG) 3 _)
 clear h hW hpG hG hen hst hth
 go_enter Tryz.func129,Tryz.ntmps129
 go_upto_region 2 with fail
 have hspX:w.heap.size≠q.sp:=fun e'=>by have:=H0.out.lt q.sp (.inl rfl);omega
 have HG1:Hid (((w.alloc (.cells #[.int .i64 0,.slice none 0 0,.int .i64 0] 191)).setCell ⟨q.sp,3,none⟩ (.int .i64 (wrap64 (n+1)))).heap[w.heap.size]?=some (.cells #[.int .i64 0,.slice none 0 0,.int .i64 0] 191 (0,0))):=hid (set_other HHG.out hspX)
 have HZ1:Hid (((w.alloc (.cells #[.int .i64 0,.slice none 0 0,.int .i64 0] 191)).setCell ⟨q.sp,3,none⟩ (.int .i64 (wrap64 (n+1)))).heap.size=w.heap.size+1):=hid (by simp [World.setCell])
 generalize (w.alloc (.cells #[.int .i64 0,.slice none 0 0,.int .i64 0] 191)).setCell ⟨q.sp,3,none⟩ (.int .i64 (wrap64 (n+1)))=w1 at *
 clear c3 fb HHG
 have HFX:Hid (∀ k,F q s k→k<w.heap.size):=hid (fun k hk=>H0.out.lt k hk)
 obtain ⟨-,-,-,-,-,-,-,c15⟩:=H1.out.cs
 have HOF:=hid (Ln.lineOf_in q.li s.lv s.en 0 e 0 w1 H1.out.line (by rw [HEN.out];rfl) (by rw [HEN.out];exact ixI_0 (by simp [Ln.isT,HTH.out])))
 go_wp2_with fail
 refine HOF.out.mono ?_
 rintro e2 w2 ⟨Ag,cg,rfl,hp2,hsg,hog⟩
 have hbR:=heap_alloc_new w2 (.cells #[.int .i64 e.thread,.int .i64 e.frags,.int .i64 e.spine,.int .i64 e.state,.int .i64 e.cycles,.int .i64 e.at_,.slice Ag e.got.length cg] 229)
 have hpR:=(Only.refl (fun _=>False) w2).alloc (.cells #[.int .i64 e.thread,.int .i64 e.frags,.int .i64 e.spine,.int .i64 e.state,.int .i64 e.cycles,.int .i64 e.at_,.slice Ag e.got.length cg] 229)
 have hp3:=Pure.then hp2 hpR
 have H3:=hid (H1.out.pure hp3)
 have HG3:=hid (Pure.blk hp3 HG1.out)
 have O3:Hid (Only (F q s) w (w2.alloc (.cells #[.int .i64 e.thread,.int .i64 e.frags,.int .i64 e.spine,.int .i64 e.state,.int .i64 e.cycles,.int .i64 e.at_,.slice Ag e.got.length cg] 229))):=hid (O1.out.trans (pure_F hp3) (fun _ _ h=>h))
 have HSG:Hid (SlI (w2.alloc (.cells #[.int .i64 e.thread,.int .i64 e.frags,.int .i64 e.spine,.int .i64 e.state,.int .i64 e.cycles,.int .i64 e.at_,.slice Ag e.got.length cg] 229)) (w2.alloc (.cells #[.int .i64 e.thread,.int .i64 e.frags,.int .i64 e.spine,.int .i64 e.state,.int .i64 e.cycles,.int .i64 e.at_,.slice Ag e.got.length cg] 229)).heap.size (.slice Ag e.got.length cg) e.got):=hid (hsg.only hpR (fun _ _ f=>f))
 have HOG:Hid (∀ b,(Value.slice Ag e.got.length cg).ownBlock=some b→w.heap.size+1≤b):=hid (fun b hb=>by have:=hog b hb;have:=HZ1.out;omega)
 have HZ3:Hid (w.heap.size+1≤(w2.alloc (.cells #[.int .i64 e.thread,.int .i64 e.frags,.int .i64 e.spine,.int .i64 e.state,.int .i64 e.cycles,.int .i64 e.at_,.slice Ag e.got.length cg] 229)).heap.size):=hid (by have:=hp3.size;have:=HZ1.out;omega)
 have r3:(w2.alloc (.cells #[.int .i64 e.thread,.int .i64 e.frags,.int .i64 e.spine,.int .i64 e.state,.int .i64 e.cycles,.int .i64 e.at_,.slice Ag e.got.length cg] 229)).cell? ⟨w2.heap.size,3,none⟩=some (.int .i64 e.state):=by rw [cell_of_row _ _ _ _ _ _ hbR];rfl
 have HBR:=hid hbR
 have HRW:Hid (w1.heap.size≤w2.heap.size):=hid hp2.size
 clear hp2 hp3 HOF c15 hsg hog hbR hpR
 have hD:(e.state == (0:Int))=false:=by rw [HST.out];rfl
 obtain ⟨-,-,-,-,-,-,-,c15⟩:=H3.out.cs
 go_wp2_with fail
 generalize w2.alloc (.cells #[.int .i64 e.thread,.int .i64 e.frags,.int .i64 e.spine,.int .i64 e.state,.int .i64 e.cycles,.int .i64 e.at_,.slice Ag e.got.length cg] 229)=w3 at *
 refine (Ln.drop_yes q.li s.lv s.en 0 0 w3 H3.out.line (by rw [HEN.out];exact ixI_0 (by simp [Ln.isT,HTH.out])) (by rw [HEN.out];simp)).mono ?_
 rintro e2 w4 ⟨lv',rfl,h4,o4,hlv⟩
 rw [show s.en.eraseIdx 0=[] from by rw [HEN.out];rfl] at h4
 have H4:=hid (H3.out.lined o4 h4 (.inl hlv) (fun e he=>by cases he))
 have o4':Only (F q s) w3 w4:=line_F o4
 have HG4:=hid (o4'.blk HG3.out (fun hk=>by have:=HFX.out _ hk;omega))
 have O4:Hid (Only (F q s) w w4):=hid (O3.out.trans o4' (fun _ _ h=>h))
 have HSG4:Hid (SlI w4 w4.heap.size (.slice Ag e.got.length cg) e.got):=hid (HSG.out.only o4' (fun b hb hF=>by have:=HFX.out b hF;have:=HOG.out b hb;omega))
 have HBR4:=hid (o4'.blk HBR.out (fun hk=>by have:=HFX.out _ hk;have:=HZ1.out;have:=HRW.out;omega))
 have HLV:=hid hlv
 clear o4 o4' h4 hlv c15 r3 hD H3 HG3 O3 HSG
 have q1:w4.cell? ⟨w2.heap.size,3,none⟩=some (.int .i64 1):=by rw [cell_of_row _ _ _ _ _ _ HBR4.out];rw [← HST.out];rfl
 have q2:w4.cell? ⟨w2.heap.size,6,none⟩=some (.slice Ag e.got.length cg):=by rw [cell_of_row _ _ _ _ _ _ HBR4.out];rfl
 have q3:w4.cell? ⟨w2.heap.size,5,none⟩=some (.int .i64 e.at_):=by rw [cell_of_row _ _ _ _ _ _ HBR4.out];rfl
 obtain ⟨g0,g1,g2⟩:=grant_cells HG4.out
 have gf:=fun i=>frozen_of_row w4 w.heap.size i _ _ HG4.out
 go_wp2_with fail
 have hX:∀ x y z:Value,Only (fun k=>k=w.heap.size) w4 (((w4.setCell ⟨w.heap.size,0,none⟩ x).setCell ⟨w.heap.size,1,none⟩ y).setCell ⟨w.heap.size,2,none⟩ z):=fun x y z=>(((Only.refl (fun k=>k=w.heap.size) w4).setCell (p:=⟨w.heap.size,0,none⟩) (fun _=>rfl) x).setCell (p:=⟨w.heap.size,1,none⟩) (fun _=>rfl) y).setCell (p:=⟨w.heap.size,2,none⟩) (fun _=>rfl) z
 refine bodyPost_ret (v:=.agg #[.int .i64 1,.slice Ag e.got.length cg,.int .i64 e.at_]) (by simp [results,Tryz.results129,go_sem,g0,g1,g2]) rfl ⟨Ag,cg,lv',rfl,?_,?_,HLV.out,?_,fun b hb=>by have:=HOG.out b hb;omega⟩
 ·exact O4.out.trans (hX _ _ _) (fun b hb e=>absurd hb (by omega))
 ·refine H4.out.only (hX _ _ _) (fun b hb e=>?_) (fun b hb e=>?_) (fun e' he=>by cases he)
  ·subst e
   have hF:F q s w.heap.size:=by
    rcases hb with hb | hb | hb | hb | hb | hb | (hb | hb) | hb
    ·exact .inl hb
    ·exact .inr (.inl hb)
    ·exact .inr (.inr (.inl hb))
    ·exact .inr (.inr (.inr (.inl hb)))
    ·exact .inr (.inr (.inr (.inr (.inl hb))))
    ·exact .inr (.inr (.inr (.inr (.inr (.inl hb)))))
    ·exact .inr (.inr (.inr (.inr (.inr (.inr (.inl (.inl hb)))))))
    ·exact .inr (.inr (.inr (.inr (.inr (.inr (.inl (.inr (HLV.out ▸ hb))))))))
    ·exact .inr (.inr (.inr (.inr (.inr (.inr (.inr hb))))))
   have:=HFX.out _ hF;omega
  ·have:=(H0.out.ro b hb).2;omega
 ·exact HSG4.out.only (hX _ _ _) (fun b hb e=>by have:=HOG.out b hb;omega)
theorem look_failed (e:Ln.En) (w:World) (h:At w c sh q s) (hen:s.en=[e]) (hth:e.thread=0) (hst:e.state=2) :
  Calls Tryz.prog 129 #[.pointer (some ⟨q.sp,0,none⟩),.int .i64 0] w fun e' w'=>∃ lv',e'=.returned (.agg #[.int .i64 2,.slice none 0 0,.int .i64 (-1)])∧Only (F q s) w w'∧At w' c sh q { s with lv:=lv',en:=[] }∧lv'.ownBlock=s.lv.ownBlock:=by
 have H0:=hid h
 have HEN:=hid hen
 have HST:=hid hst
 have HTH:=hid hth
 have hG:=heap_alloc_new w (.cells #[.int .i64 0,.slice none 0 0,.int .i64 0] 191)
 have hpG:=(Only.refl (fun _=>False) w).alloc (.cells #[.int .i64 0,.slice none 0 0,.int .i64 0] 191)
 have hW:=h.pure hpG
 have HHG:=hid hG
 obtain ⟨-,-,-,⟨n,c3⟩,-⟩:=hW.cs
 have fb:=hW.fb
 have H1:=hid (hW.count (wrap64 (n+1)))
 have O1:Hid (Only (F q s) w ((w.alloc (.cells #[.int .i64 0,.slice none 0 0,.int .i64 0] 191)).setCell ⟨q.sp,3,none⟩ (.int .i64 (wrap64 (n+1))))):=hid (only_sp (pure_F hpG) 3 _)
 clear h hW hpG hG hen hst hth
 go_enter Tryz.func129,Tryz.ntmps129
 go_upto_region 2 with fail
 have hspX:w.heap.size≠q.sp:=fun e'=>by have:=H0.out.lt q.sp (.inl rfl);omega
 have HG1:Hid (((w.alloc (.cells #[.int .i64 0,.slice none 0 0,.int .i64 0] 191)).setCell ⟨q.sp,3,none⟩ (.int .i64 (wrap64 (n+1)))).heap[w.heap.size]?=some (.cells #[.int .i64 0,.slice none 0 0,.int .i64 0] 191 (0,0))):=hid (set_other HHG.out hspX)
 have HZ1:Hid (((w.alloc (.cells #[.int .i64 0,.slice none 0 0,.int .i64 0] 191)).setCell ⟨q.sp,3,none⟩ (.int .i64 (wrap64 (n+1)))).heap.size=w.heap.size+1):=hid (by simp [World.setCell])
 generalize (w.alloc (.cells #[.int .i64 0,.slice none 0 0,.int .i64 0] 191)).setCell ⟨q.sp,3,none⟩ (.int .i64 (wrap64 (n+1)))=w1 at *
 clear c3 fb HHG
 have HFX:Hid (∀ k,F q s k→k<w.heap.size):=hid (fun k hk=>H0.out.lt k hk)
 obtain ⟨-,-,-,-,-,-,-,c15⟩:=H1.out.cs
 have HOF:=hid (Ln.lineOf_in q.li s.lv s.en 0 e 0 w1 H1.out.line (by rw [HEN.out];rfl) (by rw [HEN.out];exact ixI_0 (by simp [Ln.isT,HTH.out])))
 go_wp2_with fail
 refine HOF.out.mono ?_
 rintro e2 w2 ⟨Ag,cg,rfl,hp2,hsg,hog⟩
 have hbR:=heap_alloc_new w2 (.cells #[.int .i64 e.thread,.int .i64 e.frags,.int .i64 e.spine,.int .i64 e.state,.int .i64 e.cycles,.int .i64 e.at_,.slice Ag e.got.length cg] 229)
 have hpR:=(Only.refl (fun _=>False) w2).alloc (.cells #[.int .i64 e.thread,.int .i64 e.frags,.int .i64 e.spine,.int .i64 e.state,.int .i64 e.cycles,.int .i64 e.at_,.slice Ag e.got.length cg] 229)
 have hp3:=Pure.then hp2 hpR
 have H3:=hid (H1.out.pure hp3)
 have HG3:=hid (Pure.blk hp3 HG1.out)
 have O3:Hid (Only (F q s) w (w2.alloc (.cells #[.int .i64 e.thread,.int .i64 e.frags,.int .i64 e.spine,.int .i64 e.state,.int .i64 e.cycles,.int .i64 e.at_,.slice Ag e.got.length cg] 229))):=hid (O1.out.trans (pure_F hp3) (fun _ _ h=>h))
 have HSG:Hid (SlI (w2.alloc (.cells #[.int .i64 e.thread,.int .i64 e.frags,.int .i64 e.spine,.int .i64 e.state,.int .i64 e.cycles,.int .i64 e.at_,.slice Ag e.got.length cg] 229)) (w2.alloc (.cells #[.int .i64 e.thread,.int .i64 e.frags,.int .i64 e.spine,.int .i64 e.state,.int .i64 e.cycles,.int .i64 e.at_,.slice Ag e.got.length cg] 229)).heap.size (.slice Ag e.got.length cg) e.got):=hid (hsg.only hpR (fun _ _ f=>f))
 have HOG:Hid (∀ b,(Value.slice Ag e.got.length cg).ownBlock=some b→w.heap.size+1≤b):=hid (fun b hb=>by have:=hog b hb;have:=HZ1.out;omega)
 have HZ3:Hid (w.heap.size+1≤(w2.alloc (.cells #[.int .i64 e.thread,.int .i64 e.frags,.int .i64 e.spine,.int .i64 e.state,.int .i64 e.cycles,.int .i64 e.at_,.slice Ag e.got.length cg] 229)).heap.size):=hid (by have:=hp3.size;have:=HZ1.out;omega)
 have r3:(w2.alloc (.cells #[.int .i64 e.thread,.int .i64 e.frags,.int .i64 e.spine,.int .i64 e.state,.int .i64 e.cycles,.int .i64 e.at_,.slice Ag e.got.length cg] 229)).cell? ⟨w2.heap.size,3,none⟩=some (.int .i64 e.state):=by rw [cell_of_row _ _ _ _ _ _ hbR];rfl
 have HBR:=hid hbR
 have HRW:Hid (w1.heap.size≤w2.heap.size):=hid hp2.size
 clear hp2 hp3 HOF c15 hsg hog hbR hpR
 have hD:(e.state == (0:Int))=false:=by rw [HST.out];rfl
 obtain ⟨-,-,-,-,-,-,-,c15⟩:=H3.out.cs
 go_wp2_with fail
 generalize w2.alloc (.cells #[.int .i64 e.thread,.int .i64 e.frags,.int .i64 e.spine,.int .i64 e.state,.int .i64 e.cycles,.int .i64 e.at_,.slice Ag e.got.length cg] 229)=w3 at *
 refine (Ln.drop_yes q.li s.lv s.en 0 0 w3 H3.out.line (by rw [HEN.out];exact ixI_0 (by simp [Ln.isT,HTH.out])) (by rw [HEN.out];simp)).mono ?_
 rintro e2 w4 ⟨lv',rfl,h4,o4,hlv⟩
 rw [show s.en.eraseIdx 0=[] from by rw [HEN.out];rfl] at h4
 have H4:=hid (H3.out.lined o4 h4 (.inl hlv) (fun e he=>by cases he))
 have o4':Only (F q s) w3 w4:=line_F o4
 have HG4:=hid (o4'.blk HG3.out (fun hk=>by have:=HFX.out _ hk;omega))
 have O4:Hid (Only (F q s) w w4):=hid (O3.out.trans o4' (fun _ _ h=>h))
 have HSG4:Hid (SlI w4 w4.heap.size (.slice Ag e.got.length cg) e.got):=hid (HSG.out.only o4' (fun b hb hF=>by have:=HFX.out b hF;have:=HOG.out b hb;omega))
 have HBR4:=hid (o4'.blk HBR.out (fun hk=>by have:=HFX.out _ hk;have:=HZ1.out;have:=HRW.out;omega))
 have HLV:=hid hlv
 clear o4 o4' h4 hlv c15 r3 hD H3 HG3 O3 HSG
 have q1:w4.cell? ⟨w2.heap.size,3,none⟩=some (.int .i64 2):=by rw [cell_of_row _ _ _ _ _ _ HBR4.out];rw [← HST.out];rfl
 have q2:w4.cell? ⟨w2.heap.size,6,none⟩=some (.slice Ag e.got.length cg):=by rw [cell_of_row _ _ _ _ _ _ HBR4.out];rfl
 have q3:w4.cell? ⟨w2.heap.size,5,none⟩=some (.int .i64 e.at_):=by rw [cell_of_row _ _ _ _ _ _ HBR4.out];rfl
 obtain ⟨g0,g1,g2⟩:=grant_cells HG4.out
 have gf:=fun i=>frozen_of_row w4 w.heap.size i _ _ HG4.out
 clear g0 g1 g2 gf
 go_wp2_with fail
 refine (none_any 2 w4).mono ?_
 rintro e2 w7 ⟨rfl,hp7⟩
 have H7:=hid (H4.out.pure hp7)
 have HG7:=hid (Pure.blk hp7 HG4.out)
 have O7:Hid (Only (F q s) w w7):=hid (O4.out.trans (pure_F hp7) (fun _ _ h=>h))
 clear hp7 q1 q2 q3
 obtain ⟨g0,g1,g2⟩:=grant_cells HG7.out
 have gf:=fun i=>frozen_of_row w7 w.heap.size i _ _ HG7.out
 go_wp2_with fail
 have hX:∀ x y z:Value,Only (fun k=>k=w.heap.size) w7 (((w7.setCell ⟨w.heap.size,0,none⟩ x).setCell ⟨w.heap.size,1,none⟩ y).setCell ⟨w.heap.size,2,none⟩ z):=fun x y z=>(((Only.refl (fun k=>k=w.heap.size) w7).setCell (p:=⟨w.heap.size,0,none⟩) (fun _=>rfl) x).setCell (p:=⟨w.heap.size,1,none⟩) (fun _=>rfl) y).setCell (p:=⟨w.heap.size,2,none⟩) (fun _=>rfl) z
 refine bodyPost_ret (v:=.agg #[.int .i64 2,.slice none 0 0,.int .i64 (-1)]) (by simp [results,Tryz.results129,go_sem,g0,g1,g2]) rfl ⟨lv',rfl,?_,?_,HLV.out⟩
 ·exact O7.out.trans (hX _ _ _) (fun b hb e=>absurd hb (by omega))
 ·refine H7.out.only (hX _ _ _) (fun b hb e=>?_) (fun b hb e=>?_) (fun e' he=>by cases he)
  ·subst e
   have hF:F q s w.heap.size:=by
    rcases hb with hb | hb | hb | hb | hb | hb | (hb | hb) | hb
    ·exact .inl hb
    ·exact .inr (.inl hb)
    ·exact .inr (.inr (.inl hb))
    ·exact .inr (.inr (.inr (.inl hb)))
    ·exact .inr (.inr (.inr (.inr (.inl hb))))
    ·exact .inr (.inr (.inr (.inr (.inr (.inl hb)))))
    ·exact .inr (.inr (.inr (.inr (.inr (.inr (.inl (.inl hb)))))))
    ·exact .inr (.inr (.inr (.inr (.inr (.inr (.inl (.inr (HLV.out ▸ hb))))))))
    ·exact .inr (.inr (.inr (.inr (.inr (.inr (.inr hb))))))
   have:=HFX.out _ hF;omega
  ·have:=(H0.out.ro b hb).2;omega
end
end Sp
end Go.Proofs.YtpgdiceeimehiaaGreat
