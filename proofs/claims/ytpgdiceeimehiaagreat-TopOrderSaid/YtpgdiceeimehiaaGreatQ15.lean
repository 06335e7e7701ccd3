/- Part 15 of the proof that spotop.TopOrder returns true for all arguments and leaves what was there as it was. -/
import Derived.Test.YtpgdiceeimehiaaGreatQ03
import Derived.Test.YtpgdiceeimehiaaGreatQ13
import Derived.Test.YtpgdiceeimehiaaGreatQ14
set_option maxRecDepth 100000
set_option maxHeartbeats 16000000
open Go.Lib (hid)
namespace Go.Proofs.YtpgdiceeimehiaaGreat
open Go.RowKit
theorem checkI_few {c:Cn} {l:List Sh} (h:checkI c l=0):1≤l.length∧l.length≤8:=by
 obtain ⟨-,-,h⟩:=check_zero h
 simp only [withinB,Bool.and_eq_true,decide_eq_true_eq] at h
 omega
theorem check_more {c:Cn} {l:List Sh} (h:checkI c l=0):1≤c.threads∧c.threads≤16∧1≤c.locals∧c.locals≤8∧0≤c.cache∧c.cache≤8∧1≤c.stack∧c.stack≤256∧0≤c.low∧c.low≤c.frags:=by
 obtain ⟨a,_,_⟩:=check_zero h
 simp only [tests,withinB,List.all_cons,List.all_nil,id,Bool.and_eq_true,decide_eq_true_eq,Bool.and_true,and_assoc] at a
 omega
theorem copy_in (c:Cn) (v:Value) (l:List Sh) (w:World) (hl:ShsR w w.heap.size v l) (hok:checkI c l=0) (hx:∀ s∈l,s.bs.length≤1000000) :
  Calls Tryz.prog 53 #[cnV c v] w fun e w'=>∃ (A:Option Addr) (d:Nat) (m:List Sh),e=.returned (cnV c (.slice A l.length d))∧Pure w w'∧ShsR w' w'.heap.size (.slice A l.length d) m ∧
   (∀ k,CfS (.slice A l.length d) m k→w.heap.size≤k∧k<w'.heap.size)∧alike l m:=by
 refine (copy_any c v l w hl (by have:=checkI_few hok;omega) hx).mono ?_
 rintro e w' ⟨A,d,m,rfl,hp,ho,hs,hq,ha⟩
 refine ⟨A,d,m,rfl,hp,ShsR.of_own ho hs,fun k hk=>?_,ha⟩
 rcases hk with hk | ⟨s,hs',hk⟩
 ·exact ho.lt k hk
 ·exact ⟨(hq s hs' k hk).2.1,(hq s hs' k hk).2.2⟩
namespace Sp
theorem stk_info:(Tryz.prog.info? 169).map (fun i=>(i.zero,i.size,i.bytes))=some (some (.pointer none),1,8):=by kernel_rfl
theorem new_one (c:Cn) (v:Value) (sh:List Sh) (tb tg:Nat) (l:List Tab.One) (w:World) (hc:ShsR w w.heap.size v sh) (hok:checkI c sh=0) (ht:c.threads=1) (hx:∀ s∈sh,s.bs.length≤1000000) (htab:Tab.At w tb tg l) (hl:(l.length:Int)=c.frags) :
  Calls Tryz.prog 47 #[cnV c v,.pointer (some ⟨tb,0,none⟩)] w fun e w'=>∃ q sh',e=.returned (.tuple #[.pointer (some ⟨q.sp,0,none⟩),.int .i64 0])∧Pure w w' ∧
   At w' c sh' q ⟨l,List.replicate l.length true,c.spine,0,fun _=>0,0,.slice none 0 0,[],.slice none 0 0,[],false⟩∧q.tb=tb∧q.tg=tg∧q.ns=1∧alike sh sh' ∧
   (∀ k,F q ⟨l,List.replicate l.length true,c.spine,0,fun _=>0,0,.slice none 0 0,[],.slice none 0 0,[],false⟩ k→k=tb∨k=tg∨w.heap.size≤k)∧(∀ k,R q sh' k→w.heap.size≤k):=by
 obtain ⟨i0,hi0,hz0,hz1,hz2⟩:=info_parts stk_info
 obtain ⟨A,cc,rfl⟩:∃ A cc,v=.slice A sh.length cc:=by
  obtain ⟨⟨A,cc,rfl,_⟩,_⟩:=hc
  exact ⟨A,cc,rfl⟩
 have hb:=check_bd hok
 have hm:=check_more hok
 have hr:=Row.new w c (.slice A sh.length cc)
 have HL:=hid (fun (w':World) (hp:Pure w w')=>hc.pure hp)
 have HX:=hid hx
 have HOK:=hid hok
 have HTAB:=hid htab
 have HLEN:=hid hl
 have HT:=hid ht
 have HR:=hid hr
 clear hc hx htab hr hok hl ht
 have hlb:l.length≤1024:=by have:=HLEN.out;omega
 go_enter Tryz.func47,Tryz.ntmps47
 go_upto_region 1 with fail
 have HZ0:Hid ((w.alloc (.cells #[.int .i64 c.frags,.int .i64 c.spine,.int .i64 c.globals,.int .i64 c.threads,.int .i64 c.locals,.int .i64 c.cache,.int .i64 c.stack,.int .i64 c.low,.slice A sh.length cc] 24)).heap.size=w.heap.size+1):=hid (by simp)
 generalize w.alloc (.cells #[.int .i64 c.frags,.int .i64 c.spine,.int .i64 c.globals,.int .i64 c.threads,.int .i64 c.locals,.int .i64 c.cache,.int .i64 c.stack,.int .i64 c.low,.slice A sh.length cc] 24)=W at *
 obtain ⟨k0,k1,k2,k3,k4,k5,k6,k7,k8,kf⟩:=HR.out.cells
 go_wp2_with fail
 refine (check_any c _ sh W (HL.out W HR.out.2.2)).mono ?_
 rw [HOK.out]
 rintro e w1 ⟨rfl,hp1⟩
 have hR1:=HR.out.keep hp1
 have R1:=hid hR1
 have HZ1:Hid (w.heap.size+1≤w1.heap.size):=hid (by have:=hp1.size;have:=HZ0.out;omega)
 clear k0 k1 k2 k3 k4 k5 k6 k7 k8 kf hp1 hR1
 obtain ⟨k0,k1,k2,k3,k4,k5,k6,k7,k8,kf⟩:=R1.out.cells
 have ht1:=HTAB.out.only R1.out.2.2 (fun f=>f) (fun f=>f)
 have HT1:=hid ht1
 have hne:((l.length:Int) != c.frags)=false:=by have:=HLEN.out;simpa using this
 clear ht1
 go_wp2_with fail
 go_quiet ((go_at_call 83;exact Calls.quiet_of_same ((Tab.len_any tb tg l _ (HT1.out.only ((Only.refl (fun _=>False) _).drewN _) (fun f=>f) (fun f=>f))).mono fun _ _ h=>⟨h.1,h.2.symm⟩)))
 have hp2:Pure w1 (w1.drewN nq):=(Only.refl _ _).drewN nq
 have hR2:=R1.out.keep hp2
 have R2:=hid hR2
 have HZ2:Hid (w.heap.size+1≤(w1.drewN nq).heap.size):=hid HZ1.out
 have HT2:=hid (HT1.out.only hp2 (fun f=>f) (fun f=>f))
 clear k0 k1 k2 k3 k4 k5 k6 k7 k8 kf hp2 hR2 hne R1 HZ1 HT1
 generalize w1.drewN nq=w2 at *
 obtain ⟨k0,k1,k2,k3,k4,k5,k6,k7,k8,kf⟩:=R2.out.cells
 rw [← HLEN.out] at k0
 go_wp2_with fail
 refine (Po.new_in l.length w2 hlb).mono ?_
 obtain ⟨pg,hpg⟩:∃ x,w2.heap.size=x:=⟨_,rfl⟩
 rw [hpg]
 rintro e w3 ⟨rfl,hp3,hz3,h3⟩
 have hR3:=R2.out.keep hp3
 have R3:=hid hR3
 have HT3:=hid (HT2.out.only hp3 (fun f=>f) (fun f=>f))
 have HPO3:=hid h3
 have HPG:Hid (w.heap.size+1≤pg):=hid (by have:=HZ2.out;omega)
 have HZ3:Hid (w3.heap.size=pg+2):=hid (by omega)
 clear k0 k1 k2 k3 k4 k5 k6 k7 k8 kf hp3 hR3 h3 hz3 hpg R2 HT2 HZ2
 obtain ⟨k0,k1,k2,k3,k4,k5,k6,k7,k8,kf⟩:=R3.out.cells
 go_wp2_with fail
 refine (Co.new_in c.spine w3 (by omega) (by omega)).mono ?_
 rw [HZ3.out]
 rintro e w4 ⟨rfl,hp4,hz4,h4⟩
 have hR4:=R3.out.keep hp4
 have R4:=hid hR4
 have HT4:=hid (HT3.out.only hp4 (fun f=>f) (fun f=>f))
 have HPO4:=hid (HPO3.out.only hp4 (fun f=>f) (fun f=>f))
 have HCO4:=hid h4
 have HZ4:Hid (w4.heap.size=pg+3):=hid (by omega)
 clear k0 k1 k2 k3 k4 k5 k6 k7 k8 kf hp4 hR4 h4 hz4 R3 HT3 HPO3
 obtain ⟨k0,k1,k2,k3,k4,k5,k6,k7,k8,kf⟩:=R4.out.cells
 go_wp2_with fail
 refine (copy_in c _ sh w4 (HL.out w4 R4.out.2.2) HOK.out HX.out).mono ?_
 rintro e w5 ⟨A2,d2,m,rfl,hp5,hs5,hf5,ha5⟩
 have hR5:=R4.out.keep hp5
 have R5:=hid hR5
 have HT5:=hid (HT4.out.only hp5 (fun f=>f) (fun f=>f))
 have HPO5:=hid (HPO4.out.only hp5 (fun f=>f) (fun f=>f))
 have HCO5:=hid (HCO4.out.only hp5 (fun f=>f))
 have HS5:=hid hs5
 have HF5:Hid (∀ k,CfS (.slice A2 sh.length d2) m k→pg+3≤k∧k<w5.heap.size):=hid (fun k hk=>by have:=hf5 k hk;have:=HZ4.out;omega)
 have HA5:=hid ha5
 have HZ5:Hid (pg+3≤w5.heap.size):=hid (by have:=hp5.size;have:=HZ4.out;omega)
 clear k0 k1 k2 k3 k4 k5 k6 k7 k8 kf hp5 hR5 hs5 hf5 ha5 R4 HT4 HPO4 HCO4 HZ4
 obtain ⟨k0,k1,k2,k3,k4,k5,k6,k7,k8,kf⟩:=R5.out.cells
 go_wp2_with fail
 refine (Ln.new_any w5).mono ?_
 rintro e w6 ⟨rfl,hw6⟩
 obtain ⟨li,hli⟩:∃ x,w5.heap.size=x:=⟨_,rfl⟩
 have hp6:Pure w5 w6:=by rw [hw6];exact (Only.refl _ _).alloc _
 have hz6:w6.heap.size=li+1:=by rw [hw6,← hli];simp
 have hl6:Ln.LineOf w6 li (.slice none 0 0) []:=by rw [hw6,← hli];exact Ln.line_new w5
 clear hw6
 rw [hli]
 have hb7:=heap_alloc_new w6 (.cells #[.pointer (some ⟨tb,0,none⟩),.slice none 0 0,.bool false,.int .i64 0,.int .i64 c.frags,.int .i64 c.spine,.int .i64 c.globals,.int .i64 c.threads,.int .i64 c.locals,.int .i64 c.cache,.int .i64 c.stack,.int .i64 c.low,.slice A2 sh.length d2,.pointer (some ⟨pg+1,0,none⟩),.pointer (some ⟨pg+2,0,none⟩),.pointer (some ⟨li,0,none⟩)] 168)
 rw [hz6] at hb7
 have hp7:=(Only.refl (fun _=>False) w6).alloc (.cells #[.pointer (some ⟨tb,0,none⟩),.slice none 0 0,.bool false,.int .i64 0,.int .i64 c.frags,.int .i64 c.spine,.int .i64 c.globals,.int .i64 c.threads,.int .i64 c.locals,.int .i64 c.cache,.int .i64 c.stack,.int .i64 c.low,.slice A2 sh.length d2,.pointer (some ⟨pg+1,0,none⟩),.pointer (some ⟨pg+2,0,none⟩),.pointer (some ⟨li,0,none⟩)] 168)
 have hp67:=Pure.then hp6 hp7
 have hR7:=R5.out.keep hp67
 have R7:=hid hR7
 have HT7:=hid (HT5.out.only hp67 (fun f=>f) (fun f=>f))
 have HPO7:=hid (HPO5.out.only hp67 (fun f=>f) (fun f=>f))
 have HCO7:=hid (HCO5.out.only hp67 (fun f=>f))
 have HS7:=hid (HS5.out.pure hp67)
 have HL7:=hid (hl6.pure hp7)
 have HB7:=hid hb7
 have HF7:Hid (∀ k,CfS (.slice A2 sh.length d2) m k→pg+3≤k∧k<li):=hid (fun k hk=>by have:=HF5.out k hk;omega)
 have HZ7:Hid ((w6.alloc (.cells #[.pointer (some ⟨tb,0,none⟩),.slice none 0 0,.bool false,.int .i64 0,.int .i64 c.frags,.int .i64 c.spine,.int .i64 c.globals,.int .i64 c.threads,.int .i64 c.locals,.int .i64 c.cache,.int .i64 c.stack,.int .i64 c.low,.slice A2 sh.length d2,.pointer (some ⟨pg+1,0,none⟩),.pointer (some ⟨pg+2,0,none⟩),.pointer (some ⟨li,0,none⟩)] 168)).heap.size=li+2):=hid (by simp [hz6])
 have HLI:Hid (pg+3≤li):=hid (by have:=HZ5.out;omega)
 have HZ6:=hid hz6
 clear k0 k1 k2 k3 k4 k5 k6 k7 k8 kf hp6 hp7 hp67 hz6 hl6 hb7 hR7 R5 HT5 HPO5 HCO5 HS5 HF5 HZ5 hli
 go_upto_region 13 with fail
 rw [HZ6.out]
 generalize w6.alloc (.cells #[.pointer (some ⟨tb,0,none⟩),.slice none 0 0,.bool false,.int .i64 0,.int .i64 c.frags,.int .i64 c.spine,.int .i64 c.globals,.int .i64 c.threads,.int .i64 c.locals,.int .i64 c.cache,.int .i64 c.stack,.int .i64 c.low,.slice A2 sh.length d2,.pointer (some ⟨pg+1,0,none⟩),.pointer (some ⟨pg+2,0,none⟩),.pointer (some ⟨li,0,none⟩)] 168)=w7 at *
 obtain ⟨k0,k1,k2,k3,k4,k5,k6,k7,k8,kf⟩:=R7.out.cells
 rw [HT.out] at k3
 go_wp2_with fail
 go_loopw [52] (fun i wr=>(i=.int .i64 0∧wr=w7)∨(i=.int .i64 1∧∃ A8 d8,Only (fun k=>k=li+1) w7 wr∧wr.heap[li+1]?=some (.cells #[.pointer (some ⟨tb,0,none⟩),.slice A8 1 d8,.bool false,.int .i64 0,.int .i64 c.frags,.int .i64 c.spine,.int .i64 c.globals,.int .i64 c.threads,.int .i64 c.locals,.int .i64 c.cache,.int .i64 c.stack,.int .i64 c.low,.slice A2 sh.length d2,.pointer (some ⟨pg+1,0,none⟩),.pointer (some ⟨pg+2,0,none⟩),.pointer (some ⟨li,0,none⟩)] 168 (0,0))∧wr.ownsRow (li+2) 169 1 (.slice A8 1 d8) 1 [.pointer (some ⟨li+2,0,none⟩)]∧Sk.StkOf wr (li+2) c.cache (.slice none 0 0) [])) (fun i _=>1-(intOf i).toNat)
 case atStart=>exact .inl ⟨rfl,rfl⟩
 case round =>
  rcases hrel with ⟨rfl,rfl⟩ | ⟨rfl,A8,d8,ho,hb,hrow,hstk⟩
  ·have hst:=Sk.new_ok c.cache wr hm.2.2.2.2.1 hm.2.2.2.2.2.1
   rw [HZ7.out] at hst
   have HST:=hid hst
   have HM:=hid hm
   clear hst hm
   go_wp2_with fail
   refine HST.out.mono ?_
   rintro e w8 ⟨rfl,hw8⟩
   have hp8:Pure wr w8:=by rw [hw8];exact (Only.refl _ _).alloc _
   have hz8:w8.heap.size=li+3:=by rw [hw8];simp [HZ7.out]
   have hb8:w8.heap[li+2]?=some (.cells #[.slice none 0 0,.int .i64 c.cache] 219 (0,0)):=by rw [hw8,← HZ7.out];exact heap_alloc_new wr _
   clear hw8
   have hb8':=Pure.blk hp8 HB7.out
   have c1:w8.cell? ⟨li+1,1,none⟩=some (.slice none 0 0):=by rw [cell_of_row _ _ _ _ _ _ hb8'];rfl
   have fb:=fun i=>frozen_of_row w8 (li+1) i _ _ hb8'
   have HP8:=hid hp8
   have HB8:=hid hb8
   have HB8':=hid hb8'
   have HZ8:=hid hz8
   clear hp8 hb8 hb8' hz8
   have hown0:(w8.alloc (.cells #[.pointer (some ⟨li+2,0,none⟩)] 169)).ownsRow (li+2) 169 1 (.slice none 0 0) 0 []:=World.ownsRow_nil _ _ _ _
   have HOWN0:=hid hown0
   have HNE:Hid (li+1<w8.heap.size):=hid (by have:=HZ8.out;omega)
   have hcx:(w8.alloc (.cells #[.pointer (some ⟨li+2,0,none⟩)] 169)).cell? ⟨li+1,1,none⟩=some (.slice none 0 0):=Pure.keep ((Only.refl (fun _=>False) w8).alloc _) c1
   have HSZ8:Hid (li+2≤(w8.alloc (.cells #[.pointer (some ⟨li+2,0,none⟩)] 169)).heap.size):=hid (by have:=HZ8.out;simp;omega)
   clear hown0
   go_wp2_with (at_builtin;refine wpList_app _ rfl (.tmp 67) (.tmp 69) _ rfl (li+2) 169 i0 _ 1 8 Tryz.underlying166 hi0 hz0 hz1 hz2 rfl (by omega) (.slice none 0 0) 0 [] rfl HOWN0.out _ 1 1 [.pointer (some ⟨li+2,0,none⟩)] rfl (Src.row w8 _ #[.pointer (some ⟨li+2,0,none⟩)] 1 1 _ rfl rfl) (by simp [Value.oneCell']) (by decide) (by omega) HSZ8.out ?_;intro v2 w9 hown9 hg9 hat9;obtain ⟨A9,d9,rfl⟩:=own_form hown9;have hp9:=Pure.then ((Only.refl (fun _=>False) w8).alloc (.cells #[.pointer (some ⟨li+2,0,none⟩)] 169)) ((Only.refl (fun _=>False) _).grown hg9 (fun _ _ e=>nomatch e));have hb9:=Pure.blk hp9 HB8'.out;have fb9:=fun i=>frozen_of_row w9 (li+1) i _ _ hb9;have c19:w9.cell? ⟨li+1,1,none⟩=some (.slice none 0 0):=(by rw [cell_of_row _ _ _ _ _ _ hb9] <;> rfl);have HB9:=hid hb9;have HP9:=hid hp9;have OWN9:=hid hown9;clear hown9 hg9 hat9 hp9 hb9)
   refine ⟨.inr ⟨rfl,A9,d9,?_,?_,?_,?_⟩,by simp [intOf]⟩
   ·have o9:Only (fun k=>k=li+1) wr w9:=(Pure.then HP8.out HP9.out).mono (fun _ _ h=>h.elim)
    exact o9.setCell (p:=⟨li+1,1,none⟩) (fun _=>rfl) _
   ·simpa using set_me (i:=1) (u:=.slice A9 (0+1) d9) HB9.out
   ·exact ((Only.refl (fun k=>k=li+1) w9).setCell (p:=⟨li+1,1,none⟩) (fun _=>rfl) _).own OWN9.out (fun k hk e=>by have:=(OWN9.out.lt k hk).1;omega)
   ·exact ⟨((Only.refl (fun k=>k=li+1) w9).setCell (p:=⟨li+1,1,none⟩) (fun _=>rfl) _).blk (Pure.blk HP9.out HB8.out) (fun e=>by omega),World.ownsRow_nil _ _ _ _,HM.out.2.2.2.2.1,HM.out.2.2.2.2.2.1,by simpa using HM.out.2.2.2.2.1,by simp⟩
  ·have HRB:=hid hb
   have HO:=hid ho
   have HROW:=hid hrow
   have HSTK:=hid hstk
   clear hb ho hrow hstk
   have k3':=HO.out.cell (p:=⟨w.heap.size,3,none⟩) (by have:=R7.out.2.1;exact (Array.getElem?_eq_some_iff.1 this).1) (fun e=>by have e:w.heap.size=li+1:=e;have:=HLI.out;have:=HPG.out;omega)
   rw [k3] at k3'
   go_wp2_with fail
   go_ret2
   have hlt7:∀ k,CfS (.slice A2 sh.length d2) m k→k≠li+1:=fun k hk e=>by have:=HF7.out k hk;omega
   have ht8:=HT7.out.only HO.out (fun e=>by have:=HTAB.out.mid.lb;have:=HLI.out;have:=HPG.out;omega) (fun e=>by have:=HTAB.out.mid.lg;have:=HLI.out;have:=HPG.out;omega)
   refine ⟨⟨li+1,tb,tg,pg+1,pg,pg+2,li,li+2,.slice A8 1 d8,1,.slice A2 sh.length d2⟩,m,rfl,?_,⟨⟨0,HRB.out⟩,ht8,HPO7.out.only HO.out (fun e=>by have:=HLI.out;omega) (fun e=>by have:=HLI.out;omega),HCO7.out.only HO.out (fun e=>by have:=HLI.out;omega),HL7.out.only HO.out (fun k hk e=>?_) (fun e he=>by cases he),HSTK.out,⟨[],own_mono HROW.out (Nat.zero_le _)⟩,HS7.out.only HO.out hlt7,by rw [← HA5.out.check];exact HOK.out,by rw [HT.out];rfl,fun k hk=>?_,fun e he=>by cases he⟩,rfl,rfl,rfl,HA5.out,fun k hk=>?_,fun k hk=>?_⟩
   ·exact R7.out.2.2.trans HO.out (fun i hi e=>by have e:i=li+1:=e;have:=HLI.out;have:=HPG.out;omega)
   ·rcases hk with rfl | hk
    ·have e:k=k+1:=e
     omega
    ·exact nomatch hk
   ·have hT:tb<w.heap.size∧tg<w.heap.size:=⟨HTAB.out.mid.lb,HTAB.out.mid.lg⟩
    have h1:=HLI.out
    have h2:=HPG.out
    have hkb:(pg+3≤k∧k<li)∨(li+2<k):=by
     rcases hk with hk | hk
     ·exact .inl (HF7.out k hk)
     ·have h3:=(HROW.out.lt k hk).1
      have h4:k≠li+2:=fun e=>own_ne HROW.out HSTK.out.at_ (by decide) (e ▸ hk)
      exact .inr (by omega)
    refine ⟨fun hF=>?_,?_⟩
    ·rcases hF with hF | hF | hF | hF | hF | hF | (hF | hF) | (hF | hF)
     ·have e:k=li+1:=hF
      omega
     ·have e:k=tb:=hF
      omega
     ·have e:k=tg:=hF
      omega
     ·have e:k=pg+1:=hF
      omega
     ·have e:k=pg:=hF
      omega
     ·have e:k=pg+2:=hF
      omega
     ·have e:k=li:=hF
      omega
     ·exact nomatch hF
     ·have e:k=li+2:=hF
      omega
     ·exact nomatch hF
    ·rcases hk with hk | hk
     ·have:=(HF7.out k hk).2
      have:=(Array.getElem?_eq_some_iff.1 HRB.out).1
      omega
     ·exact (HROW.out.lt k hk).2
   ·have h1:=HLI.out
    have h2:=HPG.out
    rcases hk with hF | hF | hF | hF | hF | hF | (hF | hF) | (hF | hF)
    ·have e:k=li+1:=hF
     exact .inr (.inr (by omega))
    ·exact .inl hF
    ·exact .inr (.inl hF)
    ·have e:k=pg+1:=hF
     exact .inr (.inr (by omega))
    ·have e:k=pg:=hF
     exact .inr (.inr (by omega))
    ·have e:k=pg+2:=hF
     exact .inr (.inr (by omega))
    ·have e:k=li:=hF
     exact .inr (.inr (by omega))
    ·exact nomatch hF
    ·have e:k=li+2:=hF
     exact .inr (.inr (by omega))
    ·exact nomatch hF
   ·have h1:=HLI.out
    have h2:=HPG.out
    rcases hk with hk | hk
    ·have:=(HF7.out k hk).1
     omega
    ·have:=(HROW.out.lt k hk).1
     omega
end Sp
end Go.Proofs.YtpgdiceeimehiaaGreat
namespace Go.Proofs.YtpgdiceeimehiaaGreat.Mm
open Go.RowKit
def row (l:List (Nat × Nat)):List Value:=l.map fun z=>.complex .f64 z.1 z.2
theorem row_get (l:List (Nat × Nat)) (j:Nat) (z:Nat × Nat) (h:l[j]?=some z):(row l)[j]?=some (.complex .f64 z.1 z.2):=by simp [row,h]
theorem row_set (l:List (Nat × Nat)) (j:Nat) (z:Nat × Nat):row (l.set j z)=(row l).set j (.complex .f64 z.1 z.2):=by simp [row,List.map_set]
structure At (w:World) (b g:Nat) (l:List (Nat × Nat)):Prop where
 me:∃ c:Int,w.heap[b]?=some (.cells #[.slice (some ⟨g,0,none⟩) l.length l.length,.int .i64 c] 149 (0,0))
 row:w.heap[g]?=some (.cells (row l).toArray 30 (0,0))
 few:l.length≤1000000
section
variable {w w':World} {b g:Nat} {l:List (Nat × Nat)}
theorem At.c0 (h:At w b g l):w.cell? ⟨b,0,none⟩=some (.slice (some ⟨g,0,none⟩) l.length l.length):=by
 obtain ⟨c,hc⟩:=h.me
 rw [cell_of_row w b 0 _ _ _ hc];rfl
theorem At.c1 (h:At w b g l):∃ c:Int,w.cell? ⟨b,1,none⟩=some (.int .i64 c):=by
 obtain ⟨c,hc⟩:=h.me
 exact ⟨c,by rw [cell_of_row w b 1 _ _ _ hc];rfl⟩
theorem At.fb (h:At w b g l) (k:Nat):w.frozen? ⟨b,k,none⟩=false:=by
 obtain ⟨c,hc⟩:=h.me
 exact frozen_of_row w b k _ _ hc
theorem At.fg (h:At w b g l) (k:Nat):w.frozen? ⟨g,k,none⟩=false:=frozen_of_row w g k _ _ h.row
theorem At.ne (h:At w b g l):b≠g:=by
 rintro rfl
 obtain ⟨c,hc⟩:=h.me
 have:=hc.symm.trans h.row
 simp at this
theorem At.lb (h:At w b g l):b<w.heap.size:=by
 obtain ⟨c,hc⟩:=h.me
 exact (Array.getElem?_eq_some_iff.1 hc).1
theorem At.lg (h:At w b g l):g<w.heap.size:=(Array.getElem?_eq_some_iff.1 h.row).1
theorem At.only {S:Nat→Prop} (h:At w b g l) (ho:Only S w w') (hb:¬ S b) (hg:¬ S g):At w' b g l:=by
 obtain ⟨c,hc⟩:=h.me
 exact ⟨⟨c,(ho.block b h.lb hb).trans hc⟩,(ho.block g h.lg hg).trans h.row,h.few⟩
theorem At.one (h:At w b g l) {j:Nat} {z:Nat × Nat} (hj:l[j]?=some z):w.cell? ⟨g,j,none⟩=some (.complex .f64 z.1 z.2):=by
 rw [cell_of_row w g _ _ _ _ h.row]
 simpa using row_get l j z hj
theorem At.count (h:At w b g l) (v:Int):At (w.setCell ⟨b,1,none⟩ (.int .i64 v)) b g l:=by
 obtain ⟨c,hc⟩:=h.me
 exact ⟨⟨v,by simp [World.setCell,Array.getElem?_modify,hc]⟩,by simp only [World.setCell,Array.getElem?_modify,h.row,if_neg h.ne],h.few⟩
theorem At.put (h:At w b g l) (j:Nat) (z:Nat × Nat):At (w.setCell ⟨g,j,none⟩ (.complex .f64 z.1 z.2)) b g (l.set j z):=by
 obtain ⟨c,hc⟩:=h.me
 refine ⟨⟨c,?_⟩,?_,by simpa using h.few⟩
 ·simp only [World.setCell,Array.getElem?_modify,hc,if_neg (Ne.symm h.ne),List.length_set]
 ·simp only [World.setCell,Array.getElem?_modify,h.row,if_true,row_set]
  simp
end
theorem has_in (b g:Nat) (l:List (Nat × Nat)) (j:Nat) (w:World) (h:At w b g l) (hj:j<l.length):Calls Tryz.prog 89 #[.pointer (some ⟨b,0,none⟩),.int .i64 j] w fun e w'=>e=.returned (.bool true)∧w=w':=by
 have c0:=h.c0
 have hx:decide ((j:Int)<(l.length:Int))=true:=by simpa using hj
 have h0:decide ((0:Int)≤(j:Int))=true:=by simp
 go_enter Tryz.func89,Tryz.ntmps89
 go_wp2_with fail
 go_ret
 exact ⟨rfl,rfl⟩
theorem peek_in (b g:Nat) (l:List (Nat × Nat)) (j:Nat) (z:Nat × Nat) (w:World) (h:At w b g l) (hj:l[j]?=some z):Calls Tryz.prog 202 #[.pointer (some ⟨b,0,none⟩),.int .i64 j] w fun e w'=>e=.returned (.complex .f64 z.1 z.2)∧w=w':=by
 have c0:=h.c0
 have c1:=h.one hj
 have hjl:j<l.length:=(List.getElem?_eq_some_iff.1 hj).1
 have i2:(j:Int)<(l.length:Int):=by omega
 go_enter Tryz.func202,Tryz.ntmps202
 go_wp2_with fail
 refine (has_in b g l j w h hjl).mono ?_
 rintro e w1 ⟨rfl,rfl⟩
 go_wp2_with fail
 go_ret
 exact ⟨rfl,rfl⟩
theorem read_in (b g:Nat) (l:List (Nat × Nat)) (j:Nat) (z:Nat × Nat) (w:World) (h:At w b g l) (hj:l[j]?=some z):Calls Tryz.prog 97 #[.pointer (some ⟨b,0,none⟩),.int .i64 j] w fun e w'=>e=.returned (.tuple #[.complex .f64 z.1 z.2,.int .i64 0])∧Only (fun k=>k=b) w w'∧At w' b g l:=by
 have hjl:j<l.length:=(List.getElem?_eq_some_iff.1 hj).1
 have i2:(j:Int)<(l.length:Int):=by omega
 obtain ⟨c,c1⟩:=h.c1
 have fb:=h.fb
 have H1:=hid (h.count (wrap64 (c+1)))
 have O1:Hid (Only (fun k=>k=b) w (w.setCell ⟨b,1,none⟩ (.int .i64 (wrap64 (c+1))))):=hid ((Only.refl (fun k=>k=b) w).setCell (p:=⟨b,1,none⟩) (fun _=>rfl) _)
 go_enter Tryz.func97,Tryz.ntmps97
 go_wp2_with fail
 generalize w.setCell ⟨b,1,none⟩ (.int .i64 (wrap64 (c+1)))=w1 at *
 refine (has_in b g l j w1 H1.out hjl).mono ?_
 rintro e w2 ⟨rfl,rfl⟩
 have c0:=H1.out.c0
 have c2:=H1.out.one hj
 go_wp2_with fail
 go_ret2
 exact ⟨rfl,O1.out,H1.out⟩
theorem write_in (b g:Nat) (l:List (Nat × Nat)) (j x y:Nat) (w:World) (h:At w b g l) (hjl:j<l.length):Calls Tryz.prog 192 #[.pointer (some ⟨b,0,none⟩),.int .i64 j,.complex .f64 x y] w fun e w'=>e=.returned (.int .i64 0)∧Only (fun k=>k=b∨k=g) w w'∧At w' b g (l.set j (x,y)):=by
 have i2:(j:Int)<(l.length:Int):=by omega
 obtain ⟨c,c1⟩:=h.c1
 have fb:=h.fb
 have H1:=hid (h.count (wrap64 (c+1)))
 have O1:Hid (Only (fun k=>k=b∨k=g) w (w.setCell ⟨b,1,none⟩ (.int .i64 (wrap64 (c+1))))):=hid ((Only.refl (fun k=>k=b∨k=g) w).setCell (p:=⟨b,1,none⟩) (fun _=>.inl rfl) _)
 go_enter Tryz.func192,Tryz.ntmps192
 go_wp2_with fail
 generalize w.setCell ⟨b,1,none⟩ (.int .i64 (wrap64 (c+1)))=w1 at *
 refine (has_in b g l j w1 H1.out hjl).mono ?_
 rintro e w2 ⟨rfl,rfl⟩
 have c0:=H1.out.c0
 obtain ⟨z,hz⟩:∃ z,l[j]?=some z:=⟨_,List.getElem?_eq_getElem hjl⟩
 have c2:=H1.out.one hz
 have fg:=H1.out.fg
 go_wp2_with fail
 go_ret
 exact ⟨rfl,O1.out.setCell (p:=⟨g,j,none⟩) (fun _=>.inr rfl) _,H1.out.put j (x,y)⟩
theorem lay_in (b g:Nat) (l:List (Nat × Nat)) (j x y:Nat) (w:World) (h:At w b g l) (hjl:j<l.length):Calls Tryz.prog 51 #[.pointer (some ⟨b,0,none⟩),.int .i64 j,.complex .f64 x y] w fun e w'=>e=.returned (.tuple #[])∧Only (fun k=>k=b∨k=g) w w'∧At w' b g (l.set j (x,y)):=by
 have i2:(j:Int)<(l.length:Int):=by omega
 have c0:=h.c0
 obtain ⟨z,hz⟩:∃ z,l[j]?=some z:=⟨_,List.getElem?_eq_getElem hjl⟩
 have c2:=h.one hz
 have fg:=h.fg
 go_enter Tryz.func51,Tryz.ntmps51
 go_wp2_with fail
 refine (has_in b g l j w h hjl).mono ?_
 rintro e w1 ⟨rfl,rfl⟩
 go_wp2_with fail
 go_end0
 exact ⟨rfl,(Only.refl (fun k=>k=b∨k=g) w).setCell (p:=⟨g,j,none⟩) (fun _=>.inr rfl) _,h.put j (x,y)⟩
theorem cx_info:(Tryz.prog.info? 30).map (fun i=>(i.zero,i.size,i.bytes))=some (some (.complex .f64 0 0),1,16):=by kernel_rfl
theorem make_cx (m:Nat) (hm:m≤1000000) (w:World):(Instr.makeSlice 147 (.int .i64 m) (.int .i64 m)).run Tryz.prog w=.ok (.slice (some ⟨w.heap.size,0,none⟩) m m) (w.alloc (.cells (row (List.replicate m (0,0))).toArray 30)):=by
 obtain ⟨i0,hi0,hz0,hz1,hz2⟩:=info_parts cx_info
 rw [run_make w 147 30 i0 _ Tryz.underlying147 hi0 hz0 .i64 .i64 m m (by omega) (by omega) (by rw [hz2];omega) (by omega)]
 have e:madeCells (Value.complex .f64 0 0).cells ((m:Int).toNat * i0.size)=(row (List.replicate m (0,0))).toArray:=by
  rw [hz1,Int.toNat_natCast,Nat.mul_one]
  apply Array.ext
  ·simp [row,size_madeCells]
  ·intro i h1 h2
   simp [madeCells,row,Value.cells,Nat.mod_one]
 rw [e]
 simp
theorem new_in (m:Nat) (w:World) (hm:m≤1000000):Calls Tryz.prog 44 #[.int .i64 m] w fun e w'=>e=.returned (.tuple #[.pointer (some ⟨w.heap.size+1,0,none⟩),.int .i64 0])∧Pure w w'∧w'.heap.size=w.heap.size+2∧At w' (w.heap.size+1) w.heap.size (List.replicate m (0,0)):=by
 have hmk:=fun w=>make_cx m hm w
 have h0:decide ((m:Int)<0)=false:=by simp
 have h1:decide ((1048576:Int)<(m:Int))=false:=by simp;omega
 have hb:=heap_alloc_new w (.cells (row (List.replicate m (0,0))).toArray 30)
 have hp:=(Only.refl (fun _=>False) w).alloc (.cells (row (List.replicate m (0,0))).toArray 30)
 have hz:(w.alloc (.cells (row (List.replicate m (0,0))).toArray 30)).heap.size=w.heap.size+1:=by simp
 have HB:=hid hb
 have HP:=hid hp
 have HZ:=hid hz
 clear hb hp hz
 go_enter Tryz.func44,Tryz.ntmps44
 go_wp2_with fail
 go_ret2
 refine ⟨rfl,HP.out.alloc _,by simp,⟨⟨0,?_⟩,?_,by simpa using hm⟩⟩
 ·rw [← HZ.out,List.length_replicate]
  exact heap_alloc_new _ _
 ·exact Pure.blk ((Only.refl (fun _=>False) _).alloc _) HB.out
end Go.Proofs.YtpgdiceeimehiaaGreat.Mm
