/- Part 20 of the proof that spotop.TopOrder returns true for all arguments and leaves what was there as it was. -/
import Derived.Test.YtpgdiceeimehiaaGreatQ19
set_option maxRecDepth 100000
set_option maxHeartbeats 16000000
open Go.Lib (hid)
namespace Go.Proofs.YtpgdiceeimehiaaGreat.Pl
open Go.RowKit
def fieldStep (f:Nat) (bs:List Bool) (ws:List (Nat × Nat)) (k:Nat):List (Nat × Nat):=if placeF k=f then ws.set (placeW k).toNat (blankW (bs.getD k false)) else ws
def fieldsJ (f:Nat) (bs:List Bool) (j:Nat) (ws:List (Nat × Nat)):List (Nat × Nat):=(List.range j).foldl (fieldStep f bs) ws
theorem fieldsJ_succ (f:Nat) (bs:List Bool) (j:Nat) (ws:List (Nat × Nat)):fieldsJ f bs (j+1) ws=fieldStep f bs (fieldsJ f bs j ws) j:=by simp [fieldsJ,List.range_succ]
theorem fieldsJ_len (f:Nat) (bs:List Bool) (j:Nat) (ws:List (Nat × Nat)):(fieldsJ f bs j ws).length=ws.length:=by
 induction j with
 | zero=>rfl
 | succ j ih =>
  rw [fieldsJ_succ,fieldStep]
  split
  ·rw [List.length_set,ih]
  ·exact ih
theorem placeW_nat (k:Nat):∃ p:Nat,placeW (k:Int)=(p:Int)∧p<8:=by
 have h:0≤placeW (k:Int)∧placeW (k:Int)<8:=by
  unfold placeW
  split <;> omega
 exact ⟨(placeW (k:Int)).toNat,by omega,by omega⟩
theorem placeF_nat (k:Nat):∃ p:Nat,placeF (k:Int)=(p:Int):=by
 have h:0≤placeF (k:Int):=by
  unfold placeF
  split <;> omega
 exact ⟨(placeF (k:Int)).toNat,by omega⟩
theorem fields_any (A:Option Addr) (bs:List Bool) (cc f P:Nat) (ws:List (Nat × Nat)) (w:World) (hb:bs.length≤40) (hs:SlG w w.heap.size (.slice A bs.length cc) (bools bs)) (hP:w.heap[P]?=some (.cells (Mm.row ws).toArray 299 (0,0))) (hw:ws.length=8) (hn:A.map (·.block)≠some P) :
  Calls Tryz.prog 261 #[shV false A bs.length cc,.int .i64 (f:Int),.pointer (some ⟨P,0,none⟩)] w fun e w'=>e=.returned (.tuple #[])∧Only (fun k=>k=P) w w'∧w'.heap[P]?=some (.cells (Mm.row (fieldsJ f bs bs.length ws)).toArray 299 (0,0)):=by
 obtain ⟨A0,c0,hv,hl1,hl2,hc⟩:=hs
 injection hv with e1 e2 e3
 subst e1 e3
 clear e2
 rw [bools_length] at hl1 hc
 obtain ⟨hp,hz,hsh⟩:=Ac.one_new w #[.bool false,.slice A bs.length cc] 35
 have HC:=hid hc
 have HB:=hid (And.intro hb hl2)
 have HPL:Hid (P<w.heap.size):=hid (Array.getElem?_eq_some_iff.1 hP).1
 have HP:=hid hp
 have HSH:=hid hsh
 have HP1:=hid (hp.blk hP)
 have HN:=hid hn
 have HW:=hid hw
 clear hc hb hl2 hp hz hsh hP hn hw
 go_enter Tryz.func261,Tryz.ntmps261
 go_upto_region 1 with fail
 generalize w.alloc (.cells #[.bool false,.slice A bs.length cc] 35)=W at *
 obtain ⟨y0,y1⟩:=sh_cells HSH.out
 go_wp2_with fail
 go_loopw [14] (fun i wr=>∃ j:Nat,j≤bs.length∧i=.int .i64 (j:Int)∧Only (fun k=>k=P) W wr∧wr.heap[P]?=some (.cells (Mm.row (fieldsJ f bs j ws)).toArray 299 (0,0))) (fun i _=>bs.length-(intOf i).toNat)
 case atStart=>exact ⟨0,Nat.zero_le _,rfl,Only.refl _ _,by simpa [fieldsJ] using HP1.out⟩
 case round =>
  obtain ⟨j,hj,rfl,ho,hP⟩:=hrel
  have HO:=hid ho
  have hsh:=ho.blk HSH.out (by have:=HPL.out;omega)
  have HS2:=hid hsh
  have HP2:=hid hP
  clear y0 y1 ho hP
  by_cases hlt:j<bs.length
  ·obtain ⟨g,off,hA,hg,hx⟩:=HC.out (by omega)
   have hgP:g≠P:=fun e=>HN.out (by rw [hA,e];rfl)
   have hbj:(bools bs)[j]?=some (.bool (bs.getD j false)):=by simp [bools,List.getD,hlt]
   have d0:wr.cell? ⟨g,off+j,none⟩=some (.bool (bs.getD j false)):=by
    have hlt2:g<W.heap.size:=Nat.lt_of_lt_of_le hg HP.out.size
    rw [HO.out.cell (p:=⟨g,off+j,none⟩) hlt2 hgP,HP.out.cell (p:=⟨g,off+j,none⟩) hg (fun f=>f)]
    exact hx j _ hbj
   subst hA
   obtain ⟨y0,y1⟩:=sh_cells hsh
   have hok:placeOk false bs.length (j:Int)=true:=by
    have:=HB.out.1
    simp [placeOk,mayB]
    omega
   obtain ⟨pw,hpw,hpw8⟩:=placeW_nat j
   obtain ⟨pf,hpf⟩:=placeF_nat j
   have HPW:=hid (And.intro hpw hpf)
   obtain ⟨r,hr⟩:∃ r,bs.getD j false=r:=⟨_,rfl⟩
   rw [hr] at d0
   have HRR:=hid hr
   have HOK:=hid hok
   have hbl:bs.length≤9223372036854775807:=by have:=HB.out.1;omega
   clear hx hbj hr hpw hpf hok hsh
   go_wp2_with fail
   refine (place_yes false _ bs.length cc (j:Int) wr hbl HOK.out).mono ?_
   rw [HPW.out.1,HPW.out.2]
   rintro e w2 ⟨rfl,hp2⟩
   have HO2:=hid (HO.out.trans (hp2.mono (T:=fun k=>k=P) (fun _ _ f=>f.elim)) (fun _ _ h=>h))
   have HP3:=hid (hp2.blk HP2.out)
   clear hp2 y0 y1 d0
   by_cases hf:pf=f
   ·subst hf
    have i8:(pw:Int)<8:=by omega
    obtain ⟨zz,hzz⟩:∃ zz,(fieldsJ pf bs j ws)[pw]?=some zz:=⟨_,List.getElem?_eq_getElem (by rw [fieldsJ_len,HW.out];exact hpw8)⟩
    have cp:w2.cell? ⟨P,pw,none⟩=some (.complex .f64 zz.1 zz.2):=by rw [cell_of_row w2 _ _ _ _ _ HP3.out];simpa using Mm.row_get _ _ _ hzz
    have fp:=fun k=>frozen_of_row w2 P k _ _ HP3.out
    clear hzz
    go_wp2_with fail
    go_region_with (go_at_call 267;refine (blank_any r _).mono ?_;rintro e w3 ⟨rfl,rfl⟩)
    all_goals
     have hs3:=set_me (i:=pw) (u:=.complex .f64 (blankW r).1 (blankW r).2) HP3.out
     have e3:(Mm.row (fieldsJ pf bs j ws)).toArray.setIfInBounds pw (.complex .f64 (blankW r).1 (blankW r).2)=(Mm.row (fieldsJ pf bs (j+1) ws)).toArray:=by
      rw [List.setIfInBounds_toArray,← Mm.row_set,fieldsJ_succ,fieldStep,if_pos HPW.out.2,HPW.out.1,HRR.out]
      rfl
     rw [e3] at hs3
     have HS5:=hid hs3
     have HO3:Hid (Only (fun k=>k=P) W (w2.setCell ⟨P,pw,none⟩ (.complex .f64 (blankW r).1 (blankW r).2)).drew):=hid ((HO2.out.setCell (p:=⟨P,pw,none⟩) (fun _=>rfl) _).drewN 1)
     clear hs3 e3 cp fp
     go_wp2_with fail
     exact ⟨⟨j+1,hlt,by go_num,HO3.out,HS5.out⟩,by simp [intOf];omega⟩
   ·have hf':((pf:Int) == (f:Int))=false:=by simp;omega
    have e3:fieldsJ f bs (j+1) ws=fieldsJ f bs j ws:=by
     rw [fieldsJ_succ,fieldStep,if_neg (by rw [HPW.out.2];omega)]
    have HE3:=hid e3
    clear hf e3
    go_wp2_with fail
    exact ⟨⟨j+1,hlt,by go_num,HO2.out,by rw [HE3.out];exact HP3.out⟩,by simp [intOf];omega⟩
  ·obtain rfl:j=bs.length:=by omega
   clear hlt
   go_wp2_with fail
   go_end0
   exact ⟨rfl,(HP.out.mono (fun _ _ f=>f.elim)).trans HO.out (fun _ _ h=>h),HP2.out⟩
end Go.Proofs.YtpgdiceeimehiaaGreat.Pl
