/- Part 16 of the proof that spotop.TopOrder returns true for all arguments and leaves what was there as it was. -/
import Derived.Test.YtpgdiceeimehiaaGreatQ03
import Derived.Test.YtpgdiceeimehiaaGreatQ15
set_option maxRecDepth 100000
set_option maxHeartbeats 16000000
open Go.Lib (hid)
namespace Go.Proofs.YtpgdiceeimehiaaGreat.Ha
open Go.RowKit
structure At (w:World) (b g:Nat) (st:Int) (se:Bool) (l:List Int):Prop where
 me:∃ c:Int,w.heap[b]?=some (.cells #[.int .i64 st,.bool se,.slice (some ⟨g,0,none⟩) l.length l.length,.int .i64 c] 173 (0,0))
 row:w.heap[g]?=some (.cells (ints l).toArray 3 (0,0))
 few:l.length≤16
section
variable {w w':World} {b g:Nat} {st:Int} {se:Bool} {l:List Int}
theorem At.cs (h:At w b g st se l):w.cell? ⟨b,0,none⟩=some (.int .i64 st)∧w.cell? ⟨b,1,none⟩=some (.bool se)∧w.cell? ⟨b,2,none⟩=some (.slice (some ⟨g,0,none⟩) l.length l.length)∧∃ c:Int,w.cell? ⟨b,3,none⟩=some (.int .i64 c):=by
 obtain ⟨c,hc⟩:=h.me
 refine ⟨?_,?_,?_,c,?_⟩ <;> (rw [cell_of_row w b _ _ _ _ hc];rfl)
theorem At.fb (h:At w b g st se l) (k:Nat):w.frozen? ⟨b,k,none⟩=false:=by
 obtain ⟨c,hc⟩:=h.me
 exact frozen_of_row w b k _ _ hc
theorem At.fg (h:At w b g st se l) (k:Nat):w.frozen? ⟨g,k,none⟩=false:=frozen_of_row w g k _ _ h.row
theorem At.ne (h:At w b g st se l):b≠g:=by
 rintro rfl
 obtain ⟨c,hc⟩:=h.me
 have:=hc.symm.trans h.row
 simp at this
theorem At.lb (h:At w b g st se l):b<w.heap.size:=by
 obtain ⟨c,hc⟩:=h.me
 exact (Array.getElem?_eq_some_iff.1 hc).1
theorem At.lg (h:At w b g st se l):g<w.heap.size:=(Array.getElem?_eq_some_iff.1 h.row).1
theorem At.only {S:Nat→Prop} (h:At w b g st se l) (ho:Only S w w') (hb:¬ S b) (hg:¬ S g):At w' b g st se l:=by
 obtain ⟨c,hc⟩:=h.me
 exact ⟨⟨c,(ho.block b h.lb hb).trans hc⟩,(ho.block g h.lg hg).trans h.row,h.few⟩
theorem At.one (h:At w b g st se l) {j:Nat} {z:Int} (hj:l[j]?=some z):w.cell? ⟨g,j,none⟩=some (.int .i64 z):=by
 rw [cell_of_row w g _ _ _ _ h.row]
 simp [ints,hj]
theorem At.count (h:At w b g st se l) (v:Int):At (w.setCell ⟨b,3,none⟩ (.int .i64 v)) b g st se l:=by
 obtain ⟨c,hc⟩:=h.me
 exact ⟨⟨v,by simp [World.setCell,Array.getElem?_modify,hc]⟩,by simp only [World.setCell,Array.getElem?_modify,h.row,if_neg h.ne],h.few⟩
theorem At.post (h:At w b g st se l) (v:Int):At (w.setCell ⟨b,0,none⟩ (.int .i64 v)) b g v se l:=by
 obtain ⟨c,hc⟩:=h.me
 exact ⟨⟨c,by simp [World.setCell,Array.getElem?_modify,hc]⟩,by simp only [World.setCell,Array.getElem?_modify,h.row,if_neg h.ne],h.few⟩
theorem At.flip (h:At w b g st se l) (v:Bool):At (w.setCell ⟨b,1,none⟩ (.bool v)) b g st v l:=by
 obtain ⟨c,hc⟩:=h.me
 exact ⟨⟨c,by simp [World.setCell,Array.getElem?_modify,hc]⟩,by simp only [World.setCell,Array.getElem?_modify,h.row,if_neg h.ne],h.few⟩
theorem At.put (h:At w b g st se l) (j:Nat) (z:Int):At (w.setCell ⟨g,j,none⟩ (.int .i64 z)) b g st se (l.set j z):=by
 obtain ⟨c,hc⟩:=h.me
 refine ⟨⟨c,?_⟩,?_,by simpa using h.few⟩
 ·simp only [World.setCell,Array.getElem?_modify,hc,if_neg (Ne.symm h.ne),List.length_set]
 ·simp only [World.setCell,Array.getElem?_modify,h.row,if_true,← ints_set]
  simp
end
def S (b g:Nat) (k:Nat):Prop:=k=b∨k=g
theorem only_b {b g:Nat} {a w:World} (h:Only (S b g) a w) (i:Nat) (u:Value):Only (S b g) a (w.setCell ⟨b,i,none⟩ u):=h.setCell (p:=⟨b,i,none⟩) (fun _=>.inl rfl) u
theorem only_g {b g:Nat} {a w:World} (h:Only (S b g) a w) (i:Nat) (u:Value):Only (S b g) a (w.setCell ⟨g,i,none⟩ u):=h.setCell (p:=⟨g,i,none⟩) (fun _=>.inr rfl) u
theorem status_in (b g:Nat) (st:Int) (se:Bool) (l:List Int) (j:Nat) (z:Int) (w:World) (h:At w b g st se l) (hj:l[j]?=some z):Calls Tryz.prog 221 #[.pointer (some ⟨b,0,none⟩),.int .i64 j] w fun e w'=>e=.returned (.int .i64 z)∧w=w':=by
 obtain ⟨c0,c1,c2,-⟩:=h.cs
 have cz:=h.one hj
 have hjl:j<l.length:=(List.getElem?_eq_some_iff.1 hj).1
 have i0:decide ((j:Int)<0)=false:=by simp
 have i1:(j:Int)<(l.length:Int):=by omega
 have i2:decide ((j:Int) ≥ (l.length:Int))=false:=by simp;omega
 have i3:decide (l.length≤j)=false:=by simp;omega
 go_enter Tryz.func221,Tryz.ntmps221
 go_wp2_with fail
 go_ret
 exact ⟨rfl,rfl⟩
theorem known_yes (s:Int) (w:World) (h0:0≤s) (h4:s≤4):Calls Tryz.prog 146 #[.int .i64 s] w fun e w'=>e=.returned (.bool true)∧w=w':=by
 have i0:decide (s ≥ 0)=true:=by simpa using h0
 have i1:decide (s≤4)=true:=by simpa using h4
 go_enter Tryz.func146,Tryz.ntmps146
 go_wp2_with fail
 go_ret
 exact ⟨rfl,rfl⟩
theorem look_any (b g:Nat) (st:Int) (se:Bool) (l:List Int) (w:World) (h:At w b g st se l):Calls Tryz.prog 172 #[.pointer (some ⟨b,0,none⟩)] w fun e w'=>e=.returned (.tuple #[.int .i64 st,.bool se])∧Only (S b g) w w'∧At w' b g st se l:=by
 obtain ⟨-,-,-,c,c3⟩:=h.cs
 have fb:=h.fb
 have H1:=hid (h.count (wrap64 (c+1)))
 have O1:=hid (only_b (Only.refl (S b g) w) 3 (.int .i64 (wrap64 (c+1))))
 go_enter Tryz.func172,Tryz.ntmps172
 go_upto_region 2 with fail
 generalize w.setCell ⟨b,3,none⟩ (.int .i64 (wrap64 (c+1)))=w1 at *
 obtain ⟨c0,c1,-,-⟩:=H1.out.cs
 go_wp2_with fail
 go_quiet (fail)
 go_wp2_with fail
 go_ret2
 exact ⟨rfl,O1.out.drewN _,H1.out.only ((Only.refl (fun _=>False) _).drewN _) (fun f=>f) (fun f=>f)⟩
theorem post_any (b g:Nat) (st:Int) (se:Bool) (l:List Int) (s:Int) (f:Bool) (w:World) (h:At w b g st se l) (h0:0≤s) (h4:s≤4):Calls Tryz.prog 94 #[.pointer (some ⟨b,0,none⟩),.int .i64 s,.bool f] w fun e w'=>e=.returned (.bool true)∧Only (S b g) w w'∧At w' b g s (se != f) l:=by
 obtain ⟨-,-,-,c,c3⟩:=h.cs
 have fb:=h.fb
 have H1:=hid (h.count (wrap64 (c+1)))
 have O1:=hid (only_b (Only.refl (S b g) w) 3 (.int .i64 (wrap64 (c+1))))
 go_enter Tryz.func94,Tryz.ntmps94
 go_wp2_with fail
 generalize w.setCell ⟨b,3,none⟩ (.int .i64 (wrap64 (c+1)))=w1 at *
 refine (known_yes s w1 h0 h4).mono ?_
 rintro e w2 ⟨rfl,rfl⟩
 have H2:=hid (H1.out.post s)
 have O2:=hid (only_b O1.out 0 (.int .i64 s))
 obtain ⟨c0,-,-,-⟩:=H1.out.cs
 obtain ⟨-,c1,-,-⟩:=H2.out.cs
 have fb1:=H1.out.fb
 have fb2:=H2.out.fb
 go_wp2_with fail
 go_ret
 exact ⟨rfl,only_b O2.out 1 _,H2.out.flip _⟩
theorem answer_in (b g:Nat) (st:Int) (se:Bool) (l:List Int) (j:Nat) (z s:Int) (w:World) (h:At w b g st se l) (hj:l[j]?=some z) (hz:z≠-1) (h0:0≤s) (h4:s≤4):Calls Tryz.prog 173 #[.pointer (some ⟨b,0,none⟩),.int .i64 j,.int .i64 s] w fun e w'=>e=.returned (.bool true)∧Only (S b g) w w'∧At w' b g st se (l.set j s):=by
 obtain ⟨-,-,-,c,c3⟩:=h.cs
 have fb:=h.fb
 have hjl:j<l.length:=(List.getElem?_eq_some_iff.1 hj).1
 have i1:(j:Int)<(l.length:Int):=by omega
 have hzb:(z == -1)=false:=by simpa using hz
 have H1:=hid (h.count (wrap64 (c+1)))
 have O1:=hid (only_b (Only.refl (S b g) w) 3 (.int .i64 (wrap64 (c+1))))
 go_enter Tryz.func173,Tryz.ntmps173
 go_wp2_with fail
 generalize w.setCell ⟨b,3,none⟩ (.int .i64 (wrap64 (c+1)))=w1 at *
 refine (status_in b g st se l j z w1 H1.out hj).mono ?_
 rintro e w2 ⟨rfl,rfl⟩
 go_wp2_with fail
 refine (known_yes s w1 h0 h4).mono ?_
 rintro e w2 ⟨rfl,rfl⟩
 obtain ⟨-,-,c2,-⟩:=H1.out.cs
 have cz:=H1.out.one hj
 have fg:=H1.out.fg
 go_wp2_with fail
 go_ret
 exact ⟨rfl,only_g O1.out _ _,H1.out.put j s⟩
theorem poll_in (b g:Nat) (st:Int) (se:Bool) (l:List Int) (j:Nat) (z:Int) (w:World) (h:At w b g st se l) (hj:l[j]?=some z):Calls Tryz.prog 147 #[.pointer (some ⟨b,0,none⟩),.int .i64 j] w fun e w'=>e=.returned (.bool (z == -1 || z == st))∧Only (S b g) w w'∧At w' b g st se l:=by
 obtain ⟨-,-,-,c,c3⟩:=h.cs
 have fb:=h.fb
 have H1:=hid (h.count (wrap64 (c+1)))
 have O1:=hid (only_b (Only.refl (S b g) w) 3 (.int .i64 (wrap64 (c+1))))
 by_cases hz:z=-1
 ·subst hz
  go_enter Tryz.func147,Tryz.ntmps147
  go_wp2_with fail
  generalize w.setCell ⟨b,3,none⟩ (.int .i64 (wrap64 (c+1)))=w1 at *
  refine (status_in b g st se l j _ w1 H1.out hj).mono ?_
  rintro e w2 ⟨rfl,rfl⟩
  go_wp2_with fail
  go_ret
  exact ⟨rfl,O1.out,H1.out⟩
 ·have hzb:(z == -1)=false:=by simpa using hz
  go_enter Tryz.func147,Tryz.ntmps147
  go_wp2_with fail
  generalize w.setCell ⟨b,3,none⟩ (.int .i64 (wrap64 (c+1)))=w1 at *
  refine (status_in b g st se l j _ w1 H1.out hj).mono ?_
  rintro e w2 ⟨rfl,rfl⟩
  obtain ⟨c0,-,-,-⟩:=H1.out.cs
  go_wp2_with fail
  go_ret
  exact ⟨by rw [hzb];rfl,O1.out,H1.out⟩
theorem join_in (b g:Nat) (st:Int) (se:Bool) (l:List Int) (j:Nat) (w:World) (h:At w b g st se l) (hj:l[j]?=some (-1)):Calls Tryz.prog 66 #[.pointer (some ⟨b,0,none⟩),.int .i64 j] w fun e w'=>e=.returned (.tuple #[.int .i64 st,.bool se,.bool true])∧Only (S b g) w w'∧At w' b g st se (l.set j st):=by
 obtain ⟨-,-,-,c,c3⟩:=h.cs
 have fb:=h.fb
 have hjl:j<l.length:=(List.getElem?_eq_some_iff.1 hj).1
 have i0:decide ((j:Int)<0)=false:=by simp
 have i1:(j:Int)<(l.length:Int):=by omega
 have i2:decide ((j:Int) ≥ (l.length:Int))=false:=by simp;omega
 have i3:decide (l.length≤j)=false:=by simp;omega
 have H1:=hid (h.count (wrap64 (c+1)))
 have O1:=hid (only_b (Only.refl (S b g) w) 3 (.int .i64 (wrap64 (c+1))))
 go_enter Tryz.func66,Tryz.ntmps66
 go_upto_region 2 with fail
 generalize w.setCell ⟨b,3,none⟩ (.int .i64 (wrap64 (c+1)))=w1 at *
 obtain ⟨c0,c1,c2,-⟩:=H1.out.cs
 have cz:=H1.out.one hj
 have fg:=H1.out.fg
 go_wp2_with fail
 go_region
 have H2:=hid (H1.out.put j st)
 have O2:=hid (only_g O1.out j (.int .i64 st))
 generalize w1.setCell ⟨g,j,none⟩ (.int .i64 st)=w2 at *
 obtain ⟨d0,d1,-,-⟩:=H2.out.cs
 clear c0 c1 c2 cz fg c3 fb
 go_wp2_with fail
 go_quiet (fail)
 go_wp2_with fail
 go_ret3
 exact ⟨rfl,(O2.out.drewN 1).drewN _,H2.out.only (((Only.refl (fun _=>False) _).drewN 1).drewN _) (fun f=>f) (fun f=>f)⟩
theorem leave_in (b g:Nat) (st:Int) (se:Bool) (l:List Int) (j:Nat) (z:Int) (w:World) (h:At w b g st se l) (hj:l[j]?=some z) (hz:z≠-1):Calls Tryz.prog 176 #[.pointer (some ⟨b,0,none⟩),.int .i64 j] w fun e w'=>e=.returned (.bool true)∧Only (S b g) w w'∧At w' b g st se (l.set j (-1)):=by
 obtain ⟨-,-,-,c,c3⟩:=h.cs
 have fb:=h.fb
 have hjl:j<l.length:=(List.getElem?_eq_some_iff.1 hj).1
 have i1:(j:Int)<(l.length:Int):=by omega
 have hzb:(z == -1)=false:=by simpa using hz
 have H1:=hid (h.count (wrap64 (c+1)))
 have O1:=hid (only_b (Only.refl (S b g) w) 3 (.int .i64 (wrap64 (c+1))))
 go_enter Tryz.func176,Tryz.ntmps176
 go_wp2_with fail
 generalize w.setCell ⟨b,3,none⟩ (.int .i64 (wrap64 (c+1)))=w1 at *
 refine (status_in b g st se l j z w1 H1.out hj).mono ?_
 rintro e w2 ⟨rfl,rfl⟩
 obtain ⟨-,-,c2,-⟩:=H1.out.cs
 have cz:=H1.out.one hj
 have fg:=H1.out.fg
 go_wp2_with fail
 go_ret
 exact ⟨rfl,only_g O1.out _ _,H1.out.put j (-1)⟩
theorem int_info:(Tryz.prog.info? 3).map (fun i=>(i.zero,i.size,i.bytes))=some (some (.int .i64 0),1,8):=by kernel_rfl
theorem make_int (m:Nat) (hm:m≤1000000) (w:World):(Instr.makeSlice 25 (.int .i64 m) (.int .i64 m)).run Tryz.prog w=.ok (.slice (some ⟨w.heap.size,0,none⟩) m m) (w.alloc (.cells (ints (List.replicate m 0)).toArray 3)):=by
 obtain ⟨i0,hi0,hz0,hz1,hz2⟩:=info_parts int_info
 rw [run_make w 25 3 i0 _ Tryz.underlying25 hi0 hz0 .i64 .i64 m m (by omega) (by omega) (by rw [hz2];omega) (by omega)]
 have e:madeCells (Value.int .i64 0).cells ((m:Int).toNat * i0.size)=(ints (List.replicate m 0)).toArray:=by
  rw [hz1,Int.toNat_natCast,Nat.mul_one]
  apply Array.ext
  ·simp [ints,size_madeCells]
  ·intro i h1 h2
   simp [madeCells,ints,Value.cells,Nat.mod_one]
 rw [e]
 simp
theorem new_in (m:Nat) (w:World) (h1:1≤m) (hm:m≤16):Calls Tryz.prog 49 #[.int .i64 m] w fun e w'=>e=.returned (.tuple #[.pointer (some ⟨w.heap.size+1,0,none⟩),.int .i64 0])∧Pure w w'∧w'.heap.size=w.heap.size+2∧At w' (w.heap.size+1) w.heap.size 0 false (List.replicate m (-1)):=by
 have hmk:=fun w=>make_int m (by omega) w
 have h0:decide ((m:Int)<1)=false:=by simp;omega
 have h1:decide ((16:Int)<(m:Int))=false:=by simp;omega
 have hb:=heap_alloc_new w (.cells (ints (List.replicate m 0)).toArray 3)
 have hp:=(Only.refl (fun _=>False) w).alloc (.cells (ints (List.replicate m 0)).toArray 3)
 have hz:(w.alloc (.cells (ints (List.replicate m 0)).toArray 3)).heap.size=w.heap.size+1:=by simp
 have hb2:=heap_alloc_new (w.alloc (.cells (ints (List.replicate m 0)).toArray 3)) (.cells #[.int .i64 0,.bool false,.slice (some ⟨w.heap.size,0,none⟩) m m,.int .i64 0] 173)
 rw [hz] at hb2
 have hp2:=Pure.then hp ((Only.refl (fun _=>False) _).alloc (.cells #[.int .i64 0,.bool false,.slice (some ⟨w.heap.size,0,none⟩) m m,.int .i64 0] 173))
 have hb3:=Pure.blk ((Only.refl (fun _=>False) _).alloc (.cells #[.int .i64 0,.bool false,.slice (some ⟨w.heap.size,0,none⟩) m m,.int .i64 0] 173)) hb
 have hz2:((w.alloc (.cells (ints (List.replicate m 0)).toArray 3)).alloc (.cells #[.int .i64 0,.bool false,.slice (some ⟨w.heap.size,0,none⟩) m m,.int .i64 0] 173)).heap.size=w.heap.size+2:=by simp
 have HM:Hid (At ((w.alloc (.cells (ints (List.replicate m 0)).toArray 3)).alloc (.cells #[.int .i64 0,.bool false,.slice (some ⟨w.heap.size,0,none⟩) m m,.int .i64 0] 173)) (w.heap.size+1) w.heap.size 0 false (List.replicate m 0)):=hid ⟨⟨0,by simpa using hb2⟩,hb3,by simpa using hm⟩
 obtain ⟨-,-,c2,-⟩:=HM.out.cs
 rw [List.length_replicate] at c2
 have HP:=hid hp2
 have HZ:=hid hz2
 clear hb hp hz hb2 hb3 hp2 hz2
 go_enter Tryz.func49,Tryz.ntmps49
 go_wp2_with fail
 generalize (w.alloc (.cells (ints (List.replicate m 0)).toArray 3)).alloc (.cells #[.int .i64 0,.bool false,.slice (some ⟨w.heap.size,0,none⟩) m m,.int .i64 0] 173)=W at *
 clear c2
 go_loopw [21] (fun i wr=>∃ q:Nat,i=.int .i64 (q:Int)∧q≤m∧Pure w wr∧wr.heap.size=w.heap.size+2∧At wr (w.heap.size+1) w.heap.size 0 false (List.replicate q (-1)++List.replicate (m-q) 0)) (fun i _=>(m-(intOf i).toNat))
 case atStart=>exact ⟨0,rfl,by omega,HP.out,HZ.out,by simpa using HM.out⟩
 case round =>
  obtain ⟨q,rfl,hq,hp,hz,hm'⟩:=hrel
  have hl:(List.replicate q (-1:Int)++List.replicate (m-q) 0).length=m:=by simp;omega
  have P:=hid hp
  have Z:=hid hz
  have M:=hid hm'
  obtain ⟨-,-,c2,-⟩:=hm'.cs
  rw [hl] at c2
  clear hp hz hm'
  by_cases hlt:q<m
  ·have hx:(List.replicate q (-1:Int)++List.replicate (m-q) 0)[q]?=some 0:=by
    rw [List.getElem?_append_right (by simp),List.length_replicate,Nat.sub_self,List.getElem?_replicate,if_pos (by omega)]
   have cx:=M.out.one hx
   have fg:=M.out.fg
   have i2:(q:Int)<(m:Int):=by omega
   have hs:(List.replicate q (-1:Int)++List.replicate (m-q) 0).set q (-1)=List.replicate (q+1) (-1)++List.replicate (m-(q+1)) 0:=by
    rw [List.set_append_right _ _ (by simp),List.length_replicate,Nat.sub_self,show m-q=(m-(q+1))+1 from by omega,List.replicate_succ,List.set_cons_zero,List.replicate_succ']
    simp
   have HS:=hid hs
   clear hx hs hl
   go_wp2_with fail
   go_roundw
   case rel=>exact ⟨q+1,by go_num,by omega,Only.setCell P.out (p:=⟨w.heap.size,q,none⟩) (fun h=>absurd h (Nat.lt_irrefl _)) _,by have:=Z.out;simpa [World.setCell] using this,by have:=M.out.put q (-1);rwa [HS.out] at this⟩
   case measure=>simp [intOf];omega
  ·obtain rfl:q=m:=by omega
   go_wp2_with fail
   go_ret2
   exact ⟨rfl,P.out,Z.out,by simpa using M.out⟩
end Go.Proofs.YtpgdiceeimehiaaGreat.Ha
namespace Go.Proofs.YtpgdiceeimehiaaGreat
open Go.RowKit
structure Ext (C:Nat→Prop) (w:World) (κ:Nat→Nat) (w':World) (κ':Nat→Nat):Prop where
 only:Only (fun k=>C (κ k)) w w'
 same:∀ k,k<w.heap.size→κ' k=κ k
section
variable {C D:Nat→Prop} {w w1 w2:World} {κ κ1 κ2:Nat→Nat}
theorem Ext.refl (C:Nat→Prop) (w:World) (κ:Nat→Nat):Ext C w κ w κ:=⟨Only.refl _ _,fun _ _=>rfl⟩
theorem Ext.trans (h:Ext C w κ w1 κ1) (h':Ext C w1 κ1 w2 κ2):Ext C w κ w2 κ2 :=
 ⟨h.only.trans h'.only (fun i hi hc=>by have hc':C (κ1 i):=hc;rw [h.same i hi] at hc';exact hc'),fun k hk=>(h'.same k (Nat.lt_of_lt_of_le hk h.only.size)).trans (h.same k hk)⟩
theorem Ext.mono (h:Ext C w κ w1 κ1) (hd:∀ x,C x→D x):Ext D w κ w1 κ1:=⟨h.only.mono (fun _ _ hk=>hd _ hk),h.same⟩
theorem Ext.pure (hp:Pure w w1):Ext C w κ w1 κ:=⟨hp.mono (fun _ _ f=>f.elim),fun _ _=>rfl⟩
theorem Ext.of (ho:Only (fun k=>C (κ k)) w w1):Ext C w κ w1 κ:=⟨ho,fun _ _=>rfl⟩
end
def paint (n:Nat) (κ:Nat→Nat) (c:Nat) (k:Nat):Nat:=if k<n then κ k else c
theorem paint_old {n c k:Nat} {κ:Nat→Nat} (h:k<n):paint n κ c k=κ k:=if_pos h
theorem paint_new {n c k:Nat} {κ:Nat→Nat} (h:n≤k):paint n κ c k=c:=if_neg (by omega)
theorem Ext.paint {C:Nat→Prop} {w w1:World} {κ:Nat→Nat} (c:Nat) (ho:Only (fun k=>C (κ k)) w w1):Ext C w κ w1 (paint w.heap.size κ c):=⟨ho,fun _ hk=>paint_old hk⟩
namespace Sp
theorem At.retab {T:Nat→Prop} {w w':World} {c:Cn} {sh:List Sh} {q:Q} {s:St} {l':List Tab.One} (h:At w c sh q s) (ho:Only T w w') (hn:∀ k,F q s k→k≠q.tb→k≠q.tg→¬ T k) (hr:∀ k,R q sh k→¬ T k) (hg:∀ e∈s.en,∀ k,e.gv.ownBlock=some k→¬ T k) (ht:Tab.At w' q.tb q.tg l'):At w' c sh q { s with l:=l' }:=by
 obtain ⟨n,hm⟩:=h.me
 obtain ⟨rest,hsr⟩:=h.srow
 obtain ⟨n1,n2,-⟩:=h.ne_sp
 have m1:=h.tab.mid.me
 have m2:=h.tab.mid.row
 refine ⟨⟨n,ho.blk hm (hn _ (.inl rfl) n1 n2)⟩,ht,
  h.pool.only ho (hn _ (.inr (.inr (.inr (.inl rfl)))) (ne_types h.pool.mid.me m1 (by decide)) (ne_types h.pool.mid.me m2 (by decide))) (hn _ (.inr (.inr (.inr (.inr (.inl rfl))))) (ne_types h.pool.mid.row m1 (by decide)) (ne_types h.pool.mid.row m2 (by decide))),
  h.coil.only ho (hn _ (.inr (.inr (.inr (.inr (.inr (.inl rfl)))))) (ne_types h.coil.me m1 (by decide)) (ne_types h.coil.me m2 (by decide))),
  h.line.only ho (fun k hk=>hn k (.inr (.inr (.inr (.inr (.inr (.inr (.inl hk))))))) (fun e=>?_) (fun e=>?_)) hg,h.stk.only ho (fun k hk=>hn k (.inr (.inr (.inr (.inr (.inr (.inr (.inr hk))))))) (fun e=>?_) (fun e=>?_)),⟨rest,ho.own hsr (fun k hk=>hr k (.inr hk))⟩,h.conf.only ho (fun k hk=>hr k (.inl hk)),h.ok,h.ns,fun k hk=>⟨(h.ro k hk).1,Nat.lt_of_lt_of_le (h.ro k hk).2 ho.size⟩,h.gv⟩
 ·rcases hk with rfl | hk
  ·exact ne_types h.line.at_ m1 (by decide) e
  ·exact own_ne h.line.own m1 (by decide) (e ▸ hk)
 ·rcases hk with rfl | hk
  ·exact ne_types h.line.at_ m2 (by decide) e
  ·exact own_ne h.line.own m2 (by decide) (e ▸ hk)
 ·rcases hk with rfl | hk
  ·exact ne_types h.stk.at_ m1 (by decide) e
  ·exact own_ne h.stk.own m1 (by decide) (e ▸ hk)
 ·rcases hk with rfl | hk
  ·exact ne_types h.stk.at_ m2 (by decide) e
  ·exact own_ne h.stk.own m2 (by decide) (e ▸ hk)
end Sp
namespace Cor
structure Q where
 kb:Nat
 mb:Nat
 mg:Nat
 sb:Nat
 pb:Nat
 hb:Nat
 hg:Nat
 most:Nat
 cv:Value
 csh:List Sh
 ssh:List Sh
 q:Sp.Q
structure St where
 words:List (Nat × Nat)
 pv:Value
 lost:Bool
 xs:List Int
 s:Sp.St
 st:Int
 se:Bool
 stats:List Int
structure At (w:World) (c:Cn) (K:Q) (κ:Nat→Nat) (m:St):Prop where
 me:w.heap[K.kb]?=some (.cells #[.int .i64 c.frags,.int .i64 c.spine,.int .i64 c.globals,.int .i64 c.threads,.int .i64 c.locals,.int .i64 c.cache,.int .i64 c.stack,.int .i64 c.low,K.cv,.pointer (some ⟨K.mb,0,none⟩),.pointer (some ⟨K.sb,0,none⟩),.pointer (some ⟨K.q.sp,0,none⟩),.pointer (some ⟨K.hb,0,none⟩)] 123 (0,0))
 mem:Mm.At w K.mb K.mg m.words
 shade:Sd.At w K.sb K.q.tb K.q.tg K.pb m.pv m.s.l K.most m.lost m.xs
 space:Sp.At w c K.ssh K.q m.s
 hand:Ha.At w K.hb K.hg m.st m.se m.stats
 conf:ShsR w w.heap.size K.cv K.csh
 ok:checkI c K.csh=0
 like:alike K.csh K.ssh
 k0:∀ k,k=K.kb∨CfS K.cv K.csh k∨Sp.R K.q K.ssh k→κ k=0∧k<w.heap.size
 k1:κ K.mb=1∧κ K.mg=1
 k2:κ K.q.tb=2∧κ K.q.tg=2
 k3:∀ k,k=K.sb∨k=K.pb∨m.pv.ownBlock=some k→κ k=3
 k4:∀ k,(Sp.F K.q m.s k∧k≠K.q.tb∧k≠K.q.tg)∨(∃ e∈m.s.en,e.gv.ownBlock=some k)→κ k=4
 k5:κ K.hb=5∧κ K.hg=5
section
variable {w w':World} {c:Cn} {K:Q} {κ κ':Nat→Nat} {m:St}
theorem At.sp_col (h:At w c K κ m) (k:Nat) (hk:Sp.F K.q m.s k):κ k=2∨κ k=4:=by
 by_cases h1:k=K.q.tb
 ·exact .inl (h1 ▸ h.k2.1)
 ·by_cases h2:k=K.q.tg
  ·exact .inl (h2 ▸ h.k2.2)
  ·exact .inr (h.k4 k (.inl ⟨hk,h1,h2⟩))
theorem At.sd_col (h:At w c K κ m) (k:Nat) (hk:Sd.S K.sb K.q.tb K.q.tg K.pb m.pv k):κ k=2∨κ k=3:=by
 rcases hk with hk | hk | hk | hk | hk
 ·exact .inr (h.k3 k (.inl hk))
 ·exact .inl (hk ▸ h.k2.1)
 ·exact .inl (hk ▸ h.k2.2)
 ·exact .inr (h.k3 k (.inr (.inl hk)))
 ·exact .inr (h.k3 k (.inr (.inr hk)))
theorem At.en_lt (h:At w c K κ m) (k:Nat) (hk:∃ e∈m.s.en,e.gv.ownBlock=some k):k<w.heap.size:=by
 obtain ⟨e,he,hk⟩:=hk
 exact ((h.space.line.got e he).2 k hk).2
theorem At.recolour (h:At w c K κ m) (hs:∀ k,k<w.heap.size→κ' k=κ k):At w c K κ' m:=by
 refine ⟨h.me,h.mem,h.shade,h.space,h.hand,h.conf,h.ok,h.like,fun k hk=>⟨(hs k (h.k0 k hk).2).trans (h.k0 k hk).1,(h.k0 k hk).2⟩,⟨(hs _ h.mem.lb).trans h.k1.1,(hs _ h.mem.lg).trans h.k1.2⟩,⟨(hs _ h.shade.tab.mid.lb).trans h.k2.1,(hs _ h.shade.tab.mid.lg).trans h.k2.2⟩,fun k hk=>(hs k ?_).trans (h.k3 k hk),fun k hk=>(hs k ?_).trans (h.k4 k hk),⟨(hs _ h.hand.lb).trans h.k5.1,(hs _ h.hand.lg).trans h.k5.2⟩⟩
 ·rcases hk with hk | hk | hk
  ·exact h.shade.lt k (.inl hk)
  ·exact h.shade.lt k (.inr (.inr (.inr (.inl hk))))
  ·exact h.shade.lt k (.inr (.inr (.inr (.inr hk))))
 ·rcases hk with hk | hk
  ·exact h.space.lt k hk.1
  ·exact h.en_lt k hk
theorem At.only {T:Nat→Prop} (h:At w c K κ m) (ho:Only T w w') (hn:∀ k,T k→¬ κ k≤5):At w' c K κ m:=by
 have n0:∀ k,k=K.kb∨CfS K.cv K.csh k∨Sp.R K.q K.ssh k→¬ T k:=fun k hk ht=>hn k ht (by rw [(h.k0 k hk).1];omega)
 have nc:∀ k,κ k≤5→¬ T k:=fun k hk ht=>hn k ht hk
 refine ⟨ho.blk h.me (n0 _ (.inl rfl)),h.mem.only ho (nc _ (by rw [h.k1.1];omega)) (nc _ (by rw [h.k1.2];omega)),h.shade.only ho (fun k hk=>nc k (by have:=h.sd_col k hk;omega)),h.space.only ho (fun k hk=>nc k (by have:=h.sp_col k hk;omega)) (fun k hk=>n0 k (.inr (.inr hk))) (fun e he k hk=>nc k (by rw [h.k4 k (.inr ⟨e,he,hk⟩)];omega)),h.hand.only ho (nc _ (by rw [h.k5.1];omega)) (nc _ (by rw [h.k5.2];omega)),h.conf.only ho (fun k hk=>n0 k (.inr (.inl hk))),h.ok,h.like,fun k hk=>⟨(h.k0 k hk).1,Nat.lt_of_lt_of_le (h.k0 k hk).2 ho.size⟩,h.k1,h.k2,h.k3,h.k4,h.k5⟩
theorem At.pure (h:At w c K κ m) (ho:Pure w w'):At w' c K κ m:=h.only ho (fun _ f=>f.elim)
theorem At.memmed {words':List (Nat × Nat)} (h:At w c K κ m) (ho:Only (fun k=>k=K.mb∨k=K.mg) w w') (hm:Mm.At w' K.mb K.mg words'):At w' c K κ { m with words:=words' }:=by
 have hT:∀ k,(k=K.mb∨k=K.mg)→κ k=1:=fun k hk=>by rcases hk with rfl | rfl;exact h.k1.1;exact h.k1.2
 have nc:∀ k,κ k≠1→¬ (k=K.mb∨k=K.mg):=fun k hk ht=>hk (hT k ht)
 exact ⟨ho.blk h.me (nc _ (by rw [(h.k0 _ (.inl rfl)).1];omega)),hm,h.shade.only ho (fun k hk=>nc k (by have:=h.sd_col k hk;omega)),h.space.only ho (fun k hk=>nc k (by have:=h.sp_col k hk;omega)) (fun k hk=>nc k (by rw [(h.k0 k (.inr (.inr hk))).1];omega)) (fun e he k hk=>nc k (by rw [h.k4 k (.inr ⟨e,he,hk⟩)];omega)),h.hand.only ho (nc _ (by rw [h.k5.1];omega)) (nc _ (by rw [h.k5.2];omega)),h.conf.only ho (fun k hk=>nc k (by rw [(h.k0 k (.inr (.inl hk))).1];omega)),h.ok,h.like,fun k hk=>⟨(h.k0 k hk).1,Nat.lt_of_lt_of_le (h.k0 k hk).2 ho.size⟩,h.k1,h.k2,h.k3,h.k4,h.k5⟩
theorem At.handed {st':Int} {se':Bool} {stats':List Int} (h:At w c K κ m) (ho:Only (Ha.S K.hb K.hg) w w') (hm:Ha.At w' K.hb K.hg st' se' stats'):At w' c K κ { m with st:=st',se:=se',stats:=stats' }:=by
 have hT:∀ k,Ha.S K.hb K.hg k→κ k=5:=fun k hk=>by rcases hk with rfl | rfl;exact h.k5.1;exact h.k5.2
 have nc:∀ k,κ k≠5→¬ Ha.S K.hb K.hg k:=fun k hk ht=>hk (hT k ht)
 exact ⟨ho.blk h.me (nc _ (by rw [(h.k0 _ (.inl rfl)).1];omega)),h.mem.only ho (nc _ (by rw [h.k1.1];omega)) (nc _ (by rw [h.k1.2];omega)),h.shade.only ho (fun k hk=>nc k (by have:=h.sd_col k hk;omega)),h.space.only ho (fun k hk=>nc k (by have:=h.sp_col k hk;omega)) (fun k hk=>nc k (by rw [(h.k0 k (.inr (.inr hk))).1];omega)) (fun e he k hk=>nc k (by rw [h.k4 k (.inr ⟨e,he,hk⟩)];omega)),hm,h.conf.only ho (fun k hk=>nc k (by rw [(h.k0 k (.inr (.inl hk))).1];omega)),h.ok,h.like,fun k hk=>⟨(h.k0 k hk).1,Nat.lt_of_lt_of_le (h.k0 k hk).2 ho.size⟩,h.k1,h.k2,h.k3,h.k4,h.k5⟩
theorem At.shaded {l':List Tab.One} {pv':Value} {lost':Bool} {xs':List Int} (h:At w c K κ m) (ho:Only (Sd.S K.sb K.q.tb K.q.tg K.pb m.pv) w w') (hm:Sd.At w' K.sb K.q.tb K.q.tg K.pb pv' l' K.most lost' xs') (hf:∀ k,pv'.ownBlock=some k→m.pv.ownBlock=some k∨w.heap.size≤k) :
  Ext (fun x=>x=2∨x=3) w κ w' (paint w.heap.size κ 3)∧At w' c K (paint w.heap.size κ 3) { m with pv:=pv',lost:=lost',xs:=xs',s:={ m.s with l:=l' } }:=by
 have ho':Only (fun k=>κ k=2∨κ k=3) w w':=ho.mono (fun k _ hk=>h.sd_col k hk)
 have nc:∀ k,κ k≠2→κ k≠3→¬ (κ k=2∨κ k=3):=fun k h2 h3 ht=>by omega
 have hp:∀ k,k<w.heap.size→paint w.heap.size κ 3 k=κ k:=fun k hk=>paint_old hk
 have hr:=fun k hk=>nc k (by rw [(h.k0 k hk).1];omega) (by rw [(h.k0 k hk).1];omega)
 refine ⟨Ext.paint 3 ho',⟨ho'.blk h.me (hr _ (.inl rfl)),h.mem.only ho' (nc _ (by rw [h.k1.1];omega) (by rw [h.k1.1];omega)) (nc _ (by rw [h.k1.2];omega) (by rw [h.k1.2];omega)),hm,
  h.space.retab ho' (fun k hk h1 h2=>by have:=h.k4 k (.inl ⟨hk,h1,h2⟩);omega) (fun k hk=>hr k (.inr (.inr hk))) (fun e he k hk=>by have:=h.k4 k (.inr ⟨e,he,hk⟩);omega) hm.tab,
  h.hand.only ho' (nc _ (by rw [h.k5.1];omega) (by rw [h.k5.1];omega)) (nc _ (by rw [h.k5.2];omega) (by rw [h.k5.2];omega)),h.conf.only ho' (fun k hk=>hr k (.inr (.inl hk))),h.ok,h.like,
  fun k hk=>⟨(hp k (h.k0 k hk).2).trans (h.k0 k hk).1,Nat.lt_of_lt_of_le (h.k0 k hk).2 ho.size⟩,⟨(hp _ h.mem.lb).trans h.k1.1,(hp _ h.mem.lg).trans h.k1.2⟩,⟨(hp _ h.shade.tab.mid.lb).trans h.k2.1,(hp _ h.shade.tab.mid.lg).trans h.k2.2⟩,fun k hk=>?_,fun k hk=>?_,⟨(hp _ h.hand.lb).trans h.k5.1,(hp _ h.hand.lg).trans h.k5.2⟩⟩⟩
 ·by_cases hlt:k<w.heap.size
  ·rw [hp k hlt]
   refine h.k3 k ?_
   rcases hk with hk | hk | hk
   ·exact .inl hk
   ·exact .inr (.inl hk)
   ·rcases hf k hk with hk | hk
    ·exact .inr (.inr hk)
    ·omega
  ·exact paint_new (by omega)
 ·have hlt:k<w.heap.size:=by
   rcases hk with hk | hk
   ·exact h.space.lt k hk.1
   ·exact h.en_lt k hk
  exact (hp k hlt).trans (h.k4 k hk)
end
end Cor
open Go.RowKit
theorem is_yes (x y:Nat) (r:Int) (w:World) (hi:∀ w:World,Calls Tryz.prog 98 #[.complex .f64 x y] w fun e w'=>e=.returned (.tuple #[.int .i64 r,.bool true])∧w=w') :
  Calls Tryz.prog 191 #[.complex .f64 x y] w fun e w'=>e=.returned (.bool true)∧w=w':=by
 have HI:=hid hi
 clear hi
 go_enter Tryz.func191,Tryz.ntmps191
 go_wp2_with fail
 refine (HI.out w).mono ?_
 rintro e w1 ⟨rfl,rfl⟩
 go_wp2
 go_ret
 exact ⟨rfl,rfl⟩
theorem is_no (x y:Nat) (r:Int) (w:World) (hi:∀ w:World,Calls Tryz.prog 98 #[.complex .f64 x y] w fun e w'=>e=.returned (.tuple #[.int .i64 r,.bool false])∧w=w') :
  Calls Tryz.prog 191 #[.complex .f64 x y] w fun e w'=>e=.returned (.bool (sameB x y 0 4607182418800017408))∧w=w':=by
 have HI:=hid hi
 clear hi
 go_enter Tryz.func191,Tryz.ntmps191
 go_wp2_with fail
 refine (HI.out w).mono ?_
 rintro e w1 ⟨rfl,rfl⟩
 go_wp2_with fail
 refine (none_any w).mono ?_
 rintro e w1 ⟨rfl,rfl⟩
 go_wp2_with fail
 refine (same_any _ _ _ _ w).mono ?_
 rintro e w1 ⟨rfl,rfl⟩
 go_wp2
 go_ret
 exact ⟨rfl,rfl⟩
theorem head_in (k m:Int) (w:World) (h0:0≤k) (h1:k≤1099511627776) (h2:0≤m) (h3:m≤1099511627776):Calls Tryz.prog 260 #[.int .i64 k,.int .i64 m] w fun e w'=>e=.returned (.complex .f64 (floatOfInt .f64 k) (floatOfInt .f64 m))∧w=w':=by
 go_enter Tryz.func260,Tryz.ntmps260
 go_wp2
 go_ret
 exact ⟨rfl,rfl⟩
theorem tell_yes (k m:Int) (w:World) (h0:0≤k) (h1:k≤1099511627776) (h2:0≤m) (h3:m≤1099511627776):Calls Tryz.prog 134 #[.complex .f64 (floatOfInt .f64 k) (floatOfInt .f64 m)] w fun e w'=>e=.returned (.tuple #[.int .i64 k,.int .i64 m,.bool true])∧w=w':=by
 go_enter Tryz.func134,Tryz.ntmps134
 go_wp2_with fail
 refine (int_whole k w (by omega)).mono ?_
 rintro e w1 ⟨rfl,rfl⟩
 go_wp2_with fail
 refine (int_whole m w (by omega)).mono ?_
 rintro e w1 ⟨rfl,rfl⟩
 go_wp2
 go_ret3
 exact ⟨rfl,rfl⟩
abbrev oneB:Nat:=4607182418800017408
def noneW:Nat × Nat:=(0,oneB)
def refW (i:Nat):Nat × Nat:=(floatOfInt .f64 ((i:Int)+1),oneB)
def headW (k m:Nat):Nat × Nat:=(floatOfInt .f64 (k:Int),floatOfInt .f64 (m:Int))
def wholeW (n:Int):Nat × Nat:=(floatOfInt .f64 n,0)
theorem wholeW_0:wholeW 0=(0,0):=by decide +kernel
theorem ref_w (i:Nat) (w:World) (h:i≤1000000):Calls Tryz.prog 153 #[.int .i64 (i:Int)] w fun e w'=>e=.returned (.complex .f64 (refW i).1 (refW i).2)∧w=w':=ref_in (i:Int) w (by omega) (by omega)
theorem index_ref (i:Nat) (w:World) (h:i≤1000000):Calls Tryz.prog 98 #[.complex .f64 (refW i).1 (refW i).2] w fun e w'=>e=.returned (.tuple #[.int .i64 (i:Int),.bool true])∧w=w':=by
 have:=index_yes ((i:Int)+1) w (by omega) (by omega)
 rwa [Int.add_sub_cancel] at this
theorem int_zero (w:World):Calls Tryz.prog 151 #[.complex .f64 0 0] w fun e w'=>e=.returned (.tuple #[.int .i64 0,.bool true])∧w=w':=by
 have:=int_whole 0 w (by decide)
 rwa [show floatOfInt .f64 0=0 from by decide +kernel] at this
theorem index_none (w:World):Calls Tryz.prog 98 #[.complex .f64 noneW.1 noneW.2] w fun e w'=>e=.returned (.tuple #[.int .i64 0,.bool false])∧w=w':=index_no 0 oneB 0 true w int_zero (.inr (by omega))
theorem index_zero (w:World):Calls Tryz.prog 98 #[.complex .f64 0 0] w fun e w'=>e=.returned (.tuple #[.int .i64 0,.bool false])∧w=w':=index_no 0 0 0 true w int_zero (.inr (by omega))
theorem index_whole (n:Nat) (w:World) (h:n≤1000000):Calls Tryz.prog 98 #[.complex .f64 (wholeW n).1 (wholeW n).2] w fun e w'=>e=.returned (.tuple #[.int .i64 0,.bool false])∧w=w':=by
 rcases Nat.eq_zero_or_pos n with rfl | hp
 ·have:=index_zero w
  rwa [show wholeW ((0:Nat):Int)=(0,0) from wholeW_0]
 ·refine index_other (n:Int) 0 w (by omega) (by omega) ?_
  have h1:(partB 0 == partB oneB)=false:=by decide +kernel
  simp only [sameB,h1,Bool.and_false]
theorem is_ref (i:Nat) (w:World) (h:i≤1000000):Calls Tryz.prog 191 #[.complex .f64 (refW i).1 (refW i).2] w fun e w'=>e=.returned (.bool true)∧w=w':=is_yes _ _ _ w (fun w=>index_ref i w h)
theorem is_none (w:World):Calls Tryz.prog 191 #[.complex .f64 noneW.1 noneW.2] w fun e w'=>e=.returned (.bool true)∧w=w':=by
 have:=is_no noneW.1 noneW.2 0 w index_none
 rwa [show sameB noneW.1 noneW.2 0 4607182418800017408=true from by decide +kernel] at this
def RefW (z:Nat × Nat):Prop:=z=noneW∨∃ i,i≤1000000∧z=refW i
theorem is_okw (z:Nat × Nat) (w:World) (h:RefW z):Calls Tryz.prog 191 #[.complex .f64 z.1 z.2] w fun e w'=>e=.returned (.bool true)∧w=w':=by
 rcases h with rfl | ⟨i,hi,rfl⟩
 ·exact is_none w
 ·exact is_ref i w hi
theorem head_w (k m:Nat) (w:World) (h:k≤1000) (h2:m≤1000):Calls Tryz.prog 260 #[.int .i64 (k:Int),.int .i64 (m:Int)] w fun e w'=>e=.returned (.complex .f64 (headW k m).1 (headW k m).2)∧w=w':=head_in (k:Int) (m:Int) w (by omega) (by omega) (by omega) (by omega)
theorem tell_w (k m:Nat) (w:World) (h:k≤1000) (h2:m≤1000):Calls Tryz.prog 134 #[.complex .f64 (headW k m).1 (headW k m).2] w fun e w'=>e=.returned (.tuple #[.int .i64 (k:Int),.int .i64 (m:Int),.bool true])∧w=w':=tell_yes (k:Int) (m:Int) w (by omega) (by omega) (by omega) (by omega)
theorem same_none (i:Nat) (h:i≤1000000):sameB (refW i).1 (refW i).2 0 4607182418800017408=false:=by
 have:=same_ref ((i:Int)+1) 0 (by omega) (by omega)
 rw [show floatOfInt .f64 0=0 from by decide +kernel] at this
 simp only [refW]
 rw [this]
 simp
 omega
end Go.Proofs.YtpgdiceeimehiaaGreat
