/- Part 14 of the proof that spotop.TopOrder returns true for all arguments and leaves what was there as it was. -/
import Derived.Test.YtpgdiceeimehiaaGreatQ02
import Derived.Test.YtpgdiceeimehiaaGreatQ13
set_option maxRecDepth 100000
set_option maxHeartbeats 16000000
open Go.Lib (hid)
namespace Go.Proofs.YtpgdiceeimehiaaGreat
open Go.RowKit
namespace Tab
theorem one_info:(Tryz.prog.info? 207).map (fun i=>(i.zero,i.size,i.bytes))=some (some (.agg #[.int .i64 0,.bool false,.bool false]),3,16):=by kernel_rfl
theorem make_one (m:Nat) (hm:m≤1024) (w:World):(Instr.makeSlice 195 (.int .i64 m) (.int .i64 m)).run Tryz.prog w=.ok (.slice (some ⟨w.heap.size,0,none⟩) m m) (w.alloc (.cells (row (List.replicate m ⟨0,false,false⟩)).toArray 207)):=by
 obtain ⟨i0,hi0,hz0,hz1,hz2⟩:=info_parts one_info
 rw [run_make w 195 207 i0 _ Tryz.underlying195 hi0 hz0 .i64 .i64 m m (by omega) (by omega) (by rw [hz2];omega) (by omega)]
 have e:madeCells (Value.agg #[.int .i64 0,.bool false,.bool false]).cells ((m:Int).toNat * i0.size)=(row (List.replicate m ⟨0,false,false⟩)).toArray:=by
  have hc:(Value.agg #[.int .i64 0,.bool false,.bool false]).cells=#[.int .i64 0,.bool false,.bool false]:=by kernel_rfl
  rw [hz1,Int.toNat_natCast,hc]
  apply Array.ext
  ·rw [size_madeCells]
   simp only [List.size_toArray,row_length,List.length_replicate]
  ·intro i h1 h2
   rw [size_madeCells] at h1
   have hj:(List.replicate m (⟨0,false,false⟩:One))[i / 3]?=some ⟨0,false,false⟩:=by rw [List.getElem?_replicate,if_pos (by omega)]
   obtain ⟨g0,g1,g2⟩:=row_get _ _ _ hj
   have hr:(row (List.replicate m (⟨0,false,false⟩:One)))[i]?=some ((row (List.replicate m (⟨0,false,false⟩:One))).toArray[i]):=by simp
   rcases (by omega:i % 3=0∨i % 3=1∨i % 3=2) with h | h | h
   ·rw [show i / 3 * 3=i from by omega,hr] at g0
    have g0:=Option.some.inj g0
    refine Eq.trans ?_ g0.symm
    simp [madeCells,h]
   ·rw [show i / 3 * 3+1=i from by omega,hr] at g1
    have g1:=Option.some.inj g1
    refine Eq.trans ?_ g1.symm
    simp [madeCells,h]
   ·rw [show i / 3 * 3+2=i from by omega,hr] at g2
    have g2:=Option.some.inj g2
    refine Eq.trans ?_ g2.symm
    simp [madeCells,h]
 rw [e]
 simp
theorem cnt_rep (m k:Nat):cnt (List.replicate m ⟨0,false,false⟩) k=if k=0 then m else 0:=by
 simp [cnt,List.countP_replicate]
 by_cases h:k=0
 ·simp [h]
 ·simp [h,Ne.symm h]
theorem new_in (m:Nat) (w:World) (hm:m≤1024):Calls Tryz.prog 81 #[.int .i64 m] w fun e w'=>e=.returned (.tuple #[.pointer (some ⟨w.heap.size+1,0,none⟩),.int .i64 0])∧Pure w w'∧w'.heap.size=w.heap.size+2∧At w' (w.heap.size+1) w.heap.size (List.replicate m ⟨0,false,false⟩):=by
 have hmk:=fun w=>make_one m hm w
 have h0:decide ((m:Int)<0)=false:=by simp
 have h1:decide ((1024:Int)<(m:Int))=false:=by simp;omega
 have hb:=heap_alloc_new w (.cells (row (List.replicate m ⟨0,false,false⟩)).toArray 207)
 have hp:=(Only.refl (fun _=>False) w).alloc (.cells (row (List.replicate m ⟨0,false,false⟩)).toArray 207)
 have hz:(w.alloc (.cells (row (List.replicate m ⟨0,false,false⟩)).toArray 207)).heap.size=w.heap.size+1:=by simp
 have HB:=hid hb
 have HP:=hid hp
 have HZ:=hid hz
 clear hb hp hz
 go_enter Tryz.func81,Tryz.ntmps81
 go_wp2_with fail
 go_ret2
 refine ⟨rfl,HP.out.alloc _,by simp,⟨?_,?_,by simpa using hm,fun o ho=>by rw [List.mem_replicate] at ho;rw [ho.2];decide⟩⟩
 ·rw [← HZ.out,List.length_replicate,cnt_rep,cnt_rep,cnt_rep]
  exact heap_alloc_new _ _
 ·exact Pure.blk ((Only.refl (fun _=>False) _).alloc _) HB.out
end Tab
namespace Sd
theorem new_in (m k:Nat) (w:World) (hm:m≤1024) (h1:1≤k) (h2:k≤256):Calls Tryz.prog 46 #[.int .i64 m,.int .i64 k] w fun e w'=>e=.returned (.tuple #[.pointer (some ⟨w.heap.size+3,0,none⟩),.int .i64 0])∧Pure w w'∧w'.heap.size=w.heap.size+4∧At w' (w.heap.size+3) (w.heap.size+1) w.heap.size (w.heap.size+2) (.slice none 0 0) (List.replicate m ⟨0,false,false⟩) k false []:=by
 have HN:=hid (Tab.new_in m w hm)
 have HQ:=hid (fun w=>Co.Pi.new_in k w h1 h2)
 go_enter Tryz.func46,Tryz.ntmps46
 go_wp2_with fail
 refine HN.out.mono ?_
 rintro e w2 ⟨rfl,hp2,hz2,h2'⟩
 have HP2:=hid hp2
 have HZ2:=hid hz2
 have H2:=hid h2'
 clear hp2 hz2 h2'
 go_wp2_with fail
 refine (HQ.out w2).mono ?_
 rw [HZ2.out]
 rintro e w3 ⟨rfl,hp3,hz3,h3⟩
 have HP3:=hid hp3
 have HZ3:Hid (w3.heap.size=w.heap.size+3):=hid (by omega)
 have H3:=hid h3
 clear hp3 hz3 h3
 go_wp2_with fail
 rw [HZ3.out]
 go_ret2
 have hp:=(Only.refl (fun _=>False) w3).alloc (.cells #[.pointer (some ⟨w.heap.size+1,0,none⟩),.pointer (some ⟨w.heap.size+2,0,none⟩),.int .i64 0] 113)
 refine ⟨rfl,Pure.then (Pure.then HP2.out HP3.out) hp,by simp [HZ3.out],⟨⟨0,?_⟩,(H2.out.only (Pure.then HP3.out hp) (fun f=>f) (fun f=>f)),H3.out.only hp (fun _ _ f=>f)⟩⟩
 rw [← HZ3.out]
 exact heap_alloc_new _ _
end Sd
open Go.RowKit
theorem check_zero {c:Cn} {l:List Sh} (h:checkI c l=0):(tests c).all id=true∧¬ c.frags<c.threads * c.cache∧(withinB l.length 1 8 && mayAll l)=true:=by
 unfold checkI at h
 split at h
 ·simp at h
 ·split at h
  ·simp at h
  ·split at h
   ·simp at h
   ·simp_all
def z0 (c:Cn) (l:List Sh):Int:=if checkI c l=0 then c.frags * 8 else 0
def z1 (c:Cn) (l:List Sh):Int:=if checkI c l=0 then c.spine else 0
def z3 (c:Cn) (l:List Sh):Int:=if checkI c l=0 then c.globals else 0
theorem z_ok {c:Cn} {l:List Sh} (h:checkI c l=0):z0 c l=c.frags * 8∧z1 c l=c.spine∧z3 c l=c.globals:=⟨if_pos h,if_pos h,if_pos h⟩
theorem z_no {c:Cn} {l:List Sh} (h:checkI c l≠0):z0 c l=0∧z1 c l=0∧z3 c l=0:=⟨if_neg h,if_neg h,if_neg h⟩
theorem check_bd {c:Cn} {l:List Sh} (h:checkI c l=0):4≤c.frags∧c.frags≤1024∧0≤c.spine∧c.spine≤2048∧0≤c.globals∧c.globals≤8:=by
 obtain ⟨a,_,_⟩:=check_zero h
 simp only [tests,withinB,List.all_cons,List.all_nil,id,Bool.and_eq_true,decide_eq_true_eq,Bool.and_true,and_assoc] at a
 omega
theorem z_bd (c:Cn) (l:List Sh):0≤z0 c l∧z0 c l≤8192∧0≤z1 c l∧z1 c l≤2048∧0≤z3 c l∧z3 c l≤8:=by
 by_cases h:checkI c l=0
 ·obtain ⟨a,b,d⟩:=z_ok h
  have:=check_bd h
  omega
 ·obtain ⟨a,b,d⟩:=z_no h
  omega
theorem ret_ag {x y z u x' y' z' u':Int} (h1:x'=x) (h2:y'=y) (h3:z'=z) (h4:u'=u):Ending.returned (.agg #[.int .i64 x,.int .i64 y,.int .i64 z,.int .i64 u])=.returned (.agg #[.int .i64 x',.int .i64 y',.int .i64 z',.int .i64 u']):=by rw [h1,h2,h3,h4]
theorem ret_2 {x y x' y':Int} (h1:x'=x) (h2:y'=y):Ending.returned (.tuple #[.int .i64 x,.int .i64 y])=.returned (.tuple #[.int .i64 x',.int .i64 y']):=by rw [h1,h2]
theorem sizes_any (c:Cn) (v:Value) (l:List Sh) (w:World) (hl:ShsR w w.heap.size v l) :
  Calls Tryz.prog 80 #[cnV c v] w fun e w'=>e=.returned (.agg #[.int .i64 (z0 c l),.int .i64 (z1 c l),.int .i64 (z1 c l),.int .i64 (z3 c l)])∧Pure w w':=by
 have HL:=hid (fun (w':World) (hp:Pure w w')=>hl.pure hp)
 obtain ⟨A,cc,rfl⟩:∃ A cc,v=.slice A l.length cc:=by
  obtain ⟨⟨A,cc,rfl,_⟩,_⟩:=hl
  exact ⟨A,cc,rfl⟩
 clear hl
 have hr:=(Row.new w c (.slice A l.length cc)).keep ((Only.refl _ _).alloc (.cells #[.int .i64 0,.int .i64 0,.int .i64 0,.int .i64 0] 150))
 have hy:=heap_alloc_new (w.alloc (.cells #[.int .i64 c.frags,.int .i64 c.spine,.int .i64 c.globals,.int .i64 c.threads,.int .i64 c.locals,.int .i64 c.cache,.int .i64 c.stack,.int .i64 c.low,.slice A l.length cc] 24)) (.cells #[.int .i64 0,.int .i64 0,.int .i64 0,.int .i64 0] 150)
 rw [show (w.alloc (.cells #[.int .i64 c.frags,.int .i64 c.spine,.int .i64 c.globals,.int .i64 c.threads,.int .i64 c.locals,.int .i64 c.cache,.int .i64 c.stack,.int .i64 c.low,.slice A l.length cc] 24)).heap.size=w.heap.size+1 from by simp] at hy
 have HR:=hid hr
 have HY:=hid hy
 clear hr hy
 go_enter Tryz.func80,Tryz.ntmps80
 go_wp2_with fail
 generalize (w.alloc (.cells #[.int .i64 c.frags,.int .i64 c.spine,.int .i64 c.globals,.int .i64 c.threads,.int .i64 c.locals,.int .i64 c.cache,.int .i64 c.stack,.int .i64 c.low,.slice A l.length cc] 24)).alloc (.cells #[.int .i64 0,.int .i64 0,.int .i64 0,.int .i64 0] 150)=W at *
 refine (check_any c _ l _ (HL.out _ HR.out.2.2)).mono ?_
 by_cases hk:checkI c l=0
 ·have HZ:=hid (z_ok hk)
  have HB:=hid (check_bd hk)
  rw [hk]
  rintro e w1 ⟨rfl,hp1⟩
  have hy1:=(hp1.block _ (Array.getElem?_eq_some_iff.1 HY.out).1 (fun f=>f)).trans HY.out
  have R1:=hid (HR.out.keep hp1)
  obtain ⟨c0,c1,c2,c3,c4,c5,c6,c7,c8,_⟩:=R1.out.cells
  have f0:=frozen_of_row w1 _ 0 _ _ hy1
  have f1:=frozen_of_row w1 _ 1 _ _ hy1
  have f2:=frozen_of_row w1 _ 2 _ _ hy1
  have f3:=frozen_of_row w1 _ 3 _ _ hy1
  have y0:w1.cell? ⟨w.heap.size+1,0,none⟩=some (.int .i64 0):=by rw [cell_of_row _ _ _ _ _ _ hy1];rfl
  have y1:w1.cell? ⟨w.heap.size+1,1,none⟩=some (.int .i64 0):=by rw [cell_of_row _ _ _ _ _ _ hy1];rfl
  have y2:w1.cell? ⟨w.heap.size+1,2,none⟩=some (.int .i64 0):=by rw [cell_of_row _ _ _ _ _ _ hy1];rfl
  have y3:w1.cell? ⟨w.heap.size+1,3,none⟩=some (.int .i64 0):=by rw [cell_of_row _ _ _ _ _ _ hy1];rfl
  have b1:4≤c.frags:=HB.out.1
  have b2:c.frags≤1024:=HB.out.2.1
  clear hp1 hy1 hk
  go_wp2_with fail
  refine bodyPost_ret (v:=.agg #[.int .i64 (c.frags * 8),.int .i64 c.spine,.int .i64 c.spine,.int .i64 c.globals]) (by simp [results,Tryz.results80,go_sem,y0,y1,y2,y3]) rfl ⟨ret_ag HZ.out.1 HZ.out.2.1 HZ.out.2.1 HZ.out.2.2,?_⟩
  iterate 4 refine Only.setCell ?_ (fun h=>absurd h (by simp)) _
  exact R1.out.2.2
 ·have HZ:=hid (z_no hk)
  have hk':(checkI c l != 0)=true:=by simpa using hk
  rintro e w1 ⟨rfl,hp1⟩
  have hy1:=(hp1.block _ (Array.getElem?_eq_some_iff.1 HY.out).1 (fun f=>f)).trans HY.out
  have R1:=hid (HR.out.keep hp1)
  have f0:=frozen_of_row w1 _ 0 _ _ hy1
  have f1:=frozen_of_row w1 _ 1 _ _ hy1
  have f2:=frozen_of_row w1 _ 2 _ _ hy1
  have f3:=frozen_of_row w1 _ 3 _ _ hy1
  have y0:w1.cell? ⟨w.heap.size+1,0,none⟩=some (.int .i64 0):=by rw [cell_of_row _ _ _ _ _ _ hy1];rfl
  have y1:w1.cell? ⟨w.heap.size+1,1,none⟩=some (.int .i64 0):=by rw [cell_of_row _ _ _ _ _ _ hy1];rfl
  have y2:w1.cell? ⟨w.heap.size+1,2,none⟩=some (.int .i64 0):=by rw [cell_of_row _ _ _ _ _ _ hy1];rfl
  have y3:w1.cell? ⟨w.heap.size+1,3,none⟩=some (.int .i64 0):=by rw [cell_of_row _ _ _ _ _ _ hy1];rfl
  clear hp1 hy1 hk
  go_wp2_with fail
  refine bodyPost_ret (v:=.agg #[.int .i64 0,.int .i64 0,.int .i64 0,.int .i64 0]) (by simp [results,Tryz.results80,go_sem,y0,y1,y2,y3]) rfl ⟨ret_ag HZ.out.1 HZ.out.2.1 HZ.out.2.1 HZ.out.2.2,?_⟩
  iterate 4 refine Only.setCell ?_ (fun h=>absurd h (by simp)) _
  exact R1.out.2.2
def pre (a b d:Int):Nat→Int
 | 0=>0
 | 1=>a
 | 2=>a+b
 | 3=>a+b+b
 | _=>a+b+b+d
theorem words_any (c:Cn) (v:Value) (l:List Sh) (w:World) (hl:ShsR w w.heap.size v l) :
  Calls Tryz.prog 45 #[cnV c v] w fun e w'=>e=.returned (.int .i64 (z0 c l+z1 c l+z1 c l+z3 c l))∧Pure w w':=by
 have hs:=fun (w':World) (hp:Pure w w')=>sizes_any c v l w' (hl.pure hp)
 have hb:=z_bd c l
 clear hl
 generalize z0 c l=a at *
 generalize z1 c l=b at *
 generalize z3 c l=d at *
 obtain ⟨a0,a1,b0,b1,d0,d1⟩:=hb
 have SZ:=hid hs
 clear hs
 have i0:∀ w,(Instr.index 150 (.agg #[.int .i64 a,.int .i64 b,.int .i64 b,.int .i64 d]) (.int .i64 0)).run Tryz.prog w=.ok (.int .i64 a) w:=fun _=>by kernel_rfl
 have i1:∀ w,(Instr.index 150 (.agg #[.int .i64 a,.int .i64 b,.int .i64 b,.int .i64 d]) (.int .i64 1)).run Tryz.prog w=.ok (.int .i64 b) w:=fun _=>by kernel_rfl
 have i2:∀ w,(Instr.index 150 (.agg #[.int .i64 a,.int .i64 b,.int .i64 b,.int .i64 d]) (.int .i64 2)).run Tryz.prog w=.ok (.int .i64 b) w:=fun _=>by kernel_rfl
 have i3:∀ w,(Instr.index 150 (.agg #[.int .i64 a,.int .i64 b,.int .i64 b,.int .i64 d]) (.int .i64 3)).run Tryz.prog w=.ok (.int .i64 d) w:=fun _=>by kernel_rfl
 go_enter Tryz.func45,Tryz.ntmps45
 go_wp2_with fail
 have hr:=Row.new w c v
 generalize w.alloc _=W at hr ⊢
 have R:=hid hr
 clear hr
 refine (SZ.out _ R.out.2.2).mono ?_
 rintro e w1 ⟨rfl,hp1⟩
 have P1:=hid (R.out.2.2.then hp1)
 clear hp1
 go_wp2_with fail
 go_loopw [3,8] (fun n i wr=>∃ k:Nat,k≤4∧i=.int .i64 k∧n=.int .i64 (pre a b d k)∧wr=w1) (fun _ i _=>4-(intOf i).toNat)
 case atStart=>exact ⟨0,by omega,by first | rfl | simp,rfl,rfl⟩
 case round =>
  obtain ⟨k,hk,rfl,rfl,rfl⟩:=hrel
  rcases (by omega:k=0∨k=1∨k=2∨k=3∨k=4) with rfl | rfl | rfl | rfl | rfl
  ·simp only [pre]
   go_wp2_with fail
   go_roundw
   case rel=>exact ⟨1,by omega,by first | rfl | simp,by first | rfl | go_num,by first | trivial | rfl⟩
   case measure=>simp [intOf]
  ·simp only [pre]
   go_wp2_with fail
   go_roundw
   case rel=>exact ⟨2,by omega,by first | rfl | simp,by first | rfl | go_num,by first | trivial | rfl⟩
   case measure=>simp [intOf]
  ·simp only [pre]
   go_wp2_with fail
   go_roundw
   case rel=>exact ⟨3,by omega,by first | rfl | simp,by first | rfl | go_num,by first | trivial | rfl⟩
   case measure=>simp [intOf]
  ·simp only [pre]
   go_wp2_with fail
   go_roundw
   case rel=>exact ⟨4,by omega,by first | rfl | simp,by first | rfl | go_num,by first | trivial | rfl⟩
   case measure=>simp [intOf]
  ·simp only [pre]
   go_wp2_with fail
   go_ret
   exact ⟨rfl,P1.out⟩
theorem at1_in (c:Cn) (v:Value) (l:List Sh) (k:Int) (w:World) (hl:ShsR w w.heap.size v l) (h0:0≤k) (h1:k<z0 c l) :
  Calls Tryz.prog 88 #[cnV c v,.int .i64 1,.int .i64 k] w fun e w'=>e=.returned (.tuple #[.int .i64 (k+pre (z0 c l) (z1 c l) (z3 c l) 0),.int .i64 0])∧Pure w w':=by
 have hs:=fun (w':World) (hp:Pure w w')=>sizes_any c v l w' (hl.pure hp)
 have hb:=z_bd c l
 clear hl
 generalize z0 c l=a at *
 generalize z1 c l=b at *
 generalize z3 c l=d at *
 obtain ⟨a0,a1,b0,b1,d0,d1⟩:=hb
 have SZ:=hid hs
 clear hs
 go_enter Tryz.func88,Tryz.ntmps88
 go_wp2_with fail
 have hr:=Row.new w c v
 generalize w.alloc _=W at hr ⊢
 have R:=hid hr
 clear hr
 refine (SZ.out _ R.out.2.2).mono ?_
 rintro e w1 ⟨rfl,hp1⟩
 have P1:=hid (R.out.2.2.then (Pure.then hp1 ((Only.refl _ w1).alloc (.cells #[.int .i64 a,.int .i64 b,.int .i64 b,.int .i64 d] 150))))
 clear hp1
 go_wp2_with fail
 obtain ⟨y0,y1,y2,y3⟩:(w1.alloc (.cells #[.int .i64 a,.int .i64 b,.int .i64 b,.int .i64 d] 150)).cell? ⟨w1.heap.size,0,none⟩=some (.int .i64 a)∧(w1.alloc (.cells #[.int .i64 a,.int .i64 b,.int .i64 b,.int .i64 d] 150)).cell? ⟨w1.heap.size,1,none⟩=some (.int .i64 b) ∧
   (w1.alloc (.cells #[.int .i64 a,.int .i64 b,.int .i64 b,.int .i64 d] 150)).cell? ⟨w1.heap.size,2,none⟩=some (.int .i64 b)∧(w1.alloc (.cells #[.int .i64 a,.int .i64 b,.int .i64 b,.int .i64 d] 150)).cell? ⟨w1.heap.size,3,none⟩=some (.int .i64 d):=⟨by simp,by simp,by simp,by simp⟩
 generalize w1.alloc (.cells #[.int .i64 a,.int .i64 b,.int .i64 b,.int .i64 d] 150)=W1 at *
 generalize w1.heap.size=Y at *
 go_loopw [2,27] (fun n i wr=>∃ j:Nat,j≤0∧i=.int .i64 j∧n=.int .i64 (k+pre a b d j)∧wr=W1) (fun _ i _=>0-(intOf i).toNat)
 case atStart=>exact ⟨0,by omega,by first | rfl | simp,by simp [pre],rfl⟩
 case round =>
  obtain ⟨j,hj,rfl,rfl,rfl⟩:=hrel
  rcases (by omega:j=0) with rfl
  ·simp only [pre]
   go_wp2_with fail
   go_ret2
   exact ⟨rfl,P1.out⟩
theorem at2_in (c:Cn) (v:Value) (l:List Sh) (k:Int) (w:World) (hl:ShsR w w.heap.size v l) (h0:0≤k) (h1:k<z1 c l) :
  Calls Tryz.prog 88 #[cnV c v,.int .i64 2,.int .i64 k] w fun e w'=>e=.returned (.tuple #[.int .i64 (k+pre (z0 c l) (z1 c l) (z3 c l) 1),.int .i64 0])∧Pure w w':=by
 have hs:=fun (w':World) (hp:Pure w w')=>sizes_any c v l w' (hl.pure hp)
 have hb:=z_bd c l
 clear hl
 generalize z0 c l=a at *
 generalize z1 c l=b at *
 generalize z3 c l=d at *
 obtain ⟨a0,a1,b0,b1,d0,d1⟩:=hb
 have SZ:=hid hs
 clear hs
 go_enter Tryz.func88,Tryz.ntmps88
 go_wp2_with fail
 have hr:=Row.new w c v
 generalize w.alloc _=W at hr ⊢
 have R:=hid hr
 clear hr
 refine (SZ.out _ R.out.2.2).mono ?_
 rintro e w1 ⟨rfl,hp1⟩
 have P1:=hid (R.out.2.2.then (Pure.then hp1 ((Only.refl _ w1).alloc (.cells #[.int .i64 a,.int .i64 b,.int .i64 b,.int .i64 d] 150))))
 clear hp1
 go_wp2_with fail
 obtain ⟨y0,y1,y2,y3⟩:(w1.alloc (.cells #[.int .i64 a,.int .i64 b,.int .i64 b,.int .i64 d] 150)).cell? ⟨w1.heap.size,0,none⟩=some (.int .i64 a)∧(w1.alloc (.cells #[.int .i64 a,.int .i64 b,.int .i64 b,.int .i64 d] 150)).cell? ⟨w1.heap.size,1,none⟩=some (.int .i64 b) ∧
   (w1.alloc (.cells #[.int .i64 a,.int .i64 b,.int .i64 b,.int .i64 d] 150)).cell? ⟨w1.heap.size,2,none⟩=some (.int .i64 b)∧(w1.alloc (.cells #[.int .i64 a,.int .i64 b,.int .i64 b,.int .i64 d] 150)).cell? ⟨w1.heap.size,3,none⟩=some (.int .i64 d):=⟨by simp,by simp,by simp,by simp⟩
 generalize w1.alloc (.cells #[.int .i64 a,.int .i64 b,.int .i64 b,.int .i64 d] 150)=W1 at *
 generalize w1.heap.size=Y at *
 go_loopw [2,27] (fun n i wr=>∃ j:Nat,j≤1∧i=.int .i64 j∧n=.int .i64 (k+pre a b d j)∧wr=W1) (fun _ i _=>1-(intOf i).toNat)
 case atStart=>exact ⟨0,by omega,by first | rfl | simp,by simp [pre],rfl⟩
 case round =>
  obtain ⟨j,hj,rfl,rfl,rfl⟩:=hrel
  rcases (by omega:j=0∨j=1) with rfl | rfl
  ·simp only [pre]
   go_wp2_with fail
   go_roundw
   case rel=>exact ⟨1,by omega,by first | rfl | simp,by first | rfl | go_num,by first | trivial | rfl⟩
   case measure=>simp [intOf]
  ·simp only [pre]
   go_wp2_with fail
   go_ret2
   exact ⟨rfl,P1.out⟩
theorem at3_in (c:Cn) (v:Value) (l:List Sh) (k:Int) (w:World) (hl:ShsR w w.heap.size v l) (h0:0≤k) (h1:k<z1 c l) :
  Calls Tryz.prog 88 #[cnV c v,.int .i64 3,.int .i64 k] w fun e w'=>e=.returned (.tuple #[.int .i64 (k+pre (z0 c l) (z1 c l) (z3 c l) 2),.int .i64 0])∧Pure w w':=by
 have hs:=fun (w':World) (hp:Pure w w')=>sizes_any c v l w' (hl.pure hp)
 have hb:=z_bd c l
 clear hl
 generalize z0 c l=a at *
 generalize z1 c l=b at *
 generalize z3 c l=d at *
 obtain ⟨a0,a1,b0,b1,d0,d1⟩:=hb
 have SZ:=hid hs
 clear hs
 go_enter Tryz.func88,Tryz.ntmps88
 go_wp2_with fail
 have hr:=Row.new w c v
 generalize w.alloc _=W at hr ⊢
 have R:=hid hr
 clear hr
 refine (SZ.out _ R.out.2.2).mono ?_
 rintro e w1 ⟨rfl,hp1⟩
 have P1:=hid (R.out.2.2.then (Pure.then hp1 ((Only.refl _ w1).alloc (.cells #[.int .i64 a,.int .i64 b,.int .i64 b,.int .i64 d] 150))))
 clear hp1
 go_wp2_with fail
 obtain ⟨y0,y1,y2,y3⟩:(w1.alloc (.cells #[.int .i64 a,.int .i64 b,.int .i64 b,.int .i64 d] 150)).cell? ⟨w1.heap.size,0,none⟩=some (.int .i64 a)∧(w1.alloc (.cells #[.int .i64 a,.int .i64 b,.int .i64 b,.int .i64 d] 150)).cell? ⟨w1.heap.size,1,none⟩=some (.int .i64 b) ∧
   (w1.alloc (.cells #[.int .i64 a,.int .i64 b,.int .i64 b,.int .i64 d] 150)).cell? ⟨w1.heap.size,2,none⟩=some (.int .i64 b)∧(w1.alloc (.cells #[.int .i64 a,.int .i64 b,.int .i64 b,.int .i64 d] 150)).cell? ⟨w1.heap.size,3,none⟩=some (.int .i64 d):=⟨by simp,by simp,by simp,by simp⟩
 generalize w1.alloc (.cells #[.int .i64 a,.int .i64 b,.int .i64 b,.int .i64 d] 150)=W1 at *
 generalize w1.heap.size=Y at *
 go_loopw [2,27] (fun n i wr=>∃ j:Nat,j≤2∧i=.int .i64 j∧n=.int .i64 (k+pre a b d j)∧wr=W1) (fun _ i _=>2-(intOf i).toNat)
 case atStart=>exact ⟨0,by omega,by first | rfl | simp,by simp [pre],rfl⟩
 case round =>
  obtain ⟨j,hj,rfl,rfl,rfl⟩:=hrel
  rcases (by omega:j=0∨j=1∨j=2) with rfl | rfl | rfl
  ·simp only [pre]
   go_wp2_with fail
   go_roundw
   case rel=>exact ⟨1,by omega,by first | rfl | simp,by first | rfl | go_num,by first | trivial | rfl⟩
   case measure=>simp [intOf]
  ·simp only [pre]
   go_wp2_with fail
   go_roundw
   case rel=>exact ⟨2,by omega,by first | rfl | simp,by first | rfl | go_num,by first | trivial | rfl⟩
   case measure=>simp [intOf]
  ·simp only [pre]
   go_wp2_with fail
   go_ret2
   exact ⟨rfl,P1.out⟩
theorem at4_in (c:Cn) (v:Value) (l:List Sh) (k:Int) (w:World) (hl:ShsR w w.heap.size v l) (h0:0≤k) (h1:k<z3 c l) :
  Calls Tryz.prog 88 #[cnV c v,.int .i64 4,.int .i64 k] w fun e w'=>e=.returned (.tuple #[.int .i64 (k+pre (z0 c l) (z1 c l) (z3 c l) 3),.int .i64 0])∧Pure w w':=by
 have hs:=fun (w':World) (hp:Pure w w')=>sizes_any c v l w' (hl.pure hp)
 have hb:=z_bd c l
 clear hl
 generalize z0 c l=a at *
 generalize z1 c l=b at *
 generalize z3 c l=d at *
 obtain ⟨a0,a1,b0,b1,d0,d1⟩:=hb
 have SZ:=hid hs
 clear hs
 go_enter Tryz.func88,Tryz.ntmps88
 go_wp2_with fail
 have hr:=Row.new w c v
 generalize w.alloc _=W at hr ⊢
 have R:=hid hr
 clear hr
 refine (SZ.out _ R.out.2.2).mono ?_
 rintro e w1 ⟨rfl,hp1⟩
 have P1:=hid (R.out.2.2.then (Pure.then hp1 ((Only.refl _ w1).alloc (.cells #[.int .i64 a,.int .i64 b,.int .i64 b,.int .i64 d] 150))))
 clear hp1
 go_wp2_with fail
 obtain ⟨y0,y1,y2,y3⟩:(w1.alloc (.cells #[.int .i64 a,.int .i64 b,.int .i64 b,.int .i64 d] 150)).cell? ⟨w1.heap.size,0,none⟩=some (.int .i64 a)∧(w1.alloc (.cells #[.int .i64 a,.int .i64 b,.int .i64 b,.int .i64 d] 150)).cell? ⟨w1.heap.size,1,none⟩=some (.int .i64 b) ∧
   (w1.alloc (.cells #[.int .i64 a,.int .i64 b,.int .i64 b,.int .i64 d] 150)).cell? ⟨w1.heap.size,2,none⟩=some (.int .i64 b)∧(w1.alloc (.cells #[.int .i64 a,.int .i64 b,.int .i64 b,.int .i64 d] 150)).cell? ⟨w1.heap.size,3,none⟩=some (.int .i64 d):=⟨by simp,by simp,by simp,by simp⟩
 generalize w1.alloc (.cells #[.int .i64 a,.int .i64 b,.int .i64 b,.int .i64 d] 150)=W1 at *
 generalize w1.heap.size=Y at *
 go_loopw [2,27] (fun n i wr=>∃ j:Nat,j≤3∧i=.int .i64 j∧n=.int .i64 (k+pre a b d j)∧wr=W1) (fun _ i _=>3-(intOf i).toNat)
 case atStart=>exact ⟨0,by omega,by first | rfl | simp,by simp [pre],rfl⟩
 case round =>
  obtain ⟨j,hj,rfl,rfl,rfl⟩:=hrel
  rcases (by omega:j=0∨j=1∨j=2∨j=3) with rfl | rfl | rfl | rfl
  ·simp only [pre]
   go_wp2_with fail
   go_roundw
   case rel=>exact ⟨1,by omega,by first | rfl | simp,by first | rfl | go_num,by first | trivial | rfl⟩
   case measure=>simp [intOf]
  ·simp only [pre]
   go_wp2_with fail
   go_roundw
   case rel=>exact ⟨2,by omega,by first | rfl | simp,by first | rfl | go_num,by first | trivial | rfl⟩
   case measure=>simp [intOf]
  ·simp only [pre]
   go_wp2_with fail
   go_roundw
   case rel=>exact ⟨3,by omega,by first | rfl | simp,by first | rfl | go_num,by first | trivial | rfl⟩
   case measure=>simp [intOf]
  ·simp only [pre]
   go_wp2_with fail
   go_ret2
   exact ⟨rfl,P1.out⟩
theorem global_in (c:Cn) (v:Value) (l:List Sh) (k:Int) (w:World) (hl:ShsR w w.heap.size v l) (hk:checkI c l=0) (h0:0≤k) (h1:k<c.globals) :
  Calls Tryz.prog 50 #[cnV c v,.int .i64 k] w fun e w'=>e=.returned (.tuple #[.int .i64 (8 * c.frags+2 * c.spine+k),.int .i64 0])∧Pure w w':=by
 have HL:=hid (fun (w':World) (hp:Pure w w')=>hl.pure hp)
 have hz:=z_ok hk
 have h1':k<z3 c l:=by omega
 have HZ:=hid hz
 clear hl hk hz h1
 go_enter Tryz.func50,Tryz.ntmps50
 go_wp2_with fail
 have hr:=Row.new w c v
 generalize w.alloc _=W at hr ⊢
 have R:=hid hr
 clear hr
 refine (at4_in c _ l k _ (HL.out _ R.out.2.2) h0 h1').mono ?_
 rintro e w1 ⟨rfl,hp1⟩
 have P1:=hid (R.out.2.2.then hp1)
 clear hp1
 go_wp2_with fail
 go_ret2
 exact ⟨ret_2 (by have:=HZ.out;simp only [pre];omega) rfl,P1.out⟩
theorem frag_in (c:Cn) (v:Value) (l:List Sh) (i k:Int) (w:World) (hl:ShsR w w.heap.size v l) (hk:checkI c l=0) (i0:0≤i) (i1:i<c.frags) (k0:0≤k) (k1:k<8) :
  Calls Tryz.prog 203 #[cnV c v,.int .i64 i,.int .i64 k] w fun e w'=>e=.returned (.tuple #[.int .i64 (8 * i+k),.int .i64 0])∧Pure w w':=by
 have HL:=hid (fun (w':World) (hp:Pure w w')=>hl.pure hp)
 obtain ⟨A,cc,rfl⟩:∃ A cc,v=.slice A l.length cc:=by
  obtain ⟨⟨A,cc,rfl,_⟩,_⟩:=hl
  exact ⟨A,cc,rfl⟩
 have hz:=z_ok hk
 have hb:=check_bd hk
 have h1':i * 8+k<z0 c l:=by omega
 have h0':0≤i * 8+k:=by omega
 have i2:i≤1024:=by omega
 have HK:=hid hk
 have H0:=hid h0'
 have H1:=hid h1'
 clear hl hk hz hb h0' h1'
 go_enter Tryz.func203,Tryz.ntmps203
 go_wp2_with fail
 have hr:=Row.new w c (.slice A l.length cc)
 generalize w.alloc _=W at hr ⊢
 have R:=hid hr
 clear hr
 refine (check_any c _ l _ (HL.out _ R.out.2.2)).mono ?_
 rw [HK.out]
 rintro e w1 ⟨rfl,hp1⟩
 have R1:=hid (R.out.keep hp1)
 clear hp1
 obtain ⟨c0,c1,c2,c3,c4,c5,c6,c7,c8,_⟩:=R1.out.cells
 go_wp2_with fail
 refine (at1_in c _ l (i * 8+k) _ (HL.out _ R1.out.2.2) H0.out H1.out).mono ?_
 rintro e w2 ⟨rfl,hp2⟩
 have P2:=hid (R1.out.2.2.then hp2)
 clear hp2
 go_wp2_with fail
 go_ret2
 exact ⟨ret_2 (by simp only [pre];omega) rfl,P2.out⟩
def ofI (a b d x:Int):Int × Int × Int :=
 if x<0 then (0,0,0) else if x<a then (1,x / 8,x % 8) else if x<a+b then (2,0,x-a) else if x<a+b+b then (3,0,x-a-b) else if x<a+b+b+d then (4,0,x-a-b-b) else (0,0,0)
end Go.Proofs.YtpgdiceeimehiaaGreat
