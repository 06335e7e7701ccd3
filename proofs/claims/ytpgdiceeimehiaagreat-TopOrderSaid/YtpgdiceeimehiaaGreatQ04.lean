/- Part 4 of the proof that spotop.TopOrder returns true for all arguments and leaves what was there as it was. -/
import Derived.ArgAppend
import Derived.Deep.MidRow
import Derived.Test.YtpgdiceeimehiaaGreatQ02
import Derived.Test.YtpgdiceeimehiaaGreatQ03
set_option maxRecDepth 100000
set_option maxHeartbeats 16000000
open Go.Lib (hid)
namespace Go.Proofs.YtpgdiceeimehiaaGreat.Tab
open Go.RowKit
structure One where
 st:Nat
 head:Bool
 sense:Bool
def row (l:List One):List Value:=l.flatMap fun o=>[.int .i64 o.st,.bool o.head,.bool o.sense]
theorem row_length (l:List One):(row l).length=l.length * 3:=by
 induction l with
 | nil=>rfl
 | cons o l ih=>simp only [row,List.flatMap_cons,List.length_append,List.length_cons,List.length_nil] at ih ⊢;omega
theorem row_get (l:List One) (j:Nat) (o:One) (h:l[j]?=some o):(row l)[j * 3]?=some (.int .i64 o.st)∧(row l)[j * 3+1]?=some (.bool o.head)∧(row l)[j * 3+2]?=some (.bool o.sense):=by
 induction l generalizing j with
 | nil=>simp at h
 | cons a l ih =>
  cases j with
  | zero =>
   injection h with h
   subst h
   exact ⟨rfl,rfl,rfl⟩
  | succ j =>
   have:=ih j (by simpa using h)
   rw [show (j+1) * 3=j * 3+3 from by omega]
   simpa [row] using this
theorem row_set (l:List One) (j:Nat) (o:One) (hj:j<l.length):row (l.set j o)=(((row l).set (j * 3) (.int .i64 o.st)).set (j * 3+1) (.bool o.head)).set (j * 3+2) (.bool o.sense):=by
 induction l generalizing j with
 | nil=>simp at hj
 | cons a l ih =>
  cases j with
  | zero=>rfl
  | succ j =>
   have:=ih j (by simpa using hj)
   rw [show (j+1) * 3=j * 3+3 from by omega]
   simpa [row] using this
theorem row_set1 (l:List One) (j:Nat) (o:One) (hj:l[j]?=some o) (b:Bool):row (l.set j { o with head:=b })=(row l).set (j * 3+1) (.bool b):=by
 induction l generalizing j with
 | nil=>simp at hj
 | cons a l ih =>
  cases j with
  | zero=>injection hj with hj;subst hj;rfl
  | succ j =>
   have:=ih j (by simpa using hj)
   rw [show (j+1) * 3=j * 3+3 from by omega]
   simpa [row] using this
theorem row_set2 (l:List One) (j:Nat) (o:One) (hj:l[j]?=some o) (b:Bool):row (l.set j { o with sense:=b })=(row l).set (j * 3+2) (.bool b):=by
 induction l generalizing j with
 | nil=>simp at hj
 | cons a l ih =>
  cases j with
  | zero=>injection hj with hj;subst hj;rfl
  | succ j =>
   have:=ih j (by simpa using hj)
   rw [show (j+1) * 3=j * 3+3 from by omega]
   simpa [row] using this
def cnt (l:List One) (k:Nat):Nat:=l.countP fun o=>o.st == k
theorem cnt_le (l:List One) (k:Nat):cnt l k≤l.length:=List.countP_le_length
theorem cnt_set (l:List One) (j:Nat) (o o':One) (hj:l[j]?=some o) (k:Nat):cnt (l.set j o') k+(if o.st=k then 1 else 0)=cnt l k+(if o'.st=k then 1 else 0):=by
 induction l generalizing j with
 | nil=>simp at hj
 | cons a l ih =>
  cases j with
  | zero =>
   injection hj with hj
   subst hj
   simp only [cnt,List.set_cons_zero,List.countP_cons,beq_iff_eq]
   omega
  | succ j =>
   have:=ih j (by simpa using hj)
   simp only [cnt,List.set_cons_succ,List.countP_cons,beq_iff_eq] at this ⊢
   omega
structure Mid (w:World) (b g:Nat) (l:List One) (f:Nat→Int):Prop where
 me:w.heap[b]?=some (.cells #[.slice (some ⟨g,0,none⟩) l.length l.length,.int .i64 (f 0),.int .i64 (f 1),.int .i64 (f 2)] 198 (0,0))
 row:w.heap[g]?=some (.cells (row l).toArray 207 (0,0))
 few:l.length≤1024
 st:∀ o∈l,o.st<3
def At (w:World) (b g:Nat) (l:List One):Prop:=Mid w b g l fun k=>(cnt l k:Int)
section
variable {w w':World} {b g:Nat} {l:List One} {f:Nat→Int}
theorem Mid.c0 (h:Mid w b g l f):w.cell? ⟨b,0,none⟩=some (.slice (some ⟨g,0,none⟩) l.length l.length):=by rw [cell_of_row w b 0 _ _ _ h.me];rfl
theorem Mid.cn (h:Mid w b g l f) (k:Nat) (hk:k<3):w.cell? ⟨b,1+k,none⟩=some (.int .i64 (f k)):=by
 rw [cell_of_row w b _ _ _ _ h.me]
 rcases (by omega:k=0∨k=1∨k=2) with rfl | rfl | rfl <;> rfl
theorem Mid.fb (h:Mid w b g l f) (k:Nat):w.frozen? ⟨b,k,none⟩=false:=frozen_of_row w b k _ _ h.me
theorem Mid.fg (h:Mid w b g l f) (k:Nat):w.frozen? ⟨g,k,none⟩=false:=frozen_of_row w g k _ _ h.row
theorem Mid.ne (h:Mid w b g l f):b≠g:=by
 rintro rfl
 have:=h.me.symm.trans h.row
 simp at this
theorem Mid.lb (h:Mid w b g l f):b<w.heap.size:=(Array.getElem?_eq_some_iff.1 h.me).1
theorem Mid.lg (h:Mid w b g l f):g<w.heap.size:=(Array.getElem?_eq_some_iff.1 h.row).1
theorem Mid.only {S:Nat→Prop} (h:Mid w b g l f) (ho:Only S w w') (hb:¬ S b) (hg:¬ S g):Mid w' b g l f:=⟨(ho.block b h.lb hb).trans h.me,(ho.block g h.lg hg).trans h.row,h.few,h.st⟩
theorem Mid.one (h:Mid w b g l f) {j:Nat} {o:One} (hj:l[j]?=some o):w.cell? ⟨g,j * 3,none⟩=some (.int .i64 o.st)∧w.cell? ⟨g,j * 3+1,none⟩=some (.bool o.head)∧w.cell? ⟨g,j * 3+2,none⟩=some (.bool o.sense):=by
 obtain ⟨h1,h2,h3⟩:=row_get l j o hj
 refine ⟨?_,?_,?_⟩ <;> (rw [cell_of_row w g _ _ _ _ h.row];simpa)
theorem Mid.put (h:Mid w b g l f) (k:Nat) (v:Int) (hk:k<3):Mid (w.setCell ⟨b,1+k,none⟩ (.int .i64 v)) b g l (fun i=>if i=k then v else f i):=by
 refine ⟨?_,?_,h.few,h.st⟩
 ·simp only [World.setCell,Array.getElem?_modify,h.me]
  rcases (by omega:k=0∨k=1∨k=2) with rfl | rfl | rfl <;> simp
 ·simp only [World.setCell,Array.getElem?_modify,h.row,if_neg h.ne]
theorem Mid.drew (h:Mid w b g l f):Mid w.drew b g l f:=⟨h.me,h.row,h.few,h.st⟩
theorem Mid.one_set (h:Mid w b g l f) {j:Nat} (hj:j<l.length) (o:One) (ho:o.st<3):Mid (((w.setCell ⟨g,j * 3,none⟩ (.int .i64 o.st)).setCell ⟨g,j * 3+1,none⟩ (.bool o.head)).setCell ⟨g,j * 3+2,none⟩ (.bool o.sense)) b g (l.set j o) f:=by
 refine ⟨?_,?_,by simpa using h.few,fun x hx=>?_⟩
 ·simp only [World.setCell,Array.getElem?_modify,h.me,if_neg (Ne.symm h.ne),List.length_set]
 ·simp only [World.setCell,Array.getElem?_modify,h.row,if_true,row_set l j o hj]
  simp
 ·rcases List.mem_or_eq_of_mem_set hx with hx | rfl
  ·exact h.st x hx
  ·exact ho
theorem Mid.put1 (h:Mid w b g l f) {j:Nat} {o:One} (hj:l[j]?=some o) (v:Bool):Mid (w.setCell ⟨g,j * 3+1,none⟩ (.bool v)) b g (l.set j { o with head:=v }) f:=by
 refine ⟨?_,?_,by simpa using h.few,fun x hx=>?_⟩
 ·simp only [World.setCell,Array.getElem?_modify,h.me,if_neg (Ne.symm h.ne),List.length_set]
 ·simp only [World.setCell,Array.getElem?_modify,h.row,if_true,row_set1 l j o hj]
  simp
 ·rcases List.mem_or_eq_of_mem_set hx with hx | rfl
  ·exact h.st x hx
  ·exact h.st o (List.mem_of_getElem? hj)
theorem Mid.put2 (h:Mid w b g l f) {j:Nat} {o:One} (hj:l[j]?=some o) (v:Bool):Mid (w.setCell ⟨g,j * 3+2,none⟩ (.bool v)) b g (l.set j { o with sense:=v }) f:=by
 refine ⟨?_,?_,by simpa using h.few,fun x hx=>?_⟩
 ·simp only [World.setCell,Array.getElem?_modify,h.me,if_neg (Ne.symm h.ne),List.length_set]
 ·simp only [World.setCell,Array.getElem?_modify,h.row,if_true,row_set2 l j o hj]
  simp
 ·rcases List.mem_or_eq_of_mem_set hx with hx | rfl
  ·exact h.st x hx
  ·exact h.st o (List.mem_of_getElem? hj)
theorem At.mid (h:At w b g l):Mid w b g l fun k=>(cnt l k:Int):=h
theorem Mid.at_ (h:Mid w b g l f) (hf:∀ k,k<3→f k=(cnt l k:Int)):At w b g l:=⟨by rw [← hf 0 (by omega),← hf 1 (by omega),← hf 2 (by omega)];exact h.me,h.row,h.few,h.st⟩
end
theorem has_any (b g:Nat) (l:List One) (i:Int) (w:World) (h:At w b g l):Calls Tryz.prog 141 #[.pointer (some ⟨b,0,none⟩),.int .i64 i] w fun e w'=>e=.returned (.bool (decide (0≤i) && decide (i<l.length)))∧w=w':=by
 have c0:=h.mid.c0
 by_cases h0:0≤i
 ·have d:decide (i ≥ 0)=true:=by simpa using h0
  go_enter Tryz.func141,Tryz.ntmps141
  go_wp2_with fail
  go_ret
  exact ⟨ret_b (by simp [h0]),rfl⟩
 ·go_enter Tryz.func141,Tryz.ntmps141
  go_wp2_with fail
  go_ret
  exact ⟨ret_b (by simp;omega),rfl⟩
theorem has_in (b g:Nat) (l:List One) (j:Nat) (w:World) (h:At w b g l) (hj:j<l.length):Calls Tryz.prog 141 #[.pointer (some ⟨b,0,none⟩),.int .i64 j] w fun e w'=>e=.returned (.bool true)∧w=w':=by
 have:=has_any b g l j w h
 rwa [show (decide ((0:Int)≤(j:Int)) && decide ((j:Int)<l.length))=true from by simp;omega] at this
theorem state_in (b g:Nat) (l:List One) (j:Nat) (o:One) (w:World) (h:At w b g l) (hj:l[j]?=some o):Calls Tryz.prog 77 #[.pointer (some ⟨b,0,none⟩),.int .i64 j] w fun e w'=>e=.returned (.int .i64 o.st)∧w=w':=by
 have c0:=h.mid.c0
 obtain ⟨c1,-,-⟩:=h.mid.one hj
 have hjl:j<l.length:=(List.getElem?_eq_some_iff.1 hj).1
 go_enter Tryz.func77,Tryz.ntmps77
 go_wp2_with fail
 refine (has_in b g l j w h hjl).mono ?_
 rintro e w1 ⟨rfl,rfl⟩
 go_wp2_with fail
 go_ret
 exact ⟨rfl,rfl⟩
theorem set_in (b g:Nat) (l:List One) (j:Nat) (o:One) (w:World) (h:At w b g l) (hj:l[j]?=some o) (st:Nat) (hst:st<3) (head sense:Bool):Calls Tryz.prog 226 #[.pointer (some ⟨b,0,none⟩),.int .i64 j,.int .i64 st,.bool head,.bool sense] w fun e w'=>e=.returned (.bool true)∧Only (fun k=>k=b∨k=g) w w'∧At w' b g (l.set j ⟨st,head && decide (st=2),sense⟩):=by
 have c0:=h.mid.c0
 obtain ⟨c1,c2,c3⟩:=h.mid.one hj
 have hjl:j<l.length:=(List.getElem?_eq_some_iff.1 hj).1
 go_enter Tryz.func226,Tryz.ntmps226
 go_wp2_with fail
 refine (has_in b g l j w h hjl).mono ?_
 rintro e w1 ⟨rfl,rfl⟩
 have hs1:decide ((st:Int)<0)=false:=by simp
 have hs2:decide ((2:Int)<(st:Int))=false:=by simp;omega
 have hos:=h.mid.st o (List.mem_of_getElem? hj)
 have i1:(0:Int)≤(j:Int):=by omega
 have i2:(j:Int)<(l.length:Int):=by omega
 have i3:(0:Int)≤(o.st:Int):=by omega
 have i4:(o.st:Int)<3:=by omega
 have cn:=h.mid.cn o.st hos
 have hfb:=h.mid.fb
 have hpos:1≤cnt l o.st:=List.one_le_countP_iff.2 ⟨o,List.mem_of_getElem? hj,by simp⟩
 have hle:=cnt_le l o.st
 have hfew:=h.mid.few
 have hw:IntKind.i64.wrap ((cnt l o.st:Int)-1)=(cnt l o.st:Int)-1:=by rw [IntKind.wrap_i64];omega
 go_wp2_with fail
 go_region
 have M1:=(h.mid.put o.st ((cnt l o.st:Int)-1) hos).drew
 have O1:Only (fun k=>k=b∨k=g) w (w.setCell ⟨b,1+o.st,none⟩ (.int .i64 ((cnt l o.st:Int)-1))).drew:=((Only.refl _ w).setCell (p:=⟨b,1+o.st,none⟩) (fun _=>.inl rfl) _).drewN 1
 have HM:=hid M1
 have HO:=hid O1
 generalize (w.setCell ⟨b,1+o.st,none⟩ (.int .i64 ((cnt l o.st:Int)-1))).drew=w1 at *
 have cn':=HM.out.cn st hst
 obtain ⟨v,hv⟩:∃ v:Int,(if st=o.st then (cnt l o.st:Int)-1 else (cnt l st:Int))=v:=⟨_,rfl⟩
 rw [hv] at cn'
 have hvb:0≤v∧v≤1024:=by have:=cnt_le l st;rw [← hv];split <;> omega
 have hw2:IntKind.i64.wrap (v+1)=v+1:=by rw [IntKind.wrap_i64];omega
 have hfb':=HM.out.fb
 have hV:=hid hv
 have i5:(0:Int)≤(st:Int):=by omega
 have i6:(st:Int)<3:=by omega
 clear M1 O1 c0 c1 c2 c3 cn hfb hv
 go_wp2_with fail
 go_region
 have HM2:=hid (HM.out.put st (v+1) hst).drew
 have HO2:Hid (Only (fun k=>k=b∨k=g) w (w1.setCell ⟨b,1+st,none⟩ (.int .i64 (v+1))).drew):=hid ((HO.out.setCell (p:=⟨b,1+st,none⟩) (fun _=>.inl rfl) _).drewN 1)
 generalize (w1.setCell ⟨b,1+st,none⟩ (.int .i64 (v+1))).drew=w2 at *
 have c0:=HM2.out.c0
 obtain ⟨c1,c2,c3⟩:=HM2.out.one hj
 have hfg:=HM2.out.fg
 clear cn' hfb'
 have key:∀ hd:Bool,hd=(head && decide (st=2))→Mid (((w2.setCell ⟨g,j * 3,none⟩ (.int .i64 (st:Int))).setCell ⟨g,j * 3+1,none⟩ (.bool hd)).setCell ⟨g,j * 3+2,none⟩ (.bool sense)) b g (l.set j ⟨st,head && decide (st=2),sense⟩) fun k=>(cnt (l.set j ⟨st,head && decide (st=2),sense⟩) k:Int):=fun hd hh=>by
  subst hh
  have:=HM2.out.one_set hjl ⟨st,head && decide (st=2),sense⟩ hst
  refine this.at_ fun k hk=>?_
  have hc:=cnt_set l j o ⟨st,head && decide (st=2),sense⟩ hj k
  have hv:=hV.out
  simp only at hc ⊢
  by_cases h1:k=st
  ·subst h1
   rw [if_pos rfl]
   by_cases h2:k=o.st
   ·subst h2;simp at hc hv ⊢;omega
   ·rw [if_neg h2] at hv;rw [if_neg (Ne.symm h2)] at hc;simp at hc;omega
  ·rw [if_neg h1,if_neg (Ne.symm h1)] at *
   by_cases h2:k=o.st
   ·subst h2;simp at hc ⊢;omega
   ·rw [if_neg h2];rw [if_neg (Ne.symm h2)] at hc;simp at hc;omega
 have HK:=hid key
 clear key
 have only3:∀ x y z:Value,Only (fun k=>k=b∨k=g) w (((w2.setCell ⟨g,j * 3,none⟩ x).setCell ⟨g,j * 3+1,none⟩ y).setCell ⟨g,j * 3+2,none⟩ z):=fun x y z=>((HO2.out.setCell (p:=⟨g,j * 3,none⟩) (fun _=>.inr rfl) x).setCell (p:=⟨g,j * 3+1,none⟩) (fun _=>.inr rfl) y).setCell (p:=⟨g,j * 3+2,none⟩) (fun _=>.inr rfl) z
 have HO3:=hid only3
 clear only3
 cases head
 ·go_wp2_with fail
  go_ret
  exact ⟨rfl,HO3.out _ _ _,HK.out _ rfl⟩
 ·by_cases h2:st=2
  ·subst h2
   go_wp2_with fail
   go_ret
   exact ⟨rfl,HO3.out _ _ _,HK.out _ rfl⟩
  ·have h2':((st:Int) == 2)=false:=by simp;omega
   go_wp2_with fail
   go_ret
   exact ⟨rfl,HO3.out _ _ _,HK.out _ (by simp [h2])⟩
theorem At.only {S:Nat→Prop} {w w':World} {b g:Nat} {l:List One} (h:At w b g l) (ho:Only S w w') (hb:¬ S b) (hg:¬ S g):At w' b g l:=h.mid.only ho hb hg
theorem At.put1 {w:World} {b g:Nat} {l:List One} (h:At w b g l) {j:Nat} {o:One} (hj:l[j]?=some o) (v:Bool):At (w.setCell ⟨g,j * 3+1,none⟩ (.bool v)) b g (l.set j { o with head:=v }) :=
 (h.mid.put1 hj v).at_ fun k _=>by have:=cnt_set l j o { o with head:=v } hj k;simp only at this ⊢;omega
theorem At.put2 {w:World} {b g:Nat} {l:List One} (h:At w b g l) {j:Nat} {o:One} (hj:l[j]?=some o) (v:Bool):At (w.setCell ⟨g,j * 3+2,none⟩ (.bool v)) b g (l.set j { o with sense:=v }) :=
 (h.mid.put2 hj v).at_ fun k _=>by have:=cnt_set l j o { o with sense:=v } hj k;simp only at this ⊢;omega
theorem born_in (b g:Nat) (l:List One) (j:Nat) (o:One) (w:World) (h:At w b g l) (hj:l[j]?=some o) (hst:o.st=2) (hhd:o.head=false):Calls Tryz.prog 256 #[.pointer (some ⟨b,0,none⟩),.int .i64 j] w fun e w'=>e=.returned (.bool true)∧Only (fun k=>k=b∨k=g) w w'∧At w' b g (l.set j { o with head:=true }):=by
 have c0:=h.mid.c0
 obtain ⟨c1,c2,c3⟩:=h.mid.one hj
 rw [hhd] at c2
 have hjl:j<l.length:=(List.getElem?_eq_some_iff.1 hj).1
 have i1:(0:Int)≤(j:Int):=by omega
 have i2:(j:Int)<(l.length:Int):=by omega
 have hfg:=h.mid.fg
 have HP:=hid (h.put1 hj true)
 have ho:=(Only.refl (fun k=>k=b∨k=g) w).setCell (p:=⟨g,j * 3+1,none⟩) (fun _=>.inr rfl) (.bool true)
 have HO:=hid ho
 have HST:=state_in b g l j o w h hj
 rw [hst] at HST
 have HS:=hid HST
 clear HST ho
 go_enter Tryz.func256,Tryz.ntmps256
 go_wp2_with fail
 refine HS.out.mono ?_
 rintro e w1 ⟨rfl,rfl⟩
 go_wp2_with fail
 go_ret
 exact ⟨rfl,HO.out,HP.out⟩
theorem head_in (b g:Nat) (l:List One) (j:Nat) (o:One) (w:World) (h:At w b g l) (hj:l[j]?=some o):Calls Tryz.prog 159 #[.pointer (some ⟨b,0,none⟩),.int .i64 j] w fun e w'=>e=.returned (.bool o.head)∧w=w':=by
 have c0:=h.mid.c0
 obtain ⟨c1,c2,c3⟩:=h.mid.one hj
 have hjl:j<l.length:=(List.getElem?_eq_some_iff.1 hj).1
 have i1:(0:Int)≤(j:Int):=by omega
 have i2:(j:Int)<(l.length:Int):=by omega
 go_enter Tryz.func159,Tryz.ntmps159
 go_wp2_with fail
 refine (has_in b g l j w h hjl).mono ?_
 rintro e w1 ⟨rfl,rfl⟩
 go_wp2_with fail
 go_ret
 exact ⟨rfl,rfl⟩
theorem counts_any (b g:Nat) (l:List One) (w:World) (h:At w b g l):Calls Tryz.prog 70 #[.pointer (some ⟨b,0,none⟩)] w fun e w'=>e=.returned (.tuple #[.int .i64 (cnt l 0:Int),.int .i64 (cnt l 1:Int),.int .i64 (cnt l 2:Int)])∧Pure w w':=by
 have c0:w.cell? ⟨b,1,none⟩=_:=h.mid.cn 0 (by omega)
 have c1:w.cell? ⟨b,2,none⟩=_:=h.mid.cn 1 (by omega)
 have c2:w.cell? ⟨b,3,none⟩=_:=h.mid.cn 2 (by omega)
 go_enter Tryz.func70,Tryz.ntmps70
 go_wp2_with fail
 go_quiet (fail)
 go_wp2_with fail
 go_ret3
 exact ⟨rfl,(Only.refl _ _).drewN _⟩
theorem len_any (b g:Nat) (l:List One) (w:World) (h:At w b g l):Calls Tryz.prog 83 #[.pointer (some ⟨b,0,none⟩)] w fun e w'=>e=.returned (.int .i64 l.length)∧w=w':=by
 have c0:=h.mid.c0
 go_enter Tryz.func83,Tryz.ntmps83
 go_wp2_with fail
 go_ret
 exact ⟨rfl,rfl⟩
theorem black_in (b g:Nat) (l:List One) (j:Nat) (o:One) (s:Bool) (w:World) (h:At w b g l) (hj:l[j]?=some o):Calls Tryz.prog 160 #[.pointer (some ⟨b,0,none⟩),.int .i64 j,.bool s] w fun e w'=>e=.returned (.bool (decide (o.st=2) && o.sense == s))∧w=w':=by
 have c0:=h.mid.c0
 obtain ⟨c1,c2,c3⟩:=h.mid.one hj
 have hjl:j<l.length:=(List.getElem?_eq_some_iff.1 hj).1
 have i1:(0:Int)≤(j:Int):=by omega
 have i2:(j:Int)<(l.length:Int):=by omega
 by_cases h2:o.st=2
 ·have hb:((o.st:Int) == 2)=true:=by simp;omega
  go_enter Tryz.func160,Tryz.ntmps160
  go_wp2_with fail
  refine (state_in b g l j o w h hj).mono ?_
  rintro e w1 ⟨rfl,rfl⟩
  go_wp2_with fail
  go_ret
  exact ⟨by simp [h2],rfl⟩
 ·have hb:((o.st:Int) == 2)=false:=by simp;omega
  go_enter Tryz.func160,Tryz.ntmps160
  go_wp2_with fail
  refine (state_in b g l j o w h hj).mono ?_
  rintro e w1 ⟨rfl,rfl⟩
  go_wp2_with fail
  go_ret
  exact ⟨by simp [h2],rfl⟩
theorem mark_no (b g:Nat) (l:List One) (j:Nat) (o:One) (s:Bool) (w:World) (h:At w b g l) (hj:l[j]?=some o) (hb:o.st=2→o.sense=s):Calls Tryz.prog 149 #[.pointer (some ⟨b,0,none⟩),.int .i64 j,.bool s] w fun e w'=>e=.returned (.bool false)∧w=w':=by
 have HB:=hid hb
 clear hb
 by_cases h2:o.st=2
 ·have hb:((o.st:Int) != 2)=false:=by simp;omega
  go_enter Tryz.func149,Tryz.ntmps149
  go_wp2_with fail
  refine (state_in b g l j o w h hj).mono ?_
  rintro e w1 ⟨rfl,rfl⟩
  go_wp2_with fail
  refine (black_in b g l j o s w h hj).mono ?_
  rintro e w1 ⟨rfl,rfl⟩
  rw [show (decide (o.st=2) && o.sense == s)=true from by simp [h2,HB.out h2]]
  go_wp2_with fail
  go_ret
  exact ⟨rfl,rfl⟩
 ·have hb:((o.st:Int) != 2)=true:=by simp;omega
  go_enter Tryz.func149,Tryz.ntmps149
  go_wp2_with fail
  refine (state_in b g l j o w h hj).mono ?_
  rintro e w1 ⟨rfl,rfl⟩
  go_wp2_with fail
  go_ret
  exact ⟨rfl,rfl⟩
theorem mark_yes (b g:Nat) (l:List One) (j:Nat) (o:One) (s:Bool) (w:World) (h:At w b g l) (hj:l[j]?=some o) (h2:o.st=2) (hs:o.sense≠s):Calls Tryz.prog 149 #[.pointer (some ⟨b,0,none⟩),.int .i64 j,.bool s] w fun e w'=>e=.returned (.bool true)∧Only (fun k=>k=b∨k=g) w w'∧At w' b g (l.set j { o with sense:=s }):=by
 have hb:((o.st:Int) != 2)=false:=by simp;omega
 have c0:=h.mid.c0
 obtain ⟨c1,c2,c3⟩:=h.mid.one hj
 have hjl:j<l.length:=(List.getElem?_eq_some_iff.1 hj).1
 have i1:(0:Int)≤(j:Int):=by omega
 have i2:(j:Int)<(l.length:Int):=by omega
 have hfg:=h.mid.fg
 have HP:=hid (h.put2 hj s)
 have ho:=(Only.refl (fun k=>k=b∨k=g) w).setCell (p:=⟨g,j * 3+2,none⟩) (fun _=>.inr rfl) (.bool s)
 have HO:=hid ho
 have HS:=hid hs
 clear ho hs
 go_enter Tryz.func149,Tryz.ntmps149
 go_wp2_with fail
 refine (state_in b g l j o w h hj).mono ?_
 rintro e w1 ⟨rfl,rfl⟩
 go_wp2_with fail
 refine (black_in b g l j o s w h hj).mono ?_
 rintro e w1 ⟨rfl,rfl⟩
 rw [show (decide (o.st=2) && o.sense == s)=false from by simp [HS.out]]
 go_wp2_with fail
 go_ret
 exact ⟨rfl,HO.out,HP.out⟩
end Go.Proofs.YtpgdiceeimehiaaGreat.Tab
namespace Go.Proofs.YtpgdiceeimehiaaGreat
open Go.RowKit
def InR (xs:List Int):Prop:=∀ x∈xs,-9223372036854775808≤x∧x≤9223372036854775807
def TailI (w:World) (base:Nat) (v:Value) (xs:List Int):Prop :=
 ∃ (A:Option Addr) (c:Nat),v=.slice A xs.length c∧xs.length≤c∧c≤maxLen∧InR xs∧(∀ k,v.ownBlock=some k→base≤k∧k<w.heap.size) ∧
  (0<c→∃ g off,A=some ⟨g,off,none⟩∧(∀ j,j<xs.length→w.cell? ⟨g,off+j,none⟩=some (.int .i64 (xs.getD j 0)))∧∀ j,j<c→(w.cell? ⟨g,off+j,none⟩).isSome=true∧w.frozen? ⟨g,off+j,none⟩=false)
section
variable {w w':World} {base:Nat} {v:Value} {xs:List Int}
theorem TailI.form (h:TailI w base v xs):∃ A c,v=.slice A xs.length c∧xs.length≤c∧c≤maxLen:=by
 obtain ⟨A,c,h1,h2,h3,_⟩:=h
 exact ⟨A,c,h1,h2,h3⟩
theorem TailI.lt (h:TailI w base v xs):∀ k,v.ownBlock=some k→base≤k∧k<w.heap.size:=by
 obtain ⟨_,_,_,_,_,_,h,_⟩:=h
 exact h
theorem TailI.nil (w:World) (base:Nat):TailI w base (.slice none 0 0) [] :=
 ⟨none,0,rfl,Nat.le_refl _,by simp [maxLen],fun x hx=>by simp at hx,fun k hk=>by simp [Value.ownBlock] at hk,fun h=>by omega⟩
theorem TailI.only {S:Nat→Prop} (h:TailI w base v xs) (ho:Only S w w') (hn:∀ k,v.ownBlock=some k→¬ S k):TailI w' base v xs:=by
 obtain ⟨A,c,rfl,h1,h2,h3,h4,h5⟩:=h
 refine ⟨A,c,rfl,h1,h2,h3,fun k hk=>⟨(h4 k hk).1,Nat.lt_of_lt_of_le (h4 k hk).2 ho.size⟩,fun hc=>?_⟩
 obtain ⟨g,off,rfl,hx,hs⟩:=h5 hc
 have hg:=(h4 g rfl).2
 have hb:=ho.block g hg (hn g rfl)
 refine ⟨g,off,rfl,fun j hj=>(ho.cell (p:=⟨g,off+j,none⟩) hg (hn g rfl)).trans (hx j hj),fun j hj=>?_⟩
 rw [ho.cell (p:=⟨g,off+j,none⟩) hg (hn g rfl),World.frozen?_of_block (a:=⟨g,off+j,none⟩) hb]
 exact hs j hj
theorem TailI.mono {base':Nat} (h:TailI w base v xs) (hb:base'≤base):TailI w base' v xs:=by
 obtain ⟨A,c,rfl,h1,h2,h3,h4,h5⟩:=h
 exact ⟨A,c,rfl,h1,h2,h3,fun k hk=>⟨Nat.le_trans hb (h4 k hk).1,(h4 k hk).2⟩,h5⟩
theorem TailI.of_own {e:TypeId} (h:w.ownsRow base e 1 v xs.length (ints xs)) (hr:InR xs):TailI w base v xs:=by
 rcases h.2 with ⟨rfl,h0⟩ | ⟨g,cap,cur,rfl,hb,hg,hn,hm,hs,ht⟩
 ·obtain rfl:xs=[]:=List.eq_nil_of_length_eq_zero h0
  exact TailI.nil w base
 ·refine ⟨_,cap,rfl,hn,hm,hr,fun k hk=>h.lt k hk,fun _=>⟨g,0,rfl,fun j hj=>?_,fun j hj=>?_⟩⟩
  ·rw [Nat.zero_add,h.cellAt j (by omega),ints,List.getElem?_map,List.getElem?_eq_getElem hj]
   simp [List.getD,hj]
  ·rw [Nat.zero_add,cell_of_row w g j cur e (0,0) hg,frozen_of_row w g j cur e hg,Array.getElem?_eq_getElem (by omega)]
   exact ⟨rfl,rfl⟩
theorem TailI.tail {A:Option Addr} {c n:Nat} {x:Int} {xs:List Int} (h:TailI w base (.slice A n c) (x :: xs)) (g off:Nat) (hA:A=some ⟨g,off,none⟩) :
  TailI w base (.slice (if c=1 then some ⟨g,off,none⟩ else some ⟨g,off+1,none⟩) (n-1) (c-1)) xs:=by
 obtain ⟨A',c',hv,h1,h2,h3,h4,h5⟩:=h
 injection hv with hv1 hv2 hv3
 subst hv1 hv2 hv3 hA
 simp only [List.length_cons] at h1 h5
 obtain ⟨g',off',e,hx,hs⟩:=h5 (by omega)
 injection e with e
 injection e with e1 e2
 subst e1 e2
 refine ⟨_,c-1,by rw [List.length_cons,Nat.add_sub_cancel],by omega,by omega,fun y hy=>h3 y (List.mem_cons_of_mem _ hy),fun k hk=>?_,fun hc=>?_⟩
 ·have:k=g:=by
   split at hk <;> (injection hk with hk;exact hk.symm)
  subst this
  exact h4 k rfl
 ·rw [if_neg (by omega)]
  refine ⟨g,off+1,rfl,fun j hj=>?_,fun j hj=>?_⟩
  ·rw [show off+1+j=off+(j+1) from by omega,hx (j+1) (by omega)]
   rfl
  ·rw [show off+1+j=off+(j+1) from by omega]
   exact hs (j+1) (by omega)
end
end Go.Proofs.YtpgdiceeimehiaaGreat
