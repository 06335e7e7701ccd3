/- Part 7 of the proof that spotop.TopOrder returns true for all arguments and leaves what was there as it was. -/
import Derived.Deep.RegionLaw
import Derived.Test.YtpgdiceeimehiaaGreatQ06
set_option maxRecDepth 100000
set_option maxHeartbeats 16000000
open Go.Lib (hid)
namespace Go.Proofs.YtpgdiceeimehiaaGreat.Ln
open Go.RowKit
theorem int_info:(Tryz.prog.info? 3).map (fun i=>(i.zero,i.size,i.bytes))=some (some (.int .i64 0),1,8):=by kernel_rfl
theorem clone_any (v:Value) (xs:List Int) (w:World) (h:SlI w w.heap.size v xs) (hx:xs.length≤1000000) :
  Calls Tryz.prog 236 #[v] w fun e w'=>∃ v',e=.returned v'∧Pure w w'∧w'.ownsRow w.heap.size 3 1 v' xs.length (ints xs):=by
 obtain ⟨i0,hi0,hz0,hz1,hz2⟩:=info_parts int_info
 have h':=h
 obtain ⟨A,c,rfl,h1,h2,h3,h4⟩:=h'
 rcases A with _ | ad
 ·have hl:xs.length=0:=by
   rcases Nat.eq_zero_or_pos xs.length with h0 | h0
   ·exact h0
   ·obtain ⟨b,off,e,_⟩:=h4 h0
    cases e
  obtain rfl:xs=[]:=List.eq_nil_of_length_eq_zero hl
  have heq:=fun w:World=>Lib.run_eql_slice_nil (P:=Tryz.prog) w 25 3 none 0 c 0 0 Tryz.underlying25
  go_enter Tryz.func236,Tryz.ntmps236
  go_wp2
  go_ret
  exact ⟨_,rfl,Only.refl _ _,World.ownsRow_nil _ _ _ _⟩
 ·have hs:=h.src.2
  have hs':Src (w.alloc (.cells #[] 3)) 1 (some ad) xs.length (ints xs):=hs.below ((Below.refl w.heap.size w).alloc (Nat.le_refl _) _) (fun b hm e=>by injection e with e;subst e;obtain ⟨b',off,e',hb,_⟩:=h4 hm;injection e' with e';subst e';exact hb)
  have heq:=fun w:World=>Lib.run_eql_slice_nil (P:=Tryz.prog) w 25 3 (some ad) xs.length c 0 0 Tryz.underlying25
  clear h h4
  go_enter Tryz.func236,Tryz.ntmps236
  go_wp2_with (at_builtin;refine wpList_app _ rfl (.tmp 5) (.tmp 6) _ rfl w.heap.size 3 i0 _ 1 8 Tryz.underlying25 hi0 hz0 hz1 hz2 rfl (by omega) _ 0 [] rfl (World.ownsRow_made w #[] 0 (Nat.le_refl _) (by simp [maxLen]) rfl) _ _ _ _ rfl hs' (ints_one xs) (by simp only [maxLen];omega) (by omega) (by simp) ?_;intro v1 w1 hown1 hg1 hat1)
  go_ret
  refine ⟨_,rfl,((Only.refl _ _).alloc _).grown hg1 (fun k hk e=>?_),by simpa using hown1⟩
  injection e with e
  exact absurd e (Nat.ne_of_gt hk)
theorem new_any (w:World):Calls Tryz.prog 86 #[] w fun e w'=>e=.returned (.pointer (some ⟨w.heap.size,0,none⟩))∧w'=w.alloc (.cells #[.slice none 0 0] 217):=by
 go_enter Tryz.func86,Tryz.ntmps86
 go_wp2_with fail
 go_ret
 exact ⟨rfl,rfl⟩
theorem line_new (w:World):LineOf (w.alloc (.cells #[.slice none 0 0] 217)) w.heap.size (.slice none 0 0) [] :=
 ⟨heap_alloc_new w _,World.ownsRow_nil _ _ _ _,fun e he=>by simp at he,by simp,fun e he=>by simp at he⟩
theorem of_any (P:Nat) (v:Value) (l:List En) (t:Int) (w:World) (hl:LineOf w P v l) :
  Calls Tryz.prog 257 #[.pointer (some ⟨P,0,none⟩),.int .i64 t] w fun e w'=>e=.returned (.int .i64 (ixI (isT t) l))∧Pure w w':=by
 have hp1:=(Only.refl (fun _=>False) w).alloc (.cells #[.int .i64 t] 3)
 have HL:=hid (hl.pure hp1)
 have P1:=hid hp1
 have hc:(w.alloc (.cells #[.int .i64 t] 3)).cell? ⟨w.heap.size,0,none⟩=some (.int .i64 t):=by simp
 have HC:=hid hc
 obtain ⟨A,c,rfl⟩:=hl.form
 have c0:=(hl.pure hp1).c0
 clear hl hp1 hc
 go_enter Tryz.func257,Tryz.ntmps257
 go_wp2_with fail
 refine (index_of P _ l _ t _ HL.out HC.out).mono ?_
 rintro e w2 ⟨rfl,hp2⟩
 have P2:=hid (Pure.then P1.out hp2)
 clear hp2
 go_wp2_with fail
 go_ret
 exact ⟨rfl,P2.out⟩
theorem first_any' (P:Nat) (v:Value) (l:List En) (w:World) (hl:LineOf w P v l) :
  Calls Tryz.prog 229 #[.pointer (some ⟨P,0,none⟩)] w fun e w'=>e=.returned (.int .i64 (ixI isW l))∧Pure w w':=by
 have HL:=hid hl
 obtain ⟨A,c,rfl⟩:=hl.form
 have c0:=hl.c0
 clear hl
 go_enter Tryz.func229,Tryz.ntmps229
 go_wp2_with fail
 refine (index_first P _ l _ HL.out).mono ?_
 rintro e w2 ⟨rfl,hp2⟩
 have P2:=hid hp2
 clear hp2
 go_wp2_with fail
 go_ret
 exact ⟨rfl,P2.out⟩
theorem at_no (P:Nat) (i:Int) (w:World) (hi:i<0) :
  Calls Tryz.prog 228 #[.pointer (some ⟨P,0,none⟩),.int .i64 i] w fun e w'=>e=.returned (.tuple #[reqV default (.slice none 0 0),.bool false])∧Pure w w':=by
 go_enter Tryz.func228,Tryz.ntmps228
 go_wp2_with fail
 exact bodyPost_ret (v:=.tuple #[reqV default (.slice none 0 0),.bool false]) (by simp [results,Tryz.results228,go_sem,default]) rfl ⟨rfl,(Only.refl _ _).alloc _⟩
theorem only_set {a w:World} {X:Nat} (h:Only (fun q=>q=X) a w) (i:Nat) (u:Value):Only (fun q=>q=X) a (w.setCell ⟨X,i,none⟩ u):=h.setCell (p:=⟨X,i,none⟩) (fun _=>rfl) u
theorem seven {w:World} {Y:Nat} {x0 x1 x2 x3 x4 x5 x6:Value} {T:TypeId} (h:w.heap[Y]?=some (.cells #[x0,x1,x2,x3,x4,x5,x6] T (0,0))) :
  w.cell? ⟨Y,0,none⟩=some x0∧w.cell? ⟨Y,1,none⟩=some x1∧w.cell? ⟨Y,2,none⟩=some x2∧w.cell? ⟨Y,3,none⟩=some x3∧w.cell? ⟨Y,4,none⟩=some x4∧w.cell? ⟨Y,5,none⟩=some x5∧w.cell? ⟨Y,6,none⟩=some x6 ∧
   w.frozen? ⟨Y,0,none⟩=false∧w.frozen? ⟨Y,1,none⟩=false∧w.frozen? ⟨Y,2,none⟩=false∧w.frozen? ⟨Y,3,none⟩=false∧w.frozen? ⟨Y,4,none⟩=false∧w.frozen? ⟨Y,5,none⟩=false∧w.frozen? ⟨Y,6,none⟩=false:=by
 refine ⟨?_,?_,?_,?_,?_,?_,?_,frozen_of_row w Y _ _ _ h,frozen_of_row w Y _ _ _ h,frozen_of_row w Y _ _ _ h,frozen_of_row w Y _ _ _ h,frozen_of_row w Y _ _ _ h,frozen_of_row w Y _ _ _ h,frozen_of_row w Y _ _ _ h⟩ <;> (rw [cell_of_row w Y _ _ _ _ h];rfl)
theorem at_in (P:Nat) (v:Value) (l:List En) (k:Nat) (e:En) (w:World) (hl:LineOf w P v l) (he:l[k]?=some e) :
  Calls Tryz.prog 228 #[.pointer (some ⟨P,0,none⟩),.int .i64 k] w fun e' w'=>∃ A c,e'=.returned (.tuple #[reqV e (.slice A e.got.length c),.bool true])∧Pure w w'∧SlI w' w'.heap.size (.slice A e.got.length c) e.got∧∀ q,(Value.slice A e.got.length c).ownBlock=some q→w.heap.size≤q:=by
 have hp1:=(Only.refl (fun _=>False) w).alloc (.cells #[.int .i64 0,.int .i64 0,.int .i64 0,.int .i64 0,.int .i64 0,.int .i64 0,.slice none 0 0] 229)
 have hl1:=hl.pure hp1
 obtain ⟨g,cg,rfl,d0,d1,d2,d3,d4,d5,d6,d7,_⟩:=hl1.cells he
 have hlt:=(List.getElem?_eq_some_iff.1 he).1
 have hfew:=hl.few
 have hS:=(hl.got e (List.mem_of_getElem? he)).1
 have hsh:=hl.short e (List.mem_of_getElem? he)
 have c0:=hl1.c0
 obtain ⟨G,gc,hgv,_⟩:=id hS
 rw [hgv] at d6 hS
 have HS:=hid (fun (w':World) (hp:Pure w w')=>hS.only hp (fun _ _ f=>f))
 have hp2:Pure w ((w.alloc (.cells #[.int .i64 0,.int .i64 0,.int .i64 0,.int .i64 0,.int .i64 0,.int .i64 0,.slice none 0 0] 229)).alloc (.cells #[.int .i64 e.thread,.int .i64 e.frags,.int .i64 e.spine,.int .i64 e.state,.int .i64 e.cycles,.int .i64 e.at_,.slice G e.got.length gc] 229)):=hp1.alloc _
 have hy:=heap_alloc_new (w.alloc (.cells #[.int .i64 0,.int .i64 0,.int .i64 0,.int .i64 0,.int .i64 0,.int .i64 0,.slice none 0 0] 229)) (.cells #[.int .i64 e.thread,.int .i64 e.frags,.int .i64 e.spine,.int .i64 e.state,.int .i64 e.cycles,.int .i64 e.at_,.slice G e.got.length gc] 229)
 rw [show (w.alloc (.cells #[.int .i64 0,.int .i64 0,.int .i64 0,.int .i64 0,.int .i64 0,.int .i64 0,.slice none 0 0] 229)).heap.size=w.heap.size+1 from by simp] at hy
 have hx:=(((Only.refl (fun _=>False) (w.alloc (.cells #[.int .i64 0,.int .i64 0,.int .i64 0,.int .i64 0,.int .i64 0,.int .i64 0,.slice none 0 0] 229))).alloc (.cells #[.int .i64 e.thread,.int .i64 e.frags,.int .i64 e.spine,.int .i64 e.state,.int .i64 e.cycles,.int .i64 e.at_,.slice G e.got.length gc] 229)).block w.heap.size (by simp) (fun f=>f)).trans (heap_alloc_new w (.cells #[.int .i64 0,.int .i64 0,.int .i64 0,.int .i64 0,.int .i64 0,.int .i64 0,.slice none 0 0] 229))
 have P2:=hid hp2
 have HX:=hid hx
 have HY:=hid hy
 clear hS he hgv hl hp1 hl1 hp2 hx hy
 go_enter Tryz.func228,Tryz.ntmps228
 go_wp2_with fail
 clear d0 d1 d2 d3 d4 d5 d6 d7 c0
 generalize (w.alloc (.cells #[.int .i64 0,.int .i64 0,.int .i64 0,.int .i64 0,.int .i64 0,.int .i64 0,.slice none 0 0] 229)).alloc (.cells #[.int .i64 e.thread,.int .i64 e.frags,.int .i64 e.spine,.int .i64 e.state,.int .i64 e.cycles,.int .i64 e.at_,.slice G e.got.length gc] 229)=W2 at *
 refine (clone_any _ e.got _ (HS.out _ P2.out) (by omega)).mono ?_
 rintro e1 w3 ⟨v3,rfl,hp3,ho3⟩
 obtain ⟨A3,c3,rfl⟩:=own_form ho3
 have hx3:=(hp3.block _ (Array.getElem?_eq_some_iff.1 HX.out).1 (fun f=>f)).trans HX.out
 have hy3:=(hp3.block _ (Array.getElem?_eq_some_iff.1 HY.out).1 (fun f=>f)).trans HY.out
 obtain ⟨x0,x1,x2,x3,x4,x5,x6,xf0,xf1,xf2,xf3,xf4,xf5,xf6⟩:=seven hx3
 obtain ⟨y0,y1,y2,y3,y4,y5,y6,yf0,yf1,yf2,yf3,yf4,yf5,yf6⟩:=seven hy3
 have P3:=hid (P2.out.then hp3)
 have HO3:=hid ho3
 have HSZ:=hid (show w.heap.size+1<W2.heap.size from (Array.getElem?_eq_some_iff.1 HY.out).1)
 have HRNG:=hid (show ∀ x∈e.got,-9223372036854775808≤x∧x≤9223372036854775807 from by obtain ⟨_,_,_,_,_,h,_⟩:=HS.out _ P2.out;exact h)
 clear hp3 ho3 hx3 hy3
 go_wp2_with fail
 refine bodyPost_ret (v:=.tuple #[reqV e (.slice A3 e.got.length c3),.bool true]) (by simp [results,Tryz.results228,go_sem,x0,x1,x2,x3,x4,x5,x6]) rfl ⟨A3,c3,rfl,?_⟩
 have key:∀ wf,Only (fun q=>q=w.heap.size∨q=w.heap.size+1) w3 wf→Pure w wf∧SlI wf wf.heap.size (.slice A3 e.got.length c3) e.got∧∀ q,(Value.slice A3 e.got.length c3).ownBlock=some q→w.heap.size≤q:=fun wf ho =>
  ⟨P3.out.trans ho (fun i hi e=>by omega),SlI.of_own (ho.own HO3.out (fun q hq e=>by have:=(HO3.out.lt q hq).1;have:=HSZ.out;omega)) HRNG.out,fun q hq=>by have:=(HO3.out.lt q hq).1;have:=HSZ.out;omega⟩
 refine key _ ?_
 iterate 7 refine Only.setCell ?_ (fun _=>.inl rfl) _
 exact (Only.refl _ w3).setCell (fun _=>.inr rfl) _
theorem lineOf_in (P:Nat) (v:Value) (l:List En) (k:Nat) (e:En) (t:Int) (w:World) (hl:LineOf w P v l) (he:l[k]?=some e) (hix:ixI (isT t) l=k) :
  Calls Tryz.prog 197 #[.pointer (some ⟨P,0,none⟩),.int .i64 t] w fun e' w'=>∃ A c,e'=.returned (.tuple #[reqV e (.slice A e.got.length c),.bool true])∧Pure w w'∧SlI w' w'.heap.size (.slice A e.got.length c) e.got∧∀ q,(Value.slice A e.got.length c).ownBlock=some q→w.heap.size≤q:=by
 have HE:=hid he
 clear he
 have hp1:=(Only.refl (fun _=>False) w).alloc (.cells #[.int .i64 0,.int .i64 0,.int .i64 0,.int .i64 0,.int .i64 0,.int .i64 0,.slice none 0 0] 229)
 have HL:=hid (fun (w':World) (hp:Pure w w')=>hl.pure hp)
 have P1:=hid hp1
 have HX:=hid (heap_alloc_new w (.cells #[.int .i64 0,.int .i64 0,.int .i64 0,.int .i64 0,.int .i64 0,.int .i64 0,.slice none 0 0] 229))
 have HIX:=hid hix
 clear hl hp1 hix
 go_enter Tryz.func197,Tryz.ntmps197
 go_wp2_with fail
 generalize w.alloc (.cells #[.int .i64 0,.int .i64 0,.int .i64 0,.int .i64 0,.int .i64 0,.int .i64 0,.slice none 0 0] 229)=W1 at *
 refine (of_any P v l t _ (HL.out _ P1.out)).mono ?_
 rw [HIX.out]
 rintro e1 w2 ⟨rfl,hp2⟩
 have P2:=hid (Pure.then P1.out hp2)
 have hx2:=(hp2.block _ (Array.getElem?_eq_some_iff.1 HX.out).1 (fun f=>f)).trans HX.out
 have HX2:=hid hx2
 clear hp2 hx2
 go_wp2_with fail
 refine (at_in P v l k e _ (HL.out _ P2.out) HE.out).mono ?_
 rintro e1 w3 ⟨A3,c3,rfl,hp3,hs3,hq3⟩
 have HQ3:=hid hq3
 have HXZ:=hid (show w.heap.size<w2.heap.size from (Array.getElem?_eq_some_iff.1 HX2.out).1)
 clear hq3
 have hx3:=(hp3.block _ (Array.getElem?_eq_some_iff.1 HX2.out).1 (fun f=>f)).trans HX2.out
 obtain ⟨x0,x1,x2,x3,x4,x5,x6,xf0,xf1,xf2,xf3,xf4,xf5,xf6⟩:=seven hx3
 have P3:=hid (P2.out.then hp3)
 have HS3:=hid hs3
 clear hp3 hs3 hx3
 go_wp2_with fail
 refine bodyPost_ret (v:=.tuple #[reqV e (.slice A3 e.got.length c3),.bool true]) (by simp [results,Tryz.results197,go_sem,x0,x1,x2,x3,x4,x5,x6]) rfl ⟨A3,c3,rfl,?_⟩
 have key:∀ wf,Only (fun q=>q=w.heap.size) w3 wf→Pure w wf∧SlI wf wf.heap.size (.slice A3 e.got.length c3) e.got∧∀ q,(Value.slice A3 e.got.length c3).ownBlock=some q→w.heap.size≤q:=fun wf ho =>
  ⟨P3.out.trans ho (fun i hi e=>by omega),HS3.out.only ho (fun q hq e=>by have:=HQ3.out q hq;have:=HXZ.out;omega),fun q hq=>by have:=HQ3.out q hq;have:=HXZ.out;omega⟩
 refine key _ ?_
 iterate 7 refine only_set ?_ _ _
 exact Only.refl _ w3
theorem lineOf_no (P:Nat) (v:Value) (l:List En) (t:Int) (w:World) (hl:LineOf w P v l) (hix:ixI (isT t) l=-1) :
  Calls Tryz.prog 197 #[.pointer (some ⟨P,0,none⟩),.int .i64 t] w fun e' w'=>e'=.returned (.tuple #[reqV default (.slice none 0 0),.bool false])∧Pure w w':=by
 have hp1:=(Only.refl (fun _=>False) w).alloc (.cells #[.int .i64 0,.int .i64 0,.int .i64 0,.int .i64 0,.int .i64 0,.int .i64 0,.slice none 0 0] 229)
 have HL:=hid (fun (w':World) (hp:Pure w w')=>hl.pure hp)
 have P1:=hid hp1
 have HX:=hid (heap_alloc_new w (.cells #[.int .i64 0,.int .i64 0,.int .i64 0,.int .i64 0,.int .i64 0,.int .i64 0,.slice none 0 0] 229))
 have HIX:=hid hix
 clear hl hp1 hix
 go_enter Tryz.func197,Tryz.ntmps197
 go_wp2_with fail
 generalize w.alloc (.cells #[.int .i64 0,.int .i64 0,.int .i64 0,.int .i64 0,.int .i64 0,.int .i64 0,.slice none 0 0] 229)=W1 at *
 refine (of_any P v l t _ (HL.out _ P1.out)).mono ?_
 rw [HIX.out]
 rintro e1 w2 ⟨rfl,hp2⟩
 have P2:=hid (Pure.then P1.out hp2)
 have hx2:=(hp2.block _ (Array.getElem?_eq_some_iff.1 HX.out).1 (fun f=>f)).trans HX.out
 have HX2:=hid hx2
 clear hp2 hx2
 go_wp2_with fail
 refine (at_no P (-1) _ (by omega)).mono ?_
 rintro e1 w3 ⟨rfl,hp3⟩
 have hx3:=(hp3.block _ (Array.getElem?_eq_some_iff.1 HX2.out).1 (fun f=>f)).trans HX2.out
 obtain ⟨x0,x1,x2,x3,x4,x5,x6,xf0,xf1,xf2,xf3,xf4,xf5,xf6⟩:=seven hx3
 have P3:=hid (P2.out.then hp3)
 clear hp3 hx3
 go_wp2_with fail
 refine bodyPost_ret (v:=.tuple #[reqV default (.slice none 0 0),.bool false]) (by simp [results,Tryz.results197,go_sem,x0,x1,x2,x3,x4,x5,x6,default]) rfl ⟨rfl,?_⟩
 have key:∀ wf,Only (fun q=>q=w.heap.size) w3 wf→Pure w wf:=fun wf ho=>P3.out.trans ho (fun i hi e=>by omega)
 refine key _ ?_
 iterate 7 refine only_set ?_ _ _
 exact Only.refl _ w3
theorem lineFirst_in (P:Nat) (v:Value) (l:List En) (k:Nat) (e:En) (w:World) (hl:LineOf w P v l) (he:l[k]?=some e) (hix:ixI isW l=k) :
  Calls Tryz.prog 166 #[.pointer (some ⟨P,0,none⟩)] w fun e' w'=>∃ A c,e'=.returned (.tuple #[reqV e (.slice A e.got.length c),.bool true])∧Pure w w'∧SlI w' w'.heap.size (.slice A e.got.length c) e.got∧∀ q,(Value.slice A e.got.length c).ownBlock=some q→w.heap.size≤q:=by
 have HE:=hid he
 clear he
 have hp1:=(Only.refl (fun _=>False) w).alloc (.cells #[.int .i64 0,.int .i64 0,.int .i64 0,.int .i64 0,.int .i64 0,.int .i64 0,.slice none 0 0] 229)
 have HL:=hid (fun (w':World) (hp:Pure w w')=>hl.pure hp)
 have P1:=hid hp1
 have HX:=hid (heap_alloc_new w (.cells #[.int .i64 0,.int .i64 0,.int .i64 0,.int .i64 0,.int .i64 0,.int .i64 0,.slice none 0 0] 229))
 have HIX:=hid hix
 clear hl hp1 hix
 go_enter Tryz.func166,Tryz.ntmps166
 go_wp2_with fail
 generalize w.alloc (.cells #[.int .i64 0,.int .i64 0,.int .i64 0,.int .i64 0,.int .i64 0,.int .i64 0,.slice none 0 0] 229)=W1 at *
 refine (first_any' P v l _ (HL.out _ P1.out)).mono ?_
 rw [HIX.out]
 rintro e1 w2 ⟨rfl,hp2⟩
 have P2:=hid (Pure.then P1.out hp2)
 have hx2:=(hp2.block _ (Array.getElem?_eq_some_iff.1 HX.out).1 (fun f=>f)).trans HX.out
 have HX2:=hid hx2
 clear hp2 hx2
 go_wp2_with fail
 refine (at_in P v l k e _ (HL.out _ P2.out) HE.out).mono ?_
 rintro e1 w3 ⟨A3,c3,rfl,hp3,hs3,hq3⟩
 have HQ3:=hid hq3
 have HXZ:=hid (show w.heap.size<w2.heap.size from (Array.getElem?_eq_some_iff.1 HX2.out).1)
 clear hq3
 have hx3:=(hp3.block _ (Array.getElem?_eq_some_iff.1 HX2.out).1 (fun f=>f)).trans HX2.out
 obtain ⟨x0,x1,x2,x3,x4,x5,x6,xf0,xf1,xf2,xf3,xf4,xf5,xf6⟩:=seven hx3
 have P3:=hid (P2.out.then hp3)
 have HS3:=hid hs3
 clear hp3 hs3 hx3
 go_wp2_with fail
 refine bodyPost_ret (v:=.tuple #[reqV e (.slice A3 e.got.length c3),.bool true]) (by simp [results,Tryz.results166,go_sem,x0,x1,x2,x3,x4,x5,x6]) rfl ⟨A3,c3,rfl,?_⟩
 have key:∀ wf,Only (fun q=>q=w.heap.size) w3 wf→Pure w wf∧SlI wf wf.heap.size (.slice A3 e.got.length c3) e.got∧∀ q,(Value.slice A3 e.got.length c3).ownBlock=some q→w.heap.size≤q:=fun wf ho =>
  ⟨P3.out.trans ho (fun i hi e=>by omega),HS3.out.only ho (fun q hq e=>by have:=HQ3.out q hq;have:=HXZ.out;omega),fun q hq=>by have:=HQ3.out q hq;have:=HXZ.out;omega⟩
 refine key _ ?_
 iterate 7 refine only_set ?_ _ _
 exact Only.refl _ w3
theorem lineFirst_no (P:Nat) (v:Value) (l:List En) (w:World) (hl:LineOf w P v l) (hix:ixI isW l=-1) :
  Calls Tryz.prog 166 #[.pointer (some ⟨P,0,none⟩)] w fun e' w'=>e'=.returned (.tuple #[reqV default (.slice none 0 0),.bool false])∧Pure w w':=by
 have hp1:=(Only.refl (fun _=>False) w).alloc (.cells #[.int .i64 0,.int .i64 0,.int .i64 0,.int .i64 0,.int .i64 0,.int .i64 0,.slice none 0 0] 229)
 have HL:=hid (fun (w':World) (hp:Pure w w')=>hl.pure hp)
 have P1:=hid hp1
 have HX:=hid (heap_alloc_new w (.cells #[.int .i64 0,.int .i64 0,.int .i64 0,.int .i64 0,.int .i64 0,.int .i64 0,.slice none 0 0] 229))
 have HIX:=hid hix
 clear hl hp1 hix
 go_enter Tryz.func166,Tryz.ntmps166
 go_wp2_with fail
 generalize w.alloc (.cells #[.int .i64 0,.int .i64 0,.int .i64 0,.int .i64 0,.int .i64 0,.int .i64 0,.slice none 0 0] 229)=W1 at *
 refine (first_any' P v l _ (HL.out _ P1.out)).mono ?_
 rw [HIX.out]
 rintro e1 w2 ⟨rfl,hp2⟩
 have P2:=hid (Pure.then P1.out hp2)
 have hx2:=(hp2.block _ (Array.getElem?_eq_some_iff.1 HX.out).1 (fun f=>f)).trans HX.out
 have HX2:=hid hx2
 clear hp2 hx2
 go_wp2_with fail
 refine (at_no P (-1) _ (by omega)).mono ?_
 rintro e1 w3 ⟨rfl,hp3⟩
 have hx3:=(hp3.block _ (Array.getElem?_eq_some_iff.1 HX2.out).1 (fun f=>f)).trans HX2.out
 obtain ⟨x0,x1,x2,x3,x4,x5,x6,xf0,xf1,xf2,xf3,xf4,xf5,xf6⟩:=seven hx3
 have P3:=hid (P2.out.then hp3)
 clear hp3 hx3
 go_wp2_with fail
 refine bodyPost_ret (v:=.tuple #[reqV default (.slice none 0 0),.bool false]) (by simp [results,Tryz.results166,go_sem,x0,x1,x2,x3,x4,x5,x6,default]) rfl ⟨rfl,?_⟩
 have key:∀ wf,Only (fun q=>q=w.heap.size) w3 wf→Pure w wf:=fun wf ho=>P3.out.trans ho (fun i hi e=>by omega)
 refine key _ ?_
 iterate 7 refine only_set ?_ _ _
 exact Only.refl _ w3
end Go.Proofs.YtpgdiceeimehiaaGreat.Ln
namespace Go.Proofs.YtpgdiceeimehiaaGreat.Ln
open Go.RowKit
theorem count_succ (l:List En) (k:Nat) (e:En) (h:l[k]?=some e):(l.take (k+1)).countP isW=(l.take k).countP isW+if isW e=true then 1 else 0:=by
 rw [List.take_add_one,h,List.countP_append]
 simp [List.countP_cons]
theorem waits_any (P:Nat) (v:Value) (l:List En) (w:World) (hl:LineOf w P v l) :
  Calls Tryz.prog 143 #[.pointer (some ⟨P,0,none⟩)] w fun e w'=>e=.returned (.int .i64 (l.countP isW:Nat))∧Pure w w':=by
 have HL:=hid (fun (w':World) (hp:Pure w w')=>hl.pure hp)
 obtain ⟨A,c,rfl⟩:=hl.form
 have hfew:=hl.few
 have c0:=hl.c0
 clear hl
 go_enter Tryz.func143,Tryz.ntmps143
 go_wp2_with fail
 clear c0
 go_loopw [3,11] (fun n i wr=>∃ k m:Nat,k≤l.length∧i=.int .i64 k∧n=.int .i64 m∧m≤k∧Hid (m=(l.take k).countP isW)∧Pure w wr) (fun _ i _=>l.length-(intOf i).toNat)
 case atStart=>exact ⟨0,0,Nat.zero_le _,rfl,rfl,Nat.le_refl _,hid rfl,Only.refl _ _⟩
 case round =>
  obtain ⟨k,m,hk,rfl,rfl,hm,HM,hp⟩:=hrel
  have HP:=hid hp
  clear hp
  by_cases hlt:k<l.length
  ·obtain ⟨e,he⟩:∃ e,l[k]?=some e:=⟨l[k],List.getElem?_eq_getElem hlt⟩
   obtain ⟨g,cg,hv,d0,d1,d2,d3,d4,d5,d6,d7,_⟩:=(HL.out _ HP.out).cells he
   injection hv with hv1 hv2 hv3
   subst hv1
   have HE:=hid he
   clear hv2 hv3
   obtain ⟨G,gc,hgv,_⟩:=((HL.out _ HP.out).got e (List.mem_of_getElem? he)).1
   rw [hgv] at d6
   have HC:=hid (count_succ l k e he)
   clear hgv he
   have P1:=hid (HP.out.alloc (.cells #[.int .i64 e.thread,.int .i64 e.frags,.int .i64 e.spine,.int .i64 e.state,.int .i64 e.cycles,.int .i64 e.at_,.slice G e.got.length gc,.bool e.noted] 271))
   cases hw:isW e with
   | true =>
    have hs:(e.state == 0)=true:=hw
    have HW:=hid hw
    clear hw
    go_wp2_with fail
    go_roundw
    case rel=>exact ⟨k+1,m+1,by omega,by first | rfl | simp,by first | rfl | simp,by omega,hid (by rw [HC.out,HW.out,← HM.out];rfl),P1.out⟩
    case measure=>simp [intOf];omega
   | false =>
    have hs:(e.state == 0)=false:=hw
    have HW:=hid hw
    clear hw
    go_wp2_with fail
    go_roundw
    case rel=>exact ⟨k+1,m,by omega,by first | rfl | simp,by first | rfl | simp,by omega,hid (by rw [HC.out,HW.out,← HM.out];rfl),P1.out⟩
    case measure=>simp [intOf];omega
  ·obtain rfl:k=l.length:=by omega
   go_wp2_with fail
   go_ret
   exact ⟨ret_i (by rw [HM.out,List.take_length]),HP.out⟩
theorem step_app {P:Program} {ops:Array Oper} {o:Oper} {a:Act} {w:World} {K:Act→World→Prop} {Q:Exit→Act→World→Prop} {E:Prop} (hgd:o.guard=none) (s x:Operand) (t:TypeId)
  (ho:o.op=.call { callee:=.builtin .append,args:=#[s,x],argTypes:=#[t,t] })
  (base:Nat) (e:TypeId) (i:TypeInfo) (z:Value) (size bytes:Nat) (ht:P.underlying t=some (.slice e)) (hi:P.info? e=some i) (hz:i.zero=some z)
  (hsize:i.size=size) (hby:i.bytes=bytes) (hzs:z.cells.size=size) (hsz:0<size)
  (v:Value) (n:Nat) (xs:List Value) (hs:a.eval s=v) (hown:w.ownsRow base e size v n xs)
  (A:Option Addr) (m c:Nat) (news:List Value) (hx:a.eval x=.slice A m c) (hsrc:Src w size A m news) (h1:∀ u∈news,u.oneCell'=true)
  (h63:n+m≤maxLen) (hbytes:(n+m) * bytes≤140737488355328) (hbase:base≤w.heap.size)
  (h:∀ v' w',w'.ownsRow base e size v' (n+m) (xs++news)→w.grownBy w' v.ownBlock→(v'.ownBlock=v.ownBlock∨v'.ownBlock=some w.heap.size)→K (a.put o.dst v') w') :
  if Region.wanted o (yielded ops a.tmps)=true then Oper.wp P o a w K Q else E:=by
 have hw:Region.wanted o (yielded ops a.tmps)=true:=by simp [Region.wanted,hgd]
 rw [if_pos hw]
 obtain ⟨v',w',hr,h2,h3,h4⟩:=run_app (P:=P) w base t o.type e i z size bytes ht hi hz hsize hby hzs hsz v n xs hown A m c news hsrc h1 h63 hbytes hbase
 unfold Oper.wp execOp
 simp only [ho,resolve,invoke,builtin,Sem.run_bind,Sem.run_pure,Result.andThen_ok,List.map_toArray,List.map_cons,List.map_nil,hs,hx,hr]
 exact h v' w' h2 h3 h4
theorem entry_info:(Tryz.prog.info? 271).map (fun i=>(i.zero,i.size,i.bytes))=some (some (.agg #[.int .i64 0,.int .i64 0,.int .i64 0,.int .i64 0,.int .i64 0,.int .i64 0,.slice none 0 0,.bool false]),8,80):=by kernel_rfl
def fresh (e:En):En:=⟨e.thread,e.frags,e.spine,0,0,-1,.slice none 0 0,[],false⟩
theorem Src.row (w:World) (e:TypeId) (cs:Array Value) (size m B:Nat) (hl:cs.size=m * size) (hB:w.heap.size=B):Src (w.alloc (.cells cs e)) size (some ⟨B,0,none⟩) m cs.toList:=by
 subst hB
 refine ⟨by simpa using hl,fun _=>⟨_,0,rfl,fun j u hu=>?_⟩⟩
 rw [cell_of_row _ w.heap.size _ cs e (0,0) (heap_alloc_new w _),Nat.zero_add]
 simpa using hu
theorem line_ne {w:World} {P:Nat} {v:Value} (h:w.heap[P]?=some (.cells #[v] 217 (0,0))) {base n:Nat} {u:Value} {xs:List Value} (ho:w.ownsRow base 271 8 u n xs) {k:Nat} (hk:u.ownBlock=some k):k≠P:=by
 rintro rfl
 rcases ho.2 with ⟨rfl,_⟩ | ⟨g,cap,cur,rfl,_,hg,_⟩
 ·simp [Value.ownBlock] at hk
 ·simp only [Value.ownBlock,Option.some.injEq] at hk
  subst hk
  rw [h] at hg
  simp at hg
theorem LineOf.added {w w6:World} {P:Nat} {v v6:Value} {l:List En} {e:En} {q6:Nat} (h:LineOf w P v l) (ho:Only (fun k=>v.ownBlock=some k) w w6) (hown:w6.ownsRow 0 271 8 v6 (l.length+1) (ens l++enCells (fresh e)))
  (hat:v6.ownBlock=v.ownBlock∨v6.ownBlock=some q6) (hq6:w.heap.size≤q6) (hf:l.length≤900):LineOf (w6.setCell ⟨P,0,none⟩ v6) P v6 (l++[fresh e]):=by
 have hP:=(Array.getElem?_eq_some_iff.1 h.at_).1
 have at6:w6.heap[P]?=some (.cells #[v] 217 (0,0)):=(ho.block P hP (fun e'=>line_ne h.at_ h.own e' rfl)).trans h.at_
 have hoS:Only (LineS P v) w (w6.setCell ⟨P,0,none⟩ v6):=(ho.mono (fun _ _ hk=>.inr hk)).setCell (p:=⟨P,0,none⟩) (fun _=>.inl rfl) v6
 have ho2:Only (fun q=>q=P) w6 (w6.setCell ⟨P,0,none⟩ v6):=only_set (Only.refl _ w6) 0 v6
 refine ⟨by simp [World.setCell,Array.getElem?_modify,at6],?_,fun e' he'=>?_,?_,fun e' he'=>?_⟩
 ·rw [ens_append,show ens [fresh e]=enCells (fresh e) from by simp [ens],show (l++[fresh e]).length=l.length+1 from by simp]
  exact ho2.own hown (fun k hk=>line_ne at6 hown hk)
 ·rcases List.mem_append.1 he' with he' | he'
  ·refine ⟨(h.got e' he').1.only hoS (fun q hq=>((h.got e' he').2 q hq).1),fun q hq=>⟨?_,Nat.lt_of_lt_of_le ((h.got e' he').2 q hq).2 hoS.size⟩⟩
   rintro (rfl | hq')
   ·exact ((h.got e' he').2 _ hq).1 (.inl rfl)
   ·rcases hat with hat | hat
    ·exact ((h.got e' he').2 _ hq).1 (.inr (hat ▸ hq'))
    ·rw [hat] at hq'
     have:=((h.got e' he').2 _ hq).2
     injection hq' with hq'
     omega
  ·simp only [List.mem_singleton] at he'
   subst he'
   exact ⟨SlI.nil _ _,fun q hq=>by simp [fresh,Value.ownBlock] at hq⟩
 ·simp;omega
 ·rcases List.mem_append.1 he' with he' | he'
  ·exact h.short e' he'
  ·simp only [List.mem_singleton] at he'
   subst he'
   simp [fresh]
theorem only_added {w w6:World} {P:Nat} {v:Value} (v6:Value) (ho:Only (fun k=>v.ownBlock=some k) w w6):Only (LineS P v) w (w6.setCell ⟨P,0,none⟩ v6):=(ho.mono (fun _ _ hk=>.inr hk)).setCell (p:=⟨P,0,none⟩) (fun _=>.inl rfl) v6
theorem add_yes (P:Nat) (v:Value) (l:List En) (e:En) (A:Option Addr) (n c:Nat) (w:World) (hl:LineOf w P v l) (hix:ixI (isT e.thread) l=-1) (hf:l.length≤900) :
  Calls Tryz.prog 294 #[.pointer (some ⟨P,0,none⟩),reqV e (.slice A n c)] w fun e' w'=>∃ v',e'=.returned (.bool true)∧LineOf w' P v' (l++[fresh e])∧Only (LineS P v) w w'∧(v'.ownBlock=v.ownBlock∨∃ q,v'.ownBlock=some q∧w.heap.size≤q):=by
 obtain ⟨i0,hi0,hz0,hz1,hz2⟩:=info_parts entry_info
 have hp1:=(Only.refl (fun _=>False) w).alloc (.cells #[.int .i64 e.thread,.int .i64 e.frags,.int .i64 e.spine,.int .i64 e.state,.int .i64 e.cycles,.int .i64 e.at_,.slice A n c] 229)
 have hy:=heap_alloc_new w (.cells #[.int .i64 e.thread,.int .i64 e.frags,.int .i64 e.spine,.int .i64 e.state,.int .i64 e.cycles,.int .i64 e.at_,.slice A n c] 229)
 have HL:=hid (hl.pure hp1)
 have HY:=hid hy
 have P1:=hid hp1
 have HIX:=hid hix
 have HLT:=hid hl.lt
 have HGQ:=hid (fun (e':En) (he':e'∈l) (q:Nat) (hq:e'.gv.ownBlock=some q)=>((hl.got e' he').2 q hq).2)
 obtain ⟨AV,cV,rfl⟩:=hl.form
 clear hl hp1 hy hix
 go_enter Tryz.func294,Tryz.ntmps294
 go_wp2_with fail
 generalize w.alloc (.cells #[.int .i64 e.thread,.int .i64 e.frags,.int .i64 e.spine,.int .i64 e.state,.int .i64 e.cycles,.int .i64 e.at_,.slice A n c] 229)=W1 at *
 refine (of_any P _ l e.thread _ HL.out).mono ?_
 rw [HIX.out]
 rintro e1 w2 ⟨rfl,hp2⟩
 have P2:=hid (Pure.then P1.out hp2)
 have L2:=hid (HL.out.pure hp2)
 have hy2:=(hp2.block _ (Array.getElem?_eq_some_iff.1 HY.out).1 (fun f=>f)).trans HY.out
 obtain ⟨y0,y1,y2,y3,y4,y5,y6,yf0,yf1,yf2,yf3,yf4,yf5,yf6⟩:=seven hy2
 have HY2:=hid hy2
 clear hp2 hy2
 go_wp2_with fail
 have ho3:Only (fun q=>q=w.heap.size) w2 ((((w2.setCell ⟨w.heap.size,3,none⟩ (.int .i64 0)).setCell ⟨w.heap.size,4,none⟩ (.int .i64 0)).setCell ⟨w.heap.size,5,none⟩ (.int .i64 (-1))).setCell ⟨w.heap.size,6,none⟩ (.slice none 0 0)):=only_set (only_set (only_set (only_set (Only.refl _ _) _ _) _ _) _ _) _ _
 have hy3:(((((w2.setCell ⟨w.heap.size,3,none⟩ (.int .i64 0)).setCell ⟨w.heap.size,4,none⟩ (.int .i64 0)).setCell ⟨w.heap.size,5,none⟩ (.int .i64 (-1))).setCell ⟨w.heap.size,6,none⟩ (.slice none 0 0))).heap[w.heap.size]?=some (.cells #[.int .i64 e.thread,.int .i64 e.frags,.int .i64 e.spine,.int .i64 0,.int .i64 0,.int .i64 (-1),.slice none 0 0] 229 (0,0)):=by
  simp [World.setCell,Array.getElem?_modify,HY2.out]
 have hl3:LineOf (((((w2.setCell ⟨w.heap.size,3,none⟩ (.int .i64 0)).setCell ⟨w.heap.size,4,none⟩ (.int .i64 0)).setCell ⟨w.heap.size,5,none⟩ (.int .i64 (-1))).setCell ⟨w.heap.size,6,none⟩ (.slice none 0 0))) P (.slice AV l.length cV) l:=L2.out.only ho3 (fun k hk e=>by have:=HLT.out k hk;omega) (fun e' he' q hq e=>by have:=HGQ.out e' he' q hq;omega)
 have P3:=hid (P2.out.trans ho3 (fun i hi e=>by omega))
 clear y0 y1 y2 y3 y4 y5 y6 yf0 yf1 yf2 yf3 yf4 yf5 yf6
 generalize ((((w2.setCell ⟨w.heap.size,3,none⟩ (.int .i64 0)).setCell ⟨w.heap.size,4,none⟩ (.int .i64 0)).setCell ⟨w.heap.size,5,none⟩ (.int .i64 (-1))).setCell ⟨w.heap.size,6,none⟩ (.slice none 0 0))=V3 at *
 have HO3:=hid ho3
 obtain ⟨y0,y1,y2,y3,y4,y5,y6,_⟩:=seven hy3
 have L3:=hid hl3
 have c0:(V3.alloc (.cells #[.int .i64 e.thread,.int .i64 e.frags,.int .i64 e.spine,.int .i64 0,.int .i64 0,.int .i64 (-1),.slice none 0 0,.bool false] 271)).cell? ⟨P,0,none⟩=some (.slice AV l.length cV):=Pure.keep ((Only.refl (fun _=>False) V3).alloc _) hl3.c0
 have c0b:(V3.alloc (.cells #[.int .i64 e.thread,.int .i64 e.frags,.int .i64 e.spine,.int .i64 0,.int .i64 0,.int .i64 (-1),.slice none 0 0,.bool false] 271)).drew.cell? ⟨P,0,none⟩=some (.slice AV l.length cV):=c0
 have c0c:(V3.drew.alloc (.cells #[.int .i64 e.thread,.int .i64 e.frags,.int .i64 e.spine,.int .i64 0,.int .i64 0,.int .i64 (-1),.slice none 0 0,.bool false] 271)).cell? ⟨P,0,none⟩=some (.slice AV l.length cV):=c0
 have c0d:V3.drew.cell? ⟨P,0,none⟩=some (.slice AV l.length cV):=hl3.c0
 have c0e:V3.cell? ⟨P,0,none⟩=some (.slice AV l.length cV):=hl3.c0
 have lt0:P<V3.heap.size:=(Array.getElem?_eq_some_iff.1 hl3.at_).1
 have HP3:=hid hl3.at_
 clear ho3 hy3 hl3
 go_region_law ((first | (refine step_app rfl (.tmp 18) (.tmp 21) _ rfl 0 271 i0 _ 8 80 Tryz.underlying215 hi0 hz0 hz1 hz2 rfl (by omega) (.slice AV l.length cV) l.length (ens l) rfl (World.ownsRow.alloc (w:=V3.drew) L3.out.own _) _ 1 1 (enCells (fresh e)) rfl (Src.row V3.drew _ #[.int .i64 e.thread,.int .i64 e.frags,.int .i64 e.spine,.int .i64 0,.int .i64 0,.int .i64 (-1),.slice none 0 0,.bool false] 8 1 _ rfl rfl) (by simp [enCells,fresh,Value.oneCell']) (by simp only [maxLen];omega) (by omega) (by omega) ?_;intro v6 w6 hown6 hg6 hat6;obtain ⟨A6,c6,rfl⟩:=own_form hown6;have HO6:=hid (Only.grown (S:=fun k=>(Value.slice AV l.length cV).ownBlock=some k) ((show Only _ V3 V3.drew from ⟨rfl,rfl,rfl,Nat.le_refl _,fun _ _ _=>rfl⟩).alloc _) hg6 (fun k _ e=>e));have at6:=(HO6.out.block P (Array.getElem?_eq_some_iff.1 HP3.out).1 (fun e'=>line_ne HP3.out L3.out.own e' rfl)).trans HP3.out;have s6:=cell_of_row w6 P 0 _ _ _ at6;have s6f:=frozen_of_row w6 P 0 _ _ at6;have HAT6:=hid hat6;have OWN6:=hid hown6;clear hat6 hown6 hg6 at6)))
 all_goals
  go_wp2_with fail
  go_ret
  refine ⟨_,rfl,LineOf.added L3.out HO6.out OWN6.out HAT6.out (by simp) hf,(P3.out.mono (fun _ _ f=>f.elim)).trans (only_added (P:=P) _ HO6.out) (fun _ _ h=>h),?_⟩
  rcases HAT6.out with h | h
  ·exact .inl h
  ·exact .inr ⟨_,h,by have:=P3.out.size;simp;omega⟩
end Go.Proofs.YtpgdiceeimehiaaGreat.Ln
