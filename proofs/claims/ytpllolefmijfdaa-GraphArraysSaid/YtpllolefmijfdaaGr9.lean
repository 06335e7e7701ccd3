/-
  The contracts of graph.New, Join, Len, Size, Locals, Globals.
-/
import Derived.Test.YtpllolefmijfdaaGr8
import Derived.Deep.RegionLaw
import Derived.WideMake
import Derived.Carry
namespace Go.Proofs.Ytpllolefmijfdaa
open Go.RowKit

theorem step_app {P : Program} {ops : Array Oper} {o : Oper} {a : Act} {w : World} {K : Act → World → Prop} {Q : Exit → Act → World → Prop} {E : Prop} (hgd : o.guard = none) (s x : Operand) (t : TypeId)
    (ho : o.op = .call { callee := .builtin .append, args := #[s, x], argTypes := #[t, t] })
    (base : Nat) (e : TypeId) (i : TypeInfo) (z : Value) (size bytes : Nat) (ht : P.underlying t = some (.slice e)) (hi : P.info? e = some i) (hz : i.zero = some z)
    (hsize : i.size = size) (hby : i.bytes = bytes) (hzs : z.cells.size = size) (hsz : 0 < size)
    (v : Value) (n : Nat) (xs : List Value) (hs : a.eval s = v) (hown : w.ownsRow base e size v n xs)
    (A : Option Addr) (m c : Nat) (news : List Value) (hx : a.eval x = .slice A m c) (hsrc : Src w size A m news) (h1 : ∀ u ∈ news, u.oneCell' = true)
    (h63 : n + m ≤ maxLen) (hbytes : (n + m) * bytes ≤ 140737488355328) (hbase : base ≤ w.heap.size)
    (h : ∀ v' w', w'.ownsRow base e size v' (n + m) (xs ++ news) → w.grownBy w' v.ownBlock → (v'.ownBlock = v.ownBlock ∨ v'.ownBlock = some w.heap.size) → K (a.put o.dst v') w') :
    if Region.wanted o (yielded ops a.tmps) = true then Oper.wp P o a w K Q else E := by
  have hw : Region.wanted o (yielded ops a.tmps) = true := by simp [Region.wanted, hgd]
  rw [if_pos hw]
  obtain ⟨v', w', hr, h2, h3, h4⟩ := run_app (P := P) w base t o.type e i z size bytes ht hi hz hsize hby hzs hsz v n xs hown A m c news hsrc h1 h63 hbytes hbase
  unfold Oper.wp execOp
  simp only [ho, resolve, invoke, builtin, Sem.run_bind, Sem.run_pure, Result.andThen_ok, List.map_toArray, List.map_cons, List.map_nil, hs, hx, hr]
  exact h v' w' h2 h3 h4

theorem Pure.alloc' {a b : World} (h : Pure a b) (o : Obj) : Pure a (b.alloc o) := Only.alloc h o
theorem run_mkmap (t : TypeId) (w : World) : (Instr.makeMap t none).run Try.prog w = .ok (.map (some w.heap.size)) (w.alloc (.map #[] 0)) := rfl

theorem len_any {w : World} {κ : Nat → Option Cl} {G : Nat} {st : GS} {y : Ly} (h : GRL w κ G st y) : Calls Try.prog 13 #[.pointer (some ⟨G, 0, none⟩)] w fun e w' => e = .returned (.int .i64 st.th.length) ∧ w = w' := by
  have c9 := h.c9
  clear h
  go_enter Try.func13, Try.ntmps13
  go_wp2_with fail
  go_ret
  exact ⟨rfl, rfl⟩

/-- While the globals are laid. -/
structure NwR (W : World) (G : Nat) (c : Cn) (A : Option Addr) (n d M : Nat) (k : Nat) (v : Value) (w : World) : Prop where
  blk : w.heap[G]? = some (.cells (gCells c (.slice A n d) (.slice none 0 0) M v) 60 (0, 0))
  own : w.ownsRow W.heap.size 34 2 v k (vcs (List.replicate k noneVl))
  only : Only (fun q => q = G) W w

theorem vcs_rep (k : Nat) (u : Vl) : vcs (List.replicate (k + 1) u) = vcs (List.replicate k u) ++ [.bool u.r, .complex .f64 u.x u.y] := by
  rw [List.replicate_succ', vcs_append]; rfl
theorem NwR.app {W wr w1 w6 : World} {G M k n d : Nat} {c : Cn} {A : Option Addr} {v : Value} {o : Obj} (h : NwR W G c A n d M k v wr) (hG : G < W.heap.size) (hp : Pure wr w1) (hg : (w1.alloc o).grownBy w6 v.ownBlock) :
    w6.heap[G]? = some (.cells (gCells c (.slice A n d) (.slice none 0 0) M v) 60 (0, 0)) ∧ Only (fun q => v.ownBlock = some q) wr w6 := by
  have ho : Only (fun q => v.ownBlock = some q) wr w6 := ((hp.mono (fun _ _ f => f.elim)).alloc o).grown hg (fun _ _ e => e)
  exact ⟨ho.blk h.blk (fun e => by have := (h.own.lt G e).1; omega), ho⟩
theorem NwR.step {W wr w6 : World} {G M k n d : Nat} {c : Cn} {A : Option Addr} {v v6 : Value} (h : NwR W G c A n d M k v wr) (hG : G < W.heap.size) (ho : Only (fun q => v.ownBlock = some q) wr w6)
    (hb : w6.heap[G]? = some (.cells (gCells c (.slice A n d) (.slice none 0 0) M v) 60 (0, 0))) (hown : w6.ownsRow W.heap.size 34 2 v6 (k + 1) (vcs (List.replicate k noneVl) ++ [.bool true, .complex .f64 0 4607182418800017408])) :
    NwR W G c A n d M (k + 1) v6 (w6.setCell ⟨G, 11, none⟩ v6) := by
  have hs : Only (fun q => q = G) w6 (w6.setCell ⟨G, 11, none⟩ v6) := (Only.refl (fun q => q = G) w6).setCell (p := ⟨G, 11, none⟩) (fun _ => rfl) _
  refine ⟨by simp [World.setCell, Array.getElem?_modify, hb], ?_, ?_⟩
  · rw [vcs_rep]
    exact hs.own hown (fun q hq e => by have := (hown.lt q hq).1; omega)
  · exact (h.only.trans ho (fun q hq e => by have := (h.own.lt q e).1; omega)).trans hs (fun q hq e => e)

theorem new_end {w w3 W5 wf : World} {c : Cn} {l m : List Sh} {A3 E : Option Addr} {d3 ec g B : Nat} (h3 : Pure w w3) (hB : w.heap.size ≤ B) (hown : w3.ownsRow B 46 2 (.slice A3 l.length d3) l.length (shCells m))
    (hsl : ∀ s ∈ m, SlG w3 w3.heap.size s.v (bools s.bs)) (hap : ∀ s ∈ m, ∀ q, s.v.ownBlock = some q → (Value.slice A3 l.length d3).ownBlock ≠ some q ∧ B ≤ q ∧ q < w3.heap.size) (hal : alike l m) (hck : checkI c l = 0)
    (p5 : Pure w3 W5) (hbm : W5.heap[w3.heap.size]? = some (.map #[] 0)) (hG : w3.heap.size + 1 < W5.heap.size) (R : NwR W5 (w3.heap.size + 1) c A3 l.length d3 w3.heap.size g (.slice E g ec) wf) :
    ∃ κ, GR wf κ (w3.heap.size + 1) ⟨c, l.map fun s => (s.a, s.bs), [], none, List.replicate g noneVl⟩ ∧ Pure w wf ∧ ∀ k, κ k ≠ none → w.heap.size ≤ k := by
  have hlen := hal.length
  have hs3 := h3.size
  have hs5 := p5.size
  have hE := R.own.lt
  have hA := hown.lt
  have hsf := R.only.size
  have hpf : Pure w wf := (h3.then p5).trans R.only (fun k hk e => by omega)
  have hof : Only (fun q => q = w3.heap.size + 1) w3 wf := (p5.mono (fun _ _ f => f.elim)).trans R.only (fun _ _ e => e)
  let κ : Nat → Option Cl := fun k => if k = w3.heap.size + 1 then some .g else if k = w3.heap.size then some .m else if (Value.slice E g ec).ownBlock = some k then some .l else if (Value.slice A3 l.length d3).ownBlock = some k then some .s else if (m.any fun s => s.v.ownBlock == some k) = true then some .s else none
  have kG : κ (w3.heap.size + 1) = some .g := if_pos rfl
  have kM : κ w3.heap.size = some .m := (if_neg (by omega)).trans (if_pos rfl)
  have kE : ∀ k, (Value.slice E g ec).ownBlock = some k → κ k = some .l := fun k hk => by
    have := (hE k hk).1
    exact ((if_neg (by omega)).trans (if_neg (by omega))).trans (if_pos hk)
  have kA : ∀ k, (Value.slice A3 l.length d3).ownBlock = some k → κ k = some .s := fun k hk => by
    have := (hA k hk).2
    exact (((if_neg (by omega)).trans (if_neg (by omega))).trans (if_neg (fun e => by have := (hE k e).1; omega))).trans (if_pos hk)
  have kS : ∀ s ∈ m, ∀ k, s.v.ownBlock = some k → κ k = some .s := fun s hs k hk => by
    have := hap s hs k hk
    refine ((((if_neg (by omega)).trans (if_neg (by omega))).trans (if_neg (fun e => by have := (hE k e).1; omega))).trans (if_neg this.1)).trans (if_pos ?_)
    rw [List.any_eq_true]
    exact ⟨s, hs, by simp [hk]⟩
  have kdom : ∀ k, κ k ≠ none → w.heap.size ≤ k ∧ k < wf.heap.size := fun k hk => by
    by_cases c1 : k = w3.heap.size + 1
    · omega
    · by_cases c2 : k = w3.heap.size
      · omega
      · by_cases c3 : (Value.slice E g ec).ownBlock = some k
        · have := hE k c3; omega
        · by_cases c4 : (Value.slice A3 l.length d3).ownBlock = some k
          · have := hA k c4; omega
          · by_cases c5 : (m.any fun s => s.v.ownBlock == some k) = true
            · rw [List.any_eq_true] at c5
              obtain ⟨s, hs, h⟩ := c5
              have := hap s hs k (by simpa using h)
              omega
            · exact absurd (((((if_neg c1).trans (if_neg c2)).trans (if_neg c3)).trans (if_neg c4)).trans (if_neg c5)) hk
  refine ⟨κ, ⟨⟨A3, d3, m, none, 0, [], w3.heap.size, E, ec, 0⟩, ?_⟩, hpf, fun k hk => (kdom k hk).1⟩
  have hown' : wf.ownsRow B 46 2 (.slice A3 l.length d3) l.length (shCells m) := hof.own hown (fun k hk e => by have := (hA k hk).2; omega)
  have hsl' : ∀ s ∈ m, SlG wf wf.heap.size s.v (bools s.bs) := fun s hs => (hsl s hs).only hof (fun k hk e => by have := (hap s hs k hk).2.2; omega)
  exact {
    dom := fun k hk => (kdom k hk).2
    blk := by dsimp only; rw [List.length_replicate, ← hlen]; exact R.blk
    kG := kG
    shs := by dsimp only; rw [← hlen]; exact ShsR.of_own hown' hsl'
    shm := hal.symm
    shk := by dsimp only; rw [← hlen]; exact kA
    shk' := kS
    ok := by rw [← hal.check]; exact hck
    row := World.ownsRow_nil _ _ _ _
    rowk := fun k hk => by simp [Value.ownBlock] at hk
    ths := fun i t ht => by simp at ht
    map := ⟨0, R.only.blk hbm (show ¬ w3.heap.size = w3.heap.size + 1 by omega)⟩
    mapk := kM
    glo := by dsimp only; rw [List.length_replicate]; exact own_mono R.own (Nat.zero_le _)
    glok := by dsimp only; rw [List.length_replicate]; exact kE }

theorem vl_info' : (Try.prog.info? 34).map (fun i => (i.zero, i.size, i.bytes)) = some (some (.agg #[.bool false, .complex .f64 0 0]), 2, 24) := by kernel_rfl


set_option maxRecDepth 100000 in
set_option maxHeartbeats 4000000 in
theorem new_any (c : Cn) (v : Value) (l : List Sh) (w : World) (hl : ShsR w w.heap.size v l) (hck : checkI c l = 0) (g : Nat) (hg : c.globals = g) (hg1 : g ≤ 1000) (hn : l.length ≤ 1000) (hx : ∀ s ∈ l, s.bs.length ≤ 1000000) :
    Calls Try.prog 8 #[cnV c v] w fun e w' => ∃ (G : Nat) (κ : Nat → Option Cl), e = .returned (.tuple #[.pointer (some ⟨G, 0, none⟩), .int .i64 0]) ∧ GR w' κ G ⟨c, l.map fun s => (s.a, s.bs), [], none, List.replicate g noneVl⟩ ∧ Pure w w' ∧ ∀ k, κ k ≠ none → w.heap.size ≤ k := by
  obtain ⟨i0, hi0, hz0, hz1, hz2⟩ := info_parts vl_info'
  have hle : l.length ≤ 1000 := hn
  obtain ⟨A, cc, rfl⟩ : ∃ A cc, v = .slice A l.length cc := by obtain ⟨⟨A, cc, e, -⟩, -⟩ := hl; exact ⟨A, cc, e⟩
  have hp1 := (Only.refl (fun _ => False) w).alloc (.cells #[.int .i64 c.frags, .int .i64 c.spine, .int .i64 c.globals, .int .i64 c.threads, .int .i64 c.locals, .int .i64 c.cache, .int .i64 c.stack, .int .i64 c.low, .slice A l.length cc] 25)
  have hb := heap_alloc_new w (.cells #[.int .i64 c.frags, .int .i64 c.spine, .int .i64 c.globals, .int .i64 c.threads, .int .i64 c.locals, .int .i64 c.cache, .int .i64 c.stack, .int .i64 c.low, .slice A l.length cc] 25)
  have HL := Lib.hid (fun (w' : World) (hp : Pure w w') => hl.pure hp)
  have HX := Lib.hid hx
  have HGL := Lib.hid hg
  obtain ⟨c0, c1, c2, c3, c4, c5, c6, c7, c8⟩ := conf9 hb
  have P1 := Lib.hid hp1
  have HB := Lib.hid hb
  have HMK := run_mkmap 57
  clear hl hp1 hx hb hn hg
  go_enter Try.func8, Try.ntmps8
  go_wp2_with fail
  refine (check_any c (.slice A l.length cc) l _ (HL.out _ P1.out)).mono ?_
  rw [hck]
  rintro e w2 ⟨rfl, hp2⟩
  have P2 := Lib.hid (Pure.then P1.out hp2)
  have HB2 := Lib.hid (Pure.blk hp2 HB.out)
  clear hp2 c0 c1 c2 c3 c4 c5 c6 c7 c8
  obtain ⟨c0, c1, c2, c3, c4, c5, c6, c7, c8⟩ := conf9 HB2.out
  go_wp2_with fail
  refine (copy_any c (.slice A l.length cc) l _ (HL.out _ P2.out) hle HX.out).mono ?_
  rintro e w3 ⟨A3, d3, m, rfl, hp3, hown, hsl, hap, hlike⟩
  have P3 := Lib.hid (Pure.then P2.out hp3)
  have HB3 := Lib.hid (Pure.blk hp3 HB2.out)
  have HOWN := Lib.hid hown
  have HSL := Lib.hid hsl
  have HAP := Lib.hid hap
  have HLK := Lib.hid hlike
  have HSZ2 := Lib.hid P2.out.size
  clear hp3 hown hsl hap hlike c0 c1 c2 c3 c4 c5 c6 c7 c8
  have hp4 := (Only.refl (fun _ => False) w3).alloc (.map #[] 0)
  have hp5 := hp4.alloc (.cells (gCells c (.slice A3 l.length d3) (.slice none 0 0) w3.heap.size (.slice none 0 0)) 60)
  have c2 : ((w3.alloc (.map #[] 0)).alloc (.cells (gCells c (.slice A3 l.length d3) (.slice none 0 0) w3.heap.size (.slice none 0 0)) 60)).cell? ⟨w.heap.size, 2, none⟩ = some (.int .i64 g) := by rw [← HGL.out]; exact (conf9 (Pure.blk hp5 HB3.out)).2.2.1
  have hbm := Pure.blk ((Only.refl (fun _ => False) _).alloc (.cells (gCells c (.slice A3 l.length d3) (.slice none 0 0) w3.heap.size (.slice none 0 0)) 60)) (heap_alloc_new w3 (.map #[] 0))
  have hbg := heap_alloc_new (w3.alloc (.map #[] 0)) (.cells (gCells c (.slice A3 l.length d3) (.slice none 0 0) w3.heap.size (.slice none 0 0)) 60)
  rw [show (w3.alloc (.map #[] 0)).heap.size = w3.heap.size + 1 from by simp] at hbg
  have P5 := Lib.hid hp5
  have HBM := Lib.hid hbm
  have HBG := Lib.hid hbg
  clear hp4 hp5 hbm hbg
  go_wp2_with fail
  have HG5 : Hid (w3.heap.size + 1 < ((w3.alloc (.map #[] 0)).alloc (.cells (gCells c (.slice A3 l.length d3) (.slice none 0 0) w3.heap.size (.slice none 0 0)) 60)).heap.size) := Lib.hid (by simp)
  clear c2
  generalize (w3.alloc (.map #[] 0)).alloc (.cells (gCells c (.slice A3 l.length d3) (.slice none 0 0) w3.heap.size (.slice none 0 0)) 60) = W5 at *
  go_loopw [18] (fun i wr => ∃ (k ec : Nat) (E : Option Addr), k ≤ g ∧ i = .int .i64 k ∧ NwR W5 (w3.heap.size + 1) c A3 l.length d3 w3.heap.size k (.slice E k ec) wr) (fun i _ => g - (intOf i).toNat)
  case atStart => exact ⟨0, 0, none, Nat.zero_le _, rfl, HBG.out, World.ownsRow_nil _ _ _ _, Only.refl _ _⟩
  case round =>
    obtain ⟨k, ec, E, hk, rfl, hR⟩ := hrel
    have R := Lib.hid hR
    by_cases hlt : k < g
    · have c11 : wr.cell? ⟨w3.heap.size + 1, 11, none⟩ = some (.slice E k ec) := by rw [cell_of_row _ _ _ _ _ _ hR.blk]; rfl
      clear hR
      go_wp2_with fail
      go_region_law ((first | (refine step_app rfl (.tmp 24) (.tmp 26) _ rfl W5.heap.size 34 i0 _ 2 24 Try.underlying51 hi0 hz0 hz1 hz2 rfl (by omega) (.slice E k ec) k (vcs (List.replicate k noneVl)) rfl (World.ownsRow.alloc (HP1.out.own (World.ownsRow.drew R.out.own) (fun _ _ f => f)) _) _ 1 1 [.bool true, .complex .f64 0 4607182418800017408] rfl (Src.row w1 _ #[.bool true, .complex .f64 0 4607182418800017408] 2 1 _ rfl rfl) (by simp [Value.oneCell']) (by simp only [maxLen]; omega) (by omega) (by have h1 := HP1.out.size; have h2 := R.out.only.size; simp at h1 ⊢; omega) ?_; intro v6 w6 hown6 hg6 hat6; obtain ⟨A6, c6, rfl⟩ := own_form hown6; obtain ⟨hb6, ho6⟩ := R.out.app HG5.out (Pure.then ((Only.refl _ _).drewN 1) HP1.out) hg6; have s6 : w6.cell? ⟨w3.heap.size + 1, 11, none⟩ = some (.slice E k ec) := (by rw [cell_of_row _ _ _ _ _ _ hb6]; rfl); have s6f := frozen_of_row w6 (w3.heap.size + 1) 11 _ _ hb6; have HS6 := Lib.hid (R.out.step HG5.out ho6 hb6 hown6); clear hb6 ho6 hat6 hown6 hg6) | (go_simp; go_at_call 22; refine (none_val _).mono ?_; rw [show vlV noneVl = .agg #[.bool true, .complex .f64 0 4607182418800017408] from rfl]; rintro e w1 ⟨rfl, hp1⟩; have HP1 := Lib.hid hp1; have hb1 := Pure.blk (Pure.then ((Only.refl _ _).drewN 1) hp1) R.out.blk; have d11 : w1.cell? ⟨w3.heap.size + 1, 11, none⟩ = some (.slice E k ec) := (by rw [cell_of_row _ _ _ _ _ _ hb1]; rfl); have d12 : (w1.alloc (.cells #[.bool true, .complex .f64 0 4607182418800017408] 34)).cell? ⟨w3.heap.size + 1, 11, none⟩ = some (.slice E k ec) := Pure.keep ((Only.refl _ _).alloc _) d11; clear hp1 hb1)))
      all_goals
        go_wp2_with fail
        go_roundw
        case rel => exact ⟨k + 1, c6, A6, by omega, by go_num, HS6.out⟩
        case measure => simp [intOf]; omega
    · obtain rfl : k = g := by omega
      go_wp2_with fail
      refine bodyPost_ret (v := .tuple #[.pointer (some ⟨w3.heap.size + 1, 0, none⟩), .int .i64 0]) (by simp [results, Try.results8, go_sem]) rfl ?_
      obtain ⟨κ, h1, h2, h3⟩ := new_end P3.out HSZ2.out HOWN.out HSL.out HAP.out HLK.out hck P5.out HBM.out HG5.out R.out
      exact ⟨_, κ, rfl, h1, h2, h3⟩


theorem join_end {w : World} {κ : Nat → Option Cl} {G n clock born : Nat} {st : GS} {y : Ly} {u : Vl} {o : Obj} (h : GRL w κ G st y) (hp : Pure w (w.alloc o)) (hb : (w.alloc o).heap[w.heap.size]? = some (.cells (vcs (List.replicate n u)).toArray 34 (0, 0))) (hn : n ≤ 1000000) (hbc : born < clock) :
    GNew w κ G { st with loc := some (List.replicate n u) } w.heap.size (Go.ChangeMaps.setBlock (w.alloc o).drew y.M (.map #[⟨.int .i64 0, .slice (some ⟨w.heap.size, 0, none⟩) n n, born⟩] clock)) := by
  have hM := h.dom y.M (by rw [h.mapk]; simp)
  have hs := setBlock_only (w.alloc o).drew y.M (.map #[⟨.int .i64 0, .slice (some ⟨w.heap.size, 0, none⟩) n n, born⟩] clock)
  have ho : Only (fun k => k = y.M) w (Go.ChangeMaps.setBlock (w.alloc o).drew y.M (.map #[⟨.int .i64 0, .slice (some ⟨w.heap.size, 0, none⟩) n n, born⟩] clock)) := ((hp.drewN 1).mono (fun _ _ f => f.elim)).trans hs (fun _ _ e => e)
  have hsz : (w.alloc o).heap.size = w.heap.size + 1 := by simp
  refine ⟨fun k => if k = w.heap.size then some .o else κ k, _, h.setMap (o := some (List.replicate n u)) (lb := w.heap.size) _ (fun k hk => if_neg (fun e => by have := h.dom k hk; omega)) (fun k hk => ?_) ho ?_, rfl, ho.mono (fun k _ e => by subst e; rw [h.mapk]; simp), fun k hk => if_neg (by omega)⟩
  · have hsz2 := hs.size
    have : (w.alloc o).drew.heap.size = w.heap.size + 1 := hsz
    by_cases e : k = w.heap.size
    · omega
    · have := h.dom k (by simpa [e] using hk)
      omega
  · refine ⟨⟨clock, born, hbc, ?_⟩, hs.blk (show (w.alloc o).drew.heap[w.heap.size]? = _ from hb) (show ¬ w.heap.size = y.M by omega), if_pos rfl, by simpa using hn⟩
    rw [List.length_replicate]
    exact setBlock_get _ _ _ (show y.M < (w.alloc o).drew.heap.size from by show y.M < (w.alloc o).heap.size; omega)

theorem make_vl (m : Nat) (hm : m ≤ 1000000) (w : World) : (Instr.makeSlice 51 (.int .i64 m) (.int .i64 m)).run Try.prog w = .ok (.slice (some ⟨w.heap.size, 0, none⟩) m m) (w.alloc (.cells (vcs (List.replicate m zeroVl)).toArray 34)) := by
  obtain ⟨i0, hi0, hz0, hz1, hz2⟩ := info_parts vl_info'
  rw [run_make w 51 34 i0 _ Try.underlying51 hi0 hz0 .i64 .i64 m m (by omega) (by omega) (by rw [hz2]; omega) (by omega)]
  have e : ∀ m : Nat, madeCells (Value.agg #[.bool false, .complex .f64 0 0]).cells (m * 2) = (vcs (List.replicate m zeroVl)).toArray := by
    intro m
    apply Array.ext
    · simp [vcs_length, size_madeCells]
    · intro i h1 h2
      have h1' : i < m * 2 := by simpa [size_madeCells] using h1
      obtain ⟨j, hj'⟩ : ∃ j, i = j * 2 ∨ i = j * 2 + 1 := ⟨i / 2, by omega⟩
      have hj : j < m := by omega
      rcases hj' with rfl | rfl
      · have := (vcs_get (List.replicate m zeroVl) j zeroVl (by simp [hj])).1
        have h3 := List.getElem?_eq_some_iff.1 this
        simp [madeCells, Value.cells]
        exact h3.2.symm
      · have := (vcs_get (List.replicate m zeroVl) j zeroVl (by simp [hj])).2
        have h3 := List.getElem?_eq_some_iff.1 this
        simp [madeCells, Value.cells, Nat.add_mod]
        exact h3.2.symm
  rw [hz1, Int.toNat_natCast, e]

set_option maxRecDepth 100000 in
set_option maxHeartbeats 4000000 in
theorem join_any {w : World} {κ : Nat → Option Cl} {G : Nat} {st : GS} {y : Ly} (h : GRL w κ G st y) (hl : st.loc = none) (ht : 0 < st.c.threads) (n : Nat) (hn : st.c.locals = n) (hn1 : n ≤ 1000) :
    Calls Try.prog 9 #[.pointer (some ⟨G, 0, none⟩), .int .i64 0] w fun e w' => e = .returned (.bool true) ∧ GNew w κ G { st with loc := some (List.replicate n zeroVl) } w.heap.size w' := by
  have hmp := h.map
  rw [hl] at hmp
  obtain ⟨clock, hmp⟩ := hmp
  have hpa := (Only.refl (fun _ => False) w).alloc (.cells (vcs (List.replicate n zeroVl)).toArray 34)
  have c10 := h.c10
  obtain ⟨-, -, -, c3, c4, -, -, -, -⟩ := h.cells
  have d10 := (h.pure hpa).c10
  obtain ⟨-, -, -, d3, d4, -, -, -, -⟩ := (h.pure hpa).cells
  rw [hn] at c4 d4
  have qn : ∀ (w : World), (binOp .neq 51 (.slice none 0 0) (.slice none 0 0)).run Try.prog w = .ok (.bool false) w := fun w => run_neq_slice_nil_any w _ _ _ _ _ _ _ Try.underlying51
  have hlk := map_look0 hmp
  have hmk := make_vl n (by omega)
  have hpt : ∀ v, (Instr.mapUpdate 57 (.map (some y.M)) (.int .i64 0) v).run Try.prog (w.alloc (.cells (vcs (List.replicate n zeroVl)).toArray 34)).drew = .ok () (Go.ChangeMaps.setBlock (w.alloc (.cells (vcs (List.replicate n zeroVl)).toArray 34)).drew y.M (.map #[⟨.int .i64 0, v, clock⟩] (clock + 1))) := fun v => map_put0 (Pure.blk (Pure.then hpa ((Only.refl _ _).drewN 1)) hmp)
  have hpt2 : ∀ v, (Instr.mapUpdate 57 (.map (some y.M)) (.int .i64 0) v).run Try.prog (w.drew.alloc (.cells (vcs (List.replicate n zeroVl)).toArray 34)) = .ok () (Go.ChangeMaps.setBlock (w.drew.alloc (.cells (vcs (List.replicate n zeroVl)).toArray 34)) y.M (.map #[⟨.int .i64 0, v, clock⟩] (clock + 1))) := fun v => map_put0 (Pure.blk (Pure.alloc' ((Only.refl _ _).drewN 1) _) hmp)
  have HH := Lib.hid h
  have HPA := Lib.hid hpa
  have HNL := Lib.hid hn
  have HTH : ¬ (st.c.threads ≤ 0) := by omega
  have HLN := Lib.hid hl
  clear h hmp hpa hn hl ht
  go_enter Try.func9, Try.ntmps9
  go_wp2_with fail
  go_region_with (fail)
  all_goals (go_wp2_with fail)
  all_goals exact bodyPost_ret (v := .bool true) (by simp [results, Try.results9, go_sem]) rfl ⟨rfl, join_end HH.out HPA.out (heap_alloc_new w _) (by omega) (by omega)⟩

/-! ### How large one is -/
theorem size_of {w : World} {κ : Nat → Option Cl} {G : Nat} {st : GS} {y : Ly} (h : GRL w κ G st y) (i : Nat) (t : Th) (ht : st.th[i]? = some t) (_hlen : st.th.length ≤ 1000000) (hrl : t.rs.length ≤ 1000000) :
    Calls Try.prog 26 #[.pointer (some ⟨G, 0, none⟩), .int .i64 i] w fun e w' => e = .returned (.tuple #[.int .i64 (sizeI t.a t.rs.length t.n), .int .i64 (spineI t.a t.rs.length t.n)]) ∧ Pure w w' := by
  obtain ⟨p, hp, hT⟩ := h.thOf ht
  have c9 := h.c9
  obtain ⟨hlt, b, hB, cb⟩ := h.pt hp
  rw [hB] at c9
  have HT := Lib.hid (fun W (k : Pure w W) => (hT.only k (fun _ _ f => f) (fun _ _ f => f)).cells)
  obtain ⟨A, cr, q, t0, t1, t2, t3, t4, -, -⟩ := hT.cells
  have HC := Lib.hid (fun W (k : Pure w W) => And.intro (Pure.keep k t1) (And.intro (Pure.keep k t2) (Pure.keep k t3)))
  clear h hp hT hB ht t0 t1 t2 t3 t4
  go_enter Try.func26, Try.ntmps26
  go_wp2_with fail
  refine region_class (fun W => Pure w W) ((Only.refl _ _).drewN 1) (by kernel_rfl) (by kernel_rfl) ?_
  intro S f hS hf hmk
  have s1 := fun s => (HC.out (f s) (hf s)).1
  have s2 := fun s => (HC.out (f s) (hf s)).2.1
  have s3 := fun s => (HC.out (f s) (hf s)).2.2
  have HF := Lib.hid hf
  have HM := Lib.hid hmk
  clear hf hmk
  repeat (go_big_quiet_step ((first | (go_at_call 14; exact class_call HM.out (HF.out _) (fun _ hd hp => hd.then hp) (size_any t.a A t.rs.length cr t.n _ (by omega))) | (go_at_call 15; exact class_call HM.out (HF.out _) (fun _ hd hp => hd.then hp) (spine_any t.a A t.rs.length cr t.n _ (by omega))))))
  clear s1 s2 s3
  refine wpQuiet_nil ?_
  rintro w9 ⟨s9, e9⟩
  have D9 := Lib.hid (HF.out s9)
  rw [← e9] at D9
  clear e9 HF HM hS s9
  go_wp2_with fail
  exact bodyPost_ret (v := .tuple #[.int .i64 (sizeI t.a t.rs.length t.n), .int .i64 (spineI t.a t.rs.length t.n)]) (by simp [results, Try.results26, go_sem]) rfl ⟨rfl, D9.out⟩

/-! ### Copies of values -/
theorem cloneV_nil (w : World) : Calls Try.prog 31 #[.slice none 0 0] w fun e w' => e = .returned (.slice none 0 0) ∧ Pure w w' := by
  have heq := fun w : World => Lib.run_eql_slice_nil (P := Try.prog) w 51 34 none 0 0 0 0 Try.underlying51
  go_enter Try.func31, Try.ntmps31
  go_wp2_with fail
  go_ret
  exact ⟨rfl, Only.refl _ _⟩
theorem cloneV_any (b c : Nat) (l : List Vl) (w : World) (h : Src w 2 (some ⟨b, 0, none⟩) l.length (vcs l)) (hb : b < w.heap.size) (hx : l.length ≤ 1000000) :
    Calls Try.prog 31 #[.slice (some ⟨b, 0, none⟩) l.length c] w fun e w' => ∃ v', e = .returned v' ∧ Pure w w' ∧ w'.ownsRow w.heap.size 34 2 v' l.length (vcs l) := by
  obtain ⟨i0, hi0, hz0, hz1, hz2⟩ := info_parts vl_info'
  have hs' : Src (w.alloc (.cells #[] 34)) 2 (some ⟨b, 0, none⟩) l.length (vcs l) := h.below ((Below.refl w.heap.size w).alloc (Nat.le_refl _) _) (fun b' hm e => by injection e with e; subst e; exact hb)
  have heq := fun w : World => Lib.run_eql_slice_nil (P := Try.prog) w 51 34 (some ⟨b, 0, none⟩) l.length c 0 0 Try.underlying51
  clear h
  go_enter Try.func31, Try.ntmps31
  go_wp2_with (at_builtin; refine wpList_app _ rfl (.tmp 5) (.tmp 6) _ rfl w.heap.size 34 i0 _ 2 24 Try.underlying51 hi0 hz0 hz1 hz2 rfl (by omega) _ 0 [] rfl (World.ownsRow_made w #[] 0 (Nat.le_refl _) (by simp [maxLen]) rfl) _ _ _ _ rfl hs' (vcs_one l) (by simp only [maxLen]; omega) (by omega) (by simp) ?_; intro v1 w1 hown1 hg1 hat1)
  go_ret
  refine ⟨_, rfl, ((Only.refl _ _).alloc _).grown hg1 (fun k hk e => ?_), by simpa using hown1⟩
  injection e with e
  exact absurd e (Nat.ne_of_gt hk)

theorem locals_none {w : World} {κ : Nat → Option Cl} {G : Nat} {st : GS} {y : Ly} (h : GRL w κ G st y) (hl : st.loc = none) :
    Calls Try.prog 17 #[.pointer (some ⟨G, 0, none⟩), .int .i64 0] w fun e w' => e = .returned (.slice none 0 0) ∧ Pure w w' := by
  have hmp := h.map
  rw [hl] at hmp
  obtain ⟨clock, hmp⟩ := hmp
  have c10 := h.c10
  have hlk := map_look0 hmp
  clear h hmp
  go_enter Try.func17, Try.ntmps17
  go_wp2_with fail
  refine (cloneV_nil _).mono ?_
  rintro e w1 ⟨rfl, hp⟩
  have HP := Lib.hid hp
  clear hp
  go_wp2_with fail
  go_ret
  exact ⟨rfl, HP.out⟩
theorem locals_some {w : World} {κ : Nat → Option Cl} {G : Nat} {st : GS} {y : Ly} (h : GRL w κ G st y) (l : List Vl) (hl : st.loc = some l) :
    Calls Try.prog 17 #[.pointer (some ⟨G, 0, none⟩), .int .i64 0] w fun e w' => ∃ v', e = .returned v' ∧ Pure w w' ∧ w'.ownsRow w.heap.size 34 2 v' l.length (vcs l) := by
  obtain ⟨hlb, hle, clock, born, hmp⟩ := h.local hl
  have c10 := h.c10
  have hlk := map_look1 hmp
  have hs : Src w 2 (some ⟨y.lb, 0, none⟩) l.length (vcs l) := ⟨vcs_length l, fun _ => ⟨y.lb, 0, rfl, fun j u hu => by rw [cell_of_row w _ _ _ _ _ hlb, List.getElem?_toArray, Nat.zero_add]; exact hu⟩⟩
  have HS := Lib.hid hs
  have HLB := Lib.hid ((Array.getElem?_eq_some_iff.1 hlb).1)
  clear h hmp hs hlb
  go_enter Try.func17, Try.ntmps17
  go_wp2_with fail
  refine (cloneV_any y.lb l.length l _ HS.out HLB.out hle).mono ?_
  rintro e w1 ⟨v1, rfl, hp, ho⟩
  have HP := Lib.hid hp
  have HO := Lib.hid ho
  clear hp ho
  go_wp2_with fail
  go_ret
  exact ⟨_, rfl, HP.out, HO.out⟩
theorem globals_any {w : World} {κ : Nat → Option Cl} {G : Nat} {st : GS} {y : Ly} (h : GRL w κ G st y) (h0 : 0 < st.glo.length) (hle : st.glo.length ≤ 1000000) :
    Calls Try.prog 18 #[.pointer (some ⟨G, 0, none⟩)] w fun e w' => ∃ v', e = .returned v' ∧ Pure w w' ∧ w'.ownsRow w.heap.size 34 2 v' st.glo.length (vcs st.glo) := by
  have c11 := h.c11
  obtain ⟨q, cap, e, -⟩ := h.glo.form h0
  injection e with e1 e2 e3
  have hg := h.glo
  have hk := h.dom q (by rw [h.glok q (by rw [e1]; rfl)]; simp)
  rw [e1] at hg c11
  have hs : Src w 2 (some ⟨q, 0, none⟩) st.glo.length (vcs st.glo) := ⟨vcs_length _, fun _ => ⟨q, 0, rfl, fun j u hu => by rw [Nat.zero_add, hg.cellAt j (by have := (List.getElem?_eq_some_iff.1 hu).1; rw [vcs_length] at this; exact this)]; exact hu⟩⟩
  have HS := Lib.hid hs
  clear h hs hg e1 e3
  go_enter Try.func18, Try.ntmps18
  go_wp2_with fail
  refine (cloneV_any q y.ec st.glo _ HS.out hk hle).mono ?_
  rintro e w1 ⟨v1, rfl, hp, ho⟩
  have HP := Lib.hid hp
  have HO := Lib.hid ho
  clear hp ho
  go_wp2_with fail
  go_ret
  exact ⟨_, rfl, HP.out, HO.out⟩

end Go.Proofs.Ytpllolefmijfdaa
