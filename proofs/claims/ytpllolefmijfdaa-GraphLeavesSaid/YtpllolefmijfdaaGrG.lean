/-
  The operations of the thread 0, one by one, as steps of the plain graph. No function of the program is walked here.
-/
import Derived.Test.YtpllolefmijfdaaGrF
namespace Go.Proofs.Ytpllolefmijfdaa
open Go.RowKit

theorem pure_new {w : World} {κ : Nat → Option Cl} {G : Nat} {st : GS} {y : Ly} {f : FuncId} {args : Array Value} {v : Value} (h : GRL w κ G st y) (hc : Calls Try.prog f args w fun e w' => e = .returned v ∧ Pure w w') : Calls Try.prog f args w fun e w' => e = .returned v ∧ GNew w κ G st y.lb w' :=
  hc.mono fun _ _ ⟨a, b⟩ => ⟨a, GNew.of h b⟩
theorem same_rn (i : Nat) (h : i ≤ 1000000) : sameB (refVl i).x (refVl i).y 0 4607182418800017408 = false := by
  have := same_ref ((i : Int) + 1) 0 (by omega) (by omega)
  rw [f_zero] at this
  rw [show (refVl i).x = floatOfInt .f64 ((i : Int) + 1) from rfl, show (refVl i).y = 4607182418800017408 from rfl, this]
  exact decide_eq_false (by omega)

theorem wd_ne (k : Nat) (h : 0 < k) (hk : k < 19) : (wdW k).toList.isEmpty = false := by
  rcases (by omega : k = 1 ∨ k = 2 ∨ k = 3 ∨ k = 4 ∨ k = 5 ∨ k = 6 ∨ k = 7 ∨ k = 8 ∨ k = 9 ∨ k = 10 ∨ k = 11 ∨ k = 12 ∨ k = 13 ∨ k = 14 ∨ k = 15 ∨ k = 16 ∨ k = 17 ∨ k = 18) with rfl | rfl | rfl | rfl | rfl | rfl | rfl | rfl | rfl | rfl | rfl | rfl | rfl | rfl | rfl | rfl | rfl | rfl <;> decide +kernel
/-- The look-ahead of an operation that makes nothing. -/
theorem ok_look {κ : Nat → Option Cl} {G : Nat} {st : GS} {y : Ly} {l : List Vl} (o : Op20) (k : Nat) (hk3 : 3 ≤ k) (hk : k < 19) (ho : o.kind = k) (hn : ∀ (i : Nat) (h : i < (wdN k).size), okSign st.c o ((wdN k)[i]'h).toNat)
    (hop : ∀ W, GRL W κ G st y → Calls Try.prog 33 #[opV o, .slice (some ⟨y.lb, 0, none⟩) l.length l.length] W fun e w' => e = .returned (.int .i64 0) ∧ Pure W w') : OpOk κ G st y l (opV o) :=
  ⟨fun W h => check_look st.c (.slice y.A y.m.length y.cc) y.m o k hk3 hk ho W h.shs h.ok hn (wd_ne k (by omega) hk), hop⟩

section
variable {st : GS} {l : List Vl} (hl : st.loc = some l) (hc : (l.length : Int) ≤ st.c.locals)
include hl hc
theorem stp_clear (ja : Nat) (hja : ja < l.length) (b c n : Int) (x z : Nat) : Stp st ⟨13, ja, b, c, n, x, z⟩ noneVl 0 { st with loc := some (l.set ja noneVl) } := by
  intro w κ G y h
  refine do_ans h 13 ja b c n x z l hl noneVl st ?_ ?_ (by omega) (by decide) rfl ja rfl hja hl
  · refine ok_look ⟨13, ja, b, c, n, x, z⟩ 13 (by omega) (by omega) rfl (fun i hi => ?_) (fun W _ => operands_nil _ _ W (by simp))
    have hs : (wdN 13).size = 1 := rfl
    obtain rfl : i = 0 := by omega
    exact .inl ⟨rfl, by simp, by show (ja : Int) < st.c.locals; omega⟩
  · exact fun W hW => pure_new hW (does_clear hW ja b c n x z l hl)
theorem stp_copy (ja jb : Nat) (hja : ja < l.length) (u : Vl) (hu : l[jb]? = some u) (c n : Int) (x z : Nat) : Stp st ⟨14, ja, jb, c, n, x, z⟩ u 0 { st with loc := some (l.set ja u) } := by
  intro w κ G y h
  have hjb := (List.getElem?_eq_some_iff.1 hu).1
  refine do_ans h 14 ja jb c n x z l hl u st ?_ ?_ (by omega) (by decide) rfl ja rfl hja hl
  · refine ok_look ⟨14, ja, jb, c, n, x, z⟩ 14 (by omega) (by omega) rfl (fun i hi => ?_) (fun W _ => operands_nil _ _ W (by simp))
    have hs : (wdN 14).size = 2 := rfl
    obtain rfl | rfl : i = 0 ∨ i = 1 := by omega
    · exact .inl ⟨rfl, by simp, by show (ja : Int) < st.c.locals; omega⟩
    · exact .inr (.inl ⟨rfl, by simp, by show (jb : Int) < st.c.locals; omega⟩)
  · exact fun W hW => pure_new hW (does_copy hW ja c n x z l hl jb u hu)
omit hc in
theorem stp_leave (a b c n : Int) (x z : Nat) : Stp st ⟨18, a, b, c, n, x, z⟩ zeroVl 0 { st with loc := none } := by
  intro w κ G y h
  refine do_leave h a b c n x z l hl zeroVl st ?_ ?_ hl
  · refine ok_look ⟨18, a, b, c, n, x, z⟩ 18 (by omega) (by omega) rfl (fun i hi => ?_) (fun W _ => operands_nil _ _ W (by simp))
    have hs : (wdN 18).size = 0 := rfl
    omega
  · exact fun W hW => pure_new hW (does_leave hW a b c n x z l hl)
theorem stp_set (jb m : Nat) (u told : Vl) (hu : l[jb]? = some u) (hr : u.r = true) (hg : st.glo[m]? = some told) (hgc : (st.glo.length : Int) ≤ st.c.globals) (hg1 : st.glo.length ≤ 1000000) (a c : Int) (x z : Nat) : Stp st ⟨8, a, jb, c, m, x, z⟩ zeroVl 0 { st with glo := st.glo.set m u } := by
  intro w κ G y h
  have hjb := (List.getElem?_eq_some_iff.1 hu).1
  have hm := (List.getElem?_eq_some_iff.1 hg).1
  refine do_noans h 8 a jb c m x z l hl zeroVl _ ?_ ?_ (by omega) (by decide) rfl
  · refine ok_look ⟨8, a, jb, c, m, x, z⟩ 8 (by omega) (by omega) rfl (fun i hi => ?_) (fun W hW => ?_)
    · have hs : (wdN 8).size = 2 := rfl
      obtain rfl | rfl : i = 0 ∨ i = 1 := by omega
      · exact .inr (.inr (.inr (.inl ⟨rfl, by simp, by show (m : Int) < st.c.globals; omega⟩)))
      · exact .inr (.inl ⟨rfl, by simp, by show (jb : Int) < st.c.locals; omega⟩)
    · obtain ⟨hlb, hle, -⟩ := hW.local hl
      exact operands_set ⟨8, a, jb, c, m, x, z⟩ l u y.lb jb W rfl hlb hu rfl hr hle
  · exact fun W hW => does_set hW a c x z l hl jb m u told hu hg hg1
section
variable (hth : st.th.length ≤ 100000)
include hth
theorem stp_store (ja jb i m : Nat) (t : Th) (vx vy : Nat) (hu : l[ja]? = some (refVl i)) (hub : l[jb]? = some ⟨true, vx, vy⟩) (ht : st.th[i]? = some t) (ha : t.a = false) (hm : m < t.l.length) (hb : refB t m = some true) (hrl : t.rs.length ≤ 1000000) (c : Int) (x z : Nat) :
    Stp st ⟨4, ja, jb, c, m, x, z⟩ zeroVl 0 { st with th := st.th.set i { t with l := t.l.set m (vx, vy) } } := by
  intro w κ G y h
  have hja := (List.getElem?_eq_some_iff.1 hu).1
  have hjb := (List.getElem?_eq_some_iff.1 hub).1
  have hi := (List.getElem?_eq_some_iff.1 ht).1
  refine do_noans h 4 ja jb c m x z l hl zeroVl _ ?_ ?_ (by omega) (by decide) rfl
  · refine ok_look ⟨4, ja, jb, c, m, x, z⟩ 4 (by omega) (by omega) rfl (fun i hi => ?_) (fun W hW => ?_)
    · have hs : (wdN 4).size = 3 := rfl
      obtain rfl | rfl | rfl : i = 0 ∨ i = 1 ∨ i = 2 := by omega
      · exact .inl ⟨rfl, by simp, by show (ja : Int) < st.c.locals; omega⟩
      · exact .inr (.inr (.inr (.inr (.inr (.inl rfl)))))
      · exact .inr (.inl ⟨rfl, by simp, by show (jb : Int) < st.c.locals; omega⟩)
    · obtain ⟨hlb, hle, -⟩ := hW.local hl
      exact operands_a ⟨4, ja, jb, c, m, x, z⟩ l (refVl i) y.lb ja W rfl hlb hu rfl rfl (same_rn i (by omega)) hle
  · exact fun W hW => does_4 hW ja jb c m x z l hl zeroVl _ (fun W' hW' => looks_store hW' c x z l i ja jb m t vx vy hl hu hub ht (by omega) ha hm hb hrl)
theorem stp_get (ja jb i m : Nat) (hja : ja < l.length) (t : Th) (v : Nat × Nat) (b : Bool) (hu : l[jb]? = some (refVl i)) (ht : st.th[i]? = some t) (ha : t.a = true) (hv : t.l[m]? = some v) (hb : refB t m = some b) (hrl : t.rs.length ≤ 1000000) (c : Int) (x z : Nat) :
    Stp st ⟨5, ja, jb, c, m, x, z⟩ ⟨b, v.1, v.2⟩ 0 { st with loc := some (l.set ja ⟨b, v.1, v.2⟩) } := by
  intro w κ G y h
  have hjb := (List.getElem?_eq_some_iff.1 hu).1
  have hi := (List.getElem?_eq_some_iff.1 ht).1
  have hm := (List.getElem?_eq_some_iff.1 hv).1
  refine do_ans h 5 ja jb c m x z l hl ⟨b, v.1, v.2⟩ st ?_ ?_ (by omega) (by decide) rfl ja rfl hja hl
  · refine ok_look ⟨5, ja, jb, c, m, x, z⟩ 5 (by omega) (by omega) rfl (fun i hi => ?_) (fun W hW => ?_)
    · have hs : (wdN 5).size = 3 := rfl
      obtain rfl | rfl | rfl : i = 0 ∨ i = 1 ∨ i = 2 := by omega
      · exact .inl ⟨rfl, by simp, by show (ja : Int) < st.c.locals; omega⟩
      · exact .inr (.inl ⟨rfl, by simp, by show (jb : Int) < st.c.locals; omega⟩)
      · exact .inr (.inr (.inr (.inr (.inr (.inl rfl)))))
    · obtain ⟨hlb, hle, -⟩ := hW.local hl
      exact operands_b ⟨5, ja, jb, c, m, x, z⟩ l (refVl i) y.lb jb W (by simp) hlb hu rfl rfl (same_rn i (by omega)) hle
  · exact fun W hW => does_5 hW ja jb c m x z l hl _ _ (fun W' hW' => pure_new hW' (looks_get hW' ja c x z l i jb t hl hu ht (by omega) ha m hm v hv b hb hrl))
theorem stp_length (ja jb i : Nat) (hja : ja < l.length) (t : Th) (hu : l[jb]? = some (refVl i)) (ht : st.th[i]? = some t) (ha : t.a = true) (h0 : -9007199254740992 ≤ t.n) (h1 : t.n ≤ 9007199254740992) (c n : Int) (x z : Nat) :
    Stp st ⟨10, ja, jb, c, n, x, z⟩ (numVl t.n) 0 { st with loc := some (l.set ja (numVl t.n)) } := by
  intro w κ G y h
  have hjb := (List.getElem?_eq_some_iff.1 hu).1
  have hi := (List.getElem?_eq_some_iff.1 ht).1
  refine do_ans h 10 ja jb c n x z l hl (numVl t.n) st ?_ ?_ (by omega) (by decide) rfl ja rfl hja hl
  · refine ok_look ⟨10, ja, jb, c, n, x, z⟩ 10 (by omega) (by omega) rfl (fun i hi => ?_) (fun W hW => ?_)
    · have hs : (wdN 10).size = 2 := rfl
      obtain rfl | rfl : i = 0 ∨ i = 1 := by omega
      · exact .inl ⟨rfl, by simp, by show (ja : Int) < st.c.locals; omega⟩
      · exact .inr (.inl ⟨rfl, by simp, by show (jb : Int) < st.c.locals; omega⟩)
    · obtain ⟨hlb, hle, -⟩ := hW.local hl
      exact operands_b ⟨10, ja, jb, c, n, x, z⟩ l (refVl i) y.lb jb W (by simp) hlb hu rfl rfl (same_rn i (by omega)) hle
  · exact fun W hW => does_10 hW ja jb c n x z l hl _ _ (fun W' hW' => pure_new hW' (looks_len hW' ja c n x z l i jb t hl hu ht (by omega) h0 h1 ha))
theorem stp_kind (ja jb i : Nat) (hja : ja < l.length) (t : Th) (hu : l[jb]? = some (refVl i)) (ht : st.th[i]? = some t) (h0 : -9007199254740992 ≤ t.kind) (h1 : t.kind ≤ 9007199254740992) (c n : Int) (x z : Nat) :
    Stp st ⟨11, ja, jb, c, n, x, z⟩ (numVl t.kind) 0 { st with loc := some (l.set ja (numVl t.kind)) } := by
  intro w κ G y h
  have hjb := (List.getElem?_eq_some_iff.1 hu).1
  have hi := (List.getElem?_eq_some_iff.1 ht).1
  refine do_ans h 11 ja jb c n x z l hl (numVl t.kind) st ?_ ?_ (by omega) (by decide) rfl ja rfl hja hl
  · refine ok_look ⟨11, ja, jb, c, n, x, z⟩ 11 (by omega) (by omega) rfl (fun i hi => ?_) (fun W hW => ?_)
    · have hs : (wdN 11).size = 2 := rfl
      obtain rfl | rfl : i = 0 ∨ i = 1 := by omega
      · exact .inl ⟨rfl, by simp, by show (ja : Int) < st.c.locals; omega⟩
      · exact .inr (.inl ⟨rfl, by simp, by show (jb : Int) < st.c.locals; omega⟩)
    · obtain ⟨hlb, hle, -⟩ := hW.local hl
      exact operands_b ⟨11, ja, jb, c, n, x, z⟩ l (refVl i) y.lb jb W (by simp) hlb hu rfl rfl (same_rn i (by omega)) hle
  · exact fun W hW => does_11 hW ja jb c n x z l hl _ _ (fun W' hW' => pure_new hW' (looks_kind hW' ja c n x z l i jb t hl hu ht (by omega) h0 h1))
/-- What is made. -/
theorem stp_new (ja bn : Nat) (hja : ja < l.length) (bs : List Bool) (hs : st.sh[bn]? = some (false, bs)) (hbs : bs.length ≤ 1000) (hz0 : 0 ≤ sizeI false bs.length 0) (hz1 : sizeI false bs.length 0 ≤ st.c.frags) (hsp : 0 ≤ st.c.spine) (c : Int) (x z : Nat) :
    Stp st ⟨1, ja, bn, c, 0, x, z⟩ (refVl st.th.length) 0 { st with th := st.th ++ [mdTh bn false 0 bs bs.length], loc := some (l.set ja (refVl st.th.length)) } := by
  intro w κ G y h
  refine do_ans h 1 ja bn c 0 x z l hl (refVl st.th.length) { st with th := st.th ++ [mdTh bn false 0 bs bs.length] } ⟨fun W hW => ?_, fun W hW => operands_nil ⟨1, ja, bn, c, 0, x, z⟩ _ W (by simp)⟩ ?_ (by omega) (by decide) rfl ja rfl hja hl
  · have hm : (y.m.map (fun s => (s.a, s.bs)))[bn]? = some (false, bs) := by rw [hW.shm]; exact hs
    rw [List.getElem?_map] at hm
    obtain ⟨s, hs', e⟩ := Option.map_eq_some_iff.1 hm
    injection e with e1 e2
    have hsz : sizeI s.a s.bs.length 0 = sizeI false bs.length 0 := by rw [e1, e2]
    refine check_make st.c (.slice y.A y.m.length y.cc) y.m ⟨1, ja, bn, c, 0, x, z⟩ 1 (.inl rfl) rfl W hW.shs hW.ok (fun i hi => ?_) (wd_ne _ (by omega) (by omega)) s bn hs' rfl (by rw [e2]; omega) (by rw [e1]; rfl) ?_ ?_ ?_
    · have hsz : (wdN 1).size = 2 := rfl
      obtain rfl | rfl : i = 0 ∨ i = 1 := by omega
      · exact .inl ⟨rfl, by simp, by show (ja : Int) < st.c.locals; omega⟩
      · exact .inr (.inr (.inr (.inr (.inl rfl))))
    · show 0 ≤ sizeI s.a s.bs.length 0
      rw [hsz]; exact hz0
    · show sizeI s.a s.bs.length 0 ≤ _
      rw [hsz]; exact hz1
    · show spineI s.a s.bs.length 0 ≤ _
      rw [e1]
      simp [spineI]; exact hsp
  · exact fun W hW => does_1 hW ja bn c 0 x z l hl _ _ (fun W' hW' => made_any hW' 1 ja c 0 x z bn false bs hs hth bs.length rfl (by omega) hbs)
theorem stp_array (ja bn n : Nat) (hja : ja < l.length) (b : Bool) (hs : st.sh[bn]? = some (true, [b])) (hn : n ≤ 1000) (hz0 : 0 ≤ sizeI true 1 n) (hz1 : sizeI true 1 n ≤ st.c.frags) (hsp : spineI true 1 n ≤ st.c.spine) (c : Int) (x z : Nat) :
    Stp st ⟨2, ja, bn, c, n, x, z⟩ (refVl st.th.length) 0 { st with th := st.th ++ [mdTh bn true n [b] n], loc := some (l.set ja (refVl st.th.length)) } := by
  intro w κ G y h
  refine do_ans h 2 ja bn c n x z l hl (refVl st.th.length) { st with th := st.th ++ [mdTh bn true n [b] n] } ⟨fun W hW => ?_, fun W hW => operands_nil ⟨2, ja, bn, c, n, x, z⟩ _ W (by simp)⟩ ?_ (by omega) (by decide) rfl ja rfl hja hl
  · have hm : (y.m.map (fun s => (s.a, s.bs)))[bn]? = some (true, [b]) := by rw [hW.shm]; exact hs
    rw [List.getElem?_map] at hm
    obtain ⟨s, hs', e⟩ := Option.map_eq_some_iff.1 hm
    injection e with e1 e2
    refine check_make st.c (.slice y.A y.m.length y.cc) y.m ⟨2, ja, bn, c, n, x, z⟩ 2 (.inr rfl) rfl W hW.shs hW.ok (fun i hi => ?_) (wd_ne _ (by omega) (by omega)) s bn hs' rfl (by rw [e2]; simp) (by rw [e1]; rfl) ?_ ?_ ?_
    · have hsz : (wdN 2).size = 3 := rfl
      obtain rfl | rfl | rfl : i = 0 ∨ i = 1 ∨ i = 2 := by omega
      · exact .inl ⟨rfl, by simp, by show (ja : Int) < st.c.locals; omega⟩
      · exact .inr (.inr (.inr (.inr (.inl rfl))))
      · exact .inr (.inr (.inr (.inr (.inr (.inl rfl)))))
    · show 0 ≤ sizeI s.a s.bs.length n
      rw [e1, e2]; exact hz0
    · show sizeI s.a s.bs.length n ≤ _
      rw [e1, e2]; exact hz1
    · show spineI s.a s.bs.length n ≤ _
      rw [e1, e2]; exact hsp
  · exact fun W hW => does_2 hW ja bn c n x z l hl _ _ (fun W' hW' => made_any hW' 2 ja c n x z bn true [b] hs hth n (by simp) (by omega) hn)
end
end
theorem stp_state {st : GS} (hl : st.loc = none) (k : Nat) (a b c n : Int) (x z : Nat) : Stp st ⟨k, a, b, c, n, x, z⟩ zeroVl 8 st := by
  intro w κ G y h
  exact pure_new h (do_state h k a b c n x z hl)

end Go.Proofs.Ytpllolefmijfdaa
