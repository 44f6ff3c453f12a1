/- impl.readDecimal, strings.Split, strings.Cut and strings.CutSuffix, by the library's contracts, laid at this dump. -/
import Derived.Test.YthkifkfnlmjafaaDoorFTxtA
import Derived.Test.YthkifkfnlmjafaaDoorTxtLayR
namespace Go.Proofs.YthkifkfnlmjafaaDoor.G
open Go.RowKit Go.Proofs.YthkifkfnlmjafaaDoorW.PrintWords Go.Proofs.YthkifkfnlmjafaaDoorW.PrintLast Go.Proofs.YthkifkfnlmjafaaDoorW.PrintMore
attribute [local go_sem] max2_int min2_int max_two min_two max_three min_three max_four min_four   -- for this text's walks alone
set_option linter.unusedVariables false
set_option linter.unusedSimpArgs false

open Go.Proofs.YthkifkfnlmjafaaDoor.Wk
/-- What a reading call leans on, beside the table of powers: two errors of the library, and a number of its search. -/
structure Lr (w : World) : Prop extends Lw w where
  syn : ∃ te pe, w.cell? ⟨2, 0, none⟩ = some (.iface te pe)
  rng : ∃ te pe, w.cell? ⟨3, 0, none⟩ = some (.iface te pe)
  max : ∃ m, w.cell? ⟨1, 0, none⟩ = some (.int .i64 m)
theorem cell_on {w w' : World} (hb : Below w.heap.size w w') {p : Addr} {v : Value} (c : w.cell? p = some v) : w'.cell? p = some v := (hb.cell (World.block_lt_of_cell? w _ c)).trans c
theorem Lr.on {w w' : World} (h : Lr w) (hb : Below w.heap.size w w') : Lr w' :=
  ⟨h.toLw.on hb, let ⟨a, b, c⟩ := h.syn; ⟨a, b, cell_on hb c⟩, let ⟨a, b, c⟩ := h.rng; ⟨a, b, cell_on hb c⟩, let ⟨a, c⟩ := h.max; ⟨a, cell_on hb c⟩⟩
def splitF (s sep : ByteArray) : List ByteArray := Lib.splitB sep 0 (Lib.countB s sep) s
def strings_Split.f (a0 a1 : ByteArray) : Option (List ByteArray) := if a0.size < 4294967281 ∧ 1 ≤ a1.size then some (splitF a0 a1) else none
theorem R_strs (W : World) (base : Nat) (xs : List ByteArray) (hb : base ≤ W.heap.size) (hm : xs.length ≤ 9223372036854775807) : Kd.R Kd.string 9 (W.alloc (.cells (xs.map Value.string).toArray 9)) base (fun _ => True) (.slice (some ⟨W.heap.size, 0, none⟩) xs.length xs.length) xs :=
  Kd.R_of_own (own_lit_of W base 9 xs hb hm) (fun _ _ => trivial)
theorem strings_Split.calls (a0 a1 : ByteArray) (r : List ByteArray) (w : World) (h : strings_Split.f a0 a1 = some r) (hL : Lr w) :
    Calls Tryd.prog 52 #[.string a0, .string a1] w fun e w' => ∃ v0_ : Value, e = .returned v0_ ∧ Kd.R Kd.string 9 w' w.heap.size (fun _ => True) v0_ r ∧ Below w.heap.size w w' := by
  unfold strings_Split.f at h
  by_cases hb : a0.size < 4294967281 ∧ 1 ≤ a1.size
  · rw [if_pos hb] at h
    obtain rfl := Option.some.inj h
    obtain ⟨m, hm⟩ := hL.max
    have hle := Lib.countB_le a1 hb.2 a0.size a0 (Nat.le_refl _)
    have hlen : (splitF a0 a1).length = Lib.countB a0 a1 + 1 := by
      have := Lib.splitB_all a1 hb.2 0 _ a0 rfl
      exact this
    refine (Any.strings_Split { Tryd.laySplit with } Tryd.laySplit.i9 a0 a1 m w hb.1 hm hb.2).mono fun e w' ⟨he, hw⟩ => ⟨_, he, ?_, ?_⟩
    · rw [hw, ← hlen]
      exact R_strs w w.heap.size (splitF a0 a1) (Nat.le_refl _) (by omega)
    · rw [hw]
      exact below_alloc (Below.refl _ _) _
  · rw [if_neg hb] at h
    cases h
def strings_CutSuffix.f (a0 a1 : ByteArray) : Option (ByteArray × Bool) := if a0.size ≤ 9223372036854775807 then some (⟨(Lib.trimSuffix a0.data.toList a1.data.toList).toArray⟩, Lib.hasSuffix a0.data.toList a1.data.toList) else none
theorem strings_CutSuffix.calls (a0 a1 : ByteArray) (r0 : ByteArray) (r1 : Bool) (w : World) (h : strings_CutSuffix.f a0 a1 = some (r0, r1)) :
    Calls Tryd.prog 51 #[.string a0, .string a1] w fun e w' => e = .returned (.tuple #[.string r0, .bool r1]) ∧ Below w.heap.size w w' := by
  unfold strings_CutSuffix.f at h
  by_cases hb : a0.size ≤ 9223372036854775807
  · rw [if_pos hb] at h
    obtain ⟨rfl, rfl⟩ := Prod.mk.inj (Option.some.inj h)
    exact (Any.strings_CutSuffix Tryd.layCsx a0 a1 w hb).mono fun e w' ⟨he, hw⟩ => ⟨he, hw ▸ Below.refl _ _⟩
  · rw [if_neg hb] at h
    cases h
def strings_Cut.f (a0 a1 : ByteArray) : Option (ByteArray × ByteArray × Bool) := if a0.size < 4294967281 then some (⟨(Lib.cut a0.data.toList a1.data.toList).1.toArray⟩, ⟨(Lib.cut a0.data.toList a1.data.toList).2.1.toArray⟩, (Lib.cut a0.data.toList a1.data.toList).2.2) else none
theorem strings_Cut.calls (a0 a1 : ByteArray) (r0 r1 : ByteArray) (r2 : Bool) (w : World) (h : strings_Cut.f a0 a1 = some (r0, r1, r2)) (hL : Lr w) :
    Calls Tryd.prog 76 #[.string a0, .string a1] w fun e w' => e = .returned (.tuple #[.string r0, .string r1, .bool r2]) ∧ Below w.heap.size w w' := by
  unfold strings_Cut.f at h
  by_cases hb : a0.size < 4294967281
  · rw [if_pos hb] at h
    have h := Option.some.inj h
    simp only [Prod.mk.injEq] at h
    obtain ⟨rfl, rfl, rfl⟩ := h
    obtain ⟨m, hm⟩ := hL.max
    exact (Any.strings_Cut { Tryd.layCut with } a0 a1 m w hb hm).mono fun e w' ⟨he, n, hw⟩ => ⟨he, hw ▸ pw_below_drewN (Below.refl _ _) n⟩
  · rw [if_neg hb] at h
    cases h
/-- What strconv.ParseInt(s, 10, 64) tells: the number, and whether there is one. -/
def parseF (s : ByteArray) : Int × Bool :=
  match Lib.parseIntB 64 s.data.toList with
  | .ok v => (v, true)
  | .range => (Lib.intSat 64 s.data.toList, false)
  | _ => (0, false)
theorem parse_c (s : ByteArray) (hs : s.size ≤ 281474976710656) (w : World) (hL : Lr w) :
    Calls Tryd.prog 75 #[.string s, .int .i64 10, .int .i64 64] w fun e w' => ∃ ev, e = .returned (.tuple #[.int .i64 (parseF s).1, ev]) ∧ ((parseF s).2 = true ∧ ev = .nilIface ∨ (parseF s).2 = false ∧ ∃ t p, ev = .iface t p) ∧ Below w.heap.size w w' := by
  unfold parseF
  cases hp : Lib.parseIntB 64 s.data.toList
  · rename_i v
    refine (Any.strconv_ParseInt_10_at64_ok Tryd.layPar s (by omega) v hp w).mono fun e w' ⟨he, hw⟩ => ⟨_, he, Or.inl ⟨rfl, rfl⟩, ?_⟩
    rcases hw with rfl | ⟨t, rfl⟩
    · exact Below.refl _ _
    · exact Lib.bytesWorld_below _ _ _
  · obtain ⟨te, pe, hv⟩ := hL.syn
    exact (Any.strconv_ParseInt_10_at64_syntax Tryd.layPar s hs hp _ w hv (Or.inr ⟨te, pe, rfl⟩)).mono fun e w' ⟨N, he, _, _, hb⟩ => ⟨_, he, Or.inr ⟨rfl, _, _, rfl⟩, hb⟩
  · obtain ⟨te, pe, hv⟩ := hL.rng
    exact (Any.strconv_ParseInt_10_at64_range Tryd.layPar s hs hp _ w hv (Or.inr ⟨te, pe, rfl⟩)).mono fun e w' ⟨N, he, _, _, hb⟩ => ⟨_, he, Or.inr ⟨rfl, _, _, rfl⟩, hb⟩
theorem within_c (x lo hi : Int) (w : World) : Calls Tryd.prog 59 #[.int .i64 x, .int .i64 lo, .int .i64 hi] w fun e w' => e = .returned (.bool (inB x lo hi)) ∧ w = w' := by
  by_cases h1 : lo ≤ x
  · by_cases h2 : x ≤ hi
    · rw [inB_yes h1 h2]
      go_enter Tryd.func59, Tryd.ntmps59
      go_wp2
      go_ret
      exact ⟨by simp [*], rfl⟩
    · rw [inB_high h2]
      go_enter Tryd.func59, Tryd.ntmps59
      go_wp2
      go_ret
      exact ⟨by simp [*], rfl⟩
  · rw [inB_low h1]
    go_enter Tryd.func59, Tryd.ntmps59
    go_wp2
    go_ret
    exact ⟨rfl, rfl⟩
theorem parse_bound (s : ByteArray) (h : (parseF s).2 = true) : -9223372036854775808 ≤ (parseF s).1 ∧ (parseF s).1 ≤ 9223372036854775807 := by
  unfold parseF at h ⊢
  cases hp : Lib.parseIntB 64 s.data.toList
  · have := Lib.parseIntB_bounds hp
    simp only
    omega
  · rw [hp] at h; cases h
  · rw [hp] at h; cases h
def readDecF (s : ByteArray) (lo hi : Int) : Int × Bool := ((parseF s).1, (parseF s).2 && ((Lib.itoa (parseF s).1 == s.toList) && inB (parseF s).1 lo hi))
def impl_readDecimal.f (a0 : ByteArray) (a1 a2 : Int) : Option (Int × Bool) := if a0.size ≤ 281474976710656 then some (readDecF a0 a1 a2) else none
set_option maxHeartbeats 2000000 in
set_option maxRecDepth 100000 in
theorem impl_readDecimal.calls (a0 : ByteArray) (a1 a2 : Int) (r0 : Int) (r1 : Bool) (w : World) (h : impl_readDecimal.f a0 a1 a2 = some (r0, r1)) (hL : Lr w) :
    Calls Tryd.prog 53 #[.string a0, .int .i64 a1, .int .i64 a2] w fun e w' => e = .returned (.tuple #[.int .i64 r0, .bool r1]) ∧ Below w.heap.size w w' := by
  unfold impl_readDecimal.f at h
  by_cases hb : a0.size ≤ 281474976710656
  · rw [if_pos hb] at h
    have h := Option.some.inj h
    unfold readDecF at h
    simp only [Prod.mk.injEq] at h
    obtain ⟨rfl, rfl⟩ := h
    have HL := Lib.hid hL
    have HP := Lib.hid (parse_c a0 hb w hL)
    have HN := parse_bound a0
    clear hL
    generalize parseF a0 = pf at *
    obtain ⟨n, ok⟩ := pf
    simp only at *
    go_enter Tryd.func53, Tryd.ntmps53
    go_wp2_with (go_at_call 75; refine HP.out.mono ?_; rintro e w' ⟨ev, rfl, hev, hb1⟩)
    have HB := Aside0.mk hb1
    clear hb1
    rcases hev with ⟨rfl, rfl⟩ | ⟨rfl, t, p, rfl⟩
    · have hn := HN rfl
      have HD := Lib.hid (fun w' hb => impl_decimal.calls n _ w' (if_pos hn) (HL.out.toLw.on hb))
      go_wp2_with (first | (go_at_call 32; refine (HD.out _ HB.out).mono ?_; rintro e w2 ⟨rfl, hb2⟩; have HB2 := Aside0.mk (below_step HB.out hb2); clear hb2; rcases Bool.eq_false_or_eq_true (Lib.itoa n == a0.toList) with hq | hq) | (go_at_call 59; refine (within_c _ _ _ _).mono ?_; rintro e w3 ⟨rfl, rfl⟩))
      all_goals go_ret2
      all_goals exact ⟨by rw [hq]; rfl, HB2.out⟩
    · go_wp2
      go_ret2
      exact ⟨rfl, HB.out⟩
  · rw [if_neg hb] at h
    cases h
end Go.Proofs.YthkifkfnlmjafaaDoor.G
