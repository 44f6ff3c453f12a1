/- impl.decimal and strings.Join, by the library's contracts, laid at this dump. The table of powers is read: each call leans on what it holds. -/
import Derived.Test.YthkifkfnlmjafaaDoorG0
import Derived.Test.YthkifkfnlmjafaaDoorWk
import Derived.Test.YthkifkfnlmjafaaDoorTxtLay
import Derived.Lib.AppendIntMem
import Derived.Lib.ItoaLen
import Derived.Lib.Join
namespace Go.Proofs.YthkifkfnlmjafaaDoor.G
open Go.RowKit Go.Proofs.YthkifkfnlmjafaaDoorW.PrintWords Go.Proofs.YthkifkfnlmjafaaDoorW.PrintLast Go.Proofs.YthkifkfnlmjafaaDoorW.PrintMore
attribute [local go_sem] max2_int min2_int max_two min_two max_three min_three max_four min_four   -- for this text's walks alone
set_option linter.unusedVariables false
set_option linter.unusedSimpArgs false

open Go.Proofs.YthkifkfnlmjafaaDoor.Wk
/-- What a call leans on: the library's table of powers reads as it was laid. -/
structure Lw (w : World) : Prop where
  tab : Lib.TabIs Tryd.prog w "internal/strconv.uint64pow10" .u64 Lib.pow10Tab
theorem Lw.on {w w' : World} (h : Lw w) (hb : Below w.heap.size w w') : Lw w' := ⟨Lib.tabBelow_of_tabIs h.tab w' hb⟩
theorem below_draws (w : World) (k : Nat) (os : Array Obj) : Below w.heap.size w (Sort.grow (w.drewN k) os) :=
  ⟨rfl, rfl, rfl, by simp [Sort.grow, World.drewN], fun i hi => by
    show (w.heap ++ os)[i]? = w.heap[i]?
    rw [Array.getElem?_append_left hi]⟩
theorem fmt10 (n : Int) (h0 : -9223372036854775808 ≤ n) (h1 : n ≤ 9223372036854775807) (w : World) (hL : Lw w) :
    Calls Tryd.prog 62 #[.int .i64 n, .int .i64 10] w fun e w' => e = .returned (.string ⟨(Lib.itoa n).toArray⟩) ∧ Below w.heap.size w w' :=
  (Any.strconv_FormatInt_10 Tryd.layFmt n h0 h1 w hL.tab).mono fun e w' ⟨he, k, os, hw⟩ => ⟨he, hw ▸ below_draws w k os⟩
def impl_decimal.f (a0 : Int) : Option ByteArray := if -9223372036854775808 ≤ a0 ∧ a0 ≤ 9223372036854775807 then some ⟨(Lib.itoa a0).toArray⟩ else none
theorem impl_decimal.calls (a0 : Int) (r : ByteArray) (w : World) (h : impl_decimal.f a0 = some r) (hL : Lw w) :
    Calls Tryd.prog 32 #[.int .i64 a0] w fun e w' => e = .returned (.string r) ∧ Below w.heap.size w w' := by
  unfold impl_decimal.f at h
  by_cases hb : -9223372036854775808 ≤ a0 ∧ a0 ≤ 9223372036854775807
  · rw [if_pos hb] at h
    obtain rfl := Option.some.inj h
    have HF := Lib.hid (fmt10 a0 hb.1 hb.2 w hL)
    clear h hL hb
    go_enter Tryd.func32, Tryd.ntmps32
    go_wp2_with (go_at_call 62; refine HF.out.mono ?_; rintro e w' ⟨rfl, hb⟩)
    go_ret
    exact ⟨rfl, hb⟩
  · rw [if_neg hb] at h
    cases h
def joinB (l : List ByteArray) (s : ByteArray) : List UInt8 := Lib.join (l.map (·.data.toList)) s.data.toList
def strings_Join.f (l0 : List ByteArray) (a1 : ByteArray) : Option ByteArray := if (joinB l0 a1).length ≤ 140737488355328 ∧ l0.length ≤ 140737488355328 then some ⟨(joinB l0 a1).toArray⟩ else none
theorem C_str_cells {w : World} {A : Option Addr} {l : List ByteArray} (h : Kd.C Kd.string w A l.length l) : 0 < l.length → ∃ ad, A = some ad ∧ ∀ j x, l[j]? = some x → w.cell? (ad.add j) = some (.string x) := by
  intro hn
  obtain ⟨ad, e, hc⟩ := h.2.2 hn
  refine ⟨ad, e, fun j x hj => ?_⟩
  obtain ⟨c, _, hK, hcell⟩ := hc j _ hj
  have hK : c = [.string x] := hK
  subst hK
  have := hcell 0 _ rfl
  rwa [show Kd.string.sz = 1 from rfl, Nat.mul_one, Nat.add_zero] at this
theorem strings_Join.calls (A0 : Option Addr) (c0 : Nat) (l0 : List ByteArray) (a1 : ByteArray) (r : ByteArray) (w : World) (hr0 : Kd.C Kd.string w A0 l0.length l0) (hc0 : l0.length ≤ c0) (h : strings_Join.f l0 a1 = some r) :
    Calls Tryd.prog 33 #[.slice A0 l0.length c0, .string a1] w fun e w' => e = .returned (.string r) ∧ Below w.heap.size w w' := by
  unfold strings_Join.f at h
  by_cases hb : (joinB l0 a1).length ≤ 140737488355328 ∧ l0.length ≤ 140737488355328
  · rw [if_pos hb] at h
    obtain rfl := Option.some.inj h
    rcases Nat.eq_zero_or_pos l0.length with h0 | h0
    · obtain rfl : l0 = [] := List.length_eq_zero_iff.1 h0
      exact (Any.strings_Join_none Tryd.layJoin Tryd.extraJoin A0 c0 a1 w).mono fun e w' ⟨he, hw⟩ => ⟨he, hw ▸ Below.refl _ _⟩
    · obtain ⟨ad, rfl, hcell⟩ := C_str_cells hr0 h0
      obtain ⟨bk, o, hd⟩ : ∃ bk o, ad = ⟨bk, o, none⟩ := by
        obtain ⟨b, o, q⟩ := ad
        cases q with
        | none => exact ⟨b, o, rfl⟩
        | some q =>
          have := hcell 0 l0[0] (List.getElem?_eq_getElem h0)
          simp only [Addr.add, World.cell?] at this
          split at this <;> cases this
      subst hd
      exact Any.strings_Join Tryd.layJoin Tryd.extraJoin bk o c0 l0 a1 w (fun j x hj => by
        have h1 := hcell j x hj
        unfold Addr.add at h1
        by_cases e : j = 0
        · subst e
          simpa using h1
        · simpa [e] using h1) (World.block_lt_of_cell? w _ (hcell 0 l0[0] (List.getElem?_eq_getElem h0))) hb.2 hc0 hb.1
  · rw [if_neg hb] at h
    cases h
end Go.Proofs.YthkifkfnlmjafaaDoor.G
