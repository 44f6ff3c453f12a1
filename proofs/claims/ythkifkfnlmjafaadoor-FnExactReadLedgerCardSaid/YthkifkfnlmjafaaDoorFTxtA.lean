/- impl.decimal and strings.Join, by the library's contracts, laid at this dump. The table of powers is read: each call leans on what it holds. -/
import Derived.Test.YthkifkfnlmjafaaDoorG0
import Derived.Test.YthkifkfnlmjafaaDoorWk
import Derived.Test.YthkifkfnlmjafaaDoorTxtLay
import Derived.Lib.AppendIntMem
import Derived.Lib.ItoaLen
import Derived.Lib.Join
import Derived.Shelf.Strings.Builder1
namespace Go.Proofs.YthkifkfnlmjafaaDoor.G
open Go.RowKit Go.Proofs.YthkifkfnlmjafaaDoorW.PrintWords Go.Proofs.YthkifkfnlmjafaaDoorW.PrintLast Go.Proofs.YthkifkfnlmjafaaDoorW.PrintMore
attribute [local go_sem] max2_int min2_int max_two min_two max_three min_three max_four min_four   -- for this text's walks alone
set_option linter.unusedVariables false
set_option linter.unusedSimpArgs false

open Go.Proofs.YthkifkfnlmjafaaDoor.Wk
/-- What a call leans on: the library's table of powers reads as it was laid. -/
structure Lw (w : World) : Prop where
  tab : Lib.TabIs Tryd.prog w "internal/strconv.uint64pow10" .u64 Lib.pow10Tab
theorem Lw.on {w w' : World} (h : Lw w) (hb : Below w.heap.size w w') : Lw w' := ⟨Lib.tabBelow_of_tabIs h.tab w' hb⟩
theorem below_draws (w : World) (k : Nat) (os : Array Obj) : Below w.heap.size w (Sort.grow (w.drewN k) os) :=
  ⟨rfl, rfl, rfl, by simp [Sort.grow, World.drewN], fun i hi => by
    show (w.heap ++ os)[i]? = w.heap[i]?
    rw [Array.getElem?_append_left hi]⟩
theorem fmt10 (n : Int) (h0 : -9223372036854775808 ≤ n) (h1 : n ≤ 9223372036854775807) (w : World) (hL : Lw w) :
    Calls Tryd.prog 62 #[.int .i64 n, .int .i64 10] w fun e w' => e = .returned (.string ⟨(Lib.itoa n).toArray⟩) ∧ Below w.heap.size w w' :=
  (Any.strconv_FormatInt_10 Tryd.layFmt n h0 h1 w hL.tab).mono fun e w' ⟨he, k, os, hw⟩ => ⟨he, hw ▸ below_draws w k os⟩
def impl_decimal.f (a0 : Int) : Option ByteArray := if -9223372036854775808 ≤ a0 ∧ a0 ≤ 9223372036854775807 then some ⟨(Lib.itoa a0).toArray⟩ else none
theorem impl_decimal.calls (a0 : Int) (r : ByteArray) (w : World) (h : impl_decimal.f a0 = some r) (hL : Lw w) :
    Calls Tryd.prog 32 #[.int .i64 a0] w fun e w' => e = .returned (.string r) ∧ Below w.heap.size w w' := by
  unfold impl_decimal.f at h
  by_cases hb : -9223372036854775808 ≤ a0 ∧ a0 ≤ 9223372036854775807
  · rw [if_pos hb] at h
    obtain rfl := Option.some.inj h
    have HF := Lib.hid (fmt10 a0 hb.1 hb.2 w hL)
    clear h hL hb
    go_enter Tryd.func32, Tryd.ntmps32
    go_wp2_with (go_at_call 62; refine HF.out.mono ?_; rintro e w' ⟨rfl, hb⟩)
    go_ret
    exact ⟨rfl, hb⟩
  · rw [if_neg hb] at h
    cases h
def joinB (l : List ByteArray) (s : ByteArray) : List UInt8 := Lib.join (l.map (·.data.toList)) s.data.toList
def strings_Join.f (l0 : List ByteArray) (a1 : ByteArray) : Option ByteArray := if (joinB l0 a1).length ≤ 140737488355328 ∧ l0.length ≤ 140737488355328 then some ⟨(joinB l0 a1).toArray⟩ else none
theorem C_str_cells {w : World} {A : Option Addr} {l : List ByteArray} (h : Kd.C Kd.string w A l.length l) : 0 < l.length → ∃ ad, A = some ad ∧ ∀ j x, l[j]? = some x → w.cell? (ad.add j) = some (.string x) := by
  intro hn
  obtain ⟨ad, e, hc⟩ := h.2.2 hn
  refine ⟨ad, e, fun j x hj => ?_⟩
  obtain ⟨c, _, hK, hcell⟩ := hc j _ hj
  have hK : c = [.string x] := hK
  subst hK
  have := hcell 0 _ rfl
  rwa [show Kd.string.sz = 1 from rfl, Nat.mul_one, Nat.add_zero] at this
theorem strings_Join.calls (A0 : Option Addr) (c0 : Nat) (l0 : List ByteArray) (a1 : ByteArray) (r : ByteArray) (w : World) (hr0 : Kd.C Kd.string w A0 l0.length l0) (hc0 : l0.length ≤ c0) (h : strings_Join.f l0 a1 = some r) :
    Calls Tryd.prog 33 #[.slice A0 l0.length c0, .string a1] w fun e w' => e = .returned (.string r) ∧ Below w.heap.size w w' := by
  unfold strings_Join.f at h
  by_cases hb : (joinB l0 a1).length ≤ 140737488355328 ∧ l0.length ≤ 140737488355328
  · rw [if_pos hb] at h
    obtain rfl := Option.some.inj h
    rcases Nat.eq_zero_or_pos l0.length with h0 | h0
    · obtain rfl : l0 = [] := List.length_eq_zero_iff.1 h0
      exact (Any.strings_Join_none Tryd.layJoin Tryd.extraJoin A0 c0 a1 w).mono fun e w' ⟨he, hw⟩ => ⟨he, hw ▸ Below.refl _ _⟩
    · obtain ⟨ad, rfl, hcell⟩ := C_str_cells hr0 h0
      obtain ⟨bk, o, hd⟩ : ∃ bk o, ad = ⟨bk, o, none⟩ := by
        obtain ⟨b, o, q⟩ := ad
        cases q with
        | none => exact ⟨b, o, rfl⟩
        | some q =>
          have := hcell 0 l0[0] (List.getElem?_eq_getElem h0)
          simp only [Addr.add, World.cell?] at this
          split at this <;> cases this
      subst hd
      exact Any.strings_Join Tryd.layJoin Tryd.extraJoin bk o c0 l0 a1 w (fun j x hj => by
        have h1 := hcell j x hj
        unfold Addr.add at h1
        by_cases e : j = 0
        · subst e
          simpa using h1
        · simpa [e] using h1) (World.block_lt_of_cell? w _ (hcell 0 l0[0] (List.getElem?_eq_getElem h0))) hb.2 hc0 hb.1
  · rw [if_neg hb] at h
    cases h
namespace Txt
/-- A text of its bytes. -/
def B (l : List UInt8) : ByteArray := ⟨l.toArray⟩
theorem ext {a b : ByteArray} (h : a.data.toList = b.data.toList) : a = b := by
  cases a; cases b
  simp only at h
  rw [Array.toList_inj.1 h]
theorem B_toList (l : List UInt8) : (B l).data.toList = l := by simp [B]
theorem B_self (a : ByteArray) : B a.data.toList = a := by cases a; simp [B]
theorem B_append (a b : List UInt8) : B a ++ B b = B (a ++ b) := ext (by
  rw [B_toList]
  show (ByteArray.append (B a) (B b)).data.toList = _
  rw [show ByteArray.append (B a) (B b) = B a ++ B b from rfl, ByteArray.data_append]
  simp [B])
theorem B_size (l : List UInt8) : (B l).size = l.length := by simp [B, ByteArray.size]
/-- Some texts, a byte between each two. -/
def joinL (s : UInt8) : List (List UInt8) → List UInt8
  | [] => []
  | x :: r => x ++ (r.map fun y => s :: y).flatten
theorem join_t (l : List (List UInt8)) (s : UInt8) (h : (joinL s l).length ≤ 140737488355328) (h2 : l.length ≤ 140737488355328) : strings_Join.f (l.map B) (B [s]) = some (B (joinL s l)) := by
  have e : joinB (l.map B) (B [s]) = joinL s l := by
    unfold joinB
    rw [List.map_map, show ((fun x : ByteArray => x.data.toList) ∘ B) = id from funext fun x => B_toList x, List.map_id, B_toList]
    cases l with
    | nil => exact Lib.join_nil _
    | cons x r => rw [Lib.join_cons]; rfl
  unfold strings_Join.f
  rw [e, List.length_map, if_pos ⟨h, h2⟩]
  rfl
theorem joinL_len (s : UInt8) (c : Nat) : ∀ l : List (List UInt8), (∀ x ∈ l, x.length ≤ c) → (joinL s l).length ≤ (c + 1) * l.length
  | [], _ => by simp [joinL]
  | x :: r, h => by
    have h1 := h x (List.mem_cons_self)
    have key : ∀ r : List (List UInt8), (∀ x ∈ r, x.length ≤ c) → ((r.map fun y => s :: y).flatten).length ≤ (c + 1) * r.length := by
      intro r
      induction r with
      | nil => intro _; simp
      | cons y r ih =>
        intro h
        have h2 := h y (List.mem_cons_self)
        have h3 := ih fun z hz => h z (List.mem_cons_of_mem _ hz)
        rw [List.map_cons, List.flatten_cons, List.length_append, List.length_cons, List.length_cons, Nat.mul_add]
        omega
    have h2 := key r fun z hz => h z (List.mem_cons_of_mem _ hz)
    unfold joinL
    rw [List.length_append, List.length_cons, Nat.mul_add]
    omega
end Txt
/-- A builder stands while every old block stands. -/
theorem builder_below {T e : TypeId} {B b : Nat} {bs : List Value} {w w' : World} (h : Lib.IsBuilder T e B b bs w) (hb : Below w.heap.size w w') : Lib.IsBuilder T e B b bs w' := by
  have key : ∀ p, Lib.BuilderAt T e B b p bs w → Lib.BuilderAt T e B b p bs w' := fun p ⟨h1, v, h2, h3, h4⟩ =>
    ⟨h1, v, (hb.block b (Array.getElem?_eq_some_iff.1 h2).1).trans h2, h3.kept (grown_of_below hb none) (by
      cases h5 : v.ownBlock with
      | none => exact Or.inl rfl
      | some k => exact Or.inr (by simp)), h4⟩
  exact h.elim (fun x => Or.inl (key _ x)) (fun x => Or.inr (key _ x))
theorem reletC {P : Program} {c : Code} {Q : Exit → Act → World → Prop} {a : Act} {W : World} (F : World → Prop) (hF : F W) (h : ∀ w', F w' → Code.wp P c Q a w') : Code.wp P c Q a W := h W hF
theorem reletE {K : Act → World → Prop} {Q : Exit → Act → World → Prop} {e : Exit} {a : Act} {W : World} (F : World → Prop) (hF : F W) (h : ∀ w', F w' → Exit.then K Q e a w') : Exit.then K Q e a W := h W hF
theorem reletI {n : Nat} {K : Exit → Act → World → Prop} {e : Exit} {a : Act} {W : World} (F : World → Prop) (hF : F W) (h : ∀ w', F w' → Exit.inBlock n K e a w') : Exit.inBlock n K e a W := h W hF
theorem builder_write (B b : Nat) (l : List UInt8) (s : List UInt8) (w : World) (h : Lib.IsBuilder 67 5 B b (Lib.byteCells l) w) (hlen : l.length + s.length ≤ 140737488355328) (hBw : B ≤ w.heap.size) :
    Calls Tryd.prog 38 #[.pointer (some ⟨b, 0, none⟩), .string (Txt.B s)] w fun e w' => (∃ v, e = .returned v) ∧ Lib.IsBuilder 67 5 B b (Lib.byteCells (l ++ s)) w' ∧ Below B w w' := by
  refine (Any.Builder_WriteString { Tryd.layJoin with } Tryd.extraJoin B b (Lib.byteCells l) (Txt.B s) w h (by rw [Txt.B_size, Lib.byteCells, List.length_map]; exact hlen) hBw).mono fun e w' ⟨he, hI, hb⟩ => ⟨⟨_, he⟩, Or.inr ?_, hb⟩
  have e2 : Lib.byteCells l ++ Lib.strCells (Txt.B s) = Lib.byteCells (l ++ s) := by
    unfold Lib.strCells Lib.byteCells
    rw [List.map_append, Txt.B_toList]
  rw [← e2]
  exact hI
theorem builder_string (B b : Nat) (l : List UInt8) (w : World) (h : Lib.IsBuilder 67 5 B b (Lib.byteCells l) w) (hBw : B ≤ w.heap.size) :
    Calls Tryd.prog 40 #[.pointer (some ⟨b, 0, none⟩)] w fun e w' => e = .returned (.string (Txt.B l)) ∧ Below B w w' :=
  Any.Builder_String_any Tryd.layBS Tryd.extraBS B b l w h hBw
end Go.Proofs.YthkifkfnlmjafaaDoor.G
