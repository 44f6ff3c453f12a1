import Derived.Deep.Slices
import Derived.ChangeSlices
import Derived.SizedLaws
import Derived.Carry
import Derived.OpenShut
import Derived.Test.YtckcgfpbmojmoaaZWWords
namespace Go.Proofs.Ytckcgfpbmojmoaa.Rd
open Go.ChangeShapes Go.WideShapes Go.Deep Go.Proofs.YtckcgfpbmojmoaaW.PrintWords
structure Opn (P : Program) (t : TypeId) {α : Type} (d : Kd α) (G : α → Prop) : Prop where
  sz : d.sz = P.cellsOf t
  go : ∀ {H : Type} {enc : TypeId × Value → H} {w : World} {base : Nat} {spare : Nat → Bool} {held : Bool} {fuel : Nat} {cs : List Value} {x : DataW H × List MemPlace},
    DataW.trod enc P w base spare held fuel t cs = some x → ∃ y, d.K w y cs ∧ G y
theorem opn_int {P : Program} {t : TypeId} {k : IntKind} (hu : P.underlying t = some (.int k)) (hc : P.cellsOf t = 1) : Opn P t (Kd.int k) (fun n => (Lit.int k n).wf = true) :=
  ⟨hc.symm, fun h => by
    obtain ⟨n, rfl, _, hw⟩ := DataW.trod_int hu h
    exact ⟨n, rfl, hw⟩⟩
theorem row_C {P : Program} {e : TypeId} {α : Type} {d : Kd α} {G : α → Prop} (o : Opn P e d G) {H : Type} {enc : TypeId × Value → H} {w : World} {base : Nat} {spare : Nat → Bool} {held : Bool} {len m n : Nat} {a : Addr}
    {D : Nat → DataW H} {Pl : Nat → List MemPlace} (hlm : len ≤ m) (hl : len ≤ 9223372036854775807)
    (hx : ∀ i, i < m → ∃ cs', w.cells? base (a.add (i * P.cellsOf e)) (P.cellsOf e) = some cs' ∧ DataW.trod enc P w base spare held n e cs' = some (D i, Pl i)) :
    ∃ l : List α, l.length = len ∧ Kd.C d w (some a) len l ∧ ∀ x ∈ l, G x := by
  have key : ∀ n' , n' ≤ len → ∃ l : List α, l.length = n' ∧ (∀ j p, l[j]? = some p → ∃ c, c.length = d.sz ∧ d.K w p c ∧ ∀ i u, c[i]? = some u → w.cell? (a.add (j * d.sz + i)) = some u) ∧ ∀ x ∈ l, G x := by
    intro n'
    induction n' with
    | zero => exact fun _ => ⟨[], rfl, fun j p h => by simp at h, fun x h => by simp at h⟩
    | succ n' ih =>
      intro hn
      obtain ⟨l, hlen, hc, hg⟩ := ih (by omega)
      obtain ⟨cs', h1, h2⟩ := hx n' (by omega)
      obtain ⟨y, hK, hG⟩ := o.go h2
      obtain ⟨_, hcl, hcell⟩ := World.cells?_some h1
      refine ⟨l ++ [y], by simp [hlen], fun j p hj => ?_, fun x hx' => ?_⟩
      · rcases Nat.lt_or_ge j l.length with hj' | hj'
        · rw [List.getElem?_append_left hj'] at hj
          exact hc j p hj
        · have hjn : j = n' := by
            have := (List.getElem?_eq_some_iff.1 hj).1
            simp at this
            omega
          subst hjn
          have hp : p = y := by
            rw [List.getElem?_append_right (by omega), hlen] at hj
            simpa using hj.symm
          subst hp; refine ⟨cs', by rw [hcl, o.sz], hK, fun i u hu => ?_⟩
          have hi : i < cs'.length := (List.getElem?_eq_some_iff.1 hu).1
          have h3 := hcell i (by omega)
          rw [Deep.add_add, ← o.sz, hu] at h3
          exact h3
      · rcases List.mem_append.1 hx' with h | h
        · exact hg x h
        · rw [List.mem_singleton.1 h]; exact hG
  obtain ⟨l, hlen, hc, hg⟩ := key len (Nat.le_refl _)
  exact ⟨l, hlen, ⟨hlen, hl, fun _ => ⟨a, rfl, hc⟩⟩, hg⟩
theorem opn_slice {P : Program} {t e : TypeId} {α : Type} {d : Kd α} {G : α → Prop} (hu : P.underlying t = some (.slice e)) (hc : P.cellsOf t = 1) (o : Opn P e d G) :
    Opn P t (Kd.slice e d) (fun l => l.length ≤ 9223372036854775807 ∧ ∀ x ∈ l, G x) :=
  ⟨hc.symm, fun {H enc w base spare held fuel cs x} h => by
    rcases open_slice hu h with ⟨rfl, _⟩ | ⟨a, len, cap, m, n, D, Pl, rfl, _, hl, hm, hmm, _, hx⟩
    · exact ⟨[], ⟨none, 0, rfl, Nat.le_refl _, rfl, by simp, fun h => absurd h (by simp)⟩, by simp, by simp⟩
    · have hlm : len ≤ m := by rw [hmm]; split <;> omega
      unfold maxLen at hm
      obtain ⟨l, rfl, hC, hG⟩ := row_C o hlm (by omega) hx
      exact ⟨l, ⟨some a, cap, rfl, hl, hC⟩, by omega, hG⟩⟩
theorem arg_slice {P : Program} {t e : TypeId} {α : Type} {d : Kd α} {G : α → Prop} (hu : P.underlying t = some (.slice e)) (o : Opn P e d G)
    {H : Type} {enc : TypeId × Value → H} {W : World} {base : Nat} {spare : Nat → Bool} {held : Bool} {v : Value} {r : Reach} {b0 : Nat} {dd : DataW H} {ps : List MemPlace} {ts : List TypeId} {ds : List (DataW H)} {j : Nat}
    (hv : Value.okWide P W r b0 t v) (h : DataW.Trod enc P W base spare held t v dd ps)
    (hsz : (DataW.weightsEach P ts ds).all (· ≤ reachBytes) = true) (ht : ts[j]? = some t) (hd : ds[j]? = some dd) {B : Nat} (hB : P.bytesOf e = B) :
    ∃ (A : Option Addr) (c : Nat) (l : List α), v = .slice A l.length c ∧ l.length ≤ c ∧ Kd.C d W A l.length l ∧ l.length * B ≤ 140737488351232 ∧ ∀ x ∈ l, G x := by
  obtain ⟨a0, len, cap, rfl⟩ := okWide_slice hu hv
  obtain ⟨fuel, hf⟩ := h
  rcases open_slice hu hf with ⟨hcs, _⟩ | ⟨a, len', cap', m, n, D, Pl, hcs, _, hl, hm, hmm, hx0, hx⟩
  · simp [Value.cells] at hcs
    obtain ⟨rfl, rfl, rfl⟩ := hcs
    exact ⟨none, 0, [], rfl, Nat.le_refl _, ⟨rfl, by simp, fun h => absurd h (by simp)⟩, by simp, by simp⟩
  · simp [Value.cells] at hcs
    obtain ⟨rfl, rfl, rfl⟩ := hcs
    have hlm : len ≤ m := by rw [hmm]; split <;> omega
    unfold maxLen at hm
    obtain ⟨hx1, _⟩ := Prod.mk.inj hx0
    rw [hx1] at hd
    have z := sized_slice hsz ht hd hu
    rw [hB] at z
    obtain ⟨l, rfl, hC, hG⟩ := row_C o hlm (by omega) hx
    refine ⟨some a, cap, l, rfl, hl, hC, Nat.le_trans (Nat.mul_le_mul_right _ ?_) z, hG⟩
    simp
theorem arg_struct {P : Program} {t : TypeId} {fs : Array Field} {α : Type} {d : Kd α} {G : α → Prop} (hu : P.underlying t = some (.struct fs)) (o : Opn P t d G)
    {H : Type} {enc : TypeId × Value → H} {W : World} {base : Nat} {spare : Nat → Bool} {held : Bool} {v : Value} {r : Reach} {b0 : Nat} {dd : DataW H} {ps : List MemPlace}
    (hv : Value.okWide P W r b0 t v) (h : DataW.Trod enc P W base spare held t v dd ps) : ∃ (y : α) (cs : List Value), v = .agg cs.toArray ∧ d.K W y cs ∧ G y := by
  obtain ⟨cs, rfl, _⟩ := okWide_struct hu hv
  obtain ⟨fuel, hf⟩ := h
  obtain ⟨y, hK, hG⟩ := o.go hf
  exact ⟨y, cs.toList, by simp, hK, hG⟩
theorem list1 {α : Type} {cs : List α} (h : cs.length = 1) : ∃ a, cs = [a] := by
  match cs, h with | [a], _ => exact ⟨a, rfl⟩
theorem list2 {α : Type} {cs : List α} (h : cs.length = 2) : ∃ a b, cs = [a, b] := by
  match cs, h with | [a, b], _ => exact ⟨a, b, rfl⟩
theorem list3 {α : Type} {cs : List α} (h : cs.length = 3) : ∃ a b c, cs = [a, b, c] := by
  match cs, h with | [a, b, c], _ => exact ⟨a, b, c, rfl⟩
theorem list5 {α : Type} {cs : List α} (h : cs.length = 5) : ∃ a b c d e, cs = [a, b, c, d, e] := by
  match cs, h with | [a, b, c, d, e], _ => exact ⟨a, b, c, d, e, rfl⟩
theorem list6 {α : Type} {cs : List α} (h : cs.length = 6) : ∃ a b c d e f, cs = [a, b, c, d, e, f] := by
  match cs, h with | [a, b, c, d, e, f], _ => exact ⟨a, b, c, d, e, f, rfl⟩
theorem in_i8 {n : Int} (h : (Lit.int .i8 n).wf = true) : -128 ≤ n ∧ n ≤ 127 := by
  simp [Lit.wf, IntKind.min, IntKind.max, IntKind.signed, IntKind.bits] at h; omega
theorem in_i16 {n : Int} (h : (Lit.int .i16 n).wf = true) : -32768 ≤ n ∧ n ≤ 32767 := by
  simp [Lit.wf, IntKind.min, IntKind.max, IntKind.signed, IntKind.bits] at h; omega
theorem in_u8 {n : Int} (h : (Lit.int .u8 n).wf = true) : 0 ≤ n ∧ n ≤ 255 := by
  simp [Lit.wf, IntKind.min, IntKind.max, IntKind.signed, IntKind.bits] at h; omega
theorem in_i64 {n : Int} (h : (Lit.int .i64 n).wf = true) : -9223372036854775808 ≤ n ∧ n ≤ 9223372036854775807 := by
  simp [Lit.wf, IntKind.min, IntKind.max, IntKind.signed, IntKind.bits] at h; omega
theorem cell_int {P : Program} {t : TypeId} {k : IntKind} (hu : P.underlying t = some (.int k)) {H : Type} {enc : TypeId × Value → H} {w : World} {base : Nat} {spare : Nat → Bool} {held : Bool} {fuel : Nat} {c : Value} {x : DataW H × List MemPlace}
    (h : DataW.trod enc P w base spare held fuel t [c] = some x) : ∃ n, c = .int k n ∧ (Lit.int k n).wf = true := by
  obtain ⟨n, h1, _, hw⟩ := DataW.trod_int hu h
  exact ⟨n, by simpa using h1, hw⟩
end Go.Proofs.Ytckcgfpbmojmoaa.Rd
