/- laws.markMarks: writes every number of every row. For walks by hand. -/
import Derived.Test.YthkifkfnlmjafaaDoorPl
import Derived.Test.YthkifkfnlmjafaaDoorFHpI64
import Derived.Test.YthkifkfnlmjafaaDoorG1
import Derived.Test.YthkifkfnlmjafaaDoorG1
namespace Go.Proofs.YthkifkfnlmjafaaDoor.G
open Go.RowKit Go.Proofs.YthkifkfnlmjafaaDoorW.PrintWords Go.Proofs.YthkifkfnlmjafaaDoorW.PrintLast Go.Proofs.YthkifkfnlmjafaaDoorW.PrintMore
attribute [local go_sem] max2_int min2_int max_two min_two max_three min_three max_four min_four   -- for this text's walks alone
set_option linter.unusedVariables false
set_option linter.unusedSimpArgs false

open Go.Proofs.YthkifkfnlmjafaaDoor.Wk Go.Proofs.YthkifkfnlmjafaaDoor.Pl
namespace MkMarks

def row (q : Int) (n : Nat) : List Int := (List.range n).map fun j => mkInt64 (cnt q 1 j)
def step (l : List (List Int)) (s : Int × List (List Int)) (i : Nat) : Int × List (List Int) := (cnt s.1 1 (l.getD i []).length, s.2.set i (row s.1 (l.getD i []).length))
def marked (l : List (List Int)) (q : Int) : Int × List (List Int) := stF (step l) (q, l) l.length
theorem len (l : List (List Int)) (q : Int) (i : Nat) : (stF (step l) (q, l) i).2.length = l.length := by
  induction i with
  | zero => rfl
  | succ i ih => rw [stF_succ]; simpa [step] using ih
theorem later (l : List (List Int)) (q : Int) (i j : Nat) (h : i ≤ j) : (stF (step l) (q, l) i).2.getD j [] = l.getD j [] := by
  induction i with
  | zero => rfl
  | succ i ih =>
    rw [stF_succ]
    have := ih (by omega)
    simp only [step, List.getD] at this ⊢
    rw [List.getElem?_set_ne (by omega)]
    exact this
theorem bound (l : List (List Int)) (q : Int) (hq : 0 ≤ q) (hx : ∀ x ∈ l, (x.length : Int) ≤ 1048576) (i : Nat) (hi : i ≤ l.length) : 0 ≤ (stF (step l) (q, l) i).1 ∧ (stF (step l) (q, l) i).1 ≤ q + 1048576 * i := by
  induction i with
  | zero => exact ⟨hq, by show q ≤ _; omega⟩
  | succ i ih =>
    rw [stF_succ]
    have h1 := ih (by omega)
    have h2 : ((l.getD i []).length : Int) ≤ 1048576 := by rw [getD_lt (show i < l.length by omega)]; exact hx _ (List.getElem_mem _)
    simp only [step, cnt, Nat.one_mul]
    omega
set_option maxHeartbeats 4000000 in
set_option maxRecDepth 100000 in
theorem calls (ok : Nat → Prop) (v : Value) (l : List (List Int)) (q : Int) (w0 w : World) (hB : Below w0.heap.size w0 w) (hS : Kd.S (Kd.slice 2 (Kd.int .i64)) 76 w w0.heap.size ok v l)
    (hl : l.length ≤ 1048576) (hx : ∀ x ∈ l, (x.length : Int) ≤ 1048576) (hq : 0 ≤ q) (hq2 : q ≤ 1152921504606846976 / 2) :
    Calls Tryd.prog 23 #[v, .int .i64 q] w fun e w' => e = .returned (.int .i64 (marked l q).1) ∧ Kd.S (Kd.slice 2 (Kd.int .i64)) 76 w' w0.heap.size ok v (marked l q).2 ∧ Below w0.heap.size w0 w' ∧ Kept w w' ok := by
  obtain ⟨A, c, rfl⟩ := Kd.S_slice hS
  have HS0 := Aside0.mk hS
  have HB0 := Aside0.mk hB
  clear hS hB
  have HX := Lib.hid hx
  clear hx
  go_enter Tryd.func23, Tryd.ntmps23
  go_wp2
  go_loopg [1, 5] l.length (fun gg s1 s5 wr => ∃ i : Nat, i ≤ l.length ∧ l.length - i ≤ gg ∧ s1 = .int .i64 (stF (step l) (q, l) i).1 ∧ s5 = .int .i64 i ∧
    Aside0 (Kd.S (Kd.slice 2 (Kd.int .i64)) 76 wr w0.heap.size ok (.slice A l.length c) (stF (step l) (q, l) i).2) ∧ Aside0 (Below w0.heap.size w0 wr) ∧ Aside0 (Kept w wr ok))
  case atStart => exact ⟨0, Nat.zero_le _, by omega, rfl, rfl, HS0, HB0, ⟨Kept.refl _ _⟩⟩
  case round =>
    clear HS0 HB0
    obtain ⟨i, hi, hg, rfl, rfl, HS, HB, HK⟩ := hrel
    have hlen := len l q i
    have hbnd := bound l q hq HX.out i hi
    have hlat := later l q i i (Nat.le_refl _)
    by_cases hlt : i < l.length
    · have hltz : (i : Int) < (l.length : Int) := by omega
      have hrow : ((l.getD i []).length : Int) ≤ 1048576 := by rw [getD_lt hlt]; exact HX.out _ (List.getElem_mem hlt)
      have hnext : stF (step l) (q, l) (i + 1) = step l (stF (step l) (q, l) i) i := stF_succ _ _ _
      generalize hst : stF (step l) (q, l) i = st at *
      obtain ⟨q1, l1⟩ := st
      simp only at hlen hbnd hlat
      obtain ⟨g, cap, he, hbase, hsz, hG⟩ := Kd.S_form HS.out (show 0 < l1.length by omega)
      injection he with he1 he2 he3
      subst he1
      subst he3
      have HS1 : Kd.S (Kd.slice 2 (Kd.int .i64)) 76 wr w0.heap.size ok (.slice (some ⟨g, 0, none⟩) l.length c) l1 := HS.out
      obtain ⟨oki, ce, hcl, hM, hcc, hfr, hoki, hH⟩ := Kd.S_elem HS1 [] (i : Int) (by omega) (by omega)
      obtain ⟨u, rfl, hR⟩ := hM
      have hx0 := hcc 0 _ rfl
      rw [show ((Kd.slice 2 (Kd.int .i64))).sz = 1 from rfl, Nat.mul_one, Nat.add_zero, Int.toNat_natCast] at hx0
      have hR2 : Kd.R (Kd.int .i64) 2 wr w0.heap.size oki u (l.getD i []) := by rw [← hlat]; exact hR
      have HR := Lib.hid hR2
      have HH := Lib.hid hH
      have HO := Lib.hid hoki
      have hmk := markInt64S_tells (l.getD i []) (by omega) q1 (by omega) (by omega) ((l.getD i []).length + 1) (by omega)
      have hcall := fun W' (e : W' = wr) => laws_markInt64S.calls ((l.getD i []).length + 1) (fun k_ => some k_ = u.ownBlock) u (l.getD i []) q1 _ _ w0 W' (by rw [e]; exact HB.out) (by rw [e]; exact Kd.R_tight rfl HR.out) hmk
      have Hcall := Lib.hid hcall
      have Hnext := Lib.hid hnext
      have Hlen := Lib.hid hlen
      clear hcc hfr hcl hR hR2 hH hoki hmk hcall hG HS1 hlat hrow he2 hlen hnext hst
      have hx1 : wr.cell? ((⟨g, 0, none⟩ : Addr).add i) = some u := by simp only [add_plain]; exact hx0
      go_wp2_with (go_at_call 54; refine (Hcall.out _ rfl).mono ?_; rintro e w' ⟨rfl, hy, hb, hkp⟩)
      go_roundg (l.length - (i + 1))
      case measure => omega
      case rel =>
        refine ⟨i + 1, by omega, by omega, by rw [Hnext.out]; show _ = Value.int IntKind.i64 (cnt q1 1 (l.getD i []).length); rw [getD_lt hlt], by go_num, ⟨?_⟩, ⟨hb⟩, ⟨?_⟩⟩
        · rw [Hnext.out]
          have hy2 := Kd.R_reok (ok := oki) rfl hy (fun k e => HR.out.1 k e)
          have hH2 := Kd.H_kept HH.out hkp (fun k _ hn hs => hn (HR.out.1 k hs.symm))
          have hS2 := Kd.H_back hH2 (Kd.M_row hy2) (fun _ hk => hk)
          simpa [step, row] using hS2
        · exact HK.out.then_ hkp (fun k hk => .inl (HO.out k (HR.out.1 k hk.symm)).1)
    · have hltz : ¬ (i : Int) < (l.length : Int) := by omega
      obtain rfl : i = l.length := by omega
      go_wp2
      go_ret
      exact ⟨rfl, HS.out, HB.out, HK.out⟩
theorem written (l : List (List Int)) (q : Int) (i : Nat) (hi : i < l.length) (d : Nat) : (stF (step l) (q, l) (i + 1 + d)).2.getD i [] = row (stF (step l) (q, l) i).1 (l.getD i []).length := by
  induction d with
  | zero =>
    rw [Nat.add_zero, stF_succ]
    simp only [step]
    rw [getD_set_self (by rw [len]; exact hi)]
  | succ d ih =>
    rw [show i + 1 + (d + 1) = (i + 1 + d) + 1 by omega, stF_succ, ← ih]
    simp only [step, List.getD]
    rw [List.getElem?_set_ne (by omega)]
theorem held_tells (l : List (List Int)) (q : Int) (hl : l.length ≤ 1048576) (hx : ∀ x ∈ l, (x.length : Int) ≤ 1048576) (hq : 0 ≤ q) (hq2 : q ≤ 1152921504606846976 / 2) : Ev (fun k => laws_heldMarks.f k (marked l q).2 q) (marked l q).1 := by
  unfold laws_heldMarks.f
  have hml : (marked l q).2.length = l.length := len l q l.length
  exact ev_steps (F := fun k i (x : Int) => laws_heldMarks.l0 k (marked l q).2 x i) 0 l.length (Nat.zero_le _) (fun i => (stF (step l) (q, l) i).1) (marked l q).1 (fun i _ hi h => by
    have hb := bound l q hq hx i (by omega)
    have hrow : ((l.getD i []).length : Int) ≤ 1048576 := by rw [getD_lt hi]; exact hx _ (List.getElem_mem hi)
    have hw : (marked l q).2.getD i [] = row (stF (step l) (q, l) i).1 (l.getD i []).length := by
      have := written l q i hi (l.length - (i + 1))
      rwa [show i + 1 + (l.length - (i + 1)) = l.length by omega] at this
    have hr : rd_L1 (marked l q).2 (i : Int) = row (stF (step l) (q, l) i).1 (l.getD i []).length := hw
    refine Ev.step (fun k => laws_heldMarks.l0.eq_2 _ _ _ k) ?_
    simp only [hml, hr, if_pos (show (i : Int) < (l.length : Int) by omega), if_pos (show (0 : Int) ≤ (i : Int) by omega), w_i hi (show l.length ≤ 4611686018427387904 by omega)]
    refine Ev.bind (ev_of (heldInt64S_tells (l.getD i []).length (by omega) (stF (step l) (q, l) i).1 hb.1 (by omega))) ?_
    simp only [if_neg (cnt_ok hb.1)]
    rw [stF_succ] at h
    exact h) (by
    refine Ev.step (fun k => laws_heldMarks.l0.eq_2 _ _ _ k) ?_
    simp only [hml, if_neg (show ¬ ((l.length : Int) < (l.length : Int)) by omega)]
    exact Ev.now _)
end MkMarks
end Go.Proofs.YthkifkfnlmjafaaDoor.G
