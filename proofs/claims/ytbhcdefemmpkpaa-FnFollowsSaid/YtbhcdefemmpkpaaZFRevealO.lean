import Derived.Test.YtbhcdefemmpkpaaZPl
import Derived.Test.YtbhcdefemmpkpaaZFSortA
import Derived.Test.YtbhcdefemmpkpaaZFCloneI64
import Derived.Test.YtbhcdefemmpkpaaZFAreBottles
import Derived.Test.YtbhcdefemmpkpaaZFLibI64
import Derived.Lib.RowBridge
import Derived.BigQuiet
import Derived.ChangeAlike
import Derived.Test.YtbhcdefemmpkpaaZG3
import Derived.Test.YtbhcdefemmpkpaaZG2
import Derived.Test.YtbhcdefemmpkpaaZG2
namespace Go.Proofs.Ytbhcdefemmpkpaa.G
open Go.RowKit Go.Proofs.YtbhcdefemmpkpaaW.PrintWords Go.Proofs.YtbhcdefemmpkpaaW.PrintLast Go.Proofs.YtbhcdefemmpkpaaW.PrintMore
attribute [local go_sem] max2_int min2_int max_two min_two max_three min_three max_four min_four
set_option linter.unusedVariables false
set_option linter.unusedSimpArgs false
open Go.Proofs.Ytbhcdefemmpkpaa.Wk Go.Proofs.Ytbhcdefemmpkpaa.Pl
namespace Rev
abbrev B := S44
def dup (l : List Int) : Bool := decide (¬ (Lib.compact (SortA.sorted l)).length = l.length)
def code (l0 : List Int) (l2 : List B) : Int := if (l2.all bB) = true then (if inB (l0.length : Int) 1 8 = true then (if dup l0 = true then 2 else if l2.length = l0.length then 0 else 2) else 2) else 1
def rev (l0 : List Int) (l2 : List B) : List Int → List B → List B × Int
  | [], out => (out, 0)
  | n :: r, out => if idxI l0 n < 0 then ([], 6) else rev l0 l2 r (out ++ [l2.getD (idxI l0 n).toNat z44])
def out (l0 l1 : List Int) (l2 : List B) : List B × Int := if code l0 l2 = 0 then (if l1.length > 100 then ([], 3) else rev l0 l2 l1 []) else ([], code l0 l2)
theorem idx_lt (l : List Int) (x : Int) : idxI l x < 0 ∨ ∃ i : Nat, idxI l x = i ∧ i < l.length := by
  unfold idxI
  cases h : (List.range l.length).find? (fun j => l.getD j 0 == x) with
  | none => left; show (-1 : Int) < 0; omega
  | some j => right; exact ⟨j, rfl, List.mem_range.1 (List.mem_of_find?_eq_some h)⟩
theorem samples_t (x : Int) : impl_areSamples.f x = some (inB x 1 8) := by
  unfold impl_areSamples.f
  rw [within_tells2]
  rfl
theorem codeOf_t (a b : Bool) : impl_codeOf.f a b = some (if a = true then (if b = true then 0 else 2) else 1) := by
  unfold impl_codeOf.f
  cases a <;> cases b <;> rfl
end Rev
open Rev
def impl_RevealOrder.f (l0 l1 : List Int) (l2 : List B) : Option (List B × Int) := if l0.length ≤ 1048576 ∧ l1.length ≤ 1048576 ∧ l2.length ≤ 1048576 then some (out l0 l1 l2) else none
set_option maxHeartbeats 8000000 in
set_option maxRecDepth 100000 in
theorem impl_RevealOrder.calls (A0 : Option Addr) (c0 : Nat) (l0 : List Int) (A1 : Option Addr) (c1 : Nat) (l1 : List Int) (A2 : Option Addr) (c2 : Nat) (l2 : List B) (r1 : List B) (r2 : Int) (w : World) (hr0 : Kd.C (Kd.int .i64) w A0 l0.length l0) (hc0 : l0.length ≤ c0) (hr1 : Kd.C (Kd.int .i64) w A1 l1.length l1) (hc1 : l1.length ≤ c1) (hr2 : Kd.C k44 w A2 l2.length l2) (hc2 : l2.length ≤ c2) (h : impl_RevealOrder.f l0 l1 l2 = some (r1, r2)) :
    Calls Try.prog 23 #[.slice A0 l0.length c0, .slice A1 l1.length c1, .slice A2 l2.length c2] w fun e w' => ∃ v0_ : Value, e = .returned (.tuple #[v0_, .int .i64 r2]) ∧ Kd.R k44 44 w' w.heap.size (fun _ => True) v0_ r1 ∧ Below w.heap.size w w' := by
  unfold impl_RevealOrder.f at h
  by_cases hlim : l0.length ≤ 1048576 ∧ l1.length ≤ 1048576 ∧ l2.length ≤ 1048576
  case neg => rw [if_neg hlim] at h; cases h
  rw [if_pos hlim] at h
  obtain ⟨hm0, hm1, hm2⟩ := hlim
  replace h := Option.some.inj h
  have HR0 := Aside0.mk hr0; have HR1 := Aside0.mk hr1; have HR2 := Aside0.mk hr2; clear hr0 hr1 hr2; have HCL := Lib.hid (show cloneI64.f l0 = some l0 by unfold cloneI64.f; rw [if_pos (by omega)])
  have HAB := Lib.hid (show impl_areBottles.f l2 = some (l2.all bB) from rfl)
  have HSM := Lib.hid (samples_t (l0.length : Int))
  have HIX := Lib.hid fun x => (index_tells l0 x (by omega)).rounds
  have hcm : (Lib.compact (SortA.sorted l0)).length ≤ l0.length := by have := Lib.compact_length_le (SortA.sorted l0); rw [SortA.sorted_len] at this; exact this
  have HSC := Lib.hid fun W v (hW : Below w.heap.size w W) (h : SortA.SV w.heap.size W v (SortA.sorted l0)) => SortA.compact w.heap.size W v (SortA.sorted l0) h (by rw [SortA.sorted_len]; omega) hW.size
  unfold out code dup at h
  have HIL := Lib.hid (idx_lt l0)
  generalize (Lib.compact (SortA.sorted l0)).length = m at hcm h HSC
  generalize l2.all bB = vb at h HAB
  generalize inB (l0.length : Int) 1 8 = vs at h HSM
  by_cases hgo : vb = true ∧ vs = true ∧ m = l0.length ∧ l2.length = l0.length
  case neg =>
    obtain ⟨cd, hcd, hne, rfl, rfl⟩ : ∃ cd : Int, (if vb = true then (if (vs && (decide (m = l0.length) && decide (l2.length = l0.length))) = true then 0 else 2) else 1 : Int) = cd ∧ ¬ cd = 0 ∧ [] = r1 ∧ cd = r2 := by
      refine ⟨_, rfl, ?_, ?_, ?_⟩
      all_goals
        revert h hgo
        cases vb <;> cases vs <;> by_cases hd : m = l0.length <;> by_cases he : l2.length = l0.length <;> simp [hd, he] <;> (try (intro a b; (first | exact a | exact b)))
    clear h; have hn1 : (cd != 0) = true := bne_iff_ne.mpr hne
    have hn2 : (cd == 0) = false := beq_eq_false_iff_ne.mpr hne
    clear hne hgo; cases vs
    · have HCO := Lib.hid (show impl_codeOf.f vb false = some cd by rw [codeOf_t]; simpa using hcd)
      clear hcd; go_enter Try.func23, Try.ntmps23
      go_wp2_with (first | (go_at_call 49; (refine (cloneI64.calls A0 c0 l0 l0 _ HR0.out hc0 HCL.out).mono ?_; rintro e w1 ⟨v1, rfl, hR1, hb1⟩; have R1 := Aside0.mk hR1; have B1 := Aside0.mk hb1; clear hR1 hb1)) | (go_at_call 67; (refine (SortA.sort w.heap.size _ _ v1 l0 R1.out (by omega) B1.out.size).mono ?_; rintro e w2 ⟨rfl, hS, hb2⟩; have S2 := Aside0.mk hS; have B2 := Aside0.mk (B1.out.trans hb2); clear hS hb2 R1 B1)) | (go_at_call 68; (refine (HSC.out _ _ B2.out S2.out).mono ?_; rintro e w3 ⟨A3, c3, rfl, hb3⟩; have B3 := Aside0.mk (B2.out.trans hb3); clear hb3 S2 B2)) | (go_at_call 70; (refine (impl_areBottles.calls A2 c2 l2 vb _ (Kd.C_below HR2.out B3.out) hc2 HAB.out).mono ?_; rintro e w4 ⟨rfl, hb4⟩; have B4 := Aside0.mk (below_then B3.out B3.out.size hb4); clear hb4 B3)) | (go_at_call 48; ((with_reducible refine (impl_areSamples.calls _ _ _ HSM.out).mono ?_); rintro e w5 ⟨rfl, ⟨nd5, rfl⟩⟩)) | (go_at_call 69; ((with_reducible refine (impl_codeOf.calls vb false cd _ HCO.out).mono ?_); rintro e w6 ⟨rfl, ⟨nd6, rfl⟩⟩)))
      go_ret2
      exact ⟨_, rfl, Kd.R_nil _ _ _ _ _, pw_below_drewN B4.out _⟩
    · by_cases hd : m = l0.length
      · have HCO := Lib.hid (show impl_codeOf.f vb ((l2.length : Int) == (l0.length : Int)) = some cd by rw [codeOf_t, show ((l2.length : Int) == (l0.length : Int)) = decide (l2.length = l0.length) by rw [Bool.eq_iff_iff]; simp; omega]; simpa [hd] using hcd)
        clear hcd; subst hd; go_enter Try.func23, Try.ntmps23
        go_wp2_with (first | (go_at_call 49; (refine (cloneI64.calls A0 c0 l0 l0 _ HR0.out hc0 HCL.out).mono ?_; rintro e w1 ⟨v1, rfl, hR1, hb1⟩; have R1 := Aside0.mk hR1; have B1 := Aside0.mk hb1; clear hR1 hb1)) | (go_at_call 67; (refine (SortA.sort w.heap.size _ _ v1 l0 R1.out (by omega) B1.out.size).mono ?_; rintro e w2 ⟨rfl, hS, hb2⟩; have S2 := Aside0.mk hS; have B2 := Aside0.mk (B1.out.trans hb2); clear hS hb2 R1 B1)) | (go_at_call 68; (refine (HSC.out _ _ B2.out S2.out).mono ?_; rintro e w3 ⟨A3, c3, rfl, hb3⟩; have B3 := Aside0.mk (B2.out.trans hb3); clear hb3 S2 B2)) | (go_at_call 70; (refine (impl_areBottles.calls A2 c2 l2 vb _ (Kd.C_below HR2.out B3.out) hc2 HAB.out).mono ?_; rintro e w4 ⟨rfl, hb4⟩; have B4 := Aside0.mk (below_then B3.out B3.out.size hb4); clear hb4 B3)) | (go_at_call 48; ((with_reducible refine (impl_areSamples.calls _ _ _ HSM.out).mono ?_); rintro e w5 ⟨rfl, ⟨nd5, rfl⟩⟩)) | (go_at_call 69; ((with_reducible refine (impl_codeOf.calls vb ((l2.length : Int) == (l0.length : Int)) cd _ HCO.out).mono ?_); rintro e w6 ⟨rfl, ⟨nd6, rfl⟩⟩)))
        go_ret2
        exact ⟨_, rfl, Kd.R_nil _ _ _ _ _, pw_below_drewN B4.out _⟩
      · have HCO := Lib.hid (show impl_codeOf.f vb false = some cd by rw [codeOf_t]; simpa [hd] using hcd)
        clear hcd; have hd1 : ((m : Int) != (l0.length : Int)) = true := bne_iff_ne.mpr (by omega)
        have hd2 : ((m : Int) == (l0.length : Int)) = false := beq_eq_false_iff_ne.mpr (by omega)
        have hd3 : (m != l0.length) = true := bne_iff_ne.mpr hd
        have hd4 : (m == l0.length) = false := beq_eq_false_iff_ne.mpr hd
        go_enter Try.func23, Try.ntmps23
        go_wp2_with (first | (go_at_call 49; (refine (cloneI64.calls A0 c0 l0 l0 _ HR0.out hc0 HCL.out).mono ?_; rintro e w1 ⟨v1, rfl, hR1, hb1⟩; have R1 := Aside0.mk hR1; have B1 := Aside0.mk hb1; clear hR1 hb1)) | (go_at_call 67; (refine (SortA.sort w.heap.size _ _ v1 l0 R1.out (by omega) B1.out.size).mono ?_; rintro e w2 ⟨rfl, hS, hb2⟩; have S2 := Aside0.mk hS; have B2 := Aside0.mk (B1.out.trans hb2); clear hS hb2 R1 B1)) | (go_at_call 68; (refine (HSC.out _ _ B2.out S2.out).mono ?_; rintro e w3 ⟨A3, c3, rfl, hb3⟩; have B3 := Aside0.mk (B2.out.trans hb3); clear hb3 S2 B2)) | (go_at_call 70; (refine (impl_areBottles.calls A2 c2 l2 vb _ (Kd.C_below HR2.out B3.out) hc2 HAB.out).mono ?_; rintro e w4 ⟨rfl, hb4⟩; have B4 := Aside0.mk (below_then B3.out B3.out.size hb4); clear hb4 B3)) | (go_at_call 48; ((with_reducible refine (impl_areSamples.calls _ _ _ HSM.out).mono ?_); rintro e w5 ⟨rfl, ⟨nd5, rfl⟩⟩)) | (go_at_call 69; ((with_reducible refine (impl_codeOf.calls vb false cd _ HCO.out).mono ?_); rintro e w6 ⟨rfl, ⟨nd6, rfl⟩⟩)))
        go_ret2
        exact ⟨_, rfl, Kd.R_nil _ _ _ _ _, pw_below_drewN B4.out _⟩
  case pos =>
    obtain ⟨rfl, rfl, rfl, he⟩ := hgo
    simp only [if_true, he, Bool.false_eq_true, if_false, decide_not, decide_true, Bool.not_true, not_true_eq_false, decide_false] at h
    have HE := Lib.hid he
    have HCO := Lib.hid (show impl_codeOf.f true ((l2.length : Int) == (l0.length : Int)) = some 0 by rw [codeOf_t, he]; simp)
    clear he; by_cases hlong : l1.length > 100
    · rw [if_pos hlong] at h
      obtain ⟨rfl, rfl⟩ := Prod.mk.inj h
      clear h; have hl : ((100 : Int) < (l1.length : Int)) := by omega
      go_enter Try.func23, Try.ntmps23
      go_wp2_with (first | (go_at_call 49; (refine (cloneI64.calls A0 c0 l0 l0 _ HR0.out hc0 HCL.out).mono ?_; rintro e w1 ⟨v1, rfl, hR1, hb1⟩; have R1 := Aside0.mk hR1; have B1 := Aside0.mk hb1; clear hR1 hb1)) | (go_at_call 67; (refine (SortA.sort w.heap.size _ _ v1 l0 R1.out (by omega) B1.out.size).mono ?_; rintro e w2 ⟨rfl, hS, hb2⟩; have S2 := Aside0.mk hS; have B2 := Aside0.mk (B1.out.trans hb2); clear hS hb2 R1 B1)) | (go_at_call 68; (refine (HSC.out _ _ B2.out S2.out).mono ?_; rintro e w3 ⟨A3, c3, rfl, hb3⟩; have B3 := Aside0.mk (B2.out.trans hb3); clear hb3 S2 B2)) | (go_at_call 70; (refine (impl_areBottles.calls A2 c2 l2 true _ (Kd.C_below HR2.out B3.out) hc2 HAB.out).mono ?_; rintro e w4 ⟨rfl, hb4⟩; have B4 := Aside0.mk (below_then B3.out B3.out.size hb4); clear hb4 B3)) | (go_at_call 48; ((with_reducible refine (impl_areSamples.calls _ _ _ HSM.out).mono ?_); rintro e w5 ⟨rfl, ⟨nd5, rfl⟩⟩)) | (go_at_call 69; ((with_reducible refine (impl_codeOf.calls true ((l2.length : Int) == (l0.length : Int)) 0 _ HCO.out).mono ?_); rintro e w6 ⟨rfl, ⟨nd6, rfl⟩⟩)))
      go_ret2
      exact ⟨_, rfl, Kd.R_nil _ _ _ _ _, pw_below_drewN B4.out _⟩
    · rw [if_neg hlong] at h
      have hl : ¬ ((100 : Int) < (l1.length : Int)) := by omega
      have HH := Lib.hid h
      clear h; go_enter Try.func23, Try.ntmps23
      go_wp2_with (first | (go_at_call 49; (refine (cloneI64.calls A0 c0 l0 l0 _ HR0.out hc0 HCL.out).mono ?_; rintro e w1 ⟨v1, rfl, hR1, hb1⟩; have R1 := Aside0.mk hR1; have B1 := Aside0.mk hb1; clear hR1 hb1)) | (go_at_call 67; (refine (SortA.sort w.heap.size _ _ v1 l0 R1.out (by omega) B1.out.size).mono ?_; rintro e w2 ⟨rfl, hS, hb2⟩; have S2 := Aside0.mk hS; have B2 := Aside0.mk (B1.out.trans hb2); clear hS hb2 R1 B1)) | (go_at_call 68; (refine (HSC.out _ _ B2.out S2.out).mono ?_; rintro e w3 ⟨A3, c3, rfl, hb3⟩; have B3 := Aside0.mk (B2.out.trans hb3); clear hb3 S2 B2)) | (go_at_call 70; (refine (impl_areBottles.calls A2 c2 l2 true _ (Kd.C_below HR2.out B3.out) hc2 HAB.out).mono ?_; rintro e w4 ⟨rfl, hb4⟩; have B4 := Aside0.mk (below_then B3.out B3.out.size hb4); clear hb4 B3)) | (go_at_call 48; ((with_reducible refine (impl_areSamples.calls _ _ _ HSM.out).mono ?_); rintro e w5 ⟨rfl, ⟨nd5, rfl⟩⟩)) | (go_at_call 69; ((with_reducible refine (impl_codeOf.calls true ((l2.length : Int) == (l0.length : Int)) 0 _ HCO.out).mono ?_); rintro e w6 ⟨rfl, ⟨nd6, rfl⟩⟩)) | ((with_reducible refine gate_dst (N := 48) rfl ?_); (try (refine gate_guard (by rfl) ?_; dsimp only)); refine Kd.R_lit k44 _ 44 ?hg (N := 48) ?hd (xs := ([] : List B)) (inner := []) (ok := fun _ => True) (okp := fun _ => True) ?hr ?hp (fun _ hk => hk) trivial (Below.refl _ _) (Nat.le_refl _) (by simp) ?_; (case hd => rfl); (case hg => rfl); (case hr => first | (go_simp; done) | (go_simp; rfl)); (case hp => exact (Reps.none _ _)); intro v9 w9 ho9 hb9 hg_ hnew_; clear hg_ hnew_; have B9 := Aside0.mk (below_then (pw_below_drewN B4.out _) (pw_below_drewN B4.out _).size hb9); have R9 := Aside0.mk (Kd.R_lower ho9 (pw_below_drewN B4.out _).size); clear ho9 hb9 B4))
      clear hl; go_loopg [51, 11] l1.length (fun gg v51 v11 wr => ∃ (kk : Nat) (out : List B), kk ≤ l1.length ∧ l1.length - kk ≤ gg ∧ v51 = .int .i64 kk ∧ out.length ≤ kk ∧ Aside0 (Kd.R k44 44 wr w.heap.size (fun _ => True) v11 out) ∧ Aside0 (Below w.heap.size w wr) ∧ Hid (rev l0 l2 (l1.drop kk) out = (r1, r2)))
      case atStart => exact ⟨0, [], Nat.zero_le _, by omega, rfl, by simp, R9, B9, HH⟩
      case round =>
        clear R9 B9 HH; obtain ⟨kk, out, hk, hgg, rfl, hol, R9, B9, HH⟩ := hrel
        by_cases hlt : kk < l1.length
        · have hlt' : (kk : Int) < (l1.length : Int) := by omega
          have H := HH.out; clear HH; obtain ⟨ad, rfl, x0⟩ := Kd.at_int HR1.out kk (by omega) (by omega)
          have hy : rd l1 (kk : Int) = l1.getD kk 0 := rfl
          rw [Int.toNat_natCast, hy] at x0
          clear hy; rw [List.drop_eq_getElem_cons hlt, ← getD_lt hlt 0, rev] at H
          replace x0 := pw_cell_below B9.out x0
          generalize l1.getD kk 0 = x at x0 H
          obtain ⟨kq, hkq⟩ := HIX.out x
          have hil := HIL.out x
          generalize idxI l0 x = q at H hkq hil
          have HQ := Lib.hid hkq
          clear hkq; by_cases hq : q < 0
          · rw [if_pos hq] at H
            obtain ⟨rfl, rfl⟩ := Prod.mk.inj H
            clear H hil; go_wp2_with (go_at_call 60; ((with_reducible refine (slices_Index_int64_int64.calls kq A0 c0 l0 x q _ (Kd.C_below HR0.out B9.out) hc0 HQ.out).mono ?_); rintro e w10 ⟨rfl, ⟨nd10, rfl⟩⟩))
            go_ret2
            exact ⟨_, rfl, Kd.R_nil _ _ _ _ _, pw_below_drewN B9.out _⟩
          · rw [if_neg hq] at H
            obtain ⟨i, rfl, hi⟩ : ∃ i : Nat, q = i ∧ i < l0.length := by rcases hil with h | h; exact absurd h hq; exact h
            rw [Int.toNat_natCast] at H
            clear hil; have hi2 : (i : Int) < (l2.length : Int) := by have := HE.out; omega
            have hi3 : (0 : Int) ≤ (i : Int) := by omega
            obtain ⟨ad2, rfl, y0, y1⟩ := at_T44 HR2.out i hi3 hi2
            have hy : rd_T44 l2 (i : Int) = l2.getD i z44 := rfl
            rw [Int.toNat_natCast, hy] at y0 y1
            clear hy; replace y0 := pw_cell_below B9.out y0
            replace y1 := pw_cell_below B9.out y1
            generalize l2.getD i z44 = y at y0 y1 H
            have HH := Lib.hid H
            clear H; go_wp2_with (first | (go_at_call 60; ((with_reducible refine (slices_Index_int64_int64.calls kq A0 c0 l0 x i _ (Kd.C_below HR0.out B9.out) hc0 HQ.out).mono ?_); rintro e w10 ⟨rfl, ⟨nd10, rfl⟩⟩)) | ((with_reducible refine gate_builtin (b := .append) (xs := #[.tmp 60, .tmp 65]) rfl ?_); at_builtin; refine Kd.R_append k44 (w0 := w) w.heap.size rfl (.tmp 60) (.tmp 65) 40 44 (.agg #[(.int .u8 0), (.int .i16 0)]) 4 rfl Try.underlying40 info44 rfl (by decide) (by omega) u11 out y [.int .u8 y.f0, .int .i16 y.f1] (fun _ => True) (fun _ => False) rfl rfl ?aP (fun _ hk => hk.elim) ?aF ?aO ?aB ?aS ?aL ?_; (case aP => exact k44_mkM _ _ _ y); (case aB => exact (by repeat (first | (with_reducible first | exact B9.out | apply below_alloc | apply pw_below_drewN | apply below_drew1) | exact B9.out))); (case aF => exact (fun _ _ => trivial)); (case aO => exact (by (with_reducible repeat (first | apply Kd.R_alloc | apply Kd.R_drewN | apply Kd.R_drew)); exact R9.out)); (case aS => exact (below_size (by repeat (first | (with_reducible first | exact B9.out | apply below_alloc | apply pw_below_drewN | apply below_drew1) | exact B9.out)))); (case aL => omega); intro v122 w31 ho hb hg hat; have R10 := Aside0.mk ho; have B10 := Aside0.mk hb; clear ho hb hg hat))
            go_roundg (l1.length - (kk + 1))
            case measure => omega
            case rel => exact ⟨kk + 1, _, by omega, by omega, by go_num, by simp; omega, R10, B10, HH⟩
        · have hlt' : ¬ (kk : Int) < (l1.length : Int) := by omega
          obtain rfl : kk = l1.length := by omega
          have H := HH.out; clear HH; rw [List.drop_length] at H
          obtain ⟨rfl, rfl⟩ := Prod.mk.inj (show (out, (0 : Int)) = (r1, r2) from H)
          clear H; go_wp2
          go_ret2
          exact ⟨_, rfl, R9.out, B9.out⟩
end Go.Proofs.Ytbhcdefemmpkpaa.G
