/- slices.DeleteFunc at []impl.Entry, on a row of the call's own: what the predicate lets go is struck out in place. The predicate: any function value that answers so and turns nothing that was there. -/
import Derived.Test.YtgjkpjagmhdfgaaG0
import Derived.Test.YtgjkpjagmhdfgaaWk
import Derived.Test.YtgjkpjagmhdfgaaPl
import Derived.Test.YtgjkpjagmhdfgaaFContEntry
import Derived.Outline
namespace Go.Proofs.Ytgjkpjagmhdfgaa.G
open Go.RowKit Go.Proofs.YtgjkpjagmhdfgaaW.PrintWords Go.Proofs.YtgjkpjagmhdfgaaW.PrintLast Go.Proofs.YtgjkpjagmhdfgaaW.PrintMore
attribute [local go_sem] max2_int min2_int max_two min_two max_three min_three max_four min_four   -- for this text's walks alone
set_option linter.unusedVariables false
set_option linter.unusedSimpArgs false

open Go.Proofs.Ytgjkpjagmhdfgaa.Wk Go.Proofs.Ytgjkpjagmhdfgaa.Pl
namespace DelEntry
abbrev E := S63
abbrev D := k63
def cells (x : E) : List Value := [.int .i16 x.f0, .int .i8 x.f1, .int .i8 x.f2, .int .u8 x.f3, .int .i16 x.f4]
abbrev RE (W : World) (base : Nat) (ok : Nat → Prop) (v : Value) (xs : List E) : Prop := Kd.R D 63 W base ok v xs
def zc : List Value := [.int .i16 0, .int .i8 0, .int .i8 0, .int .u8 0, .int .i16 0]
/-- One element written anew. -/
theorem put {W : World} {base g n cap : Nat} {ok : Nat → Prop} {xs : List E} (h : RE W base ok (.slice (some ⟨g, 0, none⟩) n cap) xs) (i : Nat) (hi : i < n) (y : E) :
    RE (W.setCells g (i * 5) (cells y)) base ok (.slice (some ⟨g, 0, none⟩) n cap) (xs.set i y) ∧ W.grownBy (W.setCells g (i * 5) (cells y)) (some g) := by
  obtain ⟨c, hcl, hM, hcc, hfr⟩ := Kd.R_elem h z63 (i : Int) (by omega) (by omega)
  obtain rfl := k63_openM hM
  exact Kd.R_seg h (i : Int) (by omega) (by omega) (seg := cells y) (j := 0) hcl hcc (show 5 ≤ 5 by decide) (x' := y) (k63_mkM _ _ _ y) (fun _ hk => hk)
theorem setCells_append (g : Nat) : ∀ (a b : List Value) (o : Nat) (W : World), W.setCells g o (a ++ b) = (W.setCells g o a).setCells g (o + a.length) b
  | [], b, o, W => by simp [World.setCells]
  | x :: a, b, o, W => by
    simp only [List.cons_append, World.setCells, List.length_cons]
    rw [setCells_append g a b (o + 1)]
    congr 1
    omega
theorem grown_then {W W1 W2 : World} {row : Option Nat} (h : W.grownBy W1 row) (k : W1.grownBy W2 row) : W.grownBy W2 row :=
  ⟨k.os.trans h.os, k.tape.trans h.tape, k.output.trans h.output, Nat.le_trans h.size k.size, fun i hi hr => (k.block i (Nat.lt_of_lt_of_le hi h.size) hr).trans (h.block i hi hr)⟩
theorem grown_refl (W : World) (row : Option Nat) : W.grownBy W row := ⟨rfl, rfl, rfl, Nat.le_refl _, fun _ _ _ => rfl⟩
/-- The tail of a row, made zero. -/
theorem wipe {base g n cap : Nat} {ok : Nat → Prop} : ∀ (m : Nat) {W : World} {xs : List E} (i : Nat), RE W base ok (.slice (some ⟨g, 0, none⟩) n cap) xs → i + m = n →
    ∃ ys, RE (W.setCells g (i * 5) (List.replicate m zc).flatten) base ok (.slice (some ⟨g, 0, none⟩) n cap) ys ∧ ys.take i = xs.take i ∧ W.grownBy (W.setCells g (i * 5) (List.replicate m zc).flatten) (some g) := by
  intro m
  induction m with
  | zero => exact fun {W xs} i h _ => ⟨xs, h, rfl, grown_refl _ _⟩
  | succ m ih =>
    intro W xs i h him
    obtain ⟨h1, g1⟩ := put h i (by omega) ⟨0, 0, 0, 0, 0⟩
    obtain ⟨ys, h2, e2, g2⟩ := ih (i + 1) h1 (by omega)
    rw [List.replicate_succ, List.flatten_cons, setCells_append]
    rw [show (i + 1) * 5 = i * 5 + zc.length by simp [zc]; omega] at h2 g2
    refine ⟨ys, h2, ?_, grown_then g1 g2⟩
    have := congrArg (List.take i) e2
    rw [List.take_take, List.take_take, Nat.min_eq_left (Nat.le_succ i)] at this
    rw [this]
    apply List.ext_getElem?
    intro j
    simp only [List.getElem?_take]
    split
    · rw [List.getElem?_set_ne (by omega)]
    · rfl
theorem flat_length (m : Nat) : ((List.replicate m zc).flatten).length = m * 5 := by simp [zc]
theorem flat_get (m j : Nat) (h : j < m * 5) : ((List.replicate m zc).flatten)[j]? = zc[j % 5]? := by
  induction m generalizing j with
  | zero => omega
  | succ m ih =>
    rw [List.replicate_succ, List.flatten_cons]
    by_cases hj : j < 5
    · rw [List.getElem?_append_left (by simpa [zc] using hj), Nat.mod_eq_of_lt hj]
    · rw [List.getElem?_append_right (by simp [zc]; omega), ih _ (by simp [zc]; omega)]
      congr 1
      simp only [zc, List.length_cons, List.length_nil]
      omega
theorem run_clear (w : World) (t e ty : TypeId) (ht : Try.prog.underlying t = some (.slice e)) (hv : ∀ w, (zeroValue e).run Try.prog w = .ok (.agg #[.int .i16 0, .int .i8 0, .int .i8 0, .int .u8 0, .int .i16 0]) w) (b o n c : Nat) (hn : 0 < n)
    (hc : ∀ j, j < n * 5 → (w.cell? ⟨b, o + j, none⟩).isSome = true) (hf : ∀ j, j < n * 5 → w.frozen? ⟨b, o + j, none⟩ = false) :
    (Builtin.clear_ #[t] ty #[.slice (some ⟨b, o, none⟩) n c]).run Try.prog w = .ok (.tuple #[]) (w.setCells b o (List.replicate n zc).flatten) := by
  have hzc : (Builtin.zeroCells (Value.agg #[.int .i16 0, .int .i8 0, .int .i8 0, .int .u8 0, .int .i16 0]).cells n).toList = (List.replicate n zc).flatten := by
    simp [Builtin.zeroCells, Value.cells]
    apply List.ext_getElem?
    intro j
    by_cases hj : j < n * 5
    · rw [flat_get n j hj]
      simp [hj]
      have h5 : j % 5 < 5 := Nat.mod_lt _ (by omega)
      generalize j % 5 = q at h5 ⊢
      rcases q with _ | _ | _ | _ | _ | q <;> first | rfl | omega
    · rw [List.getElem?_eq_none (by simp; omega), List.getElem?_eq_none (by rw [flat_length]; omega)]
  have hst := run_storeCells_cells (P := Try.prog) b o (List.replicate n zc).flatten 0 w (by rw [flat_length]; simpa using hc) (by rw [flat_length]; simpa using hf) (by
    intro v hv'
    obtain ⟨l, hl, hvl⟩ := List.mem_flatten.1 hv'
    rw [List.eq_of_mem_replicate hl] at hvl
    simp [zc] at hvl
    rcases hvl with rfl | rfl | rfl | rfl <;> rfl)
  simp only [Nat.add_zero] at hst
  obtain ⟨m, rfl⟩ : ∃ m, n = m + 1 := ⟨n - 1, by omega⟩
  simp [Builtin.clear_, run_underlying ht, hv, hzc, hst]
theorem cut {W : World} {base n c : Nat} {ok : Nat → Prop} {A : Option Addr} {xs : List E} (h : RE W base ok (.slice A n c) xs) {m : Nat} (hm : m ≤ n) : RE W base ok (.slice A m c) (xs.take m) := Kd.R_take h (by have := (Kd.R_reads' h).1; omega)
theorem set_take (xs : List E) (i : Nat) (h : i < xs.length) (x : E) : (xs.set i x).take (i + 1) = xs.take i ++ [x] := by
  rw [List.take_succ_eq_append_getElem (by rw [List.length_set]; exact h)]
  congr 1
  · apply List.ext_getElem?
    intro j
    simp only [List.getElem?_take]
    split
    · rw [List.getElem?_set_ne (by omega)]
    · rfl
  · simp
theorem zeroE (w : World) : (zeroValue 63).run Try.prog w = .ok (.agg #[.int .i16 0, .int .i8 0, .int .i8 0, .int .u8 0, .int .i16 0]) w := by kernel_rfl
theorem read {W : World} {A : Option Addr} {l : List E} (h : Kd.C D W A l.length l) : 0 < l.length → ∃ ad, A = some ad ∧ ∀ j, j < l.length → W.cell? (ad.add (j * 5)) = some (.int .i16 (l.getD j z63).f0) ∧ W.cell? ⟨(ad.add (j * 5)).block, (ad.add (j * 5)).off + 1, none⟩ = some (.int .i8 (l.getD j z63).f1) ∧ W.cell? ⟨(ad.add (j * 5)).block, (ad.add (j * 5)).off + 2, none⟩ = some (.int .i8 (l.getD j z63).f2) ∧ W.cell? ⟨(ad.add (j * 5)).block, (ad.add (j * 5)).off + 3, none⟩ = some (.int .u8 (l.getD j z63).f3) ∧ W.cell? ⟨(ad.add (j * 5)).block, (ad.add (j * 5)).off + 4, none⟩ = some (.int .i16 (l.getD j z63).f4) := by
  intro hp
  obtain ⟨ad, e, _⟩ := h.2.2 hp
  refine ⟨ad, e, fun j hj => ?_⟩
  obtain ⟨ad2, e2, x0, x1, x2, x3, x4⟩ := at_T63 h (j : Int) (by omega) (by omega)
  rw [e] at e2
  obtain rfl := Option.some.inj e2
  exact ⟨x0, x1, x2, x3, x4⟩
set_option maxHeartbeats 4000000 in
set_option maxRecDepth 100000 in
theorem deleteFunc (v : Value) (l : List E) (p : E → Bool) (g : Nat) (cb : Array Value) (w : World) (base : Nat) (ok : Nat → Prop) (eg : ∀ args w, (callFunc g args).run Try.prog w = .ok (.enter g args) w) (hl : l.length ≤ 1048576) (hR : RE w base ok v l)
    (hp : ∀ x ∈ l, ∀ W, w.grownBy W v.ownBlock → Calls Try.prog g (#[.agg #[.int .i16 x.f0, .int .i8 x.f1, .int .i8 x.f2, .int .u8 x.f3, .int .i16 x.f4]] ++ cb) W fun e W' => e = .returned (.bool (p x)) ∧ Below W.heap.size W W') :
    Calls Try.prog 45 #[v, .func (.func g) #[] cb] w fun e w' => ∃ v', e = .returned v' ∧ RE w' base ok v' (l.filter fun x => !(p x)) ∧ w.grownBy w' v.ownBlock := by
  obtain ⟨A, c, rfl, hle, hC⟩ := Kd.R_reads hR
  have hcon := ContEntry.indexFunc A l.length c (fun j i => (cells (l.getD j z63)).getD i undef) (fun j => p (l.getD j z63)) g cb w eg (by omega) (read hC) (fun j hj W hW => hp (l.getD j z63) (by rw [getD_lt hj]; exact List.getElem_mem hj) W (grown_of_below hW _))
  have HCON := Aside0.mk hcon
  have HP := Aside0.mk hp
  have HR := Aside0.mk hR
  clear hcon hp hR hC
  rcases first_bad (fun j => !(p (l.getD j z63))) l.length with h | ⟨m, hm, hbad, hb⟩
  · have e : wkFirst (fun j => p (l.getD j z63)) l.length = -1 := (wkFirst_miss (fun j hj => by simpa using h j hj)).symm
    have hf : (l.filter fun x => !(p x)) = l := by
      rw [List.filter_eq_self]
      intro x hx
      obtain ⟨j, hj, rfl⟩ := List.getElem_of_mem hx
      have := h j hj
      rwa [getD_lt hj] at this
    rw [e] at HCON
    rw [hf]
    clear h e hf
    go_enter Try.func45, Try.ntmps45
    go_wp2_with (go_at_call 58; refine HCON.out.mono ?_; rintro e w1 ⟨rfl, hb1⟩)
    go_ret
    exact ⟨_, rfl, Kd.R_below HR.out hb1, grown_of_below hb1 _⟩
  · have e : wkFirst (fun j => p (l.getD j z63)) l.length = (m : Int) := (wkFirst_hit hm (by simpa using hbad) (fun j hj => by simpa using hb j hj)).symm
    rw [e] at HCON
    obtain ⟨gb, cap, eA, hg1, hg2, hg3⟩ := Kd.R_form HR.out (by omega)
    injection eA with eA1 eA2 eA3
    subst eA1
    subst eA3
    clear eA2 hg1 hg2 hg3 e
    have hpre : (l.take (m + 1)).filter (fun x => !(p x)) = l.take m := by
      rw [List.take_succ_eq_append_getElem hm, List.filter_append]
      have h1 : (l.take m).filter (fun x => !(p x)) = l.take m := by
        rw [List.filter_eq_self]
        intro x hx
        obtain ⟨j, hj, rfl⟩ := List.getElem_of_mem hx
        have hjm : j < m := by rw [List.length_take] at hj; omega
        have := hb j hjm
        rw [getD_lt (by omega)] at this
        simpa using this
      rw [h1, ← getD_lt hm z63]
      have : p (l.getD m z63) = true := by simpa using hbad
      rw [List.filter_cons_of_neg (by rw [this]; simp), List.filter_nil, List.append_nil]
    clear hbad hb
    have HPRE := Lib.hid hpre
    clear hpre
    have hmne : ((m : Int) == -1) = false := beq_eq_false_iff_ne.mpr (by omega)
    go_enter Try.func45, Try.ntmps45
    go_wp2_with (go_at_call 58; refine HCON.out.mono ?_; rintro e w1 ⟨rfl, hb1⟩; have HR1 := Aside0.mk (Kd.R_below HR.out hb1); have HG1 := Aside0.mk (grown_of_below hb1 (some gb)); clear hb1)
    go_loopg [5, 6] l.length (fun gg s5 s6 wr => ∃ (i j : Nat) (xs : List E), i < j ∧ j ≤ l.length ∧ l.length - j ≤ gg ∧ s5 = .int .i64 i ∧ s6 = .int .i64 j ∧ xs.length = l.length ∧ Aside0 (RE wr base ok (.slice (some ⟨gb, 0, none⟩) l.length c) xs) ∧ Aside0 (w.grownBy wr (some gb)) ∧ Hid (xs.take i = (l.take j).filter (fun x => !(p x))) ∧ Hid (xs.drop j = l.drop j))
    case atStart => exact ⟨m, m + 1, l, by omega, by omega, by omega, rfl, by go_num, rfl, HR1, HG1, Lib.hid HPRE.out.symm, Lib.hid rfl⟩
    case round =>
      clear HR HR1 HG1 HPRE HCON
      obtain ⟨i, j, xs, hij, hj, hgg, rfl, rfl, hxl, HR1, HG1, HT, HD⟩ := hrel
      have HL := Lib.hid hxl
      clear hxl
      by_cases hlt : j < l.length
      · have hlt' : (j : Int) < (l.length : Int) := by omega
        have hin : (i : Int) < (l.length : Int) := by omega
        have hxj : xs.getD j z63 = l.getD j z63 := by
          have := congrArg (fun q => q.getD 0 z63) HD.out
          simpa [List.getD] using this
        have hmem : l.getD j z63 ∈ l := by rw [getD_lt hlt]; exact List.getElem_mem hlt
        have htj : (l.take (j + 1)).filter (fun x => !(p x)) = (l.take j).filter (fun x => !(p x)) ++ [l.getD j z63].filter (fun x => !(p x)) := by rw [List.take_succ_eq_append_getElem hlt, List.filter_append, getD_lt hlt]
        have R2 : RE wr base ok (.slice (some ⟨gb, 0, none⟩) xs.length c) xs := by rw [HL.out]; exact HR1.out
        obtain ⟨ad, e, hrd⟩ := read (Kd.R_reads' R2).2.2 (by rw [HL.out]; omega)
        obtain rfl := Option.some.inj e
        obtain ⟨x0, x1, x2, x3, x4⟩ := hrd j (by rw [HL.out]; exact hlt)
        clear hrd e R2
        simp only [add_plain] at x0 x1 x2 x3 x4
        rw [hxj] at x0 x1 x2 x3 x4
        generalize l.getD j z63 = x at x0 x1 x2 x3 x4 hxj hmem htj
        have HXJ := Lib.hid hxj
        have HTJ := Lib.hid htj
        clear hxj htj
        have hcall := fun W hW => HP.out x hmem W hW
        have HC := Aside0.mk hcall
        clear hcall
        cases hq : p x with
        | true =>
          rw [hq] at HC
          have HQ := Lib.hid hq
          clear hq
          go_wp2_with (go_at_fn g; refine (HC.out _ (grown_then HG1.out (World.grownBy_alloc _ _ _))).mono ?_; rintro e w' ⟨rfl, hb1⟩; have HR2 := Aside0.mk (Kd.R_below (Kd.R_alloc HR1.out _) hb1); have HG2 := Aside0.mk (grown_then (grown_then HG1.out (World.grownBy_alloc _ _ _)) (grown_of_below hb1 (some gb))); clear hb1)
          go_roundg (l.length - (j + 1))
          case measure => omega
          case rel => exact ⟨i, j + 1, xs, by omega, by omega, by omega, rfl, by go_num, HL.out, HR2, HG2, Lib.hid (by rw [HTJ.out, HT.out, List.filter_cons_of_neg (by rw [HQ.out]; simp), List.filter_nil, List.append_nil]), Lib.hid (by rw [← List.drop_drop, ← List.drop_drop, HD.out])⟩
        | false =>
          rw [hq] at HC
          have HQ := Lib.hid hq
          clear hq
          have b0 : (wr.alloc (.cells #[.int .i16 x.f0, .int .i8 x.f1, .int .i8 x.f2, .int .u8 x.f3, .int .i16 x.f4] 63)).cell? ⟨wr.heap.size, 0, none⟩ = some (.int .i16 x.f0) := by simp
          have b1 : (wr.alloc (.cells #[.int .i16 x.f0, .int .i8 x.f1, .int .i8 x.f2, .int .u8 x.f3, .int .i16 x.f4] 63)).cell? ⟨wr.heap.size, 1, none⟩ = some (.int .i8 x.f1) := by simp
          have b2 : (wr.alloc (.cells #[.int .i16 x.f0, .int .i8 x.f1, .int .i8 x.f2, .int .u8 x.f3, .int .i16 x.f4] 63)).cell? ⟨wr.heap.size, 2, none⟩ = some (.int .i8 x.f2) := by simp
          have b3 : (wr.alloc (.cells #[.int .i16 x.f0, .int .i8 x.f1, .int .i8 x.f2, .int .u8 x.f3, .int .i16 x.f4] 63)).cell? ⟨wr.heap.size, 3, none⟩ = some (.int .u8 x.f3) := by simp
          have b4 : (wr.alloc (.cells #[.int .i16 x.f0, .int .i8 x.f1, .int .i8 x.f2, .int .u8 x.f3, .int .i16 x.f4] 63)).cell? ⟨wr.heap.size, 4, none⟩ = some (.int .i16 x.f4) := by simp
          have hH := Aside0.mk (And.intro b0 (And.intro b1 (And.intro b2 (And.intro b3 b4))))
          clear b0 b1 b2 b3 b4
          go_wp2_with (go_at_fn g; refine (HC.out _ (grown_then HG1.out (World.grownBy_alloc _ _ _))).mono ?_; rintro e w' ⟨rfl, hb1⟩; have HR2 := Aside0.mk (Kd.R_below (Kd.R_alloc HR1.out _) hb1); have HG2 := Aside0.mk (grown_then (grown_then HG1.out (World.grownBy_alloc _ _ _)) (grown_of_below hb1 (some gb))); have b0 := pw_cell_below hb1 hH.out.1; have b1 := pw_cell_below hb1 hH.out.2.1; have b2 := pw_cell_below hb1 hH.out.2.2.1; have b3 := pw_cell_below hb1 hH.out.2.2.2.1; have b4 := pw_cell_below hb1 hH.out.2.2.2.2; clear hb1 hH; obtain ⟨ce, hcl, hM, hcc, hfr⟩ := Kd.R_elem HR2.out z63 (i : Int) (by omega) (by omega); obtain rfl := k63_openM hM; have y0 := hcc 0 _ rfl; have y1 := hcc 1 _ rfl; have y2 := hcc 2 _ rfl; have y3 := hcc 3 _ rfl; have y4 := hcc 4 _ rfl; have f0 := hfr 0; have f1 := hfr 1; have f2 := hfr 2; have f3 := hfr 3; have f4 := hfr 4; simp only [show (D).sz = 5 from rfl, Nat.add_zero, Int.toNat_natCast] at y0 y1 y2 y3 y4 f0 f1 f2 f3 f4; clear hcl hM hcc hfr)
          clear b0 b1 b2 b3 b4 y0 y1 y2 y3 y4 f0 f1 f2 f3 f4
          obtain ⟨p1, g1⟩ := put HR2.out i (by omega) x
          go_roundg (l.length - (j + 1))
          case measure => omega
          case rel => exact ⟨i + 1, j + 1, xs.set i x, by omega, by omega, by omega, by go_num, by go_num, by rw [List.length_set]; exact HL.out, ⟨p1⟩, ⟨grown_then HG2.out g1⟩, Lib.hid (by rw [HTJ.out, ← HT.out, List.filter_cons_of_pos (by rw [HQ.out]; rfl), List.filter_nil, set_take xs i (by rw [HL.out]; omega)]), Lib.hid (by rw [List.drop_set_of_lt (by omega), ← List.drop_drop, ← List.drop_drop, HD.out])⟩
      · have hlt' : ¬ (j : Int) < (l.length : Int) := by omega
        obtain rfl : j = l.length := by omega
        rw [List.take_length] at HT
        have hin : (i : Int) < (l.length : Int) := by omega
        have hin0 : (i : Int) ≤ (l.length : Int) := by omega
        have hle' : (l.length : Int) ≤ (c : Int) := by omega
        have hic : (i : Int) ≤ (c : Int) := by omega
        have hcell : ∀ q, q < (l.length - i) * 5 → (wr.cell? ⟨gb, i * 5 + q, none⟩).isSome = true ∧ wr.frozen? ⟨gb, i * 5 + q, none⟩ = false := by
          intro q hq
          obtain ⟨ce, hcl, hM, hcc, hfr⟩ := Kd.R_elem HR1.out z63 ((i + q / 5 : Nat) : Int) (by omega) (by omega)
          simp only [show (D).sz = 5 from rfl, Int.toNat_natCast] at hcl hcc hfr
          have hq5 : q % 5 < ce.length := by rw [hcl]; omega
          have h1 := hcc (q % 5) _ (List.getElem?_eq_getElem hq5)
          have h2 := hfr (q % 5)
          rw [show (i + q / 5) * 5 + q % 5 = i * 5 + q by omega] at h1 h2
          exact ⟨by rw [h1]; rfl, h2⟩
        have hclr := fun ty => run_clear wr 35 63 ty Try.underlying35 zeroE gb (i * 5) (l.length - i) (c - i) (by omega) (fun q hq => (hcell q hq).1) (fun q hq => (hcell q hq).2)
        clear hcell
        obtain ⟨ys, hys, heq, hgr⟩ := wipe (l.length - i) i HR1.out (by omega)
        have HY := Aside0.mk (cut hys (m := i) (by omega))
        have HG2 := Aside0.mk (grown_then HG1.out hgr)
        rw [heq, HT.out] at HY
        clear hys heq hgr HR1 HG1 HT HD
        go_wp2
        go_ret
        exact ⟨_, rfl, HY.out, HG2.out⟩
end DelEntry
end Go.Proofs.Ytgjkpjagmhdfgaa.G
