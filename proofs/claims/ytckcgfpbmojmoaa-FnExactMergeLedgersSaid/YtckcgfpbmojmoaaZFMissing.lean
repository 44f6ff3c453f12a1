import Derived.Test.YtckcgfpbmojmoaaZG0
import Derived.Test.YtckcgfpbmojmoaaZPl
import Derived.Test.YtckcgfpbmojmoaaZMapInc
import Derived.Maps.OwnOps
import Derived.ChangeKeys
import Derived.DeepKeys4
import Derived.MapViews
import Derived.BigQuiet
import Derived.BigRegion
import Derived.ChangeAlike
namespace Go.Proofs.Ytckcgfpbmojmoaa.G
open Go.RowKit Go.Proofs.YtckcgfpbmojmoaaW.PrintWords Go.Proofs.YtckcgfpbmojmoaaW.PrintLast Go.Proofs.YtckcgfpbmojmoaaW.PrintMore
attribute [local go_sem] max2_int min2_int max_two min_two max_three min_three max_four min_four
set_option linter.unusedVariables false
set_option linter.unusedSimpArgs false
set_option maxRecDepth 100000
open Go.Proofs.Ytckcgfpbmojmoaa.Wk Go.Proofs.Ytckcgfpbmojmoaa.Pl
namespace Miss
open Go.Maps Go.WideMaps Go.ChangeMaps Go.WideElems
abbrev E := S40
instance : DecidableEq E := fun a b => if h : a.f0 = b.f0 ∧ a.f1 = b.f1 ∧ a.f2 = b.f2 ∧ a.f3 = b.f3 ∧ a.f4 = b.f4 then .isTrue (by cases a; cases b; simp_all) else .isFalse (by intro e; subst e; simp at h)
def key (x : E) : Value := .agg #[.int .i16 x.f0, .int .i8 x.f1, .int .i8 x.f2, .int .u8 x.f3, .int .i16 x.f4]
def good (x : E) : Prop := (Lit.int .i16 x.f0).wf = true ∧ (Lit.int .i8 x.f1).wf = true ∧ (Lit.int .i8 x.f2).wf = true ∧ (Lit.int .u8 x.f3).wf = true ∧ (Lit.int .i16 x.f4).wf = true
theorem laidOut : laidOutB Try.prog = true := by kernel_rfl
theorem wide : (match Try.prog.underlying 40 with | some (.array _ _) | some (.struct _) => true | _ => false) = true := by kernel_rfl
theorem row : 40 < Try.prog.types.size := of_decide_eq_true (by kernel_rfl)
theorem law : KeyLaw Try.prog 40 := deep_law_laid laidOut (m := 2) (by omega) row (by kernel_rfl) wide
theorem deep : Try.prog.keyTypeAt (Try.prog.types.size + 1) 40 = true := by kernel_rfl
theorem zeroE (w : World) : (zeroValue 3).run Try.prog w = .ok (.int .i64 0) w := by kernel_rfl
theorem cE : Try.prog.cellsOf 40 = 5 := by kernel_rfl
theorem cI16 : Try.prog.cellsOf 37 = 1 := by kernel_rfl
theorem cI8 : Try.prog.cellsOf 38 = 1 := by kernel_rfl
theorem cU8 : Try.prog.cellsOf 5 = 1 := by kernel_rfl
theorem sz : ∃ d, Try.prog.types.size + 1 = d + 2 := ⟨Try.prog.types.size - 1, by have := row; omega⟩
theorem keyT : Try.prog.keyType 40 = true := deep
theorem keyed (x : E) (h : good x) : ∃ kl, keyOf Try.prog 40 (key x) = some kl := by
  obtain ⟨h0, h1, h2, h3, h4⟩ := h
  have hf : (key x).formed Try.prog 40 = true := by
    unfold key Value.formed
    simp [Try.underlying40, cE]
  obtain ⟨d, hd⟩ := sz
  unfold keyOf
  simp only [Try.underlying40, keyT, hf, Bool.and_self, if_true, hd]
  simp [Program.keyLits, key, Value.cells, Try.underlying40, Try.underlying37, Try.underlying38, Try.underlying5, cE, cI16, cI8, cU8, h0, h1, h2, h3, h4]
noncomputable def kl (x : E) : Lit := (keyOf Try.prog 40 (key x)).getD (.bool false)
theorem kl_of {x : E} (h : good x) : keyOf Try.prog 40 (key x) = some (kl x) := by
  obtain ⟨l, hl⟩ := keyed x h
  unfold kl
  rw [hl]
  rfl
theorem key_inj {x y : E} (h : key x = key y) : x = y := by
  unfold key at h
  injection h with h
  injection h with h
  cases x; cases y
  simp at h
  simp [h]
theorem kl_ne {x y : E} (hx : good x) (hy : good y) (h : x ≠ y) : kl x ≠ kl y := fun e => h (key_inj (law.inj (kl_of hx) (by rw [e]; exact kl_of hy)))
abbrev i64 (n : Int) : DataW Unit := .lit (.int .i64 n)
def Cnt (D : DataW Unit) (bag : List E) : Prop := ∀ x, good x → D.atKey (kl x) (i64 0) = i64 (bag.count x)
theorem Cnt.zero : Cnt (.map []) [] := fun x _ => rfl
theorem Cnt.step {D : DataW Unit} {bag bag' : List E} (h : Cnt D bag) (hD : IsMap D) {x : E} (hx : good x) (ho : ∀ y, y ≠ x → bag'.count y = bag.count y) : Cnt (D.put (kl x) (i64 (bag'.count x))) bag' := by
  intro y hy
  by_cases e : y = x
  · subst e
    exact atKey_put_same hD ((Keyed.of_law law).key (kl_of hy)) _ _
  · rw [atKey_put_other (kl_ne hy hx e), ho y e]
    exact h y hy
theorem Cnt.more {D : DataW Unit} {bag : List E} (h : Cnt D bag) (hD : IsMap D) {x : E} (hx : good x) : Cnt (D.put (kl x) (i64 ((bag.count x : Nat) + 1 : Int))) (bag ++ [x]) := by
  have := h.step (bag' := bag ++ [x]) hD hx (fun y hy => by simp [List.count_append, List.count_cons, Ne.symm hy])
  simpa [List.count_append] using this
theorem Cnt.less {D : DataW Unit} {bag : List E} (h : Cnt D bag) (hD : IsMap D) {x : E} (hx : good x) (hp : 0 < bag.count x) : Cnt (D.put (kl x) (i64 ((bag.count x : Nat) - 1 : Int))) (bag.erase x) := by
  have := h.step (bag' := bag.erase x) hD hx (fun y hy => by rw [List.count_erase_of_ne hy])
  rw [List.count_erase_self] at this
  rwa [show ((bag.count x - 1 : Nat) : Int) = (bag.count x : Int) - 1 by omega] at this
def go : List E → List E → List E → List E
  | [], _, out => out
  | x :: r, bag, out => if 0 < bag.count x then go r (bag.erase x) out else go r bag (out ++ [x])
def okE (x : E) : Bool := inB x.f0 (-32768) 32767 && inB x.f1 (-128) 127 && inB x.f2 (-128) 127 && inB x.f3 0 255 && inB x.f4 (-32768) 32767
theorem okE_good {x : E} (h : okE x = true) : good x := by
  unfold okE at h
  simp only [Bool.and_eq_true, inB_iff] at h
  unfold good
  simp only [Lit.wf, IntKind.min, IntKind.max, IntKind.signed, IntKind.bits, decide_eq_true_eq]
  obtain ⟨⟨⟨⟨h0, h1⟩, h2⟩, h3⟩, h4⟩ := h
  simp
  omega
theorem isMap_of {w : World} {b n : Nat} {D : DataW Unit} (h : w.ownsMap Try.prog 40 (plainElem Try.prog 3) b n D) : IsMap D := by
  obtain ⟨_, _, _, _, _, hD⟩ := h
  exact ⟨_, hD⟩
abbrev RO (W : World) (base : Nat) (v : Value) (xs : List E) : Prop := Kd.R k40 40 W base (fun k => k ≠ base) v xs
abbrev OM (W : World) (b n : Nat) (D : DataW Unit) : Prop := W.ownsMap Try.prog 40 (plainElem Try.prog 3) b n D
theorem reletC {P : Program} {c : Code} {Q : Exit → Act → World → Prop} {a : Act} {W : World} (F : World → Prop) (hF : F W) (h : ∀ w', F w' → Code.wp P c Q a w') : Code.wp P c Q a W := h W hF
theorem reletE {K : Act → World → Prop} {Q : Exit → Act → World → Prop} {e : Exit} {a : Act} {W : World} (F : World → Prop) (hF : F W) (h : ∀ w', F w' → Exit.then K Q e a w') : Exit.then K Q e a W := h W hF
theorem reletI {n : Nat} {K : Exit → Act → World → Prop} {e : Exit} {a : Act} {W : World} (F : World → Prop) (hF : F W) (h : ∀ w', F w' → Exit.inBlock n K e a w') : Exit.inBlock n K e a W := h W hF
theorem RO_map {W w1 : World} {base : Nat} {v : Value} {xs : List E} (h : RO W base v xs) (hg : W.grownBy w1 (some base)) : RO w1 base v xs := Kd.R_grown h hg (fun k hk e => hk (Option.some.inj e))
end Miss
open Miss
def impl_missing.f (l0 l1 : List E) : Option (List E) := if (l0.all okE && l1.all okE) = true ∧ l0.length ≤ 1048576 ∧ l1.length ≤ 1048576 then some (go l0 l1 []) else none
set_option maxHeartbeats 8000000 in
set_option maxRecDepth 100000 in
theorem impl_missing.calls (A0 : Option Addr) (c0 : Nat) (l0 : List E) (A1 : Option Addr) (c1 : Nat) (l1 : List E) (r : List E) (w : World) (hr0 : Kd.C k40 w A0 l0.length l0) (hc0 : l0.length ≤ c0) (hr1 : Kd.C k40 w A1 l1.length l1) (hc1 : l1.length ≤ c1) (h : impl_missing.f l0 l1 = some r) :
    Calls Try.prog 34 #[.slice A0 l0.length c0, .slice A1 l1.length c1] w fun e w' => ∃ v : Value, e = .returned v ∧ Kd.R k40 40 w' w.heap.size (fun _ => True) v r ∧ Below w.heap.size w w' := by
  unfold impl_missing.f at h
  by_cases hg : (l0.all okE && l1.all okE) = true ∧ l0.length ≤ 1048576 ∧ l1.length ≤ 1048576
  case neg => rw [if_neg hg] at h; cases h
  rw [if_pos hg] at h
  obtain ⟨hb, hlim0, hlim1⟩ := hg
  rw [Bool.and_eq_true] at hb
  have HBD0 := Aside0.mk (fun x hx => okE_good (List.all_eq_true.1 hb.1 x hx))
  have HBD1 := Aside0.mk (fun x hx => okE_good (List.all_eq_true.1 hb.2 x hx))
  clear hb; have HR0 := Aside0.mk hr0; have HR1 := Aside0.mk hr1; clear hr0 hr1; have HH := Lib.hid (Option.some.inj h)
  clear h; have hmm := @run_makeMap Try.prog
  have HM0 := Aside0.mk (World.ownsMap_made (H := Unit) w Try.prog 40 (plainElem Try.prog 3))
  have HB0 := Aside0.mk ((Below.refl w.heap.size w).alloc (Nat.le_refl _) (.map #[] 0))
  go_enter Try.func34, Try.ntmps34
  go_wp2_with (first | ((with_reducible refine gate_dst (N := 12) rfl ?_); (refine Kd.R_lit k40 _ 40 ?hg (N := 12) ?hd (xs := ([] : List E)) (inner := []) (ok := fun k => k ≠ w.heap.size) (okp := fun k => k ≠ w.heap.size) ?hr ?hp (fun _ hk => hk) ?hf HB0.out (by simp) (by simp) ?_; (case hf => simp); (case hd => rfl); (case hg => rfl); (case hr => first | (go_simp; done) | (go_simp; rfl)); (case hp => exact (Reps.none _ _)); intro v6 wl hol hbl hgl hnew_; clear hnew_; have R6 := Aside0.mk (show RO wl w.heap.size v6 [] from hol); have B6 := Aside0.mk hbl; have M6 := Aside0.mk (HM0.out.kept hgl (by simp)); clear hol hbl hgl HM0 HB0)))
  go_loopg [15] l1.length (fun gg v15 wr => ∃ (kk : Nat) (D : DataW Unit), kk ≤ l1.length ∧ l1.length - kk ≤ gg ∧ v15 = .int .i64 kk ∧ Aside0 (RO wr w.heap.size v6 []) ∧ Aside0 (Below w.heap.size w wr) ∧ Aside0 (OM wr w.heap.size kk D) ∧ Aside0 (Cnt D (l1.take kk)))
  case atStart => exact ⟨0, _, Nat.zero_le _, by omega, rfl, R6, B6, M6, ⟨Cnt.zero⟩⟩
  case round =>
    clear R6 B6 M6; obtain ⟨kk, D, hk, hgg, rfl, R6, B6, M6, CN⟩ := hrel
    by_cases hlt : kk < l1.length
    · have hlt' : (kk : Int) < (l1.length : Int) := by omega
      obtain ⟨ad, rfl, x0, x1, x2, x3, x4⟩ := at_T40 HR1.out kk (by omega) (by omega)
      rw [Int.toNat_natCast] at x0 x1 x2 x3 x4
      have hy : rd_T40 l1 (kk : Int) = l1.getD kk z40 := rfl
      rw [hy] at x0 x1 x2 x3 x4
      clear hy; have hgy := HBD1.out (l1.getD kk z40) (by rw [getD_lt hlt]; exact List.getElem_mem hlt)
      have htake : l1.take (kk + 1) = l1.take kk ++ [l1.getD kk z40] := by rw [List.take_succ_eq_append_getElem hlt, getD_lt hlt]
      replace x0 := pw_cell_below B6.out x0
      replace x1 := pw_cell_below B6.out x1
      replace x2 := pw_cell_below B6.out x2
      replace x3 := pw_cell_below B6.out x3
      replace x4 := pw_cell_below B6.out x4
      generalize l1.getD kk z40 = y at x0 x1 x2 x3 x4 hgy htake
      have HG := Aside0.mk hgy; have HT := Lib.hid htake
      clear hgy htake; go_wp2
      first
        | refine reletE (F := fun w' => RO w' w.heap.size v6 [] ∧ Below w.heap.size w w' ∧ OM w' w.heap.size kk D ∧ w'.cell? ⟨wr.heap.size, 0, none⟩ = some (.int .i16 y.f0) ∧ w'.cell? ⟨wr.heap.size, 1, none⟩ = some (.int .i8 y.f1) ∧ w'.cell? ⟨wr.heap.size, 2, none⟩ = some (.int .i8 y.f2) ∧ w'.cell? ⟨wr.heap.size, 3, none⟩ = some (.int .u8 y.f3) ∧ w'.cell? ⟨wr.heap.size, 4, none⟩ = some (.int .i16 y.f4)) ⟨Kd.R_alloc R6.out _, below_alloc B6.out _, M6.out.alloc _, by simp, by simp, by simp, by simp, by simp⟩ ?_
        | refine reletI (F := fun w' => RO w' w.heap.size v6 [] ∧ Below w.heap.size w w' ∧ OM w' w.heap.size kk D ∧ w'.cell? ⟨wr.heap.size, 0, none⟩ = some (.int .i16 y.f0) ∧ w'.cell? ⟨wr.heap.size, 1, none⟩ = some (.int .i8 y.f1) ∧ w'.cell? ⟨wr.heap.size, 2, none⟩ = some (.int .i8 y.f2) ∧ w'.cell? ⟨wr.heap.size, 3, none⟩ = some (.int .u8 y.f3) ∧ w'.cell? ⟨wr.heap.size, 4, none⟩ = some (.int .i16 y.f4)) ⟨Kd.R_alloc R6.out _, below_alloc B6.out _, M6.out.alloc _, by simp, by simp, by simp, by simp, by simp⟩ ?_
        | refine reletC (F := fun w' => RO w' w.heap.size v6 [] ∧ Below w.heap.size w w' ∧ OM w' w.heap.size kk D ∧ w'.cell? ⟨wr.heap.size, 0, none⟩ = some (.int .i16 y.f0) ∧ w'.cell? ⟨wr.heap.size, 1, none⟩ = some (.int .i8 y.f1) ∧ w'.cell? ⟨wr.heap.size, 2, none⟩ = some (.int .i8 y.f2) ∧ w'.cell? ⟨wr.heap.size, 3, none⟩ = some (.int .u8 y.f3) ∧ w'.cell? ⟨wr.heap.size, 4, none⟩ = some (.int .i16 y.f4)) ⟨Kd.R_alloc R6.out _, below_alloc B6.out _, M6.out.alloc _, by simp, by simp, by simp, by simp, by simp⟩ ?_
      rintro w3 ⟨R3, B3, M3, p0, p1, p2, p3, p4⟩
      obtain ⟨c, st, v0, w4, hL, hat, hwc, hE, hL2, hg4, hst⟩ := MapInc.incr (w := w3.drew) law Try.underlying85 Try.underlying3 zeroE M3 (show kk < maxLen by unfold maxLen; omega) (kl_of HG.out)
      have hc : c = (((l1.take kk).count y : Nat) : Int) := (Lit.int.inj (DataW.lit.inj (hat.symm.trans (CN.out y HG.out)))).2
      have hcb : (l1.take kk).count y ≤ kk := Nat.le_trans (List.count_le_length) (List.length_take_le _ _)
      have CN2 := Aside0.mk (CN.out.more (isMap_of M3) HG.out)
      rw [← HT.out] at CN2
      generalize (l1.take kk).count y = m at hc hcb CN2
      subst hc; obtain ⟨w5, hS, M5, hg5⟩ := hst ((m : Int) + 1) (by simp [Lit.wf, IntKind.min, IntKind.max, IntKind.signed, IntKind.bits]; omega)
      clear hst hat hwc; have R5 := Aside0.mk (RO_map (Kd.R_drew R3) hg5)
      have B5 := Aside0.mk (pw_below_grown (below_drew B3) (some w.heap.size) B3.size hg5 (fun k e => by injection e with e; omega))
      have M5 := Aside0.mk M5; clear R3 B3 M3 hg4 hg5 R6 B6 M6 CN; unfold key at hL hE hL2
      unfold goInt at hE hS
      go_region
      clear p0 p1 p2 p3 p4 hL hE hL2 hS; go_wp2
      go_roundg (l1.length - (kk + 1))
      case measure => omega
      case rel => exact ⟨kk + 1, _, by omega, by omega, by go_num, R5, B5, M5, CN2⟩
    · have hlt' : ¬ (kk : Int) < (l1.length : Int) := by omega
      obtain rfl : kk = l1.length := by omega
      rw [List.take_length] at CN
      go_wp2
      go_loopg [28, 6] l0.length (fun gg v28 v6 wr => ∃ (kk : Nat) (D : DataW Unit) (bag out : List E), kk ≤ l0.length ∧ l0.length - kk ≤ gg ∧ v28 = .int .i64 kk ∧ out.length ≤ kk ∧ bag.length ≤ l1.length ∧ Aside0 (RO wr w.heap.size v6 out) ∧ Aside0 (Below w.heap.size w wr) ∧ Aside0 (OM wr w.heap.size (l1.length + kk) D) ∧ Aside0 (Cnt D bag) ∧ Hid (go (l0.drop kk) bag out = r))
      case atStart => exact ⟨0, D, l1, [], Nat.zero_le _, by omega, rfl, by simp, Nat.le_refl _, R6, B6, M6, CN, HH⟩
      case round =>
        clear R6 B6 M6 CN HH; obtain ⟨kk, D, bag, out, hk, hgg, rfl, hol, hbl, R6, B6, M6, CN, HH⟩ := hrel
        by_cases hlt : kk < l0.length
        · have hlt' : (kk : Int) < (l0.length : Int) := by omega
          have H := HH.out; clear HH; obtain ⟨ad, rfl, x0, x1, x2, x3, x4⟩ := at_T40 HR0.out kk (by omega) (by omega)
          rw [Int.toNat_natCast] at x0 x1 x2 x3 x4
          have hy : rd_T40 l0 (kk : Int) = l0.getD kk z40 := rfl
          rw [hy] at x0 x1 x2 x3 x4
          clear hy; have hgy := HBD0.out (l0.getD kk z40) (by rw [getD_lt hlt]; exact List.getElem_mem hlt)
          rw [List.drop_eq_getElem_cons hlt, ← getD_lt hlt z40, go] at H
          replace x0 := pw_cell_below B6.out x0
          replace x1 := pw_cell_below B6.out x1
          replace x2 := pw_cell_below B6.out x2
          replace x3 := pw_cell_below B6.out x3
          replace x4 := pw_cell_below B6.out x4
          generalize l0.getD kk z40 = y at x0 x1 x2 x3 x4 hgy H
          have HG := Aside0.mk hgy; clear hgy; obtain ⟨c0_, hL0, hat0, hwc0⟩ := (M6.out.alloc (.cells #[.int .i16 y.f0, .int .i8 y.f1, .int .i8 y.f2, .int .u8 y.f3, .int .i16 y.f4] 40)).lookup_int (Go.Maps.Keyed.of_law law) Try.underlying85 Try.underlying3 (zeroE _) (kl_of HG.out)
          have hc0_ : c0_ = ((bag.count y : Nat) : Int) := (Lit.int.inj (DataW.lit.inj (hat0.symm.trans (CN.out y HG.out)))).2
          subst hc0_; clear hat0 hwc0; unfold key at hL0
          have hcb : bag.count y ≤ l1.length := Nat.le_trans List.count_le_length hbl
          by_cases hp : 0 < bag.count y
          · rw [if_pos hp] at H
            have HH := Lib.hid H
            clear H; have hbl2 : (bag.erase y).length ≤ l1.length := Nat.le_trans (List.length_erase_le) hbl
            have HI := Aside0.mk (fun (W : World) (M3 : OM W w.heap.size (l1.length + kk) D) => MapInc.incr (w := W) law Try.underlying85 Try.underlying3 zeroE M3 (show l1.length + kk < maxLen by unfold maxLen; omega) (kl_of HG.out))
            have HC := Aside0.mk (fun (c : Int) (hat : D.atKey (kl y) (i64 0) = i64 c) => ((Lit.int.inj (DataW.lit.inj (hat.symm.trans (CN.out y HG.out)))).2 : c = ((bag.count y : Nat) : Int)))
            have CN2 := Aside0.mk (fun hD => CN.out.less hD HG.out hp)
            clear CN; generalize bag.count y = m at hL0 hp hcb HC CN2
            have hp' : decide ((0 : Int) < (m : Int)) = true := decide_eq_true (by omega)
            go_wp2
            first
              | refine reletE (F := fun w' => RO w' w.heap.size u6 out ∧ Below w.heap.size w w' ∧ OM w' w.heap.size (l1.length + kk) D ∧ w'.cell? ⟨wr.heap.size, 0, none⟩ = some (.int .i16 y.f0) ∧ w'.cell? ⟨wr.heap.size, 1, none⟩ = some (.int .i8 y.f1) ∧ w'.cell? ⟨wr.heap.size, 2, none⟩ = some (.int .i8 y.f2) ∧ w'.cell? ⟨wr.heap.size, 3, none⟩ = some (.int .u8 y.f3) ∧ w'.cell? ⟨wr.heap.size, 4, none⟩ = some (.int .i16 y.f4)) ⟨Kd.R_alloc R6.out _, below_alloc B6.out _, M6.out.alloc _, by simp, by simp, by simp, by simp, by simp⟩ ?_
              | refine reletI (F := fun w' => RO w' w.heap.size u6 out ∧ Below w.heap.size w w' ∧ OM w' w.heap.size (l1.length + kk) D ∧ w'.cell? ⟨wr.heap.size, 0, none⟩ = some (.int .i16 y.f0) ∧ w'.cell? ⟨wr.heap.size, 1, none⟩ = some (.int .i8 y.f1) ∧ w'.cell? ⟨wr.heap.size, 2, none⟩ = some (.int .i8 y.f2) ∧ w'.cell? ⟨wr.heap.size, 3, none⟩ = some (.int .u8 y.f3) ∧ w'.cell? ⟨wr.heap.size, 4, none⟩ = some (.int .i16 y.f4)) ⟨Kd.R_alloc R6.out _, below_alloc B6.out _, M6.out.alloc _, by simp, by simp, by simp, by simp, by simp⟩ ?_
              | refine reletC (F := fun w' => RO w' w.heap.size u6 out ∧ Below w.heap.size w w' ∧ OM w' w.heap.size (l1.length + kk) D ∧ w'.cell? ⟨wr.heap.size, 0, none⟩ = some (.int .i16 y.f0) ∧ w'.cell? ⟨wr.heap.size, 1, none⟩ = some (.int .i8 y.f1) ∧ w'.cell? ⟨wr.heap.size, 2, none⟩ = some (.int .i8 y.f2) ∧ w'.cell? ⟨wr.heap.size, 3, none⟩ = some (.int .u8 y.f3) ∧ w'.cell? ⟨wr.heap.size, 4, none⟩ = some (.int .i16 y.f4)) ⟨Kd.R_alloc R6.out _, below_alloc B6.out _, M6.out.alloc _, by simp, by simp, by simp, by simp, by simp⟩ ?_
            rintro w3 ⟨R3, B3, M3, p0, p1, p2, p3, p4⟩
            obtain ⟨c, st, v0, w4, hL, hat, hwc, hE, hL2, hg4, hst⟩ := HI.out w3.drew M3
            have hc := HC.out c hat
            subst hc; obtain ⟨w5, hS, M5, hg5⟩ := hst ((m : Int) - 1) (by simp [Lit.wf, IntKind.min, IntKind.max, IntKind.signed, IntKind.bits]; omega)
            have CN3 := Aside0.mk (CN2.out (isMap_of M3))
            clear hst hat hwc hL0; have R5 := Aside0.mk (RO_map (Kd.R_drew R3) hg5)
            have B5 := Aside0.mk (pw_below_grown (below_drew B3) (some w.heap.size) B3.size hg5 (fun k e => by injection e with e; omega))
            have M5 := Aside0.mk M5; clear R3 B3 M3 hg4 hg5 R6 B6 M6 HI HC CN2; unfold key at hL hE hL2
            unfold goInt at hE hS
            go_region
            clear p0 p1 p2 p3 p4 hL hE hL2 hS; go_wp2
            go_roundg (l0.length - (kk + 1))
            case measure => omega
            case rel => exact ⟨kk + 1, _, _, out, by omega, by omega, by go_num, by omega, hbl2, R5, B5, M5, CN3, HH⟩
          · rw [if_neg hp] at H
            have HH := Lib.hid H
            clear H; have hm0 : bag.count y = 0 := by omega
            rw [hm0] at hL0
            clear hm0 hp hcb; go_upto_region 12 with (fail)
            first
              | refine reletE (F := fun w' => RO w' w.heap.size u6 out ∧ Below w.heap.size w w' ∧ OM w' w.heap.size (l1.length + kk) D ∧ w'.cell? ⟨wr.heap.size, 0, none⟩ = some (.int .i16 y.f0) ∧ w'.cell? ⟨wr.heap.size, 1, none⟩ = some (.int .i8 y.f1) ∧ w'.cell? ⟨wr.heap.size, 2, none⟩ = some (.int .i8 y.f2) ∧ w'.cell? ⟨wr.heap.size, 3, none⟩ = some (.int .u8 y.f3) ∧ w'.cell? ⟨wr.heap.size, 4, none⟩ = some (.int .i16 y.f4)) ⟨Kd.R_alloc R6.out _, below_alloc B6.out _, M6.out.alloc _, by simp, by simp, by simp, by simp, by simp⟩ ?_
              | refine reletI (F := fun w' => RO w' w.heap.size u6 out ∧ Below w.heap.size w w' ∧ OM w' w.heap.size (l1.length + kk) D ∧ w'.cell? ⟨wr.heap.size, 0, none⟩ = some (.int .i16 y.f0) ∧ w'.cell? ⟨wr.heap.size, 1, none⟩ = some (.int .i8 y.f1) ∧ w'.cell? ⟨wr.heap.size, 2, none⟩ = some (.int .i8 y.f2) ∧ w'.cell? ⟨wr.heap.size, 3, none⟩ = some (.int .u8 y.f3) ∧ w'.cell? ⟨wr.heap.size, 4, none⟩ = some (.int .i16 y.f4)) ⟨Kd.R_alloc R6.out _, below_alloc B6.out _, M6.out.alloc _, by simp, by simp, by simp, by simp, by simp⟩ ?_
              | refine reletC (F := fun w' => RO w' w.heap.size u6 out ∧ Below w.heap.size w w' ∧ OM w' w.heap.size (l1.length + kk) D ∧ w'.cell? ⟨wr.heap.size, 0, none⟩ = some (.int .i16 y.f0) ∧ w'.cell? ⟨wr.heap.size, 1, none⟩ = some (.int .i8 y.f1) ∧ w'.cell? ⟨wr.heap.size, 2, none⟩ = some (.int .i8 y.f2) ∧ w'.cell? ⟨wr.heap.size, 3, none⟩ = some (.int .u8 y.f3) ∧ w'.cell? ⟨wr.heap.size, 4, none⟩ = some (.int .i16 y.f4)) ⟨Kd.R_alloc R6.out _, below_alloc B6.out _, M6.out.alloc _, by simp, by simp, by simp, by simp, by simp⟩ ?_
            rintro w3 ⟨R3, B3, M3, p0, p1, p2, p3, p4⟩
            clear R6 B6 M6 hL0; go_wp2_with (first | ((with_reducible refine gate_builtin (b := .append) (xs := #[.tmp 42, .tmp 44]) rfl ?_); at_builtin; refine Kd.R_append k40 (w0 := w) w.heap.size rfl (.tmp 42) (.tmp 44) 24 40 (.agg #[(.int .i16 0), (.int .i8 0), (.int .i8 0), (.int .u8 0), (.int .i16 0)]) 8 rfl Try.underlying24 info40 rfl (by decide) (by omega) u6 out y [.int .i16 y.f0, .int .i8 y.f1, .int .i8 y.f2, .int .u8 y.f3, .int .i16 y.f4] (fun k => k ≠ w.heap.size) (fun _ => False) rfl rfl ?aP (fun _ hk => hk.elim) ?aF ?aO ?aB ?aS ?aL ?_; (case aP => exact k40_mkM _ _ _ y); (case aB => exact B3); (case aF => exact fun k hk e => by subst e; have := World.ownsMap.lt M3; omega); (case aO => exact R3); (case aS => exact B3.size); (case aL => omega); intro v110 w21 ho hb hg hat; have R5 := Aside0.mk ho; have B5 := Aside0.mk hb; have M5 := Aside0.mk (M3.kept hg (fun e => R3.1 _ e.symm rfl)); clear ho hb hg hat R3 B3 M3))
            go_roundg (l0.length - (kk + 1))
            case measure => omega
            case rel => exact ⟨kk + 1, D, bag, _, by omega, by omega, by go_num, by simp; omega, hbl, R5, B5, ⟨M5.out.mono (by omega)⟩, CN, HH⟩
        · have hlt' : ¬ (kk : Int) < (l0.length : Int) := by omega
          obtain rfl : kk = l0.length := by omega
          have H := HH.out; clear HH; rw [List.drop_length] at H
          have H2 : out = r := H
          subst H2; go_wp2
          go_ret
          exact ⟨_, rfl, Kd.R_mono R6.out (fun _ _ => trivial), B6.out⟩
end Go.Proofs.Ytckcgfpbmojmoaa.G
