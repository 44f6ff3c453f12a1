import Derived.Maps.Own
import Derived.Maps.Views
import Derived.WideKeyEntry
namespace Go.Proofs.Ytckcgfpbmojmoaa.MapInc
open Go.ChangeShapes Go.WideShapes Go.MapKept Go.ChangeMaps Go.Maps
open Go.WideElems (Fit entry_then_store)
open Go.WideMaps (KeyLaw)
theorem set_twice (w : World) (b : Nat) (o o' : Obj) : setBlock (setBlock w b o) b o' = setBlock w b o' := by
  unfold setBlock
  simp
theorem incr {H : Type} {P : Program} {w : World} {t k e : TypeId} {q : IntKind} {b n : Nat} {D : DataW H} (K : KeyLaw P k) (ht : P.underlying t = some (.map k e)) (he : P.underlying e = some (.int q))
    (hz : ∀ u : World, (zeroValue e).run P u = .ok (.int q 0) u) (hown : w.ownsMap P k (plainElem P e) b n D) (hn : n < maxLen) {key : Value} {kl : Lit} (hkey : keyOf P k key = some kl) :
    ∃ (c : Int) (st : Nat) (v0 : Value) (w1 : World), (Instr.lookup t (.map (some b)) key false).run P w = .ok (.int q c) w ∧ D.atKey kl (.lit (.int q 0)) = .lit (.int q c) ∧ (Lit.int q c).wf = true ∧
      (Instr.mapEntry t (.map (some b)) key).run P w = .ok (.tuple #[v0, goInt st]) w1 ∧ (Instr.lookup t (.map (some b)) key false).run P w1 = .ok (.int q c) w1 ∧ w.grownBy w1 (some b) ∧
      ∀ v : Int, (Lit.int q v).wf = true → ∃ w2, (Instr.entryStore t (.map (some b)) (goInt st) (.int q v)).run P w1 = .ok () w2 ∧ w2.ownsMap P k (plainElem P e) b (n + 1) (D.put kl (.lit (.int q v))) ∧ w.grownBy w2 (some b) := by
  have hw0 : (Lit.int q 0).wf = true := by cases q <;> decide
  obtain ⟨c, hL, hat, hwc⟩ := hown.lookup_int (Keyed.of_law K) ht he (hz w) hkey
  have hown0 := hown
  obtain ⟨es, clock, hb, F, hs, hD⟩ := hown
  obtain ⟨v0, st, es1, clock1, hE, _, hst⟩ := entry_then_store K ht hz hb F hkey
  have hb1 : (setBlock w b (.map es1 clock1)).heap[b]? = some (.map es1 clock1) := heap_setBlock_same hb _
  refine ⟨c, st, v0, _, hL, hat, hwc, hE, ?_, ⟨rfl, rfl, rfl, by simp [setBlock], fun i _ hi => heap_setBlock_other hb _ (fun e => hi (by rw [e]))⟩, fun v hv => ?_⟩
  · rcases K.find w hkey es.toList F.keys with ⟨h1, h2⟩ | ⟨j, e0, h1, h2, h3⟩
    · have hE2 : (Instr.mapEntry t (.map (some b)) key).run P w = .ok (.tuple #[.int q 0, goInt clock]) (setBlock w b (.map (es.push ⟨key, .int q 0, clock⟩) (clock + 1))) := by
        simp [Instr.mapEntry, run_underlying ht, MapKept.run_getObj_map hb, K.check w false hkey, h1, hz, MapKept.run_setObj_map _ hb, Result.andThen, setBlock]
      have hU : (Instr.mapUpdate t (.map (some b)) key (.int q 0)).run P w = .ok () (setBlock w b (.map (es.push ⟨key, .int q 0, clock⟩) (clock + 1))) := by
        simp [Instr.mapUpdate, run_underlying ht, MapKept.run_getObj_map hb, K.check w false hkey, h1, MapKept.run_setObj_map _ hb, Result.andThen, setBlock]
      obtain ⟨w', hU2, hown2, _⟩ := hown0.update (Keyed.of_law K) ht hn hkey (plainElem_int he hw0)
      have e2 := (Result.ok.inj (hU.symm.trans hU2)).2
      have e3 := (Result.ok.inj (hE.symm.trans hE2)).2
      rw [e3, e2]
      obtain ⟨c2, hL2, hat2, _⟩ := hown2.lookup_int (Keyed.of_law K) ht he (hz _) hkey
      have hmap : IsMap D := ⟨_, hD⟩
      rw [atKey_put_same hmap ((Keyed.of_law K).key hkey)] at hat2
      have hc0 : c = 0 := by
        have hL3 : (Instr.lookup t (.map (some b)) key false).run P w = .ok (.int q 0) w := by
          simp [Instr.lookup, run_underlying ht, MapKept.run_getObj_map hb, K.check w _ hkey, h1, hz, Result.andThen]
        exact (Value.int.inj (Result.ok.inj (hL.symm.trans hL3)).1).2
      have hc2 : c2 = 0 := by
        exact (Lit.int.inj (DataW.lit.inj hat2)).2.symm
      rw [hc0, ← hc2]
      exact hL2
    · have hj : es[j]? = some e0 := by simpa using h2
      have hsame : es.modify j (fun e => { e with key := key }) = es := by
        apply Array.ext'
        rw [Array.toList_modify, modify_eq_set _ _ _ _ h2]
        have : ({ e0 with key := key } : MapEntry) = e0 := by rw [← h3]
        rw [this]
        exact WideElems.set_self _ _ _ h2
      have hE2 : (Instr.mapEntry t (.map (some b)) key).run P w = .ok (.tuple #[e0.val, goInt e0.born]) (setBlock w b (.map es clock)) := by
        simp [Instr.mapEntry, run_underlying ht, MapKept.run_getObj_map hb, K.check w false hkey, h1, hj, h3, K.stays w hkey, hsame, MapKept.run_setObj_map _ hb, Result.andThen, setBlock]
      have e3 := (Result.ok.inj (hE.symm.trans hE2)).2
      rw [e3]
      have hown2 : (setBlock w b (.map es clock)).ownsMap P k (plainElem P e) b n D := ⟨es, clock, heap_setBlock_same hb _, F, hs, hD⟩
      obtain ⟨c2, hL2, hat2, _⟩ := hown2.lookup_int (Keyed.of_law K) ht he (hz _) hkey
      have e6 : c = c2 := (Lit.int.inj (DataW.lit.inj (hat.symm.trans hat2))).2
      rw [e6]
      exact hL2
  · obtain ⟨es', clock', hS, hU⟩ := hst (setBlock w b (.map es1 clock1)) (.int q v) hb1
    obtain ⟨w', hU2, hown2, hg⟩ := hown0.update (Keyed.of_law K) ht hn hkey (plainElem_int he hv)
    have e2 := (Result.ok.inj (hU.symm.trans hU2)).2
    rw [set_twice, e2] at hS
    exact ⟨w', hS, hown2, hg⟩
end Go.Proofs.Ytckcgfpbmojmoaa.MapInc
