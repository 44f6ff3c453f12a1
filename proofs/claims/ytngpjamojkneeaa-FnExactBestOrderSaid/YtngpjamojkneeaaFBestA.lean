/- A local array of 256 whole numbers: made, cleared. -/
import Derived.Test.YtngpjamojkneeaaG0
import Derived.Test.YtngpjamojkneeaaPl
import Derived.Test.YtngpjamojkneeaaBestLib
namespace Go.Proofs.Ytngpjamojkneeaa.G
open Go.RowKit Go.Proofs.YtngpjamojkneeaaW.PrintWords Go.Proofs.YtngpjamojkneeaaW.PrintLast Go.Proofs.YtngpjamojkneeaaW.PrintMore
attribute [local go_sem] max2_int min2_int max_two min_two max_three min_three max_four min_four   -- for this text's walks alone
set_option linter.unusedVariables false
set_option linter.unusedSimpArgs false

open Go.Proofs.Ytngpjamojkneeaa.Wk Go.Proofs.Ytngpjamojkneeaa.Pl Go.Proofs.Ytngpjamojkneeaa.Best
namespace Best
theorem infoA : (Try.prog.info? 69).map (fun i => (i.zero, i.size, i.bytes)) = some (some (.agg (Array.replicate 256 (.int .i64 0))), 256, 2048) := by kernel_rfl
theorem undA : Try.prog.underlying 69 = some (.array 256 2) := by kernel_rfl
abbrev RA (W : World) (base : Nat) (g : Nat) (xs : List Int) : Prop := Kd.R (Kd.int .i64) 69 W base (fun k => k = g) (.slice (some ⟨g, 0, none⟩) 256 256) xs
theorem zeroA (w : World) : (zeroValue 69).run Try.prog w = .ok (.agg (Array.replicate 256 (.int .i64 0))) w := by
  obtain ⟨i, hi, hz⟩ := Option.map_eq_some_iff.1 infoA
  simp only [Prod.mk.injEq] at hz
  simp [zeroValue, typeInfo, hi, hz.1]
theorem zc : Try.zeroCells69 = Array.replicate 256 (.int .i64 0) := by kernel_rfl
theorem build_runs {ρ : Operand → Value} {o : Oper} (w : World) (ho : o.op = .build 69 #[]) : (execOp ρ o).run Try.prog w = .ok (.value (.agg (Array.replicate 256 (.int .i64 0)))) w := by
  obtain ⟨i, hi, hz⟩ := Option.map_eq_some_iff.1 (show (Try.prog.info? 2).map (fun i => (i.zero, i.size, i.bytes)) = _ from info2)
  simp [execOp, ho, Instr.build, zeroA, undA, underlying, Value.cells, sizeOf, typeInfo, hi, Instr.fill, zc]
theorem alloc_runs {ρ : Operand → Value} {o : Oper} (w : World) (ho : o.op = .alloc 69) : (execOp ρ o).run Try.prog w = .ok (.value (.pointer (some ⟨w.heap.size, 0, none⟩))) (w.alloc (.cells (Array.replicate 256 (.int .i64 0)) 69)) := by
  simp [execOp, ho, Instr.alloc, zeroA, newVar, newRow, Value.cells, zc]
theorem row_same (w : World) (c : Array Value) (t : TypeId) : (w.alloc (.cells c t)).setRow w.heap.size c = w.alloc (.cells c t) := by
  have h : ((w.heap.push (.cells c t)).modify w.heap.size fun | .cells _ elem frozen => .cells c elem frozen | o => o) = w.heap.push (.cells c t) := by
    apply Array.ext_getElem?
    intro i
    rw [Array.getElem?_modify]
    split
    · next h => subst h; simp
    · rfl
  show { (w.alloc (.cells c t)) with heap := ((w.heap.push (.cells c t)).modify w.heap.size fun | .cells _ elem frozen => .cells c elem frozen | o => o) } = w.alloc (.cells c t)
  rw [h]
  rfl
theorem allA : (Array.replicate 256 (Value.int .i64 0)).all (·.oneCell') = true := by
  rw [Array.all_eq_true_iff_forall_mem]
  intro v hv
  rw [Array.mem_replicate] at hv
  rw [hv.2]
  rfl
theorem store_runs {ρ : Operand → Value} {o : Oper} {p : Tmp} {x : Operand} (w : World) (ho : o.op = .store 69 (.tmp p) x) (hp : ρ (.tmp p) = .pointer (some ⟨w.heap.size, 0, none⟩)) (hx : ρ x = .agg (Array.replicate 256 (.int .i64 0))) : (execOp ρ o).run Try.prog (w.alloc (.cells (Array.replicate 256 (.int .i64 0)) 69)) = .ok .skip (w.alloc (.cells (Array.replicate 256 (.int .i64 0)) 69)) := by
  have h := run_storeVar_row (P := Try.prog) (w.alloc (.cells (Array.replicate 256 (.int .i64 0)) 69)) w.heap.size 69 69 (Array.replicate 256 (.int .i64 0)) (Array.replicate 256 (.int .i64 0)) (by show (w.heap.push _)[w.heap.size]? = some _; simp) (by
    obtain ⟨i, hi, hz⟩ := Option.map_eq_some_iff.1 infoA
    simp only [Prod.mk.injEq] at hz
    rw [hi, Option.map_some, hz.2.1, Array.size_replicate]) rfl allA
  rw [row_same] at h
  simp only [execOp, ho, Instr.storeAt, Instr.sureAddr, hp, hx, Sem.run_bind, Sem.run_pure, Result.andThen_ok, h]
theorem R_nums (W : World) (base : Nat) (t : TypeId) (xs : List Int) (n : Nat) (hb : base ≤ W.heap.size) (hn : xs.length = n) (hm : n ≤ 9223372036854775807) : Kd.R (Kd.int .i64) t (W.alloc (.cells (nums .i64 xs).toArray t)) base (fun k => k = W.heap.size) (.slice (some ⟨W.heap.size, 0, none⟩) n n) xs := by
  subst hn
  have h := own_lit W base t .i64 xs hb hm
  exact Kd.R_of_own h (fun k hk => by
    have : W.heap.size = k := by simpa [Value.ownBlock] using hk
    exact this.symm)
theorem numsA (n : Nat) : (nums .i64 (List.replicate n 0)).toArray = Array.replicate n (Value.int .i64 0) := by
  unfold nums
  rw [List.map_replicate, List.toArray_replicate]
theorem R_zeros (W : World) (base : Nat) (hb : base ≤ W.heap.size) : RA (W.alloc (.cells (Array.replicate 256 (.int .i64 0)) 69)) base W.heap.size (List.replicate 256 0) := by
  have h := R_nums W base 69 (List.replicate 256 0) 256 hb List.length_replicate (by omega)
  rwa [numsA] at h
end Best
end Go.Proofs.Ytngpjamojkneeaa.G
