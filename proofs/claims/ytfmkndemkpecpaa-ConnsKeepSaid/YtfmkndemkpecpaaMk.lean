/- make([]byte, n) as one operation of a region that draws its order. -/
import Derived.Test.YtfmkndemkpecpaaAgg
namespace Go.Proofs.Ytfmkndemkpecpaa
open Go.RowKit
set_option linter.unusedVariables false

theorem bcs_zeros (n : Nat) : bcs (List.replicate n 0) = List.replicate n (.int .u8 0) := by simp [bcs]
theorem rel_mk {P : Program} {w : World} {o : Oper} {a : Act} {K : Act → World → Prop} {Q : Exit → Act → World → Prop} {ts : TypeId} (bt : BT P ts 5) (x : Operand)
    (hop : o.op = Op.makeSlice ts x x) (L : Int) (n : Nat) (hl : a.eval x = .int .i64 L) (hL : L = (n : Int)) (hm : n ≤ 1099511627776)
    (h : ∀ w', Ex w w' → Ob w' w.heap.size (some ⟨w.heap.size, 0, none⟩) n n (List.replicate n 0) → K (a.put o.dst (.slice (some ⟨w.heap.size, 0, none⟩) n n)) w') : o.wp P a w K Q := by
  obtain ⟨i, hi, hz0, hz1, hz2⟩ := info_parts bt.info
  subst hL
  have hr := run_make (P := P) w ts 5 i (.int .u8 0) bt.sl hi hz0 .i64 .i64 n n (by omega) (by omega) (by rw [hz2]; omega) (by omega)
  simp only [Int.toNat_natCast, hz1] at hr
  unfold Oper.wp execOp
  simp only [hop, hl, hr, Sem.run_bind, Sem.run_pure, Result.andThen_ok]
  refine h _ (Ex.alloc _ _) (Ob.of_bk ?_ (Nat.le_refl _) (by simp) (by simp [maxLen]; omega))
  have e : madeCells (Value.int .u8 0).cells (n * 1) = (List.replicate n (Value.int .u8 0)).toArray := by
    apply Array.ext
    · simp [size_madeCells]
    · intro j h1 h2
      simp [madeCells, Value.cells, Nat.mod_one]
  unfold Bk
  rw [heap_alloc_new, e, bcs_zeros]
end Go.Proofs.Ytfmkndemkpecpaa
