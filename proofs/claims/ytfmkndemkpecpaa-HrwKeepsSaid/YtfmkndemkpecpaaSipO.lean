/- siphash.Of, Derive and their references. -/
import Derived.Test.YtfmkndemkpecpaaSipF
import Derived.Laws.Cover3
namespace Go.Proofs.Ytfmkndemkpecpaa
open Go.RowKit
set_option linter.unusedVariables false
attribute [local go_sem ↓] sliced_cut
attribute [local go_sem] cutA_zero


/-- the key of two numbers -/
def ofK (a b : Nat) : List UInt8 := dig a 8 ++ dig b 8
theorem K16_of (a b : Nat) : K16 (ofK a b) := by simp [K16, ofK, dig_length]

theorem wpList_stKey {w : World} {ops : Array Oper} {rest : List Oper} {o : Oper} {a : Act} {Q : Exit → Act → World → Prop} (ty : TypeId) (x y : Operand) (ho : o.op = .store ty x y) (hgd : o.guard = none)
    (hu : ∃ d, Try.prog.underlying ty = some d ∧ d.isRow = true ∧ (Try.prog.info? ty).map (·.size) = some 16) {g : Nat} {t : TypeId} {key old : List UInt8} (hk : K16 key) (hk' : K16 old) (hx : a.eval x = .pointer (some ⟨g, 0, none⟩)) (hy : a.eval y = .agg (bcs key).toArray) (hb : Bk w g t (bcs old))
    (h : wpList Try.prog ops Q rest (a.put o.dst undef) (w.setCells g 0 (bcs key))) : wpList Try.prog ops Q (o :: rest) a w := by
  obtain ⟨d, h1, h2, h3⟩ := hu
  refine wpList_store_mid hgd ty x y ho g 0 (bcs key).toArray hx hy (fun j hj => ?_) (by rw [List.size_toArray, bcs_length, show key.length = 16 from hk]; exact h3) (all_oneCell_toArray (bcs_one key)) h
  have hj2 : j < old.length := by rw [show old.length = 16 from hk']; simpa [bcs_length, show key.length = 16 from hk] using hj
  rw [Nat.zero_add]
  exact ⟨by rw [hb.cell, bcs_get _ _ hj2]; rfl, hb.frozen j⟩
theorem rowKey : ∃ d, Try.prog.underlying 192 = some d ∧ d.isRow = true ∧ (Try.prog.info? 192).map (·.size) = some 16 := ⟨_, Try.underlying192, rfl, by kernel_rfl⟩
theorem infoKey : (Try.prog.info? 192).map (·.size) = some 16 := by kernel_rfl

def fillK (key : List UInt8) (j : Nat) : List UInt8 := key.take j ++ List.replicate (16 - j) 0
theorem fillK_set (key : List UInt8) (hk : key.length = 16) (j : Nat) (h : j < 16) : (bcs (fillK key j)).set j (.int .u8 (key[j].toNat : Int)) = bcs (fillK key (j + 1)) := by
  unfold fillK
  rw [bcs_append, bcs_append, show 16 - j = (16 - (j + 1)) + 1 by omega, List.replicate_succ, List.take_succ_eq_append_getElem (by omega), bcs_append]
  have hl : (bcs (key.take j)).length = j := by rw [bcs_length, List.length_take]; omega
  rw [List.set_append_right _ _ (by omega), hl, Nat.sub_self]
  simp [bcs]
theorem K16_fill (key : List UInt8) (hk : key.length = 16) (j : Nat) (h : j ≤ 16) : K16 (fillK key j) := by
  simp [K16, fillK, hk]
  omega
theorem fillK_all (key : List UInt8) (hk : key.length = 16) : fillK key 16 = key := by simp [fillK, ← hk]

end Go.Proofs.Ytfmkndemkpecpaa
