/- The walks of the laws on siphash (chapter 10). -/
import Derived.Test.YtfmkndemkpecpaaSipQ
import Derived.Test.YtfmkndemkpecpaaSipE
namespace Go.Proofs.Ytfmkndemkpecpaa
open Go.RowKit
set_option linter.unusedVariables false
attribute [local go_sem ↓] sliced_cut
attribute [local go_sem] cutA_zero

/-- the key of the example after i rounds; its bytes -/
def exK (i : Nat) : List UInt8 := (List.range 16).map fun j => if j < i then UInt8.ofNat j else 0
def exL (i : Nat) : List UInt8 := (List.range (min i 15)).map UInt8.ofNat
theorem exK_length (i : Nat) : (exK i).length = 16 := by simp [exK]
theorem exK_set (i : Nat) (h : i < 16) : (bcs (exK i)).set i (.int .u8 (i : Int)) = bcs (exK (i + 1)) := by
  apply List.ext_getElem
  · simp [bcs, exK]
  · intro j h1 h2
    simp only [bcs, exK, List.length_set, List.length_map, List.length_range] at h1
    rw [List.getElem_set]
    simp only [bcs, exK, List.getElem_map, List.getElem_range]
    split
    · subst j
      simp [show i < i + 1 by omega, Nat.mod_eq_of_lt (show i < 256 by omega)]
    · simp [show (j < i + 1) = (j < i) by apply propext; omega]
theorem exL_snoc (i : Nat) (h : i < 15) : exL i ++ [UInt8.ofNat i] = exL (i + 1) := by
  unfold exL
  rw [Nat.min_eq_left (by omega), Nat.min_eq_left (by omega), List.range_succ, List.map_append]
  rfl
theorem exL_stop : exL 16 = exB := by decide +kernel
theorem exL_15 : exL 15 = exL 16 := by decide +kernel
theorem exK_stop : exK 16 = exKey := by decide +kernel
theorem exK_zero : bcs (exK 0) = List.replicate 16 (.int .u8 0) := by
  simp [exK, bcs, List.map_const']
theorem K16_ex : K16 exKey := rfl

/-- a whole key out of a block, in a region that draws its order -/
theorem quiet_ldKey {C : World → Prop} {K : Act → Prop} {a : Act} {o : Oper} (ty : TypeId) (x : Operand) (ho : o.op = .load ty x) {g : Nat} {t : TypeId} {key : List UInt8} (hk : K16 key) (hx : a.eval x = .pointer (some ⟨g, 0, none⟩))
    (hu : ∃ d, Try.prog.underlying ty = some d ∧ d.isRow = true ∧ (Try.prog.info? ty).map (·.size) = some 16) (hb : ∀ w', C w' → Bk w' g t (bcs key)) (h : K (a.put o.dst (.agg (bcs key).toArray))) : o.quiet Try.prog a C K := by
  obtain ⟨d, h1, h2, h3⟩ := hu
  refine ⟨_, fun w hw => ?_, h⟩
  unfold Oper.quietAt execOp
  simp only [ho, hx, run_loadAt_mid w g 0 ty (bcs key) d (hb w hw).range h1 h2 (by rw [bcs_length, show key.length = 16 from hk]; exact h3), Sem.run_bind, Sem.run_pure, Result.andThen_ok]
  exact ⟨rfl, rfl⟩
theorem row16 : ∃ d, Try.prog.underlying 74 = some d ∧ d.isRow = true ∧ (Try.prog.info? 74).map (·.size) = some 16 := ⟨_, Try.underlying74, rfl, by kernel_rfl⟩

open Go.ChangeShapes Go.WideShapes in
/-- An array of bytes that came in. -/
theorem open_arr {H : Type} {enc : TypeId × Value → H} {P : Program} {W : World} {base n : Nat} {t e : TypeId} {v : Value} {d : DataW H} {p : List MemPlace}
    (ht : P.underlying t = some (.array n e)) (he : P.underlying e = some (.int .u8)) (hC : P.cellsOf e = 1) (hCt : P.cellsOf t = n) (hv : Value.okWide P W .any base t v)
    (h : DataW.Trod enc P W 0 (fun _ => true) true t v d p) : ∃ l : List UInt8, v = .agg (bcs l).toArray ∧ l.length = n := by
  obtain ⟨cs, rfl, hsz⟩ : ∃ cs, v = .agg cs ∧ cs.size = P.cellsOf t := by
    simp only [Value.okWide, ht] at hv
    obtain ⟨cs, h1, h2, _⟩ := hv
    exact ⟨cs, h1, h2⟩
  obtain ⟨fuel, hf⟩ := h
  obtain ⟨xs, m, _, _, hl, hlen, hg⟩ := DataW.trod_array ht hf
  have hcs : cs.size = n := by omega
  have each : ∀ i, i < n → ∃ b : UInt8, cs[i]? = some (.int .u8 (b.toNat : Int)) := by
    intro i hi
    have h1 := hg i hi
    rw [hC, Nat.mul_one] at h1
    have hxi : xs[i]? = some (xs[i]'(by omega)) := List.getElem?_eq_getElem (by omega)
    rw [hxi] at h1
    obtain ⟨z, hz, _, hw⟩ := DataW.trod_int he h1
    have hb := bounds_u8 hw
    refine ⟨UInt8.ofNat z.toNat, ?_⟩
    have hic : i < cs.toList.length := by simp [hcs, hi]
    simp only [Value.cells, List.drop_eq_getElem_cons hic, List.take_succ_cons, List.take_zero, List.cons.injEq, and_true] at hz
    have hz2 : cs[i]? = some (.int .u8 z) := by
      rw [Array.getElem?_eq_getElem (by simpa using hic), ← hz]
      simp
    rw [hz2]
    simp
    omega
  refine ⟨(List.range n).map fun i => match cs[i]? with | some (Value.int _ z) => UInt8.ofNat z.toNat | _ => 0, ?_, by simp⟩
  congr 1
  apply Array.ext
  · simp [bcs, hcs]
  · intro i h1 h2
    obtain ⟨b, hb⟩ := each i (by omega)
    have hb2 : cs[i] = .int .u8 (b.toNat : Int) := by rw [Array.getElem?_eq_getElem h1] at hb; exact Option.some.inj hb
    simp [bcs, hb2, hb]
set_option maxRecDepth 100000 in
theorem open_key {H : Type} {enc : TypeId × Value → H} {W : World} {base : Nat} {v : Value} {d : DataW H} {p : List MemPlace} (hv : Value.okWide Try.prog W .any base 74 v)
    (h : DataW.Trod enc Try.prog W 0 (fun _ => true) true 74 v d p) : ∃ l : List UInt8, v = .agg (bcs l).toArray ∧ K16 l := open_arr Try.underlying74 Try.underlying5 (by kernel_rfl) (by kernel_rfl) hv h
end Go.Proofs.Ytfmkndemkpecpaa
