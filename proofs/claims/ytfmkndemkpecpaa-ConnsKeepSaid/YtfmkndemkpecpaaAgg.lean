/- Whole arrays and structs out of and into blocks; results in memory. -/
import Derived.Test.YtfmkndemkpecpaaRel
namespace Go.Proofs.Ytfmkndemkpecpaa
open Go.RowKit
set_option linter.unusedVariables false
set_option linter.unusedSimpArgs false

theorem Bk.range {w : World} {g : Nat} {t : TypeId} {cs : List Value} (h : Bk w g t cs) : w.rangeAt g 0 cs := fun j v hv => by rw [Nat.zero_add, h.cell]; exact hv
theorem list16 {α : Type} {l : List α} (h : l.length = 16) : ∃ a b c d e f g i j k m n o p q r, l = [a, b, c, d, e, f, g, i, j, k, m, n, o, p, q, r] := by
  match l, h with
  | [a, b, c, d, e, f, g, i, j, k, m, n, o, p, q, r], _ => exact ⟨a, b, c, d, e, f, g, i, j, k, m, n, o, p, q, r, rfl⟩
/-- a result that is a whole array or struct, in a block -/
theorem bodyPost_agg {P : Program} {fn : Func} {R : Ending → World → Prop} {a : Act} {w : World} {slot ty g : Nat} {d : TypeDesc} {cs : List Value} (hfr : fn.results = #[.cell slot ty]) (hs : a.tmps.getD slot undef = .pointer (some ⟨g, 0, none⟩))
    (hb : w.rangeAt g 0 cs) (hu : P.underlying ty = some d) (hd : d.isRow = true) (hi : (P.info? ty).map (·.size) = some cs.length) (hdf : a.defers = []) (hR : R (.returned (.agg cs.toArray)) w) : bodyPost P fn R .ret a w := by
  refine bodyPost_ret (v := .agg cs.toArray) ?_ hdf hR
  have h1 := run_loadVar_mid (P := P) w g 0 ty cs d hb hu hd hi
  have hs' : a.tmps[slot]?.getD undef = .pointer (some ⟨g, 0, none⟩) := by simpa using hs
  simp [results, hfr, hs', asAddr, h1]
theorem bodyPost_agg2 {P : Program} {fn : Func} {R : Ending → World → Prop} {a : Act} {w : World} {slot slot2 ty g : Nat} {d : TypeDesc} {cs : List Value} {u : Value} (hfr : fn.results = #[.cell slot ty, .tmp slot2]) (hs : a.tmps.getD slot undef = .pointer (some ⟨g, 0, none⟩)) (hs2 : a.tmps.getD slot2 undef = u)
    (hb : w.rangeAt g 0 cs) (hu : P.underlying ty = some d) (hd : d.isRow = true) (hi : (P.info? ty).map (·.size) = some cs.length) (hdf : a.defers = []) (hR : R (.returned (.tuple #[.agg cs.toArray, u])) w) : bodyPost P fn R .ret a w := by
  refine bodyPost_ret (v := .tuple #[.agg cs.toArray, u]) ?_ hdf hR
  have h1 := run_loadVar_mid (P := P) w g 0 ty cs d hb hu hd hi
  have hs' : a.tmps[slot]?.getD undef = .pointer (some ⟨g, 0, none⟩) := by simpa using hs
  have hs2' : a.tmps[slot2]?.getD undef = u := by simpa using hs2
  simp [results, hfr, hs', hs2', asAddr, h1]
/-- a block's cells, all stored anew -/
theorem Bk.setCells {w : World} {g : Nat} {t : TypeId} : ∀ (new old : List Value) (o : Nat), Bk w g t old → o + new.length = old.length → Bk (w.setCells g o new) g t (old.take o ++ new) := by
  intro new
  induction new generalizing w with
  | nil => intro old o h hl; simp only [List.length_nil, Nat.add_zero] at hl; simp only [World.setCells, List.append_nil, List.take_of_length_le (Nat.le_of_eq hl.symm)]; exact h
  | cons v r ih =>
    intro old o h hl
    rw [World.setCells]
    have h1 := ih (old.set o v) (o + 1) (h.set_ o v) (by simp only [List.length_set, List.length_cons] at *; omega)
    have e : (old.set o v).take (o + 1) ++ r = old.take o ++ v :: r := by
      rw [List.take_succ_eq_append_getElem (by simp only [List.length_set, List.length_cons] at *; omega)]
      simp [List.take_set_of_le]
    rw [e] at h1
    exact h1
theorem Below.setCells {B : Nat} {a : World} {g : Nat} (hg : B ≤ g) : ∀ (new : List Value) (o : Nat) (w : World), Below B a w → Below B a (w.setCells g o new)
  | [], _, _, h => h
  | v :: r, o, w, h => Below.setCells hg r (o + 1) _ (h.setCell hg v)
/-- is it this operation? -/
theorem at_op {P : Program} {w : World} {ops : Array Oper} {rest : List Oper} {o : Oper} {a : Act} {Q : Exit → Act → World → Prop} (op : Op) (h : o.op = op) (x : wpList P ops Q (o :: rest) a w) : wpList P ops Q (o :: rest) a w := x
/-- a part of a block that is known whole, as an aggregate -/
theorem wpList_ldA {P : Program} {w : World} {ops : Array Oper} {rest : List Oper} {o : Oper} {a : Act} {Q : Exit → Act → World → Prop} (ty : TypeId) (x : Operand) (ho : o.op = .load ty x) (hgd : o.guard = none)
    {g off : Nat} {t : TypeId} {cs : List Value} {d : TypeDesc} (part : List Value) (hx : a.eval x = .pointer (some ⟨g, off, none⟩)) (hb : Bk w g t cs) (hp : (cs.drop off).take part.length = part)
    (hu : P.underlying ty = some d) (hd : d.isRow = true) (hi : (P.info? ty).map (·.size) = some part.length) (h : wpList P ops Q rest (a.put o.dst (.agg part.toArray)) w) : wpList P ops Q (o :: rest) a w := by
  refine wpList_load_mid hgd ty x ho g off hx part d (fun j v hv => ?_) hu hd hi h
  rw [hb.cell]
  rw [← hp, List.getElem?_take] at hv
  split at hv
  · rw [List.getElem?_drop] at hv; exact hv
  · cases hv
/-- a guarded operation that is wanted: a part of a block, as an aggregate -/
theorem wpList_ldG {P : Program} {w : World} {ops : Array Oper} {rest : List Oper} {o : Oper} {a : Act} {Q : Exit → Act → World → Prop} (ty : TypeId) (x : Operand) (ho : o.op = .load ty x) (hw : Region.wanted o (yielded ops a.tmps) = true)
    {g off : Nat} {t : TypeId} {cs : List Value} {d : TypeDesc} (part : List Value) (hx : a.eval x = .pointer (some ⟨g, off, none⟩)) (hb : Bk w g t cs) (hp : (cs.drop off).take part.length = part)
    (hu : P.underlying ty = some d) (hd : d.isRow = true) (hi : (P.info? ty).map (·.size) = some part.length) (h : wpList P ops Q rest (a.put o.dst (.agg part.toArray)) w) : wpList P ops Q (o :: rest) a w := by
  unfold wpList
  rw [if_pos hw]
  refine .inl (wp_load_mid ty x ho g off hx part d (fun j v hv => ?_) hu hd hi h)
  rw [hb.cell]
  rw [← hp, List.getElem?_take] at hv
  split at hv
  · rw [List.getElem?_drop] at hv; exact hv
  · cases hv
/-- an aggregate stored over a whole block -/
theorem wpList_stA {P : Program} {w : World} {ops : Array Oper} {rest : List Oper} {o : Oper} {a : Act} {Q : Exit → Act → World → Prop} (ty : TypeId) (x y : Operand) (ho : o.op = .store ty x y) (hgd : o.guard = none)
    {g : Nat} {t : TypeId} (new old : List Value) (hl : new.length = old.length) (h1 : ∀ u ∈ new, u.oneCell' = true) (hx : a.eval x = .pointer (some ⟨g, 0, none⟩)) (hy : a.eval y = .agg new.toArray) (hb : Bk w g t old)
    (hi : (P.info? ty).map (·.size) = some new.length) (h : ∀ w', Bk w' g t new → w.grownBy w' (some g) → wpList P ops Q rest (a.put o.dst undef) w') : wpList P ops Q (o :: rest) a w := by
  refine wpList_store_mid hgd ty x y ho g 0 new.toArray hx hy (fun j hj => ?_) (by simpa using hi) (all_oneCell_toArray h1) (h _ ?_ ?_)
  · rw [Nat.zero_add]
    have hj' : j < old.length := by rw [← hl]; simpa using hj
    exact ⟨by rw [hb.cell, List.getElem?_eq_getElem hj']; rfl, hb.frozen j⟩
  · have := Bk.setCells new old 0 hb (by omega)
    simpa using this
  · generalize 0 = k
    clear hi h hb hy hl
    induction new generalizing w k with
    | nil => exact World.grownBy.refl _ _
    | cons v r ih => exact (grownBy_setCell _ _ _ _).trans (ih (fun u hu => h1 u (List.mem_cons_of_mem _ hu)) _)
/-- an operation whose value is known -/
theorem wpList_build {P : Program} {w : World} {ops : Array Oper} {rest : List Oper} {o : Oper} {a : Act} {Q : Exit → Act → World → Prop} (ty : TypeId) (ps : List (Nat × Operand)) (ho : o.op = .build ty ps.toArray) (hgd : o.guard = none) (v : Value)
    (hv : (Instr.build ty (ps.map fun p => (p.1, a.eval p.2)).toArray).run P w = .ok v w) (h : wpList P ops Q rest (a.put o.dst v) w) : wpList P ops Q (o :: rest) a w := by
  refine wpList_plain hgd fun _ hK => ?_
  unfold Oper.wp execOp
  simp only [ho, Sem.run_bind, List.map_toArray, hv, Result.andThen_ok, Sem.run_pure]
  exact hK _ _ h
theorem below_grown {w w1 w2 : World} {g : Nat} (h : Below w.heap.size w w1) (hg : w1.grownBy w2 (some g)) (hl : w.heap.size ≤ g) : Below w.heap.size w w2 :=
  h.trans (below_of_grown hg h.size (fun k hk => by injection hk with hk; omega))
theorem Bk.newK {W : World} {k : Nat} (t : TypeId) (cs : Array Value) (l : List Value) (hk : k = W.heap.size) (hl : cs.toList = l) : Bk (W.alloc (.cells cs t)) k t l := by
  subst hk
  subst hl
  exact Bk.new W t cs
theorem Below.allocS {a w : World} (h : Below a.heap.size a w) (o : Obj) : Below a.heap.size a (w.alloc o) := h.alloc h.size o
def MP.blk (base : Nat) (t : TypeId) (cs : List Value) : MP := ⟨fun v w => ∃ g, v = .pointer (some ⟨g, 0, none⟩) ∧ base ≤ g ∧ Bk w g t cs, fun _ _ _ ⟨g, h1, h2, h3⟩ h => ⟨g, h1, h2, h3.later h.below⟩⟩
/-- a whole aggregate out of a block, in a region that draws its order -/
theorem quiet_ldA {P : Program} {C : World → Prop} {K : Act → Prop} {a : Act} {o : Oper} (ty : TypeId) (x : Operand) (ho : o.op = .load ty x) {g off : Nat} {t : TypeId} {d : TypeDesc} {cs : List Value} (part : List Value) (hx : a.eval x = .pointer (some ⟨g, off, none⟩))
    (hb : ∀ w', C w' → Bk w' g t cs) (hp : (cs.drop off).take part.length = part) (hu : P.underlying ty = some d) (hd : d.isRow = true) (hi : (P.info? ty).map (·.size) = some part.length) (h : K (a.put o.dst (.agg part.toArray))) : o.quiet P a C K := by
  refine ⟨_, fun w hw => ?_, h⟩
  unfold Oper.quietAt execOp
  simp only [ho, hx, run_loadAt_mid w g off ty part d (fun j v hv => by
    rw [(hb w hw).cell]
    rw [← hp, List.getElem?_take] at hv
    split at hv
    · rw [List.getElem?_drop] at hv; exact hv
    · cases hv) hu hd hi, Sem.run_bind, Sem.run_pure, Result.andThen_ok]
  exact ⟨rfl, rfl⟩
/-- is it this operation? (in a quiet walk) -/
theorem at_opQ {P : Program} {C : World → Prop} {K : Act → Prop} {a : Act} {o : Oper} (op : Op) (h : o.op = op) (x : o.quiet P a C K) : o.quiet P a C K := x
end Go.Proofs.Ytfmkndemkpecpaa
