/- Words for memory: a slice that reads as a list of cells; a block that is known whole; bytes. No program in sight. -/
import Derived.Below
import Derived.WalkKit
import Derived.WalkSpells
import Derived.Laws.OwnMore
import Derived.Deep.Draws
import Derived.Laws.Rows
import Derived.Lib.Hide
import Derived.Maps.AppendAt
import Derived.Deep.AppendLies
import Derived.Deep.QuietTactic
import Derived.BigQuiet
import Derived.OpenShut
import Derived.ChangeSlices
import Derived.Deep.Fields
import Derived.Laws.CopyOwn
import Derived.StillTailTactics
import Derived.Deep.MidRow
namespace Go.Proofs.Ytfmkndemkpecpaa
open Go.RowKit Go.ChangeShapes Go.WideShapes
set_option linter.unusedVariables false
set_option linter.unusedSimpArgs false

/-- the cells of bytes -/
def bcs (l : List UInt8) : List Value := l.map fun b => .int .u8 (b.toNat : Int)
theorem bcs_length (l : List UInt8) : (bcs l).length = l.length := by simp [bcs]
theorem bcs_append (a b : List UInt8) : bcs (a ++ b) = bcs a ++ bcs b := by simp [bcs]
theorem bcs_take (l : List UInt8) (n : Nat) : (bcs l).take n = bcs (l.take n) := by simp [bcs, List.map_take]
theorem bcs_drop (l : List UInt8) (n : Nat) : (bcs l).drop n = bcs (l.drop n) := by simp [bcs, List.map_drop]
theorem bcs_one (l : List UInt8) : ∀ u ∈ bcs l, u.oneCell' = true := by
  intro u hu
  simp only [bcs, List.mem_map] at hu
  obtain ⟨b, _, rfl⟩ := hu
  rfl
theorem bcs_get (l : List UInt8) (i : Nat) (h : i < l.length) : (bcs l)[i]? = some (.int .u8 (l[i].toNat : Int)) := by simp [bcs, h]
theorem bcs_nil {l : List UInt8} (h : bcs l = []) : l = [] := by simpa [bcs] using h

/-- A slice whose array lies at A reads as the cells cs; its block is below B. -/
def Rd (w : World) (B : Nat) (A : Option Addr) (cs : List Value) : Prop :=
  cs = [] ∨ ∃ b off, A = some ⟨b, off, none⟩ ∧ b < B ∧ ∀ i u, cs[i]? = some u → w.cell? ⟨b, off + i, none⟩ = some u

/-- where a cut lies -/
def cutA (A : Option Addr) (c k s : Nat) : Option Addr := if c = k then A else A.map (·.add (k * s))
theorem sliced_cut (a : Option Addr) (l h m s : Nat) : sliced a l h m s = .slice (cutA a m l s) (h - l) (m - l) := rfl
section
variable {w w' : World} {B B' : Nat} {A : Option Addr} {cs : List Value}
theorem Rd.none_ : Rd w B A [] := .inl rfl
theorem Rd.keep (h : Rd w B A cs) (hk : ∀ p : Addr, p.block < B → w'.cell? p = w.cell? p) : Rd w' B A cs := by
  rcases h with h | ⟨b, off, hA, hb, hc⟩
  · exact .inl h
  · exact .inr ⟨b, off, hA, hb, fun i u hu => (hk _ hb).trans (hc i u hu)⟩
theorem Rd.more (h : Rd w B A cs) (hB : B ≤ B') : Rd w B' A cs := by
  rcases h with h | ⟨b, off, hA, hb, hc⟩
  · exact .inl h
  · exact .inr ⟨b, off, hA, by omega, hc⟩
theorem Rd.below (h : Rd w B A cs) (hb : Below B w w') : Rd w' B A cs := h.keep fun _ hp => hb.cell hp
theorem Rd.drew (h : Rd w B A cs) : Rd w.drew B A cs := h
theorem Rd.drewN (h : Rd w B A cs) (k : Nat) : Rd (w.drewN k) B A cs := h
theorem Rd.alloc (h : Rd w B A cs) (hB : B ≤ w.heap.size) (o : Obj) : Rd (w.alloc o) B A cs := h.keep fun p hp => World.cell?_alloc_lt w o p (by omega)
theorem Rd.setCell (h : Rd w B A cs) {p : Addr} (hB : B ≤ p.block) (u : Value) : Rd (w.setCell p u) B A cs :=
  h.keep fun q hq => World.cell?_setCell_other w p q u (fun e => by subst e; omega)
theorem Rd.grown (h : Rd w B A cs) {row : Option Nat} (hg : w.grownBy w' row) (hB : B ≤ w.heap.size) (hr : ∀ g, row = some g → B ≤ g) : Rd w' B A cs :=
  h.keep fun p hp => World.cell?_of_block (hg.block p.block (by omega) (fun e => by have := hr _ e.symm; omega))
theorem Rd.take (h : Rd w B A cs) (n : Nat) : Rd w B A (cs.take n) := by
  rcases h with h | ⟨b, off, hA, hb, hc⟩
  · exact .inl (by simp [h])
  · refine .inr ⟨b, off, hA, hb, fun i u hu => hc i u ?_⟩
    rw [List.getElem?_take] at hu
    split at hu
    · exact hu
    · cases hu
theorem Rd.cut (h : Rd w B A cs) {c k : Nat} (hc : cs.length ≤ c) : Rd w B (cutA A c k 1) (cs.drop k) := by
  by_cases hk : cs.length ≤ k
  · exact .inl (List.drop_eq_nil_of_le hk)
  rcases h with h | ⟨b, off, hA, hb, hcell⟩
  · exact .inl (by simp [h])
  · refine .inr ⟨b, off + k, ?_, hb, fun i u hu => ?_⟩
    · subst hA
      simp only [cutA, if_neg (show ¬ c = k by omega), Option.map_some, Addr.add, Nat.mul_one]
      split
      · simp_all
      · rfl
    · rw [Nat.add_assoc]
      rw [List.getElem?_drop] at hu
      exact hcell _ _ hu
theorem Rd.of_own {base : Nat} {e : TypeId} {n c : Nat} (h : w.ownsRow base e 1 (.slice A n c) n cs) : Rd w w.heap.size A cs := by
  rcases Nat.eq_zero_or_pos n with h0 | h0
  · subst h0
    exact .inl (List.eq_nil_of_length_eq_zero (by simpa using h.1))
  · obtain ⟨g, cap, hv, _, hlt⟩ := h.form h0
    have hA : A = some ⟨g, 0, none⟩ := by injection hv
    subst hA
    refine .inr ⟨g, 0, rfl, hlt, fun i u hu => ?_⟩
    have := h.cells (g := g) rfl i u hu
    have hplain : (⟨g, 0, none⟩ : Addr).add i = ⟨g, 0 + i, none⟩ := by unfold Addr.add; split <;> simp_all
    rwa [hplain] at this
/-- Where there is an element the address is known. -/
theorem Rd.at_ (h : Rd w B A cs) (hn : 0 < cs.length) : ∃ b off, A = some ⟨b, off, none⟩ ∧ b < B ∧ ∀ i u, cs[i]? = some u → w.cell? ⟨b, off + i, none⟩ = some u := by
  rcases h with h | h
  · subst h; simp at hn
  · exact h
end

theorem add_plain (b off i : Nat) : (⟨b, off, none⟩ : Addr).add i = ⟨b, off + i, none⟩ := by unfold Addr.add; split <;> simp_all
theorem lt_of_cell {w : World} {a : Addr} {v : Value} (h : w.cell? a = some v) : a.block < w.heap.size := by
  rcases Nat.lt_or_ge a.block w.heap.size with h' | h'
  · exact h'
  · simp [World.cell?, Array.getElem?_eq_none h'] at h

/-- A slice of bytes that came in. -/
theorem open_bytes {H : Type} {enc : TypeId × Value → H} {P : Program} {W : World} {base : Nat} {t e : TypeId} {v : Value} {d : DataW H} {p : List MemPlace}
    (ht : P.underlying t = some (.slice e)) (he : P.underlying e = some (.int .u8)) (hC : P.cellsOf e = 1) (hv : Value.okWide P W .any base t v)
    (h : DataW.Trod enc P W 0 (fun _ => true) true t v d p) :
    ∃ A c, ∃ l : List UInt8, v = .slice A l.length c ∧ l.length ≤ c ∧ c ≤ maxLen ∧ Rd W W.heap.size A (bcs l) := by
  obtain ⟨a0, len, cap, rfl⟩ := okWide_slice ht hv
  obtain ⟨fuel, hf⟩ := h
  rcases open_ints ht he hC hf with ⟨hcs, _⟩ | ⟨x, l', c', zs, hcs, _, hl, hm, hz, _, hcell, hwz⟩
  · simp [Value.cells] at hcs
    obtain ⟨rfl, rfl, rfl⟩ := hcs
    exact ⟨none, 0, [], rfl, by simp, by simp, .inl rfl⟩
  · simp [Value.cells] at hcs
    obtain ⟨rfl, rfl, rfl⟩ := hcs
    have hz' : zs.length = cap := by simpa using hz
    refine ⟨some x, cap, (zs.take len).map fun n => UInt8.ofNat n.toNat, ?_, ?_, hm, ?_⟩
    · simp [hz', Nat.min_eq_left hl]
    · simp [hz']; omega
    · rcases Nat.eq_zero_or_pos len with h0 | h0
      · exact .inl (by simp [h0, bcs])
      · have hc0 := hcell 0 (by omega)
        obtain ⟨b, off, spot⟩ := x
        have hspot : spot = none := by simpa [Addr.add] using World.cell?_spot hc0
        subst hspot
        refine .inr ⟨b, off, rfl, lt_of_cell hc0, fun i u hu => ?_⟩
        have hi : i < len := by
          rcases Nat.lt_or_ge i len with h' | h'
          · exact h'
          · rw [List.getElem?_eq_none (by simp [bcs, hz']; omega)] at hu
            cases hu
        have hzi : i < zs.length := by omega
        have hcl := hcell i hzi
        rw [add_plain] at hcl
        rw [hcl]
        have hw := bounds_u8 (hwz zs[i] (List.getElem_mem hzi))
        have hu' : (bcs ((zs.take len).map fun n => UInt8.ofNat n.toNat))[i]? = some (.int .u8 zs[i]) := by
          simp [bcs, hi, hzi]
          omega
        rw [hu'] at hu
        rw [← hu]
        simp [List.getD, hzi]

/-- The types of bytes: a slice type and its element type. -/
structure BT (P : Program) (ts te : TypeId) : Prop where
  sl : P.underlying ts = some (.slice te)
  el : P.underlying te = some (.int .u8)
  info : (P.info? te).map (fun i => (i.zero, i.size, i.bytes)) = some (some (.int .u8 0), 1, 1)

/-- A slice of bytes reads as l. -/
def Rb (w : World) (A : Option Addr) (n c : Nat) (l : List UInt8) : Prop := l.length = n ∧ n ≤ c ∧ Rd w w.heap.size A (bcs l)
/-- A slice of bytes of the call's own (its block from base on) reads as l. -/
def Ob (w : World) (base : Nat) (A : Option Addr) (n c : Nat) (l : List UInt8) : Prop := l.length = n ∧ w.ownsRow base 5 1 (.slice A n c) n (bcs l)

section
variable {w w' : World} {base : Nat} {A : Option Addr} {n c : Nat} {l : List UInt8}
theorem Rb.len (h : Rb w A n c l) : l.length = n := h.1
theorem Rb.cap (h : Rb w A n c l) : n ≤ c := h.2.1
theorem Rb.nil_ : Rb w none 0 0 [] := ⟨rfl, Nat.le_refl _, .inl rfl⟩
theorem Rb.later (h : Rb w A n c l) (hb : Below w.heap.size w w') : Rb w' A n c l := ⟨h.1, h.2.1, (h.2.2.below hb).more hb.size⟩
theorem Rb.drew (h : Rb w A n c l) : Rb w.drew A n c l := h
theorem Rb.drewN (h : Rb w A n c l) (k : Nat) : Rb (w.drewN k) A n c l := h
theorem Rb.alloc (h : Rb w A n c l) (o : Obj) : Rb (w.alloc o) A n c l := ⟨h.1, h.2.1, (h.2.2.alloc (Nat.le_refl _) o).more (by simp)⟩
theorem Rb.take (h : Rb w A n c l) {k : Nat} (hk : k ≤ n) : Rb w A k c (l.take k) := ⟨by rw [List.length_take, h.1]; omega, Nat.le_trans hk h.2.1, by rw [← bcs_take]; exact h.2.2.take k⟩
theorem Rb.cut (h : Rb w A n c l) {k : Nat} (hk : k ≤ n) : Rb w (cutA A c k 1) (n - k) (c - k) (l.drop k) :=
  ⟨by rw [List.length_drop, h.1], by have := h.2.1; omega, by rw [← bcs_drop]; exact h.2.2.cut (by rw [bcs_length, h.1]; exact h.2.1)⟩
theorem Ob.len (h : Ob w base A n c l) : l.length = n := h.1
theorem Ob.rb (h : Ob w base A n c l) : Rb w A n c l := by
  refine ⟨h.1, ?_, Rd.of_own h.2⟩
  rcases h.2.2 with ⟨hv, _⟩ | ⟨g, cap, cur, hv, _, _, hnc, _⟩
  · injection hv with _ h2 h3
    omega
  · injection hv with _ _ h3
    omega
theorem Ob.nil_ : Ob w base none 0 0 [] := ⟨rfl, World.ownsRow_nil w base _ 1⟩
theorem Ob.blk (h : Ob w base A n c l) : ∀ k, (Value.slice A n c).ownBlock = some k → base ≤ k ∧ k < w.heap.size := h.2.lt
theorem Ob.grown {row : Option Nat} (h : Ob w base A n c l) (hg : w.grownBy w' row) (hne : ∀ k, (Value.slice A n c).ownBlock = some k → row ≠ some k) : Ob w' base A n c l := by
  refine ⟨h.1, h.2.kept hg ?_⟩
  cases hk : (Value.slice A n c).ownBlock with
  | none => exact .inl rfl
  | some k => exact .inr (fun e => hne k hk e.symm)
theorem grownBy_of_below (h : Below w.heap.size w w') : w.grownBy w' none := ⟨h.os, h.tape, h.output, h.size, fun i hi _ => h.block i hi⟩
theorem Ob.later (h : Ob w base A n c l) (hb : Below w.heap.size w w') : Ob w' base A n c l := h.grown (grownBy_of_below hb) (fun _ _ => by simp)
theorem Ob.mono {base' : Nat} (h : Ob w base A n c l) (hb : base' ≤ base) : Ob w base' A n c l := by
  refine ⟨h.1, h.2.1, ?_⟩
  rcases h.2.2 with h2 | ⟨g, cap, cur, hv, hg, hr⟩
  · exact .inl h2
  · exact .inr ⟨g, cap, cur, hv, by omega, hr⟩
theorem Ob.capm (h : Ob w base A n c l) : c ≤ maxLen := by
  rcases h.2.2 with ⟨hv, _⟩ | ⟨g, cap, cur, hv, _, _, _, hm, _⟩
  · injection hv with _ _ h3; subst h3; exact Nat.zero_le _
  · injection hv with _ _ h3; subst h3; exact hm
end

/-- new bytes, written out -/
theorem Ob.lit (w : World) {base : Nat} (hb : base ≤ w.heap.size) (cs : Array Value) (l : List UInt8) (n : Nat) (hn : l.length = n) (hm : n ≤ maxLen) (h : cs.toList = bcs l) : Ob (w.alloc (.cells cs 5)) base (some ⟨w.heap.size, 0, none⟩) n n l := by
  have hs : cs.size = n := by rw [← Array.length_toList, h, bcs_length, hn]
  refine ⟨hn, by rw [bcs_length, hn]; omega, .inr ⟨w.heap.size, n, cs, rfl, hb, heap_alloc_new w _, Nat.le_refl _, hm, by omega, ?_⟩⟩
  rw [h, List.take_of_length_le (by rw [bcs_length]; omega)]

theorem below_of_grown {w w' : World} {base : Nat} {row : Option Nat} (hg : w.grownBy w' row) (hb : base ≤ w.heap.size) (hr : ∀ k, row = some k → base ≤ k) : Below base w w' :=
  ⟨hg.os, hg.tape, hg.output, hg.size, fun i hi => hg.block i (by omega) (fun e => by have := hr _ e.symm; omega)⟩

/-- append onto a row of the call's own, whatever the source -/
theorem run_app {P : Program} (w : World) {ts ty : TypeId} (bt : BT P ts 5) {base : Nat} {A : Option Addr} {n c : Nat} {l : List UInt8} (hown : Ob w base A n c l)
    {A2 : Option Addr} {n2 c2 : Nat} {l2 : List UInt8} (hr : Rb w A2 n2 c2 l2) (hm : n + n2 ≤ 1099511627776) (hbase : base ≤ w.heap.size) :
    ∃ A' n' c' w', (Builtin.append_ #[ts, ts] ty #[.slice A n c, .slice A2 n2 c2]).run P w = .ok (.slice A' n' c') w' ∧ Ob w' base A' n' c' (l ++ l2) ∧ Below base w w' ∧ w.grownBy w' (Value.slice A n c).ownBlock := by
  obtain ⟨i, hi, hz0, hz1, hz2⟩ := info_parts bt.info
  have hbel : ∀ {w'}, w.grownBy w' (Value.slice A n c).ownBlock → Below base w w' := fun hg => below_of_grown hg hbase fun k hk => (hown.blk k hk).1
  have fin : ∀ v' w', w'.ownsRow base 5 1 v' (n + n2) (bcs l ++ bcs l2) → ∃ A' n' c', v' = .slice A' n' c' ∧ Ob w' base A' n' c' (l ++ l2) := by
    intro v' w' h
    have hl : (l ++ l2).length = n + n2 := by rw [List.length_append, hown.1, hr.1]
    rw [← bcs_append] at h
    have h2 := h.2
    rcases h2 with ⟨hv, h0⟩ | ⟨g, cap, cur, hv, _⟩
    · refine ⟨none, 0, 0, hv, by omega, ?_⟩
      rw [hv, h0] at h
      exact h
    · refine ⟨_, _, _, hv, hl, ?_⟩
      rw [hv] at h
      exact h
  cases A2 with
  | none =>
    have hn2 : n2 = 0 := by
      rcases hr.2.2 with h | ⟨b, off, h, _⟩
      · have := hr.1; rw [bcs_nil h] at this; simpa using this.symm
      · cases h
    subst hn2
    have hl2 : l2 = [] := List.eq_nil_of_length_eq_zero hr.1
    subst hl2
    refine ⟨A, n, c, w, ?_, by simpa using hown, Below.refl _ _, World.grownBy.refl w _⟩
    rcases hown.2.2 with ⟨hv, h0⟩ | ⟨g, cap, cur, hv, _, _, hnc, _⟩
    · injection hv with h1 h2 h3
      subst h1 h2 h3
      simp [Builtin.append_, run_underlying bt.sl, sizeOf, typeInfo, hi, Builtin.lenOf, Builtin.firstCells]
    · injection hv with h1 h2 h3
      subst h1 h3
      simp [Builtin.append_, run_underlying bt.sl, sizeOf, typeInfo, hi, Builtin.lenOf, Builtin.firstCells, hnc, storeCells]
  | some ad =>
    have hcells : ∀ j u, (bcs l2)[j]? = some u → w.cell? (ad.add j) = some u := by
      intro j u hu
      rcases hr.2.2 with h | ⟨b, off, h, _, hc⟩
      · rw [h] at hu; simp at hu
      · injection h with h
        subst h
        rw [add_plain]
        exact hc j u hu
    obtain ⟨v', w', hrun, h2, h3, _, _⟩ := run_append_own_at (P := P) w base ts ty 5 i (.int .u8 0) 1 1 bt.sl hi hz0 hz1 hz2 rfl (by omega) (.slice A n c) n (bcs l) hown.2 ad n2 c2 (bcs l2)
      (by rw [bcs_length, hr.1]; omega) hcells (bcs_one l2) (by simp only [maxLen]; omega) (by omega) hbase
    obtain ⟨A', n', c', rfl, hob⟩ := fin v' w' h2
    exact ⟨A', n', c', w', hrun, hob, hbel h3, h3⟩

theorem wpList_app {P : Program} {w : World} {ops : Array Oper} {rest : List Oper} {o : Oper} {a : Act} {Q : Exit → Act → World → Prop} {ts : TypeId} (bt : BT P ts 5) (hgd : o.guard = none) (s x : Operand)
    (ho : o.op = .call { callee := .builtin .append, args := #[s, x], argTypes := #[ts, ts] })
    {base : Nat} {A : Option Addr} {n c : Nat} {l : List UInt8} (hs : a.eval s = .slice A n c) (hown : Ob w base A n c l)
    {A2 : Option Addr} {n2 c2 : Nat} {l2 : List UInt8} (hx : a.eval x = .slice A2 n2 c2) (hr : Rb w A2 n2 c2 l2) (hm : n + n2 ≤ 1099511627776) (hbase : base ≤ w.heap.size)
    (h : ∀ A' n' c' w', Ob w' base A' n' c' (l ++ l2) → Below base w w' → w.grownBy w' (Value.slice A n c).ownBlock → wpList P ops Q rest (a.put o.dst (.slice A' n' c')) w') : wpList P ops Q (o :: rest) a w := by
  refine wpList_plain hgd fun _ hK => ?_
  obtain ⟨A', n', c', w', hrun, h2, h3, h4⟩ := run_app (P := P) w (ty := o.type) bt hown hr hm hbase
  unfold Oper.wp execOp
  simp only [ho, resolve, invoke, builtin, Sem.run_bind, Sem.run_pure, Result.andThen_ok, List.map_toArray, List.map_cons, List.map_nil, hs, hx, hrun]
  exact hK _ _ (h A' n' c' w' h2 h3 h4)

/-- Block g is the cells cs of element type t, none frozen. -/
def Bk (w : World) (g : Nat) (t : TypeId) (cs : List Value) : Prop := w.heap[g]? = some (.cells cs.toArray t (0, 0))
section
variable {w w' : World} {g : Nat} {t : TypeId} {cs : List Value}
theorem Bk.lt (h : Bk w g t cs) : g < w.heap.size := by
  rcases Nat.lt_or_ge g w.heap.size with hlt | hge
  · exact hlt
  · unfold Bk at h; rw [Array.getElem?_eq_none hge] at h; cases h
theorem Bk.cell (h : Bk w g t cs) (i : Nat) : w.cell? ⟨g, i, none⟩ = cs[i]? := by
  unfold Bk at h
  simp [World.cell?, h]
theorem Bk.frozen (h : Bk w g t cs) (i : Nat) : w.frozen? ⟨g, i, none⟩ = false := by
  unfold Bk at h
  simp [World.frozen?, h]
theorem Bk.new (w : World) (t : TypeId) (cs : Array Value) : Bk (w.alloc (.cells cs t)) w.heap.size t cs.toList := heap_alloc_new w _
theorem Bk.alloc (h : Bk w g t cs) (o : Obj) : Bk (w.alloc o) g t cs := (Below.heap_alloc w o g h.lt).trans h
theorem Bk.set_ (h : Bk w g t cs) (i : Nat) (u : Value) : Bk (w.setCell ⟨g, i, none⟩ u) g t (cs.set i u) := by
  unfold Bk at h ⊢
  simp [World.setCell, Array.getElem?_modify, h]
theorem Bk.far (h : Bk w g t cs) {p : Addr} (hp : g ≠ p.block) (u : Value) : Bk (w.setCell p u) g t cs := (Below.heap_setCell w p u g hp).trans h
theorem Bk.below {B : Nat} (h : Bk w g t cs) (hb : Below B w w') (hg : g < B) : Bk w' g t cs := (hb.block g hg).trans h
theorem Bk.later (h : Bk w g t cs) (hb : Below w.heap.size w w') : Bk w' g t cs := h.below hb h.lt
theorem Bk.grown {row : Option Nat} (h : Bk w g t cs) (hb : w.grownBy w' row) (hg : row ≠ some g) : Bk w' g t cs := (hb.block g h.lt (fun e => hg e.symm)).trans h
end
theorem grownBy_setCell (w : World) (g i : Nat) (u : Value) : w.grownBy (w.setCell ⟨g, i, none⟩ u) (some g) :=
  ⟨rfl, rfl, rfl, by simp [World.setCell], fun k _ hne => Below.heap_setCell w _ u k (fun e => hne (by rw [e]))⟩
theorem grownBy_alloc (w : World) (o : Obj) (row : Option Nat) : w.grownBy (w.alloc o) row :=
  ⟨rfl, rfl, rfl, by simp, fun k hk _ => Below.heap_alloc w o k hk⟩

/-- the last m bytes of n, most significant first -/
def dig : Nat → Nat → List UInt8
  | _, 0 => []
  | n, m + 1 => dig (n / 256) m ++ [UInt8.ofNat (n % 256)]
theorem dig_length : ∀ (m n : Nat), (dig n m).length = m
  | 0, _ => rfl
  | m + 1, n => by simp [dig, dig_length m]
theorem over_nil (cs : List Value) (off : Nat) : splice cs off [] = cs := by simp [splice]
theorem over_dig (cs : List Value) (off n m : Nat) (h : off + (m + 1) ≤ cs.length) :
    splice (cs.set (off + m) (.int .u8 ((n % 256 : Nat) : Int))) off (bcs (dig (n / 256) m)) = splice cs off (bcs (dig n (m + 1))) := by
  have e : (bcs (dig n (m + 1))) = bcs (dig (n / 256) m) ++ [.int .u8 ((n % 256 : Nat) : Int)] := by
    rw [dig, bcs_append]
    simp [bcs]
  rw [e]
  unfold splice
  rw [List.take_set_of_le (by omega), bcs_length, dig_length, List.length_append, bcs_length, dig_length]
  have hd : List.drop (off + m) (cs.set (off + m) (.int .u8 ((n % 256 : Nat) : Int))) = .int .u8 ((n % 256 : Nat) : Int) :: List.drop (off + m + 1) cs := by
    rw [List.drop_eq_getElem_cons (by simp; omega)]
    simp [List.drop_set]
  rw [hd]
  simp [Nat.add_assoc]

theorem cutA_some (g off c k : Nat) (h : c ≠ k) : cutA (some ⟨g, off, none⟩) c k 1 = some ⟨g, off + k, none⟩ := by
  simp [cutA, h, add_plain]
theorem Ob.of_bk {w : World} {g base n : Nat} {l : List UInt8} (h : Bk w g 5 (bcs l)) (hb : base ≤ g) (hn : l.length = n) (hm : n ≤ maxLen) : Ob w base (some ⟨g, 0, none⟩) n n l :=
  ⟨hn, by rw [bcs_length, hn]; omega, .inr ⟨g, n, _, rfl, hb, h, Nat.le_refl _, hm, by simp [bcs_length, hn], by rw [List.take_of_length_le (by simp [bcs_length, hn])]⟩⟩

/-- make([]byte, n) -/
theorem wpList_mk {P : Program} {w : World} {ops : Array Oper} {rest : List Oper} {o : Oper} {a : Act} {Q : Exit → Act → World → Prop} {ts : TypeId} (bt : BT P ts 5) (hgd : o.guard = none) (x : Operand)
    (hop : o.op = Op.makeSlice ts x x) (L : Int) (n : Nat) (hl : a.eval x = .int .i64 L) (hL : L = (n : Int)) (hm : n ≤ 1099511627776)
    (h : ∀ w', Bk w' w.heap.size 5 (List.replicate n (.int .u8 0)) → Below w.heap.size w w' → w.heap.size < w'.heap.size → wpList P ops Q rest (a.put o.dst (.slice (some ⟨w.heap.size, 0, none⟩) n n)) w') : wpList P ops Q (o :: rest) a w := by
  refine wpList_plain hgd fun _ hK => ?_
  obtain ⟨i, hi, hz0, hz1, hz2⟩ := info_parts bt.info
  subst hL
  have hr := run_make (P := P) w ts 5 i (.int .u8 0) bt.sl hi hz0 .i64 .i64 n n (by omega) (by omega) (by rw [hz2]; omega) (by omega)
  simp only [Int.toNat_natCast, hz1] at hr
  unfold Oper.wp execOp
  simp only [hop, hl, hr, Sem.run_bind, Sem.run_pure, Result.andThen_ok]
  refine hK _ _ (h _ ?_ ((Below.refl _ _).alloc (Nat.le_refl _) _) (by simp))
  have e : madeCells (Value.int .u8 0).cells (n * 1) = (List.replicate n (Value.int .u8 0)).toArray := by
    apply Array.ext
    · simp [size_madeCells]
    · intro j h1 h2
      simp [madeCells, Value.cells, Nat.mod_one]
  unfold Bk
  rw [heap_alloc_new, e]

/-- copy into a block of the call's own; the operation is told by the slot k that it writes -/
theorem wpList_cpy {P : Program} {w : World} {ops : Array Oper} {rest : List Oper} {o : Oper} {a : Act} {Q : Exit → Act → World → Prop} {ts : TypeId} (k : Nat) (hdst : o.dst = some k) (bt : BT P ts 5) (hgd : o.guard = none) (d s : Operand)
    (ho : o.op = .call { callee := .builtin .copy, args := #[d, s], argTypes := #[ts, ts] })
    {A1 A2 : Option Addr} {n1 c1 n2 c2 : Nat} (hd : a.eval d = .slice A1 n1 c1) (hs : a.eval s = .slice A2 n2 c2)
    (g off : Nat) (cs : List Value) (hg : Bk w g 5 cs) (hA : n2 = 0 ∨ A1 = some ⟨g, off, none⟩) (l : List UInt8) (hr : Rb w A2 n2 c2 l) (hle : n2 ≤ n1) (hfit : off + n2 ≤ cs.length)
    (B : Nat) (w0 : World) (hb : Below B w0 w) (hBg : B ≤ g)
    (h : ∀ w', Bk w' g 5 (splice cs off (bcs l)) → Below B w0 w' → wpList P ops Q rest (a.put o.dst (goInt n2)) w') : wpList P ops Q (o :: rest) a w := by
  obtain ⟨i, hi, hz0, hz1, hz2⟩ := info_parts bt.info
  have hl : (bcs l).length = n2 := by rw [bcs_length, hr.1]
  refine wpList_copy_splice hgd d s ts ts ho 5 bt.sl (by simp [hi, hz1]) _ _ _ _ _ _ hd hs g off cs 5 hg (bcs l) ?_ ?_ (by omega) (bcs_one l) B w0 hb hBg ?_
  · rw [hl]; exact (Nat.min_eq_left hle).symm
  · intro h0
    rcases hA with h1 | h1
    · omega
    · obtain ⟨b, o2, hA2, _, hc⟩ := hr.2.2.at_ h0
      exact ⟨h1, _, hA2, fun j v hj => by rw [add_plain]; exact hc j v hj⟩
  · intro w' h1 h2
    rw [hl]
    exact h w' h1.out h2

theorem cutA_zero (A : Option Addr) (c s : Nat) : cutA A c 0 s = A := by
  unfold cutA
  split
  · rfl
  · cases A <;> simp [Addr.add]

/-- the number of bytes, most significant first -/
def num (l : List UInt8) : Nat := l.foldl (fun n b => n * 256 + b.toNat) 0
theorem num_snoc (l : List UInt8) (b : UInt8) : num (l ++ [b]) = num l * 256 + b.toNat := by simp [num, List.foldl_append]
theorem num_lt : ∀ (k : Nat) (l : List UInt8), l.length ≤ k → num l < 256 ^ k := by
  intro k l
  induction k generalizing l with
  | zero => intro h; have : l = [] := List.eq_nil_of_length_eq_zero (by omega); subst this; decide
  | succ k ih =>
    intro h
    rcases List.eq_nil_or_concat l with rfl | ⟨l', b, rfl⟩
    · exact Nat.pow_pos (by decide)
    · simp only [List.concat_eq_append] at *
      rw [num_snoc]
      have := ih l' (by simpa using h)
      have hb := b.toNat_lt
      rw [Nat.pow_succ]
      omega
theorem num_take_succ (l : List UInt8) (i : Nat) (h : i < l.length) : num (l.take (i + 1)) = num (l.take i) * 256 + l[i].toNat := by
  rw [List.take_succ_eq_append_getElem h, num_snoc]
theorem u64_shl_or (N c : Nat) (hN : N < 72057594037927936) (hc : c < 256) : bits .or .u64 ((N : Int) * 256) (c : Int) = ((N * 256 + c : Nat) : Int) := by
  have h := u64_or_nat (N * 256) c (by omega) (by omega)
  rw [nat_join 8 (N * 256) c (by omega) (by omega)] at h
  simpa using h
theorem pow_le_seven (i : Nat) (h : i ≤ 7) : 256 ^ i ≤ 72057594037927936 := Nat.le_trans (Nat.pow_le_pow_right (by decide) h) (by decide)

/-- string(b) -/
theorem run_str {P : Program} {ts tstr : TypeId} (bt : BT P ts 5) (hstr : P.underlying tstr = some .string) {w : World} {A : Option Addr} {n c : Nat} {l : List UInt8} (h : Rb w A n c l) :
    (convert ts tstr (.slice A n c)).run P w = .ok (.string ⟨l.toArray⟩) w := by
  rw [run_convert_bytes_string w ts tstr _ A n c bt.sl bt.el hstr]
  obtain ⟨h1, _, h3⟩ := h
  subst h1
  cases A with
  | none =>
    have : l = [] := by
      rcases h3 with h | ⟨b, off, h, _⟩
      · exact bcs_nil h
      · cases h
    subst this
    simp [Conv.bytesToString]
    rfl
  | some ad =>
    have hl : (loadCells ad l.length).run P w = .ok ((l.map fun b => (b.toNat : Int)).map (Value.int .u8)).toArray w := by
      have := run_loadCells_list (P := P) w ad (bcs l) (fun j v hj => by
        rcases h3 with h | ⟨b, off, h, _, hc⟩
        · rw [h] at hj; simp at hj
        · injection h with h
          subst h
          rw [add_plain]
          exact hc j v hj)
      rw [bcs_length] at this
      simpa [bcs, Function.comp_def] using this
    rw [run_bytesToString w ad l.length c _ hl, foldl_push_bytes]
    simp [ByteArray.empty, ByteArray.emptyWithCapacity, Function.comp_def]
    rfl
theorem Rb.setCell {w : World} {A : Option Addr} {n c : Nat} {l : List UInt8} (h : Rb w A n c l) {p : Addr} (hp : ∀ a, A = some a → a.block ≠ p.block) (u : Value) : Rb (w.setCell p u) A n c l := by
  refine ⟨h.1, h.2.1, ?_⟩
  rcases h.2.2 with h' | ⟨b, off, hA, hb, hc⟩
  · exact .inl h'
  · refine .inr ⟨b, off, hA, by simpa [World.setCell] using hb, fun i u' hu => ?_⟩
    rw [World.cell?_setCell_other w p ⟨b, off + i, none⟩ u (fun e => hp _ hA (by rw [e]))]
    exact hc i u' hu

/-- what was there is as it was: two rules for the walk -/
theorem olds {B : Nat} {W w1 : World} (hb : Below B W w1) : (∀ b o, b < B → w1.cell? ⟨b, o, none⟩ = W.cell? ⟨b, o, none⟩) ∧ (∀ b o, b < B → w1.frozen? ⟨b, o, none⟩ = W.frozen? ⟨b, o, none⟩) :=
  ⟨fun b o h => hb.cell (p := ⟨b, o, none⟩) h, fun b o h => hb.frozen (p := ⟨b, o, none⟩) h⟩
theorem Ob.setCell {w : World} {base : Nat} {A : Option Addr} {n c : Nat} {l : List UInt8} (h : Ob w base A n c l) {p : Addr} (hp : p.block < base) (u : Value) : Ob (w.setCell p u) base A n c l :=
  ⟨h.1, ownsRow_setCell_below h.2 hp u⟩

/-! ### A world with more blocks behind it: what a callee leaves -/
/-- w with the blocks bs behind its own, and d answers drawn -/
def plus (w : World) (bs : List Obj) (d : Nat) : World := { w with heap := w.heap ++ bs.toArray, drawn := d }
section
variable {w W : World} {bs : List Obj} {d : Nat}
@[go_sem] theorem size_plus (w : World) (bs : List Obj) (d : Nat) : (plus w bs d).heap.size = w.heap.size + bs.length := by simp [plus]
theorem block_plus {n : Nat} (h : n < w.heap.size) : (plus w bs d).heap[n]? = w.heap[n]? := by
  simp [plus, Array.getElem?_append, h]
@[go_sem] theorem cell_plus (w : World) (bs : List Obj) (d : Nat) (n i : Nat) (hn : n < w.heap.size) : (plus w bs d).cell? ⟨n, i, none⟩ = w.cell? ⟨n, i, none⟩ := World.cell?_of_block (block_plus hn)
@[go_sem] theorem frozen_plus (w : World) (bs : List Obj) (d : Nat) (n i : Nat) (hn : n < w.heap.size) : (plus w bs d).frozen? ⟨n, i, none⟩ = w.frozen? ⟨n, i, none⟩ := World.frozen?_of_block (block_plus hn)
@[go_sem] theorem setCell_plus (w : World) (bs : List Obj) (d : Nat) (n i : Nat) (v : Value) (hn : n < w.heap.size) : (plus w bs d).setCell ⟨n, i, none⟩ v = plus (w.setCell ⟨n, i, none⟩ v) bs d := by
  simp only [plus, World.setCell, World.mk.injEq, and_true]
  apply Array.ext
  · simp
  · intro j h1 h2
    simp only [Array.getElem_append, Array.getElem_modify, Array.size_modify] at *
    by_cases hj : j < w.heap.size
    · simp [hj]
    · simp [hj]
      intro e
      omega
@[go_sem] theorem lt_more {n m k : Nat} (h : n < m) : (n < m + k) = True := eq_true (by omega)
@[go_sem] theorem lt_more2 {n m k0 k1 : Nat} (h : n < m) : (n < m + k0 + k1) = True := eq_true (by omega)
@[go_sem] theorem lt_more3 {n m k0 k1 k2 : Nat} (h : n < m) : (n < m + k0 + k1 + k2) = True := eq_true (by omega)
@[go_sem] theorem lt_more4 {n m k0 k1 k2 k3 : Nat} (h : n < m) : (n < m + k0 + k1 + k2 + k3) = True := eq_true (by omega)
@[go_sem] theorem lt_more5 {n m k0 k1 k2 k3 k4 : Nat} (h : n < m) : (n < m + k0 + k1 + k2 + k3 + k4) = True := eq_true (by omega)
@[go_sem] theorem lt_more6 {n m k0 k1 k2 k3 k4 k5 : Nat} (h : n < m) : (n < m + k0 + k1 + k2 + k3 + k4 + k5) = True := eq_true (by omega)
@[go_sem] theorem lt_more7 {n m k0 k1 k2 k3 k4 k5 k6 : Nat} (h : n < m) : (n < m + k0 + k1 + k2 + k3 + k4 + k5 + k6) = True := eq_true (by omega)
@[go_sem] theorem lt_more8 {n m k0 k1 k2 k3 k4 k5 k6 k7 : Nat} (h : n < m) : (n < m + k0 + k1 + k2 + k3 + k4 + k5 + k6 + k7) = True := eq_true (by omega)
@[go_sem] theorem lt_more9 {n m k0 k1 k2 k3 k4 k5 k6 k7 k8 : Nat} (h : n < m) : (n < m + k0 + k1 + k2 + k3 + k4 + k5 + k6 + k7 + k8) = True := eq_true (by omega)
@[go_sem] theorem lt_more10 {n m k0 k1 k2 k3 k4 k5 k6 k7 k8 k9 : Nat} (h : n < m) : (n < m + k0 + k1 + k2 + k3 + k4 + k5 + k6 + k7 + k8 + k9) = True := eq_true (by omega)
@[go_sem] theorem plus_drew (w : World) (bs : List Obj) (d : Nat) : plus w.drew bs d = plus w bs d := rfl
@[go_sem] theorem plus_drewN (w : World) (bs : List Obj) (d n : Nat) : plus (w.drewN n) bs d = plus w bs d := rfl
@[go_sem] theorem drew_plus (w : World) (bs : List Obj) (d : Nat) : (plus w bs d).drew = plus w bs (d + 1) := rfl
@[go_sem] theorem drewN_plus (w : World) (bs : List Obj) (d n : Nat) : (plus w bs d).drewN n = plus w bs (d + n) := rfl
theorem plus_of (h : Below W.heap.size W w) : ∃ bs d, w = plus W bs d := by
  refine ⟨(w.heap.toList.drop W.heap.size), w.drawn, ?_⟩
  have hh : w.heap = W.heap ++ (w.heap.toList.drop W.heap.size).toArray := by
    apply Array.ext_getElem?
    intro j
    rw [Array.getElem?_append]
    split
    · rename_i hj
      exact h.block j hj
    · rename_i hj
      simp only [List.getElem?_toArray, List.getElem?_drop]
      rw [show W.heap.size + (j - W.heap.size) = j from by omega]
      simp
  have h1 := h.os
  have h2 := h.tape
  have h3 := h.output
  cases w
  simp only [plus] at *
  subst h1 h2 h3
  rw [← hh]
theorem below_plus (w : World) (bs : List Obj) (d : Nat) : Below w.heap.size w (plus w bs d) := ⟨rfl, rfl, rfl, by simp [plus], fun _ hk => block_plus hk⟩
theorem toPlus {B : Nat} {a : World} (h : Below B a w) (hB : B ≤ w.heap.size) (bs : List Obj) (d : Nat) : Below B a (plus w bs d) := h.trans ((below_plus w bs d).mono hB)
theorem Rb.plus_ {A : Option Addr} {n c : Nat} {l : List UInt8} (h : Rb w A n c l) (bs : List Obj) (d : Nat) : Rb (plus w bs d) A n c l := h.later (below_plus w bs d)
theorem Ob.plus_ {base : Nat} {A : Option Addr} {n c : Nat} {l : List UInt8} (h : Ob w base A n c l) (bs : List Obj) (d : Nat) : Ob (plus w bs d) base A n c l := h.later (below_plus w bs d)
theorem Ob.alloc {base : Nat} {A : Option Addr} {n c : Nat} {l : List UInt8} (h : Ob w base A n c l) (o : Obj) : Ob (w.alloc o) base A n c l := ⟨h.1, h.2.alloc o⟩
/-- the blocks ahead of a row's own may be others -/
theorem Ob.swap {base : Nat} {A : Option Addr} {n c : Nat} {l : List UInt8} {W' : World} {d' : Nat} (h : Ob (plus W bs d) base A n c l) (hb : W.heap.size ≤ base) (hs : W'.heap.size = W.heap.size) : Ob (plus W' bs d') base A n c l := by
  refine ⟨h.1, h.2.1, ?_⟩
  rcases h.2.2 with h2 | ⟨g, cap, cur, hv, hg, hh, hr⟩
  · exact .inl h2
  · refine .inr ⟨g, cap, cur, hv, hg, ?_, hr⟩
    rw [← hh]
    simp [plus, Array.getElem?_append, hs, show ¬ g < W.heap.size by omega]
end

/-- The call returns new bytes l, and changes nothing that was there. -/
def RetB (w : World) (l : List UInt8) (e : Ending) (w' : World) : Prop := ∃ A n c bs d, e = .returned (.slice A n c) ∧ w' = plus w bs d ∧ Ob (plus w bs d) w.heap.size A n c l
theorem RetB.mk {w w' : World} {l : List UInt8} {A : Option Addr} {n c : Nat} (ho : Ob w' w.heap.size A n c l) (hb : Below w.heap.size w w') : RetB w l (.returned (.slice A n c)) w' := by
  obtain ⟨bs, d, rfl⟩ := plus_of hb
  exact ⟨A, n, c, bs, d, rfl, rfl, ho⟩
theorem grown_plus {W w' : World} {bs : List Obj} {d r : Nat} (h : (plus W bs d).grownBy w' (some r)) (hr : W.heap.size ≤ r) : ∃ bs' d', w' = plus W bs' d' := by
  refine plus_of ?_
  have h2 : Below W.heap.size (plus W bs d) w' := below_of_grown h (by simp [size_plus]) (fun k hk => by injection hk with hk; omega)
  exact (below_plus W bs d).trans h2
theorem grown_plus_of {W W1 w' : World} {row : Option Nat} (hb : Below W.heap.size W W1) (h : W1.grownBy w' row) (hr : ∀ k, row = some k → W.heap.size ≤ k) : ∃ bs' d', w' = plus W bs' d' :=
  plus_of (hb.trans (below_of_grown h hb.size hr))

/-- append onto a row of the call's own; W0: the world ahead of all own rows -/
theorem wpList_appP {P : Program} {w : World} {ops : Array Oper} {rest : List Oper} {o : Oper} {a : Act} {Q : Exit → Act → World → Prop} {ts : TypeId} (W0 : World) (bt : BT P ts 5) (hgd : o.guard = none) (s x : Operand)
    (ho : o.op = .call { callee := .builtin .append, args := #[s, x], argTypes := #[ts, ts] }) (hW : Below W0.heap.size W0 w)
    {A : Option Addr} {n c : Nat} {l : List UInt8} (hs : a.eval s = .slice A n c) (hown : Ob w W0.heap.size A n c l)
    {A2 : Option Addr} {n2 c2 : Nat} {l2 : List UInt8} (hx : a.eval x = .slice A2 n2 c2) (hr : Rb w A2 n2 c2 l2) (hm : n + n2 ≤ 1099511627776)
    (h : ∀ A' n' c' bs d, Ob (plus W0 bs d) W0.heap.size A' n' c' (l ++ l2) → w.grownBy (plus W0 bs d) (Value.slice A n c).ownBlock → wpList P ops Q rest (a.put o.dst (.slice A' n' c')) (plus W0 bs d)) : wpList P ops Q (o :: rest) a w := by
  refine wpList_app bt hgd s x ho hs hown hx hr hm hW.size ?_
  intro A' n' c' w' h1 h2 h3
  obtain ⟨bs, d, rfl⟩ := plus_of (hW.trans h2)
  exact h A' n' c' bs d h1 h3
/-- append([]byte{}, x...): the block of the empty literal is the last one -/
theorem wpList_app0 {P : Program} {W0 : World} {ops : Array Oper} {rest : List Oper} {o : Oper} {a : Act} {Q : Exit → Act → World → Prop} {ts : TypeId} (bt : BT P ts 5) (hgd : o.guard = none) (s x : Operand)
    (ho : o.op = .call { callee := .builtin .append, args := #[s, x], argTypes := #[ts, ts] }) {k : Nat} (hs : a.eval s = .slice (some ⟨k, 0, none⟩) 0 0) (hk : k = W0.heap.size)
    {A2 : Option Addr} {n2 c2 : Nat} {l2 : List UInt8} (hx : a.eval x = .slice A2 n2 c2) (hr : Rb W0 A2 n2 c2 l2) (hm : n2 ≤ 1099511627776)
    (h : ∀ A' n' c' bs d, Ob (plus W0 bs d) W0.heap.size A' n' c' l2 → wpList P ops Q rest (a.put o.dst (.slice A' n' c')) (plus W0 bs d)) : wpList P ops Q (o :: rest) a (W0.alloc (.cells #[] 5)) := by
  subst hk
  refine wpList_appP W0 bt hgd s x ho ((Below.refl _ _).alloc (Nat.le_refl _) _) hs (Ob.lit W0 (Nat.le_refl _) #[] [] 0 rfl (Nat.zero_le _) rfl) hx (hr.alloc _) (by omega) ?_
  intro A' n' c' bs d h1 _
  exact h A' n' c' bs d h1

theorem Ob.drew {w : World} {base : Nat} {A : Option Addr} {n c : Nat} {l : List UInt8} (h : Ob w base A n c l) : Ob w.drew base A n c l := h
theorem wp_appP {P : Program} {w : World} {o : Oper} {a : Act} {K : Act → World → Prop} {Q : Exit → Act → World → Prop} {ts : TypeId} (W0 : World) (bt : BT P ts 5) (s x : Operand)
    (ho : o.op = .call { callee := .builtin .append, args := #[s, x], argTypes := #[ts, ts] }) (hW : Below W0.heap.size W0 w)
    {A : Option Addr} {n c : Nat} {l : List UInt8} (hs : a.eval s = .slice A n c) (hown : Ob w W0.heap.size A n c l)
    {A2 : Option Addr} {n2 c2 : Nat} {l2 : List UInt8} (hx : a.eval x = .slice A2 n2 c2) (hr : Rb w A2 n2 c2 l2) (hm : n + n2 ≤ 1099511627776)
    (h : ∀ A' n' c' bs d, Ob (plus W0 bs d) W0.heap.size A' n' c' (l ++ l2) → w.grownBy (plus W0 bs d) (Value.slice A n c).ownBlock → K (a.put o.dst (.slice A' n' c')) (plus W0 bs d)) : o.wp P a w K Q := by
  obtain ⟨A', n', c', w', hrun, h2, h3, h4⟩ := run_app (P := P) w (ty := o.type) bt hown hr hm hW.size
  unfold Oper.wp execOp
  simp only [ho, resolve, invoke, builtin, Sem.run_bind, Sem.run_pure, Result.andThen_ok, List.map_toArray, List.map_cons, List.map_nil, hs, hx, hrun]
  obtain ⟨bs, d, rfl⟩ := plus_of (hW.trans h3)
  exact h A' n' c' bs d h2 h4
/-- the same inside a region that draws its order -/
theorem step_appP {P : Program} {w : World} {ops : Array Oper} {o : Oper} {a : Act} {K : Act → World → Prop} {Q : Exit → Act → World → Prop} {E : Prop} {ts : TypeId} (W0 : World) (bt : BT P ts 5) (hgd : o.guard = none) (s x : Operand)
    (ho : o.op = .call { callee := .builtin .append, args := #[s, x], argTypes := #[ts, ts] }) (hW : Below W0.heap.size W0 w)
    {A : Option Addr} {n c : Nat} {l : List UInt8} (hs : a.eval s = .slice A n c) (hown : Ob w W0.heap.size A n c l)
    {A2 : Option Addr} {n2 c2 : Nat} {l2 : List UInt8} (hx : a.eval x = .slice A2 n2 c2) (hr : Rb w A2 n2 c2 l2) (hm : n + n2 ≤ 1099511627776)
    (h : ∀ A' n' c' bs d, Ob (plus W0 bs d) W0.heap.size A' n' c' (l ++ l2) → w.grownBy (plus W0 bs d) (Value.slice A n c).ownBlock → K (a.put o.dst (.slice A' n' c')) (plus W0 bs d)) :
    if Region.wanted o (yielded ops a.tmps) = true then Oper.wp P o a w K Q else E := by
  have hw : Region.wanted o (yielded ops a.tmps) = true := by simp [Region.wanted, hgd]
  rw [if_pos hw]
  exact wp_appP W0 bt s x ho hW hs hown hx hr hm h
/-- append([]byte{}, x...) in a region that draws its order -/
theorem step_app0 {P : Program} {W0 : World} {ops : Array Oper} {o : Oper} {a : Act} {K : Act → World → Prop} {Q : Exit → Act → World → Prop} {E : Prop} {ts : TypeId} (bt : BT P ts 5) (hgd : o.guard = none) (s x : Operand)
    (ho : o.op = .call { callee := .builtin .append, args := #[s, x], argTypes := #[ts, ts] }) {k : Nat} (hs : a.eval s = .slice (some ⟨k, 0, none⟩) 0 0) (hk : k = W0.heap.size)
    {A2 : Option Addr} {n2 c2 : Nat} {l2 : List UInt8} (hx : a.eval x = .slice A2 n2 c2) (hr : Rb W0 A2 n2 c2 l2) (hm : n2 ≤ 1099511627776)
    (h : ∀ A' n' c' bs d, Ob (plus W0 bs d) W0.heap.size A' n' c' l2 → K (a.put o.dst (.slice A' n' c')) (plus W0 bs d)) :
    if Region.wanted o (yielded ops a.tmps) = true then Oper.wp P o a (W0.alloc (.cells #[] 5)).drew K Q else E := by
  subst hk
  refine step_appP W0 bt hgd s x ho ((Below.refl _ _).alloc (Nat.le_refl _) _).drew hs (Ob.lit W0 (Nat.le_refl _) #[] [] 0 rfl (Nat.zero_le _) rfl).drew hx (hr.alloc _).drew (by omega) ?_
  intro A' n' c' bs d h1 _
  exact h A' n' c' bs d h1

theorem Bk.drew {w : World} {g : Nat} {t : TypeId} {cs : List Value} (h : Bk w g t cs) : Bk w.drew g t cs := h
theorem grownBy_drew {w w' : World} {row : Option Nat} (h : w.grownBy w' row) : w.grownBy w'.drew row := ⟨h.os, h.tape, h.output, h.size, h.block⟩

/-- A slice of bytes in a field that came in. -/
theorem open_bytes_cell {H : Type} {enc : TypeId × Value → H} {P : Program} {W : World} {t e : TypeId} {m : Nat} {u : Value} {y : DataW H × List MemPlace}
    (ht : P.underlying t = some (.slice e)) (he : P.underlying e = some (.int .u8)) (hC : P.cellsOf e = 1)
    (hf : DataW.trod enc P W 0 (fun _ => true) true m t [u] = some y) :
    ∃ A n c, ∃ l : List UInt8, u = .slice A n c ∧ c ≤ maxLen ∧ Rb W A n c l := by
  rcases open_ints ht he hC hf with ⟨hcs, _⟩ | ⟨x, len, cap, zs, hcs, _, hl, hm, hz, _, hcell, hwz⟩
  · simp at hcs
    exact ⟨none, 0, 0, [], hcs, Nat.zero_le _, Rb.nil_⟩
  · simp at hcs
    have hz' : zs.length = cap := by simpa using hz
    refine ⟨some x, len, cap, (zs.take len).map fun n => UInt8.ofNat n.toNat, hcs, hm, by simp [hz', Nat.min_eq_left hl], hl, ?_⟩
    rcases Nat.eq_zero_or_pos len with h0 | h0
    · exact .inl (by simp [h0, bcs])
    · have hc0 := hcell 0 (by omega)
      obtain ⟨b, off, spot⟩ := x
      have hspot : spot = none := by simpa [Addr.add] using World.cell?_spot hc0
      subst hspot
      refine .inr ⟨b, off, rfl, lt_of_cell hc0, fun i u hu => ?_⟩
      have hi : i < len := by
        rcases Nat.lt_or_ge i len with h' | h'
        · exact h'
        · rw [List.getElem?_eq_none (by simp [bcs, hz']; omega)] at hu
          cases hu
      have hzi : i < zs.length := by omega
      have hcl := hcell i hzi
      rw [add_plain] at hcl
      rw [hcl]
      have hw := bounds_u8 (hwz zs[i] (List.getElem_mem hzi))
      have hu' : (bcs ((zs.take len).map fun n => UInt8.ofNat n.toNat))[i]? = some (.int .u8 zs[i]) := by
        simp [bcs, hi, hzi]
        omega
      rw [hu'] at hu
      rw [← hu]
      simp [List.getD, hzi]
/-- A struct of one-cell fields that came in. -/
theorem open_struct {H : Type} {enc : TypeId × Value → H} {P : Program} {W : World} {base : Nat} {t : TypeId} {fs : Array Field} {v : Value} {d : DataW H} {p : List MemPlace}
    (hs : P.underlying t = some (.struct fs)) (hone : Go.Deep.oneCellFields P fs = true) (hC : P.cellsOf t = fs.size)
    (hv : Value.okWide P W .any base t v) (h : DataW.Trod enc P W 0 (fun _ => true) true t v d p) :
    ∃ cs : List Value, v = .agg cs.toArray ∧ cs.length = fs.size ∧ ∃ m, ∀ (j : Nat) (f : Field), fs[j]? = some f → ∃ (u : Value) (y : DataW H × List MemPlace), cs[j]? = some u ∧ DataW.trod enc P W 0 (fun _ => true) true m f.type [u] = some y := by
  obtain ⟨cs, rfl, hsz⟩ := okWide_struct hs hv
  obtain ⟨fuel, hf⟩ := h
  obtain ⟨xs, n, _, _, hl, hlen, hg⟩ := DataW.trod_struct hs hf
  refine ⟨cs.toList, by simp, by simp [hsz, hC], n, fun j f hj => ?_⟩
  obtain ⟨ho, hk⟩ := Go.Deep.hone_of hone j f hj
  have hjl : j < fs.size := (Array.getElem?_eq_some_iff.1 hj).1
  have h1 := hg j f hj
  rw [ho, hk] at h1
  have hjc : j < cs.size := by omega
  have hxj : xs[j]? = some (xs[j]'(by omega)) := List.getElem?_eq_getElem (by omega)
  refine ⟨cs[j], xs[j]'(by omega), by simp [hjc], ?_⟩
  rw [← hxj, ← h1]
  congr 1
  simp only [Value.cells]
  rw [List.drop_eq_getElem_cons (by simpa using hjc)]
  simp
theorem list10 {α : Type} {l : List α} (h : l.length = 10) : ∃ a b c d e f g i j k, l = [a, b, c, d, e, f, g, i, j, k] := by
  match l, h with
  | [a, b, c, d, e, f, g, i, j, k], _ => exact ⟨a, b, c, d, e, f, g, i, j, k, rfl⟩
theorem still_of {P : Program} {f : FuncId} {args : Array Value} {w : World} {v : Value} (h : Calls P f args w fun e w' => e = .returned v ∧ w = w') : Calls P f args w fun e w' => e = .returned v ∧ w' = w :=
  h.mono fun _ _ ⟨h1, h2⟩ => ⟨h1, h2.symm⟩
/-- a region that draws its order: n operations that leave the world alone, then the rest in their order -/
theorem wp_tail {P : Program} {id : Nat} {Q : Exit → Act → World → Prop} {a : Act} {w : World} {l : List Oper} (n : Nat) (hm : P.follows .mixedOrders = true) (hB : Region.lexTailB .any l.toArray n = true)
    (h : wpStill P l.toArray w.drew (fun a' => wpList P l.toArray Q (l.drop n) a' w.drew) (l.take n) a) : (Code.region id l.toArray true).wp P Q a w := wp_region_still_tail n hm hB h
/-- the world under a name, with what is needed of it -/
theorem gen_world {P : Program} {c : Code} {Q : Exit → Act → World → Prop} {a : Act} {w : World} (I : World → Prop) (hI : I w) (h : ∀ w, I w → Code.wp P c Q a w) : Code.wp P c Q a w := h w hI
theorem belowN {B : Nat} {a w : World} (h : Below B a w) (n : Nat) : Below B a (w.drewN n) := ⟨h.os, h.tape, h.output, h.size, h.block⟩
theorem quiet_same {P : Program} {f : FuncId} {args : Array Value} {w : World} {n : Nat} {v : Value}
    (h : Calls P f args (w.drewN n) fun e w' => e = .returned v ∧ w.drewN n = w') : Calls P f args (w.drewN n) fun e w'' => e = .returned v ∧ ∃ m, w'' = w.drewN m :=
  h.mono fun _ _ ⟨he, hm⟩ => ⟨he, n, hm.symm⟩
/-- The call returns v, and changes nothing that was there. -/
def RetV (w : World) (v : Value) (e : Ending) (w' : World) : Prop := ∃ bs d, e = .returned v ∧ w' = plus w bs d
theorem RetV.mk {w w' : World} {v : Value} (hb : Below w.heap.size w w') : RetV w v (.returned v) w' := by
  obtain ⟨bs, d, rfl⟩ := plus_of hb
  exact ⟨bs, d, rfl, rfl⟩
/-- a literal of bytes behind a world with more blocks -/
theorem Rb.litP {W0 : World} {bs : List Obj} {d k n : Nat} (cs : Array Value) (l : List UInt8) (hk : k = W0.heap.size + bs.length) (hn : l.length = n) (hm : n ≤ maxLen) (h : cs.toList = bcs l) : Rb ((plus W0 bs d).alloc (.cells cs 5)) (some ⟨k, 0, none⟩) n n l := by
  have := (Ob.lit (plus W0 bs d) (Nat.le_refl _) cs l n hn hm h).rb
  rw [size_plus, ← hk] at this
  exact this
theorem belowP {a w : World} (h : Below a.heap.size a w) (bs : List Obj) (d : Nat) : Below a.heap.size a (plus w bs d) := toPlus h h.size bs d
theorem Rb.litW {W : World} {k n : Nat} (cs : Array Value) (l : List UInt8) (hk : k = W.heap.size) (hn : l.length = n) (hm : n ≤ maxLen) (h : cs.toList = bcs l) : Rb (W.alloc (.cells cs 5)) (some ⟨k, 0, none⟩) n n l := by
  subst hk
  exact (Ob.lit W (Nat.le_refl _) cs l n hn hm h).rb
/-! ### A region that draws its order, whose operations read what was there and whose calls make memory and hand back plain values -/
theorem plus_plus (w : World) (bs bs' : List Obj) (d d' : Nat) : plus (plus w bs d) bs' d' = plus w (bs ++ bs') d' := by simp [plus, Array.append_assoc]
/-- more blocks, and a count of draws -/
structure Ext where
  bs : List Obj
  d : Nat
instance : Inhabited Ext := ⟨⟨[], 0⟩⟩
theorem wp_plus {P : Program} {id : Nat} {Q : Exit → Act → World → Prop} {a : Act} {w : World} {l : List Oper} (hm : P.follows .mixedOrders = true) (hB : Region.lexB .any l.toArray = true)
    (h : wpQuiet P l.toArray (fun w' => ∃ x : Ext, w' = plus w x.bs x.d) (fun a' => ∀ w', (∃ x : Ext, w' = plus w x.bs x.d) → Q .normal a' w') l a) : (Code.region id l.toArray true).wp P Q a w :=
  wp_region_quiet (C := fun w' => ∃ x : Ext, w' = plus w x.bs x.d) hm hB ⟨⟨[], w.drawn + 1⟩, by simp [plus]⟩ (by simpa using h)
theorem callP {P : Program} {f : FuncId} {args : Array Value} {w : World} {bs : List Obj} {d : Nat} {v : Value} (h : Calls P f args (plus w bs d) (RetV (plus w bs d) v)) :
    Calls P f args (plus w bs d) fun e w'' => e = .returned v ∧ ∃ x : Ext, w'' = plus w x.bs x.d :=
  h.mono fun _ _ ⟨bs', d', he, hw⟩ => ⟨he, ⟨bs ++ bs', d'⟩, by rw [hw, plus_plus]⟩
theorem callS {P : Program} {f : FuncId} {args : Array Value} {w : World} {bs : List Obj} {d : Nat} {v : Value} (h : Calls P f args (plus w bs d) fun e w' => e = .returned v ∧ plus w bs d = w') :
    Calls P f args (plus w bs d) fun e w'' => e = .returned v ∧ ∃ x : Ext, w'' = plus w x.bs x.d :=
  h.mono fun _ _ ⟨he, hw⟩ => ⟨he, ⟨bs, d⟩, hw.symm⟩
theorem RetV.same {P : Program} {f : FuncId} {args : Array Value} {w : World} {v : Value} (h : Calls P f args w fun e w' => e = .returned v ∧ w = w') : Calls P f args w (RetV w v) :=
  h.mono fun _ _ ⟨he, hw⟩ => ⟨[], w.drawn, he, by rw [← hw]; simp [plus]⟩
end Go.Proofs.Ytfmkndemkpecpaa
