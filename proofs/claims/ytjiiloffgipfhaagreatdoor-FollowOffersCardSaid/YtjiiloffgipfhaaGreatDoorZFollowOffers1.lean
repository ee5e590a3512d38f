/- Texts of the law FollowOffers, part 1. -/
import Derived.Below
import Derived.WalkKit
import Derived.WalkSpells
import Derived.Laws.OwnMore
import Derived.Deep.Draws
import Derived.Laws.Rows
import Derived.Lib.Hide
import Derived.Maps.AppendAt
import Derived.Deep.AppendLies
import Derived.Deep.QuietTactic
import Derived.BigQuiet
import Derived.OpenShut
import Derived.ChangeSlices
import Derived.Deep.Fields
import Derived.Laws.CopyOwn
import Derived.StillTailTactics
import Derived.Deep.MidRow
import Derived.WalkLawsBesides
import Derived.Outline
import Derived.Deep.RegionHeld3
import Derived.Deep.RegionLaw
import Derived.Deep.Upon
import Derived.Deep.AppendSrc
import Derived.Deep.CutBlock
import Derived.Laws.BitsAllLaws
import Derived.Deep.RegionWith
import Derived.Deep.DeepCutAuto
import Derived.Deep.RegionHeld
import Derived.Laws.Cover3
import Derived.Stop.BytesEq
import Derived.Laws.StructEq
import Derived.Shelf.RegionOpen
import Derived.MapKept
import Derived.Lib.TrailingZeros
import Derived.Laws.Bits64b
import Derived.Laws.Closers25b
import Derived.Shelf.Spec.TrailingZeros
import Derived.Deep.SlicePairs
import Derived.Deep.Slices
import Derived.ProofKit
import Derived.LaidMore
import Derived.MakeChecks
import Derived.LaidLaws
import Derived.LaidHandle
import Derived.Handed
import Derived.Test.YtjiiloffgipfhaaGreatDoorRows
set_option linter.unusedVariables false
set_option linter.unusedSimpArgs false
set_option maxHeartbeats 4000000
set_option maxRecDepth 100000
namespace Go.Proofs.YtjiiloffgipfhaaGreatDoor
section
open Go.RowKit Go.ChangeShapes Go.WideShapes
theorem qoi {α : Type} {a b : α} (h : some a = some b) : b = a := (Option.some.inj h).symm
theorem qgT {α : Type} {l : List α} {i : Nat} : l.toArray[i]? = l[i]? := List.getElem?_toArray
theorem qgS {α : Type} {a : α} {l : List α} {i : Nat} : (a :: l)[i + 1]? = l[i]? := List.getElem?_cons_succ
theorem qgZ {α : Type} {a : α} {l : List α} : (a :: l)[0]? = some a := List.getElem?_cons_zero
theorem qoS {α : Type} {a b : α} : (some a).getD b = a := rfl
theorem qsT {α : Type} {l : List α} {i : Nat} {a : α} : l.toArray.setIfInBounds i a = (l.set i a).toArray := List.setIfInBounds_toArray ..
theorem qsZ {α : Type} {a b : α} {l : List α} : (a :: l).set 0 b = b :: l := rfl
theorem qsS {α : Type} {a b : α} {l : List α} {i : Nat} : (a :: l).set (i + 1) b = a :: l.set i b := rfl
theorem wpq {P : Program} {w : World} {ops : Array Oper} {rest : List Oper} {o : Oper} {a : Act} {Q : Exit → Act → World → Prop} (h : ∀ K : Act → World → Prop, (∀ a w, wpList P ops Q rest a w → K a w) → o.wp P a w K Q) (hg : o.guard = none := by rfl) : wpList P ops Q (o :: rest) a w := wpList_plain hg h
theorem qw {P : Program} {w : World} {ops : Array Oper} {rest : List Oper} {o : Oper} {a : Act} {Q : Exit → Act → World → Prop} {a' : Act} {w' : World} (h : wpList P ops Q rest a' w') (hg : o.guard = none := by rfl) (hx : ∀ K : Act → World → Prop, K a' w' → o.wp P a w K Q := by (intro K h; go_simp; with_reducible exact h)) : wpList P ops Q (o :: rest) a w := wpList_plain hg fun K hK => hx K (hK _ _ h)
theorem qta {α : Type} {a : α} {l : List α} {n : Nat} : (a :: l).take (n + 1) = a :: l.take n := List.take_succ_cons
theorem qtb {α : Type} {l : List α} : l.take 0 = [] := List.take_zero
theorem qda {α : Type} {a : α} {l : List α} {n : Nat} : (a :: l).drop (n + 1) = l.drop n := List.drop_succ_cons
theorem qdb {α : Type} {l : List α} : l.drop 0 = l := List.drop_zero
theorem qd {a b : Nat} (h : Nat.ble (a + 1) b = true := by rfl) : a < b := Nat.le_of_ble_eq_true h
def bcs (l : List UInt8) : List Value := l.map fun b => .int .u8 (b.toNat : Int)
theorem bcs_length (l : List UInt8) : (bcs l).length = l.length := by simp [bcs]
theorem bcs_append (a b : List UInt8) : bcs (a ++ b) = bcs a ++ bcs b := by simp [bcs]
theorem bcs_take (l : List UInt8) (n : Nat) : (bcs l).take n = bcs (l.take n) := by simp [bcs, List.map_take]
theorem bcs_drop (l : List UInt8) (n : Nat) : (bcs l).drop n = bcs (l.drop n) := by simp [bcs, List.map_drop]
theorem bcs_one (l : List UInt8) : ∀ u ∈ bcs l, u.oneCell' = true := by
 intro u hu
 simp only [bcs, List.mem_map] at hu
 obtain ⟨b, _, rfl⟩ := hu
 rfl
theorem bcs_get (l : List UInt8) (i : Nat) (h : i < l.length) : (bcs l)[i]? = some (.int .u8 (l[i].toNat : Int)) := by simp [bcs, h]
theorem bcs_nil {l : List UInt8} (h : bcs l = []) : l = [] := by simpa [bcs] using h
def Rd (w : World) (B : Nat) (A : Option Addr) (cs : List Value) : Prop :=
 cs = [] ∨ ∃ b off, A = some ⟨b, off, none⟩ ∧ b < B ∧ ∀ i u, cs[i]? = some u → w.cell? ⟨b, off + i, none⟩ = some u
def cutA (A : Option Addr) (c k s : Nat) : Option Addr := if c = k then A else A.map (·.add (k * s))
theorem sliced_cut (a : Option Addr) (l h m s : Nat) : sliced a l h m s = .slice (cutA a m l s) (h - l) (m - l) := rfl
section
variable {w w' : World} {B B' : Nat} {A : Option Addr} {cs : List Value}
theorem Rd.none_ : Rd w B A [] := .inl rfl
theorem Rd.keep (h : Rd w B A cs) (hk : ∀ p : Addr, p.block < B → w'.cell? p = w.cell? p) : Rd w' B A cs := by
 rcases h with h | ⟨b, off, hA, hb, hc⟩
 ·exact .inl h
 ·exact .inr ⟨b, off, hA, hb, fun i u hu => (hk _ hb).trans (hc i u hu)⟩
theorem Rd.more (h : Rd w B A cs) (hB : B ≤ B') : Rd w B' A cs := by
 rcases h with h | ⟨b, off, hA, hb, hc⟩
 ·exact .inl h
 ·exact .inr ⟨b, off, hA, by omega, hc⟩
theorem Rd.below (h : Rd w B A cs) (hb : Below B w w') : Rd w' B A cs := h.keep fun _ hp => hb.cell hp
theorem Rd.drew (h : Rd w B A cs) : Rd w.drew B A cs := h
theorem Rd.drewN (h : Rd w B A cs) (k : Nat) : Rd (w.drewN k) B A cs := h
theorem Rd.alloc (h : Rd w B A cs) (hB : B ≤ w.heap.size) (o : Obj) : Rd (w.alloc o) B A cs := h.keep fun p hp => World.cell?_alloc_lt w o p (by omega)
theorem Rd.setCell (h : Rd w B A cs) {p : Addr} (hB : B ≤ p.block) (u : Value) : Rd (w.setCell p u) B A cs :=
 h.keep fun q hq => World.cell?_setCell_other w p q u (fun e => by subst e; omega)
theorem Rd.grown (h : Rd w B A cs) {row : Option Nat} (hg : w.grownBy w' row) (hB : B ≤ w.heap.size) (hr : ∀ g, row = some g → B ≤ g) : Rd w' B A cs :=
 h.keep fun p hp => World.cell?_of_block (hg.block p.block (by omega) (fun e => by have := hr _ e.symm; omega))
theorem Rd.take (h : Rd w B A cs) (n : Nat) : Rd w B A (cs.take n) := by
 rcases h with h | ⟨b, off, hA, hb, hc⟩
 ·exact .inl (by simp [h])
 ·refine .inr ⟨b, off, hA, hb, fun i u hu => hc i u ?_⟩
  rw [List.getElem?_take] at hu
  split at hu
  ·exact hu
  ·cases hu
theorem Rd.cut (h : Rd w B A cs) {c k : Nat} (hc : cs.length ≤ c) : Rd w B (cutA A c k 1) (cs.drop k) := by
 by_cases hk : cs.length ≤ k
 ·exact .inl (List.drop_eq_nil_of_le hk)
 rcases h with h | ⟨b, off, hA, hb, hcell⟩
 ·exact .inl (by simp [h])
 ·refine .inr ⟨b, off + k, ?_, hb, fun i u hu => ?_⟩
  ·subst hA
   simp only [cutA, if_neg (show ¬ c = k by omega), Option.map_some, Addr.add, Nat.mul_one]
   split
   ·simp_all
   ·rfl
  ·rw [Nat.add_assoc]
   rw [List.getElem?_drop] at hu
   exact hcell _ _ hu
theorem Rd.of_own {base : Nat} {e : TypeId} {n c : Nat} (h : w.ownsRow base e 1 (.slice A n c) n cs) : Rd w w.heap.size A cs := by
 rcases Nat.eq_zero_or_pos n with h0 | h0
 ·subst h0
  exact .inl (List.eq_nil_of_length_eq_zero (by simpa using h.1))
 ·obtain ⟨g, cap, hv, _, hlt⟩ := h.form h0
  have hA : A = some ⟨g, 0, none⟩ := by injection hv
  subst hA
  refine .inr ⟨g, 0, rfl, hlt, fun i u hu => ?_⟩
  have := h.cells (g := g) rfl i u hu
  have hplain : (⟨g, 0, none⟩ : Addr).add i = ⟨g, 0 + i, none⟩ := by unfold Addr.add; split <;> simp_all
  rwa [hplain] at this
theorem Rd.at_ (h : Rd w B A cs) (hn : 0 < cs.length) : ∃ b off, A = some ⟨b, off, none⟩ ∧ b < B ∧ ∀ i u, cs[i]? = some u → w.cell? ⟨b, off + i, none⟩ = some u := by
 rcases h with h | h
 ·subst h; simp at hn
 ·exact h
end
theorem add_plain (b off i : Nat) : (⟨b, off, none⟩ : Addr).add i = ⟨b, off + i, none⟩ := by unfold Addr.add; split <;> simp_all
theorem lt_of_cell {w : World} {a : Addr} {v : Value} (h : w.cell? a = some v) : a.block < w.heap.size := by
 rcases Nat.lt_or_ge a.block w.heap.size with h' | h'
 ·exact h'
 ·simp [World.cell?, Array.getElem?_eq_none h'] at h
structure BT (P : Program) (ts te : TypeId) : Prop where
 sl : P.underlying ts = some (.slice te)
 el : P.underlying te = some (.int .u8)
 info : (P.info? te).map (fun i => (i.zero, i.size, i.bytes)) = some (some (.int .u8 0), 1, 1)
def Rb (w : World) (A : Option Addr) (n c : Nat) (l : List UInt8) : Prop := l.length = n ∧ n ≤ c ∧ Rd w w.heap.size A (bcs l)
def Ob (w : World) (base : Nat) (A : Option Addr) (n c : Nat) (l : List UInt8) : Prop := l.length = n ∧ w.ownsRow base 5 1 (.slice A n c) n (bcs l)
section
variable {w w' : World} {base : Nat} {A : Option Addr} {n c : Nat} {l : List UInt8}
theorem Rb.len (h : Rb w A n c l) : l.length = n := h.1
theorem Rb.cap (h : Rb w A n c l) : n ≤ c := h.2.1
theorem Rb.nil_ : Rb w none 0 0 [] := ⟨rfl, Nat.le_refl _, .inl rfl⟩
theorem Rb.later (h : Rb w A n c l) (hb : Below w.heap.size w w') : Rb w' A n c l := ⟨h.1, h.2.1, (h.2.2.below hb).more hb.size⟩
theorem Rb.drew (h : Rb w A n c l) : Rb w.drew A n c l := h
theorem Rb.drewN (h : Rb w A n c l) (k : Nat) : Rb (w.drewN k) A n c l := h
theorem Rb.alloc (h : Rb w A n c l) (o : Obj) : Rb (w.alloc o) A n c l := ⟨h.1, h.2.1, (h.2.2.alloc (Nat.le_refl _) o).more (by simp)⟩
theorem Rb.take (h : Rb w A n c l) {k : Nat} (hk : k ≤ n) : Rb w A k c (l.take k) := ⟨by rw [List.length_take, h.1]; omega, Nat.le_trans hk h.2.1, by rw [← bcs_take]; exact h.2.2.take k⟩
theorem Rb.cut (h : Rb w A n c l) {k : Nat} (hk : k ≤ n) : Rb w (cutA A c k 1) (n - k) (c - k) (l.drop k) :=
 ⟨by rw [List.length_drop, h.1], by have := h.2.1; omega, by rw [← bcs_drop]; exact h.2.2.cut (by rw [bcs_length, h.1]; exact h.2.1)⟩
theorem Ob.len (h : Ob w base A n c l) : l.length = n := h.1
theorem Ob.rb (h : Ob w base A n c l) : Rb w A n c l := by
 refine ⟨h.1, ?_, Rd.of_own h.2⟩
 rcases h.2.2 with ⟨hv, _⟩ | ⟨g, cap, cur, hv, _, _, hnc, _⟩
 ·injection hv with _ h2 h3
  omega
 ·injection hv with _ _ h3
  omega
theorem Ob.nil_ : Ob w base none 0 0 [] := ⟨rfl, World.ownsRow_nil w base _ 1⟩
theorem Ob.blk (h : Ob w base A n c l) : ∀ k, (Value.slice A n c).ownBlock = some k → base ≤ k ∧ k < w.heap.size := h.2.lt
theorem Ob.grown {row : Option Nat} (h : Ob w base A n c l) (hg : w.grownBy w' row) (hne : ∀ k, (Value.slice A n c).ownBlock = some k → row ≠ some k) : Ob w' base A n c l := by
 refine ⟨h.1, h.2.kept hg ?_⟩
 cases hk : (Value.slice A n c).ownBlock with
 | none => exact .inl rfl
 | some k => exact .inr (fun e => hne k hk e.symm)
theorem grownBy_of_below (h : Below w.heap.size w w') : w.grownBy w' none := ⟨h.os, h.tape, h.output, h.size, fun i hi _ => h.block i hi⟩
theorem Ob.later (h : Ob w base A n c l) (hb : Below w.heap.size w w') : Ob w' base A n c l := h.grown (grownBy_of_below hb) (fun _ _ => by simp)
theorem Ob.mono {base' : Nat} (h : Ob w base A n c l) (hb : base' ≤ base) : Ob w base' A n c l := by
 refine ⟨h.1, h.2.1, ?_⟩
 rcases h.2.2 with h2 | ⟨g, cap, cur, hv, hg, hr⟩
 ·exact .inl h2
 ·exact .inr ⟨g, cap, cur, hv, by omega, hr⟩
end
theorem Ob.lit (w : World) {base : Nat} (hb : base ≤ w.heap.size) (cs : Array Value) (l : List UInt8) (n : Nat) (hn : l.length = n) (hm : n ≤ maxLen) (h : cs.toList = bcs l) : Ob (w.alloc (.cells cs 5)) base (some ⟨w.heap.size, 0, none⟩) n n l := by
 have hs : cs.size = n := by rw [← Array.length_toList, h, bcs_length, hn]
 refine ⟨hn, by rw [bcs_length, hn]; omega, .inr ⟨w.heap.size, n, cs, rfl, hb, heap_alloc_new w _, Nat.le_refl _, hm, by omega, ?_⟩⟩
 rw [h, List.take_of_length_le (by rw [bcs_length]; omega)]
theorem below_of_grown {w w' : World} {base : Nat} {row : Option Nat} (hg : w.grownBy w' row) (hb : base ≤ w.heap.size) (hr : ∀ k, row = some k → base ≤ k) : Below base w w' :=
 ⟨hg.os, hg.tape, hg.output, hg.size, fun i hi => hg.block i (by omega) (fun e => by have := hr _ e.symm; omega)⟩
theorem run_app {P : Program} (w : World) {ts ty : TypeId} (bt : BT P ts 5) {base : Nat} {A : Option Addr} {n c : Nat} {l : List UInt8} (hown : Ob w base A n c l)
  {A2 : Option Addr} {n2 c2 : Nat} {l2 : List UInt8} (hr : Rb w A2 n2 c2 l2) (hm : n + n2 ≤ 1099511627776) (hbase : base ≤ w.heap.size) :
  ∃ A' n' c' w', (Builtin.append_ #[ts, ts] ty #[.slice A n c, .slice A2 n2 c2]).run P w = .ok (.slice A' n' c') w' ∧ Ob w' base A' n' c' (l ++ l2) ∧ Below base w w' ∧ w.grownBy w' (Value.slice A n c).ownBlock := by
 obtain ⟨i, hi, hz0, hz1, hz2⟩ := info_parts bt.info
 have hbel : ∀ {w'}, w.grownBy w' (Value.slice A n c).ownBlock → Below base w w' := fun hg => below_of_grown hg hbase fun k hk => (hown.blk k hk).1
 have fin : ∀ v' w', w'.ownsRow base 5 1 v' (n + n2) (bcs l ++ bcs l2) → ∃ A' n' c', v' = .slice A' n' c' ∧ Ob w' base A' n' c' (l ++ l2) := by
  intro v' w' h
  have hl : (l ++ l2).length = n + n2 := by rw [List.length_append, hown.1, hr.1]
  rw [← bcs_append] at h
  have h2 := h.2
  rcases h2 with ⟨hv, h0⟩ | ⟨g, cap, cur, hv, _⟩
  ·refine ⟨none, 0, 0, hv, by omega, ?_⟩
   rw [hv, h0] at h
   exact h
  ·refine ⟨_, _, _, hv, hl, ?_⟩
   rw [hv] at h
   exact h
 cases A2 with
 | none =>
  have hn2 : n2 = 0 := by
   rcases hr.2.2 with h | ⟨b, off, h, _⟩
   ·have := hr.1; rw [bcs_nil h] at this; simpa using this.symm
   ·cases h
  subst hn2
  have hl2 : l2 = [] := List.eq_nil_of_length_eq_zero hr.1
  subst hl2
  refine ⟨A, n, c, w, ?_, by simpa using hown, Below.refl _ _, World.grownBy.refl w _⟩
  rcases hown.2.2 with ⟨hv, h0⟩ | ⟨g, cap, cur, hv, _, _, hnc, _⟩
  ·injection hv with h1 h2 h3
   subst h1 h2 h3
   simp [Builtin.append_, run_underlying bt.sl, sizeOf, typeInfo, hi, Builtin.lenOf, Builtin.firstCells]
  ·injection hv with h1 h2 h3
   subst h1 h3
   simp [Builtin.append_, run_underlying bt.sl, sizeOf, typeInfo, hi, Builtin.lenOf, Builtin.firstCells, hnc, storeCells]
 | some ad =>
  have hcells : ∀ j u, (bcs l2)[j]? = some u → w.cell? (ad.add j) = some u := by
   intro j u hu
   rcases hr.2.2 with h | ⟨b, off, h, _, hc⟩
   ·rw [h] at hu; simp at hu
   ·injection h with h
    subst h
    rw [add_plain]
    exact hc j u hu
  obtain ⟨v', w', hrun, h2, h3, _, _⟩ := run_append_own_at (P := P) w base ts ty 5 i (.int .u8 0) 1 1 bt.sl hi hz0 hz1 hz2 rfl (by omega) (.slice A n c) n (bcs l) hown.2 ad n2 c2 (bcs l2)
   (by rw [bcs_length, hr.1]; omega) hcells (bcs_one l2) (by simp only [maxLen]; omega) (by omega) hbase
  obtain ⟨A', n', c', rfl, hob⟩ := fin v' w' h2
  exact ⟨A', n', c', w', hrun, hob, hbel h3, h3⟩
theorem wpList_app {P : Program} {w : World} {ops : Array Oper} {rest : List Oper} {o : Oper} {a : Act} {Q : Exit → Act → World → Prop} {ts : TypeId} (bt : BT P ts 5) (hgd : o.guard = none) (s x : Operand)
  (ho : o.op = .call { callee := .builtin .append, args := #[s, x], argTypes := #[ts, ts] })
  {base : Nat} {A : Option Addr} {n c : Nat} {l : List UInt8} (hs : a.eval s = .slice A n c) (hown : Ob w base A n c l)
  {A2 : Option Addr} {n2 c2 : Nat} {l2 : List UInt8} (hx : a.eval x = .slice A2 n2 c2) (hr : Rb w A2 n2 c2 l2) (hm : n + n2 ≤ 1099511627776) (hbase : base ≤ w.heap.size)
  (h : ∀ A' n' c' w', Ob w' base A' n' c' (l ++ l2) → Below base w w' → w.grownBy w' (Value.slice A n c).ownBlock → wpList P ops Q rest (a.put o.dst (.slice A' n' c')) w') : wpList P ops Q (o :: rest) a w := by
 refine wpList_plain hgd fun _ hK => ?_
 obtain ⟨A', n', c', w', hrun, h2, h3, h4⟩ := run_app (P := P) w (ty := o.type) bt hown hr hm hbase
 unfold Oper.wp execOp
 simp only [ho, resolve, invoke, builtin, Sem.run_bind, Sem.run_pure, Result.andThen_ok, List.map_toArray, List.map_cons, List.map_nil, hs, hx, hrun]
 exact hK _ _ (h A' n' c' w' h2 h3 h4)
def Bk (w : World) (g : Nat) (t : TypeId) (cs : List Value) : Prop := w.heap[g]? = some (.cells cs.toArray t (0, 0))
section
variable {w w' : World} {g : Nat} {t : TypeId} {cs : List Value}
theorem Bk.lt (h : Bk w g t cs) : g < w.heap.size := by
 rcases Nat.lt_or_ge g w.heap.size with hlt | hge
 ·exact hlt
 ·unfold Bk at h; rw [Array.getElem?_eq_none hge] at h; cases h
theorem Bk.cell (h : Bk w g t cs) (i : Nat) : w.cell? ⟨g, i, none⟩ = cs[i]? := by
 unfold Bk at h
 simp [World.cell?, h]
theorem Bk.frozen (h : Bk w g t cs) (i : Nat) : w.frozen? ⟨g, i, none⟩ = false := by
 unfold Bk at h
 simp [World.frozen?, h]
theorem Bk.new (w : World) (t : TypeId) (cs : Array Value) : Bk (w.alloc (.cells cs t)) w.heap.size t cs.toList := heap_alloc_new w _
theorem Bk.alloc (h : Bk w g t cs) (o : Obj) : Bk (w.alloc o) g t cs := (Below.heap_alloc w o g h.lt).trans h
theorem Bk.set_ (h : Bk w g t cs) (i : Nat) (u : Value) : Bk (w.setCell ⟨g, i, none⟩ u) g t (cs.set i u) := by
 unfold Bk at h ⊢
 simp [World.setCell, Array.getElem?_modify, h]
theorem Bk.below {B : Nat} (h : Bk w g t cs) (hb : Below B w w') (hg : g < B) : Bk w' g t cs := (hb.block g hg).trans h
theorem Bk.later (h : Bk w g t cs) (hb : Below w.heap.size w w') : Bk w' g t cs := h.below hb h.lt
theorem Bk.grown {row : Option Nat} (h : Bk w g t cs) (hb : w.grownBy w' row) (hg : row ≠ some g) : Bk w' g t cs := (hb.block g h.lt (fun e => hg e.symm)).trans h
end
theorem grownBy_setCell (w : World) (g i : Nat) (u : Value) : w.grownBy (w.setCell ⟨g, i, none⟩ u) (some g) :=
 ⟨rfl, rfl, rfl, by simp [World.setCell], fun k _ hne => Below.heap_setCell w _ u k (fun e => hne (by rw [e]))⟩
def dig : Nat → Nat → List UInt8
 | _, 0 => []
 | n, m + 1 => dig (n / 256) m ++ [UInt8.ofNat (n % 256)]
theorem dig_length : ∀ (m n : Nat), (dig n m).length = m
 | 0, _ => rfl
 | m + 1, n => by simp [dig, dig_length m]
theorem over_nil (cs : List Value) (off : Nat) : splice cs off [] = cs := by simp [splice]
theorem over_dig (cs : List Value) (off n m : Nat) (h : off + (m + 1) ≤ cs.length) :
  splice (cs.set (off + m) (.int .u8 ((n % 256 : Nat) : Int))) off (bcs (dig (n / 256) m)) = splice cs off (bcs (dig n (m + 1))) := by
 have e : (bcs (dig n (m + 1))) = bcs (dig (n / 256) m) ++ [.int .u8 ((n % 256 : Nat) : Int)] := by
  rw [dig, bcs_append]
  simp [bcs]
 rw [e]
 unfold splice
 rw [List.take_set_of_le (by omega), bcs_length, dig_length, List.length_append, bcs_length, dig_length]
 have hd : List.drop (off + m) (cs.set (off + m) (.int .u8 ((n % 256 : Nat) : Int))) = .int .u8 ((n % 256 : Nat) : Int) :: List.drop (off + m + 1) cs := by
  rw [List.drop_eq_getElem_cons (by simp; omega)]
  simp [List.drop_set]
 rw [hd]
 simp [Nat.add_assoc]
theorem cutA_some (g off c k : Nat) (h : c ≠ k) : cutA (some ⟨g, off, none⟩) c k 1 = some ⟨g, off + k, none⟩ := by
 simp [cutA, h, add_plain]
theorem Ob.of_bk {w : World} {g base n : Nat} {l : List UInt8} (h : Bk w g 5 (bcs l)) (hb : base ≤ g) (hn : l.length = n) (hm : n ≤ maxLen) : Ob w base (some ⟨g, 0, none⟩) n n l :=
 ⟨hn, by rw [bcs_length, hn]; omega, .inr ⟨g, n, _, rfl, hb, h, Nat.le_refl _, hm, by simp [bcs_length, hn], by rw [List.take_of_length_le (by simp [bcs_length, hn])]⟩⟩
theorem wpList_mk {P : Program} {w : World} {ops : Array Oper} {rest : List Oper} {o : Oper} {a : Act} {Q : Exit → Act → World → Prop} {ts : TypeId} (bt : BT P ts 5) (hgd : o.guard = none) (x : Operand)
  (hop : o.op = Op.makeSlice ts x x) (L : Int) (n : Nat) (hl : a.eval x = .int .i64 L) (hL : L = (n : Int)) (hm : n ≤ 1099511627776)
  (h : ∀ w', Bk w' w.heap.size 5 (List.replicate n (.int .u8 0)) → Below w.heap.size w w' → w.heap.size < w'.heap.size → wpList P ops Q rest (a.put o.dst (.slice (some ⟨w.heap.size, 0, none⟩) n n)) w') : wpList P ops Q (o :: rest) a w := by
 refine wpList_plain hgd fun _ hK => ?_
 obtain ⟨i, hi, hz0, hz1, hz2⟩ := info_parts bt.info
 subst hL
 have hr := run_make (P := P) w ts 5 i (.int .u8 0) bt.sl hi hz0 .i64 .i64 n n (by omega) (by omega) (by rw [hz2]; omega) (by omega)
 simp only [Int.toNat_natCast, hz1] at hr
 unfold Oper.wp execOp
 simp only [hop, hl, hr, Sem.run_bind, Sem.run_pure, Result.andThen_ok]
 refine hK _ _ (h _ ?_ ((Below.refl _ _).alloc (Nat.le_refl _) _) (by simp))
 have e : madeCells (Value.int .u8 0).cells (n * 1) = (List.replicate n (Value.int .u8 0)).toArray := by
  apply Array.ext
  ·simp [size_madeCells]
  ·intro j h1 h2
   simp [madeCells, Value.cells, Nat.mod_one]
 unfold Bk
 rw [heap_alloc_new, e]
theorem wpList_cpy {P : Program} {w : World} {ops : Array Oper} {rest : List Oper} {o : Oper} {a : Act} {Q : Exit → Act → World → Prop} {ts : TypeId} (k : Nat) (hdst : o.dst = some k) (bt : BT P ts 5) (hgd : o.guard = none) (d s : Operand)
  (ho : o.op = .call { callee := .builtin .copy, args := #[d, s], argTypes := #[ts, ts] })
  {A1 A2 : Option Addr} {n1 c1 n2 c2 : Nat} (hd : a.eval d = .slice A1 n1 c1) (hs : a.eval s = .slice A2 n2 c2)
  (g off : Nat) (cs : List Value) (hg : Bk w g 5 cs) (hA : n2 = 0 ∨ A1 = some ⟨g, off, none⟩) (l : List UInt8) (hr : Rb w A2 n2 c2 l) (hle : n2 ≤ n1) (hfit : off + n2 ≤ cs.length)
  (B : Nat) (w0 : World) (hb : Below B w0 w) (hBg : B ≤ g)
  (h : ∀ w', Bk w' g 5 (splice cs off (bcs l)) → Below B w0 w' → wpList P ops Q rest (a.put o.dst (goInt n2)) w') : wpList P ops Q (o :: rest) a w := by
 obtain ⟨i, hi, hz0, hz1, hz2⟩ := info_parts bt.info
 have hl : (bcs l).length = n2 := by rw [bcs_length, hr.1]
 refine wpList_copy_splice hgd d s ts ts ho 5 bt.sl (by simp [hi, hz1]) _ _ _ _ _ _ hd hs g off cs 5 hg (bcs l) ?_ ?_ (by omega) (bcs_one l) B w0 hb hBg ?_
 ·rw [hl]; exact (Nat.min_eq_left hle).symm
 ·intro h0
  rcases hA with h1 | h1
  ·omega
  ·obtain ⟨b, o2, hA2, _, hc⟩ := hr.2.2.at_ h0
   exact ⟨h1, _, hA2, fun j v hj => by rw [add_plain]; exact hc j v hj⟩
 ·intro w' h1 h2
  rw [hl]
  exact h w' h1.out h2
theorem cutA_zero (A : Option Addr) (c s : Nat) : cutA A c 0 s = A := by
 unfold cutA
 split
 ·rfl
 ·cases A <;> simp [Addr.add]
def num (l : List UInt8) : Nat := l.foldl (fun n b => n * 256 + b.toNat) 0
theorem run_str {P : Program} {ts tstr : TypeId} (bt : BT P ts 5) (hstr : P.underlying tstr = some .string) {w : World} {A : Option Addr} {n c : Nat} {l : List UInt8} (h : Rb w A n c l) :
  (convert ts tstr (.slice A n c)).run P w = .ok (.string ⟨l.toArray⟩) w := by
 rw [run_convert_bytes_string w ts tstr _ A n c bt.sl bt.el hstr]
 obtain ⟨h1, _, h3⟩ := h
 subst h1
 cases A with
 | none =>
  have : l = [] := by
   rcases h3 with h | ⟨b, off, h, _⟩
   ·exact bcs_nil h
   ·cases h
  subst this
  simp [Conv.bytesToString]
  rfl
 | some ad =>
  have hl : (loadCells ad l.length).run P w = .ok ((l.map fun b => (b.toNat : Int)).map (Value.int .u8)).toArray w := by
   have := run_loadCells_list (P := P) w ad (bcs l) (fun j v hj => by
    rcases h3 with h | ⟨b, off, h, _, hc⟩
    ·rw [h] at hj; simp at hj
    ·injection h with h
     subst h
     rw [add_plain]
     exact hc j v hj)
   rw [bcs_length] at this
   simpa [bcs, Function.comp_def] using this
  rw [run_bytesToString w ad l.length c _ hl, foldl_push_bytes]
  simp [ByteArray.empty, ByteArray.emptyWithCapacity, Function.comp_def]
  rfl
theorem Rb.setCell {w : World} {A : Option Addr} {n c : Nat} {l : List UInt8} (h : Rb w A n c l) {p : Addr} (hp : ∀ a, A = some a → a.block ≠ p.block) (u : Value) : Rb (w.setCell p u) A n c l := by
 refine ⟨h.1, h.2.1, ?_⟩
 rcases h.2.2 with h' | ⟨b, off, hA, hb, hc⟩
 ·exact .inl h'
 ·refine .inr ⟨b, off, hA, by simpa [World.setCell] using hb, fun i u' hu => ?_⟩
  rw [World.cell?_setCell_other w p ⟨b, off + i, none⟩ u (fun e => hp _ hA (by rw [e]))]
  exact hc i u' hu
theorem Ob.setCell {w : World} {base : Nat} {A : Option Addr} {n c : Nat} {l : List UInt8} (h : Ob w base A n c l) {p : Addr} (hp : p.block < base) (u : Value) : Ob (w.setCell p u) base A n c l :=
 ⟨h.1, ownsRow_setCell_below h.2 hp u⟩
/-! ### A world with more blocks behind it: what a callee leaves -/
def plus (w : World) (bs : List Obj) (d : Nat) : World := { w with heap := w.heap ++ bs.toArray, drawn := d }
section
variable {w W : World} {bs : List Obj} {d : Nat}
@[go_sem] theorem size_plus (w : World) (bs : List Obj) (d : Nat) : (plus w bs d).heap.size = w.heap.size + bs.length := by simp [plus]
theorem block_plus {n : Nat} (h : n < w.heap.size) : (plus w bs d).heap[n]? = w.heap[n]? := by
 simp [plus, Array.getElem?_append, h]
@[go_sem] theorem cell_plus (w : World) (bs : List Obj) (d : Nat) (n i : Nat) (hn : n < w.heap.size) : (plus w bs d).cell? ⟨n, i, none⟩ = w.cell? ⟨n, i, none⟩ := World.cell?_of_block (block_plus hn)
@[go_sem] theorem frozen_plus (w : World) (bs : List Obj) (d : Nat) (n i : Nat) (hn : n < w.heap.size) : (plus w bs d).frozen? ⟨n, i, none⟩ = w.frozen? ⟨n, i, none⟩ := World.frozen?_of_block (block_plus hn)
@[go_sem] theorem setCell_plus (w : World) (bs : List Obj) (d : Nat) (n i : Nat) (v : Value) (hn : n < w.heap.size) : (plus w bs d).setCell ⟨n, i, none⟩ v = plus (w.setCell ⟨n, i, none⟩ v) bs d := by
 simp only [plus, World.setCell, World.mk.injEq, and_true]
 apply Array.ext
 ·simp
 ·intro j h1 h2
  simp only [Array.getElem_append, Array.getElem_modify, Array.size_modify] at *
  by_cases hj : j < w.heap.size
  ·simp [hj]
  ·simp [hj]
   intro e
   omega
@[go_sem] theorem lt_more {n m k : Nat} (h : n < m) : (n < m + k) = True := eq_true (by omega)
@[go_sem] theorem lt_more2 {n m k0 k1 : Nat} (h : n < m) : (n < m + k0 + k1) = True := eq_true (by omega)
@[go_sem] theorem lt_more3 {n m k0 k1 k2 : Nat} (h : n < m) : (n < m + k0 + k1 + k2) = True := eq_true (by omega)
@[go_sem] theorem lt_more4 {n m k0 k1 k2 k3 : Nat} (h : n < m) : (n < m + k0 + k1 + k2 + k3) = True := eq_true (by omega)
@[go_sem] theorem lt_more5 {n m k0 k1 k2 k3 k4 : Nat} (h : n < m) : (n < m + k0 + k1 + k2 + k3 + k4) = True := eq_true (by omega)
@[go_sem] theorem lt_more6 {n m k0 k1 k2 k3 k4 k5 : Nat} (h : n < m) : (n < m + k0 + k1 + k2 + k3 + k4 + k5) = True := eq_true (by omega)
@[go_sem] theorem lt_more7 {n m k0 k1 k2 k3 k4 k5 k6 : Nat} (h : n < m) : (n < m + k0 + k1 + k2 + k3 + k4 + k5 + k6) = True := eq_true (by omega)
@[go_sem] theorem lt_more8 {n m k0 k1 k2 k3 k4 k5 k6 k7 : Nat} (h : n < m) : (n < m + k0 + k1 + k2 + k3 + k4 + k5 + k6 + k7) = True := eq_true (by omega)
@[go_sem] theorem lt_more9 {n m k0 k1 k2 k3 k4 k5 k6 k7 k8 : Nat} (h : n < m) : (n < m + k0 + k1 + k2 + k3 + k4 + k5 + k6 + k7 + k8) = True := eq_true (by omega)
@[go_sem] theorem lt_more10 {n m k0 k1 k2 k3 k4 k5 k6 k7 k8 k9 : Nat} (h : n < m) : (n < m + k0 + k1 + k2 + k3 + k4 + k5 + k6 + k7 + k8 + k9) = True := eq_true (by omega)
@[go_sem] theorem plus_drew (w : World) (bs : List Obj) (d : Nat) : plus w.drew bs d = plus w bs d := rfl
@[go_sem] theorem plus_drewN (w : World) (bs : List Obj) (d n : Nat) : plus (w.drewN n) bs d = plus w bs d := rfl
@[go_sem] theorem drew_plus (w : World) (bs : List Obj) (d : Nat) : (plus w bs d).drew = plus w bs (d + 1) := rfl
@[go_sem] theorem drewN_plus (w : World) (bs : List Obj) (d n : Nat) : (plus w bs d).drewN n = plus w bs (d + n) := rfl
theorem plus_of (h : Below W.heap.size W w) : ∃ bs d, w = plus W bs d := by
 refine ⟨(w.heap.toList.drop W.heap.size), w.drawn, ?_⟩
 have hh : w.heap = W.heap ++ (w.heap.toList.drop W.heap.size).toArray := by
  apply Array.ext_getElem?
  intro j
  rw [Array.getElem?_append]
  split
  ·rename_i hj
   exact h.block j hj
  ·rename_i hj
   simp only [List.getElem?_toArray, List.getElem?_drop]
   rw [show W.heap.size + (j - W.heap.size) = j from by omega]
   simp
 have h1 := h.os
 have h2 := h.tape
 have h3 := h.output
 cases w
 simp only [plus] at *
 subst h1 h2 h3
 rw [← hh]
theorem below_plus (w : World) (bs : List Obj) (d : Nat) : Below w.heap.size w (plus w bs d) := ⟨rfl, rfl, rfl, by simp [plus], fun _ hk => block_plus hk⟩
theorem toPlus {B : Nat} {a : World} (h : Below B a w) (hB : B ≤ w.heap.size) (bs : List Obj) (d : Nat) : Below B a (plus w bs d) := h.trans ((below_plus w bs d).mono hB)
theorem Rb.plus_ {A : Option Addr} {n c : Nat} {l : List UInt8} (h : Rb w A n c l) (bs : List Obj) (d : Nat) : Rb (plus w bs d) A n c l := h.later (below_plus w bs d)
theorem Ob.plus_ {base : Nat} {A : Option Addr} {n c : Nat} {l : List UInt8} (h : Ob w base A n c l) (bs : List Obj) (d : Nat) : Ob (plus w bs d) base A n c l := h.later (below_plus w bs d)
theorem Ob.alloc {base : Nat} {A : Option Addr} {n c : Nat} {l : List UInt8} (h : Ob w base A n c l) (o : Obj) : Ob (w.alloc o) base A n c l := ⟨h.1, h.2.alloc o⟩
end
def RetB (w : World) (l : List UInt8) (e : Ending) (w' : World) : Prop := ∃ A n c bs d, e = .returned (.slice A n c) ∧ w' = plus w bs d ∧ Ob (plus w bs d) w.heap.size A n c l
theorem RetB.mk {w w' : World} {l : List UInt8} {A : Option Addr} {n c : Nat} (ho : Ob w' w.heap.size A n c l) (hb : Below w.heap.size w w') : RetB w l (.returned (.slice A n c)) w' := by
 obtain ⟨bs, d, rfl⟩ := plus_of hb
 exact ⟨A, n, c, bs, d, rfl, rfl, ho⟩
theorem grown_plus {W w' : World} {bs : List Obj} {d r : Nat} (h : (plus W bs d).grownBy w' (some r)) (hr : W.heap.size ≤ r) : ∃ bs' d', w' = plus W bs' d' := by
 refine plus_of ?_
 have h2 : Below W.heap.size (plus W bs d) w' := below_of_grown h (by simp [size_plus]) (fun k hk => by injection hk with hk; omega)
 exact (below_plus W bs d).trans h2
theorem wpList_appP {P : Program} {w : World} {ops : Array Oper} {rest : List Oper} {o : Oper} {a : Act} {Q : Exit → Act → World → Prop} {ts : TypeId} (W0 : World) (bt : BT P ts 5) (hgd : o.guard = none) (s x : Operand)
  (ho : o.op = .call { callee := .builtin .append, args := #[s, x], argTypes := #[ts, ts] }) (hW : Below W0.heap.size W0 w)
  {A : Option Addr} {n c : Nat} {l : List UInt8} (hs : a.eval s = .slice A n c) (hown : Ob w W0.heap.size A n c l)
  {A2 : Option Addr} {n2 c2 : Nat} {l2 : List UInt8} (hx : a.eval x = .slice A2 n2 c2) (hr : Rb w A2 n2 c2 l2) (hm : n + n2 ≤ 1099511627776)
  (h : ∀ A' n' c' bs d, Ob (plus W0 bs d) W0.heap.size A' n' c' (l ++ l2) → w.grownBy (plus W0 bs d) (Value.slice A n c).ownBlock → wpList P ops Q rest (a.put o.dst (.slice A' n' c')) (plus W0 bs d)) : wpList P ops Q (o :: rest) a w := by
 refine wpList_app bt hgd s x ho hs hown hx hr hm hW.size ?_
 intro A' n' c' w' h1 h2 h3
 obtain ⟨bs, d, rfl⟩ := plus_of (hW.trans h2)
 exact h A' n' c' bs d h1 h3
theorem wpList_app0 {P : Program} {W0 : World} {ops : Array Oper} {rest : List Oper} {o : Oper} {a : Act} {Q : Exit → Act → World → Prop} {ts : TypeId} (bt : BT P ts 5) (hgd : o.guard = none) (s x : Operand)
  (ho : o.op = .call { callee := .builtin .append, args := #[s, x], argTypes := #[ts, ts] }) {k : Nat} (hs : a.eval s = .slice (some ⟨k, 0, none⟩) 0 0) (hk : k = W0.heap.size)
  {A2 : Option Addr} {n2 c2 : Nat} {l2 : List UInt8} (hx : a.eval x = .slice A2 n2 c2) (hr : Rb W0 A2 n2 c2 l2) (hm : n2 ≤ 1099511627776)
  (h : ∀ A' n' c' bs d, Ob (plus W0 bs d) W0.heap.size A' n' c' l2 → wpList P ops Q rest (a.put o.dst (.slice A' n' c')) (plus W0 bs d)) : wpList P ops Q (o :: rest) a (W0.alloc (.cells #[] 5)) := by
 subst hk
 refine wpList_appP W0 bt hgd s x ho ((Below.refl _ _).alloc (Nat.le_refl _) _) hs (Ob.lit W0 (Nat.le_refl _) #[] [] 0 rfl (Nat.zero_le _) rfl) hx (hr.alloc _) (by omega) ?_
 intro A' n' c' bs d h1 _
 exact h A' n' c' bs d h1
theorem Ob.drew {w : World} {base : Nat} {A : Option Addr} {n c : Nat} {l : List UInt8} (h : Ob w base A n c l) : Ob w.drew base A n c l := h
theorem Bk.drew {w : World} {g : Nat} {t : TypeId} {cs : List Value} (h : Bk w g t cs) : Bk w.drew g t cs := h
def RetV (w : World) (v : Value) (e : Ending) (w' : World) : Prop := ∃ bs d, e = .returned v ∧ w' = plus w bs d
theorem RetV.mk {w w' : World} {v : Value} (hb : Below w.heap.size w w') : RetV w v (.returned v) w' := by
 obtain ⟨bs, d, rfl⟩ := plus_of hb
 exact ⟨bs, d, rfl, rfl⟩
theorem belowP {a w : World} (h : Below a.heap.size a w) (bs : List Obj) (d : Nat) : Below a.heap.size a (plus w bs d) := toPlus h h.size bs d
theorem Rb.litW {W : World} {k n : Nat} (cs : Array Value) (l : List UInt8) (hk : k = W.heap.size) (hn : l.length = n) (hm : n ≤ maxLen) (h : cs.toList = bcs l) : Rb (W.alloc (.cells cs 5)) (some ⟨k, 0, none⟩) n n l := by
 subst hk
 exact (Ob.lit W (Nat.le_refl _) cs l n hn hm h).rb
/-! ### A region that draws its order, whose operations read what was there and whose calls make memory and hand back plain values -/
theorem plus_plus (w : World) (bs bs' : List Obj) (d d' : Nat) : plus (plus w bs d) bs' d' = plus w (bs ++ bs') d' := by simp [plus, Array.append_assoc]
structure Ext where
 bs : List Obj
 d : Nat
instance : Inhabited Ext := ⟨⟨[], 0⟩⟩
theorem RetV.same {P : Program} {f : FuncId} {args : Array Value} {w : World} {v : Value} (h : Calls P f args w fun e w' => e = .returned v ∧ w = w') : Calls P f args w (RetV w v) :=
 h.mono fun _ _ ⟨he, hw⟩ => ⟨[], w.drawn, he, by rw [← hw]; simp [plus]⟩
def NoC (_ : Array Value) (_ : World) (_ : Ending → World → Prop) : Prop := True
theorem NoC.mono {a : Array Value} {w : World} {R R' : Ending → World → Prop} (_ : NoC a w R) (_ : ∀ e w', R e w' → R' e w') : NoC a w R' := trivial
end

section
abbrev Tab := List (Nat × Bool)
def sgT (s : Nat × Bool) : Int := if s.2 then -(s.1 : Int) else (s.1 : Int)
def refT (t : Tab) : List Int := t.map sgT
structure TabOk (t : Tab) : Prop where
 nd : (t.map (·.1)).Nodup
 rg : ∀ s ∈ t, 1 ≤ s.1 ∧ s.1 ≤ 64
theorem nodup_le : ∀ (k : Nat) (l : List Nat), l.Nodup → (∀ x ∈ l, x < k) → l.length ≤ k
 | 0, l, _, h => by
  cases l with
  | nil => simp
  | cons a t => have := h a (by simp); omega
 | k + 1, l, hn, h => by
  by_cases hk : k ∈ l
  ·have h1 := nodup_le k (l.erase k) (hn.erase k) (fun x hx => by
    have := (hn.mem_erase_iff).1 hx
    have := h x this.2
    omega)
   have := List.length_erase_of_mem hk
   omega
  ·have := nodup_le k l hn (fun x hx => by
    have := h x hx
    have : x ≠ k := fun e => hk (e ▸ hx)
    omega)
   omega
theorem TabOk.len {t : Tab} (h : TabOk t) : t.length ≤ 64 := by
 have h1 := nodup_le 64 ((t.map (·.1)).map (· - 1)) (by
  rw [List.nodup_iff_pairwise_ne, List.pairwise_map]
  refine List.Pairwise.imp_of_mem ?_ h.nd
  intro a b ha hb hab
  obtain ⟨s, hs, rfl⟩ := List.mem_map.1 ha
  obtain ⟨u, hu, rfl⟩ := List.mem_map.1 hb
  have := h.rg s hs
  have := h.rg u hu
  omega) (fun x hx => by
  obtain ⟨y, hy, rfl⟩ := List.mem_map.1 hx
  obtain ⟨s, hs, rfl⟩ := List.mem_map.1 hy
  have := h.rg s hs
  omega)
 simpa using h1
theorem TabOk.room {t : Tab} (h : TabOk t) {n : Nat} (h1 : 1 ≤ n) (h64 : n ≤ 64) (hn : n ∉ t.map (·.1)) : t.length < 64 := by
 have h2 : TabOk ((n, false) :: t) := ⟨by simp only [List.map_cons, List.nodup_cons]; exact ⟨hn, h.nd⟩, fun s hs => by
  rcases List.mem_cons.1 hs with rfl | hs
  ·exact ⟨h1, h64⟩
  ·exact h.rg s hs⟩
 have := h2.len
 simp at this
 omega
def idxT (t : Tab) (n : Int) : Nat := t.findIdx (fun s => (s.1 : Int) == n)
def next1 (t : Tab) (n : Int) : Tab :=
 if 1 ≤ n ∧ n ≤ 64 then (if idxT t n < t.length then t.set (idxT t n) (n.toNat, false) else t ++ [(n.toNat, false)]) else t
def awayT (t : Tab) : Tab := t.map fun s => (s.1, true)
def tNext (t : Tab) (l : List Int) : Tab := l.foldl next1 (awayT t)
theorem tNext_snoc (t : Tab) (l : List Int) (n : Int) : tNext t (l ++ [n]) = next1 (tNext t l) n := by simp [tNext]
def mem1 (out : List Int) (n : Int) : List Int := if 0 < n ∧ n < 65 ∧ n ∉ out then out ++ [n] else out
def memR (l : List Int) : List Int := l.foldl mem1 []
theorem memR_snoc (l : List Int) (n : Int) : memR (l ++ [n]) = mem1 (memR l) n := by simp [memR]
def clT (t : Tab) (all : List Int) : Tab := (t.map fun s => (s.1, !decide ((s.1 : Int) ∈ all))) ++ (all.filter fun x => decide (x.toNat ∉ t.map (·.1))).map fun x => (x.toNat, false)
theorem idxT_lt {t : Tab} {n : Nat} : idxT t n < t.length ↔ n ∈ t.map (·.1) := by
 unfold idxT
 rw [List.findIdx_lt_length]
 constructor
 ·rintro ⟨s, hs, h⟩
  have : s.1 = n := by simpa [Int.ofNat_inj] using h
  exact List.mem_map.2 ⟨s, hs, this⟩
 ·intro h
  obtain ⟨s, hs, h⟩ := List.mem_map.1 h
  exact ⟨s, hs, by simp [h]⟩
theorem memR_rg (l : List Int) : ∀ x ∈ memR l, 0 < x ∧ x < 65 := by
 suffices ∀ out, (∀ x ∈ out, 0 < x ∧ x < 65) → ∀ x ∈ l.foldl mem1 out, 0 < x ∧ x < 65 from this [] (by simp)
 induction l with
 | nil => intro out h; exact h
 | cons a t ih =>
  intro out h
  refine ih _ ?_
  intro x hx
  unfold mem1 at hx
  split at hx
  ·rename_i hc
   rcases List.mem_append.1 hx with hx | hx
   ·exact h x hx
   ·simp at hx; subst hx; exact ⟨hc.1, hc.2.1⟩
  ·exact h x hx
theorem owners_cl (t : Tab) (all : List Int) : (clT t all).map (·.1) = t.map (·.1) ++ (all.filter fun x => decide (x.toNat ∉ t.map (·.1))).map Int.toNat := by
 simp [clT, List.map_append, Function.comp_def]
theorem mem_owners_cl (t : Tab) (all : List Int) (h : ∀ x ∈ all, 0 < x ∧ x < 65) (n : Nat) : n ∈ (clT t all).map (·.1) ↔ n ∈ t.map (·.1) ∨ (n : Int) ∈ all := by
 rw [owners_cl, List.mem_append]
 constructor
 ·rintro (h1 | h1)
  ·exact .inl h1
  ·obtain ⟨x, hx, rfl⟩ := List.mem_map.1 h1
   have hx := (List.mem_filter.1 hx).1
   have := h x hx
   exact .inr (by rwa [Int.toNat_of_nonneg (by omega)])
 ·rintro (h1 | h1)
  ·exact .inl h1
  ·by_cases hn : n ∈ t.map (·.1)
   ·exact .inl hn
   ·exact .inr (List.mem_map.2 ⟨(n : Int), List.mem_filter.2 ⟨h1, by simpa using hn⟩, rfl⟩)
theorem clT_ok {t : Tab} (ht : TabOk t) {all : List Int} (h : ∀ x ∈ all, 0 < x ∧ x < 65) (hn : all.Nodup) : TabOk (clT t all) := by
 constructor
 ·rw [owners_cl, List.nodup_append]
  refine ⟨ht.nd, ?_, ?_⟩
  ·rw [List.nodup_iff_pairwise_ne, List.pairwise_map]
   refine List.Pairwise.imp_of_mem ?_ (hn.filter _)
   intro a b ha hb hab
   have h1 := h a (List.mem_filter.1 ha).1
   have h2 := h b (List.mem_filter.1 hb).1
   omega
  ·intro a ha b hb e
   subst e
   obtain ⟨x, hx, rfl⟩ := List.mem_map.1 hb
   have := (List.mem_filter.1 hx).2
   simp only [decide_eq_true_eq] at this
   exact this ha
 ·intro s hs
  have h1 : s.1 ∈ (clT t all).map (·.1) := List.mem_map.2 ⟨s, hs, rfl⟩
  rcases (mem_owners_cl t all h s.1).1 h1 with h2 | h2
  ·obtain ⟨u, hu, he⟩ := List.mem_map.1 h2
   have := ht.rg u hu
   omega
  ·have := h _ h2
   omega
theorem memR_nodup (l : List Int) : (memR l).Nodup := by
 suffices ∀ out : List Int, out.Nodup → (l.foldl mem1 out).Nodup from this [] (by simp)
 induction l with
 | nil => intro out h; exact h
 | cons a t ih =>
  intro out h
  refine ih _ ?_
  unfold mem1
  split
  ·rename_i hc
   rw [List.nodup_append]
   refine ⟨h, by simp, ?_⟩
   intro x hx b hb e
   simp at hb
   subst hb e
   exact hc.2.2 hx
  ·exact h
theorem idx_at {t : Tab} {n : Nat} (h : idxT t n < t.length) : t[idxT t n].1 = n := by
 have := List.findIdx_getElem (p := fun s : Nat × Bool => ((s.1 : Int) == (n : Int))) (xs := t) (w := h)
 have h2 : ((t[idxT t n].1 : Int) == (n : Int)) = true := this
 simpa [Int.ofNat_inj] using h2
theorem tNext_cl (t : Tab) (ht : TabOk t) (l : List Int) : tNext t l = clT t (memR l) := by
 suffices ∀ k, k ≤ l.length → tNext t (l.take k) = clT t (memR (l.take k)) by simpa using this l.length (Nat.le_refl _)
 intro k
 induction k with
 | zero => intro _; simp [tNext, memR, clT, awayT]
 | succ k ih =>
  intro hk
  have e : l.take (k + 1) = l.take k ++ [l[k]] := by rw [List.take_succ_eq_append_getElem (by omega)]
  rw [e, tNext_snoc, memR_snoc, ih (by omega)]
  have hrg := memR_rg (l.take k)
  have hnd := memR_nodup (l.take k)
  generalize memR (l.take k) = all at *
  generalize l[k] = n
  have hok := clT_ok ht hrg hnd
  unfold next1
  by_cases h1 : 1 ≤ n ∧ n ≤ 64
  ·obtain ⟨m, rfl⟩ : ∃ m : Nat, n = m := ⟨n.toNat, by omega⟩
   rw [if_pos h1]
   by_cases hin : (m : Int) ∈ all
   ·have hm1 : mem1 all (m : Int) = all := by unfold mem1; exact if_neg (fun h => h.2.2 hin)
    rw [hm1]
    have hlt : idxT (clT t all) m < (clT t all).length := idxT_lt.2 ((mem_owners_cl t all hrg m).2 (.inr hin))
    rw [if_pos hlt]
    have hat := idx_at hlt
    generalize idxT (clT t all) m = i at *
    apply List.ext_getElem
    ·simp
    ·intro j h2 h3
     rw [List.getElem_set]
     split
     ·rename_i hij
      subst hij
      refine Prod.ext ?_ ?_
      ·simp [hat]
      ·show false = _
       by_cases hi : i < t.length
       ·simp only [clT] at hat ⊢
        rw [List.getElem_append_left (by simpa using hi)] at hat ⊢
        simp at hat
        simp [hat, hin]
       ·simp only [clT]
        rw [List.getElem_append_right (by simpa using hi)]
        simp
     ·rfl
   ·have hm1 : mem1 all (m : Int) = all ++ [(m : Int)] := by unfold mem1; exact if_pos ⟨by omega, by omega, hin⟩
    rw [hm1]
    by_cases hmt : m ∈ t.map (·.1)
    ·have hlt : idxT (clT t all) m < (clT t all).length := idxT_lt.2 ((mem_owners_cl t all hrg m).2 (.inl hmt))
     rw [if_pos hlt]
     have hat := idx_at hlt
     have hi : idxT (clT t all) m < t.length := by
      have h5 : idxT (clT t all) m ≤ idxT (t.map fun s => (s.1, !decide ((s.1 : Int) ∈ all))) m := by
       unfold idxT clT
       rw [List.findIdx_append]
       have : (t.map fun s => (s.1, !decide ((s.1 : Int) ∈ all))).findIdx (fun s => (s.1 : Int) == (m : Int)) < (t.map fun s => (s.1, !decide ((s.1 : Int) ∈ all))).length := by
        have := (idxT_lt (t := t.map fun s => (s.1, !decide ((s.1 : Int) ∈ all))) (n := m)).2 (by simpa using hmt)
        exact this
       rw [if_pos this]
       exact Nat.le_refl _
      have h6 := (idxT_lt (t := t.map fun s => (s.1, !decide ((s.1 : Int) ∈ all))) (n := m)).2 (by simpa using hmt)
      simp only [List.length_map] at h6
      omega
     generalize hgi : idxT (clT t all) m = i at *
     have hti : t[i].1 = m := by
      simp only [clT] at hat
      rw [List.getElem_append_left (by simpa using hi)] at hat
      simpa using hat
     have hf : ((all ++ [(m : Int)]).filter fun x => decide (x.toNat ∉ t.map (·.1))) = all.filter fun x => decide (x.toNat ∉ t.map (·.1)) := by
      rw [List.filter_append]
      have : ([(m : Int)].filter fun x => decide (x.toNat ∉ t.map (·.1))) = [] := by
       simp only [List.filter_cons, Int.toNat_natCast, hmt, not_true_eq_false, decide_false, Bool.false_eq_true, if_false, List.filter_nil]
      rw [this, List.append_nil]
     unfold clT
     rw [hf, List.set_append_left _ _ (by simpa using hi)]
     congr 1
     apply List.ext_getElem
     ·simp
     ·intro j h2 h3
      rw [List.getElem_set]
      simp only [List.getElem_map]
      have hj : j < t.length := by simpa using h3
      split
      ·rename_i hij
       subst hij
       simp [hti]
      ·rename_i hij
       have hne : t[j].1 ≠ m := by
        intro e
        have h7 := ht.nd
        have h8 := (List.getElem_inj (i := i) (j := j) (h₀ := by simpa using hi) (h₁ := by simpa using hj) h7).1 (by simp [hti, e])
        exact hij h8
       have hne' : ¬ (t[j].1 : Int) = m := by omega
       simp [List.mem_append, hne']
    ·have hlt : ¬ idxT (clT t all) m < (clT t all).length := by
      rw [idxT_lt, mem_owners_cl t all hrg]
      exact fun h => h.elim hmt hin
     rw [if_neg hlt]
     unfold clT
     have hg : ([(m : Int)].filter fun x => decide (x.toNat ∉ t.map (·.1))) = [(m : Int)] := by
      simp only [List.filter_cons, Int.toNat_natCast, hmt, not_false_eq_true, decide_true, if_true, List.filter_nil]
     rw [List.filter_append, hg, List.map_append, List.append_assoc]
     congr 1
     apply List.map_congr_left
     intro s hs
     have hne' : ¬ (s.1 : Int) = m := by
      intro e
      have : s.1 = m := by omega
      exact hmt (List.mem_map.2 ⟨s, hs, this⟩)
     simp [List.mem_append, hne']
  ·have hm1 : mem1 all n = all := by unfold mem1; exact if_neg (fun h => h1 ⟨by omega, by omega⟩)
   rw [hm1, if_neg h1]
/-! ### the reference's Next -/
def ab (x : Int) : Int := if x < 0 then 0 - x else x
def ph1 (r : List Int) (all : List Int) : List Int := r.map fun x => if ab x ∈ all then ab x else 0 - ab x
def ph2 (r : List Int) (all : List Int) (i : Nat) : List Int := (all.take i).foldl (fun out x => if x ∈ out then out else out ++ [x]) (ph1 r all)
theorem ph2_succ (r all : List Int) (i : Nat) (h : i < all.length) : ph2 r all (i + 1) = if all[i] ∈ ph2 r all i then ph2 r all i else ph2 r all i ++ [all[i]] := by
 unfold ph2
 rw [List.take_succ_eq_append_getElem h, List.foldl_append]
 rfl
theorem ab_sg {s : Nat × Bool} : ab (sgT s) = (s.1 : Int) := by
 unfold ab sgT
 cases s.2
 ·simp only [Bool.false_eq_true, if_false]
  split <;> omega
 ·simp only [if_true]
  split <;> omega
theorem ph1_ref (t : Tab) (all : List Int) : ph1 (refT t) all = refT (t.map fun s => (s.1, !decide ((s.1 : Int) ∈ all))) := by
 simp only [ph1, refT, List.map_map]
 apply List.map_congr_left
 intro s _
 simp only [Function.comp, ab_sg]
 by_cases h : (s.1 : Int) ∈ all <;> simp [h, sgT]
theorem ph2_cl (t : Tab) (ht : TabOk t) (all : List Int) (hr : ∀ x ∈ all, 0 < x ∧ x < 65) (hn : all.Nodup) : ∀ i, i ≤ all.length → ph2 (refT t) all i = refT (t.map fun s => (s.1, !decide ((s.1 : Int) ∈ all))) ++ (all.take i).filter fun x => decide (x.toNat ∉ t.map (·.1))
 | 0, _ => by simp [ph2, ph1_ref]
 | i + 1, hi => by
  have ih := ph2_cl t ht all hr hn i (by omega)
  rw [ph2_succ _ _ _ (by omega), ih, List.take_succ_eq_append_getElem (by omega), List.filter_append]
  have hx := hr all[i] (List.getElem_mem _)
  have hxm : all[i] ∈ all := List.getElem_mem _
  have hxi : all[i] ∉ all.take i := by
   intro hm
   obtain ⟨j, hj, he⟩ := List.getElem_of_mem hm
   simp only [List.getElem_take] at he
   have hj' : j < i ∧ j < all.length := by
    have := hj
    simp only [List.length_take] at this
    omega
   have := (List.getElem_inj (i := j) (j := i) (h₀ := by omega) (h₁ := by omega) hn).1 he
   omega
  generalize all[i] = x at *
  obtain ⟨m, rfl⟩ : ∃ m : Nat, x = m := ⟨x.toNat, by omega⟩
  have hf : ∀ p : Int → Bool, [(m : Int)].filter p = if p m then [(m : Int)] else [] := fun p => by simp [List.filter_cons]
  rw [hf]
  by_cases hm : m ∈ t.map (·.1)
  ·have h1 : (m : Int) ∈ refT (t.map fun s => (s.1, !decide ((s.1 : Int) ∈ all))) := by
    obtain ⟨s, hs, rfl⟩ := List.mem_map.1 hm
    refine List.mem_map.2 ⟨(s.1, !decide ((s.1 : Int) ∈ all)), List.mem_map.2 ⟨s, hs, rfl⟩, ?_⟩
    simp [sgT, hxm]
   rw [if_pos (List.mem_append_left _ h1)]
   simp only [Int.toNat_natCast, hm, not_true_eq_false, decide_false, Bool.false_eq_true, if_false, List.append_nil]
  ·have h1 : ¬ (m : Int) ∈ refT (t.map fun s => (s.1, !decide ((s.1 : Int) ∈ all))) ++ (all.take i).filter fun x => decide (x.toNat ∉ t.map (·.1)) := by
    intro h
    rcases List.mem_append.1 h with h | h
    ·obtain ⟨u, hu, he⟩ := List.mem_map.1 h
     obtain ⟨s, hs, rfl⟩ := List.mem_map.1 hu
     have hs1 := ht.rg s hs
     have : s.1 ≠ m := fun e => hm (e ▸ List.mem_map.2 ⟨s, hs, rfl⟩)
     unfold sgT at he
     split at he <;> simp at he <;> omega
    ·exact hxi (List.mem_filter.1 h).1
   rw [if_neg h1]
   simp only [Int.toNat_natCast, hm, not_false_eq_true, decide_true, if_true, List.append_assoc]
theorem next_ref (t : Tab) (ht : TabOk t) (l : List Int) : refT (tNext t l) = ph2 (refT t) (memR l) (memR l).length := by
 rw [tNext_cl t ht, ph2_cl t ht _ (memR_rg l) (memR_nodup l) _ (Nat.le_refl _), List.take_length]
 unfold clT
 simp only [refT, List.map_append]
 congr 1
 simp only [List.map_map]
 have : ∀ x ∈ (memR l).filter (fun x => decide (x.toNat ∉ t.map (·.1))), (sgT ∘ fun x : Int => (x.toNat, false)) x = x := by
  intro x hx
  have := memR_rg l x (List.mem_filter.1 hx).1
  simp [sgT]
  omega
 rw [List.map_congr_left this, List.map_id']
theorem tNext_ok (t : Tab) (ht : TabOk t) (l : List Int) : TabOk (tNext t l) := by
 rw [tNext_cl t ht]
 exact clT_ok ht (memR_rg l) (memR_nodup l)
/-! ### stacks -/
structure Stk where
 lv : List (Nat × Tab)
 ev : Nat
 bz : Nat
structure StkOk (S : Stk) : Prop where
 nd : (S.lv.map (·.1)).Nodup
 rg : ∀ e ∈ S.lv, e.1 < 8 ∧ TabOk e.2
 ev : S.ev < 18446744073709551616
 bz : S.bz < 256
 bl : ∀ e ∈ S.lv, S.bz.testBit e.1 = false
theorem StkOk.len {S : Stk} (h : StkOk S) : S.lv.length ≤ 8 := by
 have := nodup_le 8 (S.lv.map (·.1)) h.nd (fun x hx => by
  obtain ⟨e, he, rfl⟩ := List.mem_map.1 hx
  exact (h.rg e he).1)
 simpa using this
def idxS (S : Stk) (v : Int) : Nat := S.lv.findIdx (fun e => (e.1 : Int) == v)
theorem idxS_le (S : Stk) (v : Int) : idxS S v ≤ S.lv.length := List.findIdx_le_length
theorem idxS_lt {S : Stk} {n : Nat} : idxS S n < S.lv.length ↔ n ∈ S.lv.map (·.1) := by
 unfold idxS
 rw [List.findIdx_lt_length]
 constructor
 ·rintro ⟨s, hs, h⟩
  have : s.1 = n := by simpa [Int.ofNat_inj] using h
  exact List.mem_map.2 ⟨s, hs, this⟩
 ·intro h
  obtain ⟨s, hs, h⟩ := List.mem_map.1 h
  exact ⟨s, hs, by simp [h]⟩
theorem idxS_at {S : Stk} {v : Int} (h : idxS S v < S.lv.length) : (S.lv[idxS S v].1 : Int) = v := by
 have := List.findIdx_getElem (p := fun s : Nat × Tab => ((s.1 : Int) == v)) (xs := S.lv) (w := h)
 have h2 : ((S.lv[idxS S v].1 : Int) == v) = true := this
 simpa using h2
def takenS (S : Stk) (v : Nat) : Bool := S.bz.testBit v || decide (idxS S v < S.lv.length)
def freeS (S : Stk) : Nat := (List.range 8).findIdx (fun v => !takenS S v)
theorem freeS_spec (S : Stk) (v : Nat) (hv : v ≤ freeS S) (h8 : v < 8) : takenS S v = true ∧ v < freeS S ∨ takenS S v = false ∧ v = freeS S := by
 unfold freeS at *
 rcases Nat.lt_or_ge v ((List.range 8).findIdx (fun v => !takenS S v)) with h | h
 ·have := List.not_of_lt_findIdx h
  simp at this
  exact .inl ⟨this, h⟩
 ·have e : v = (List.range 8).findIdx (fun v => !takenS S v) := by omega
  have := List.findIdx_getElem (p := fun v => !takenS S v) (xs := List.range 8) (w := by rw [← e]; simpa using h8)
  simp only [List.getElem_range, ← e] at this
  exact .inr ⟨by simpa using this, e⟩
theorem freeS_le (S : Stk) : freeS S ≤ 8 := by
 have := List.findIdx_le_length (p := fun v => !takenS S v) (xs := List.range 8)
 simpa [freeS] using this
def pushS (S : Stk) (t : Tab) : Stk := if freeS S < 8 then { S with lv := S.lv ++ [(freeS S, t)] } else S
def pushV (S : Stk) : Nat := if freeS S < 8 then freeS S else 0
def pushE (S : Stk) : Nat := if freeS S < 8 then 0 else 23
def retS (S : Stk) (v : Int) : Stk := if idxS S v + 1 < S.lv.length then { S with lv := S.lv.eraseIdx (idxS S v), bz := S.bz ||| 2 ^ v.toNat } else S
def retE (S : Stk) (v : Int) : Nat := if idxS S v + 1 < S.lv.length then 0 else if idxS S v + 1 = S.lv.length then 1 else 24
def hasB (x : Nat) (n : Int) (first most : Nat) : Bool := decide ((first : Int) ≤ n) && decide (n < (first : Int) + most) && x.testBit (n - first).toNat
def clrB (x k : Nat) : Nat := x &&& (18446744073709551615 - 2 ^ k)
def rlsS (S : Stk) (v : Int) : Stk := if hasB S.bz v 0 8 then { S with bz := clrB S.bz v.toNat } else S
def rlsE (S : Stk) (v : Int) : Nat := if hasB S.bz v 0 8 then 0 else 6
def numB (n : Int) : Bool := decide (1 ≤ n) && decide (n ≤ 64)
def deadS (S : Stk) (n : Int) : Bool := hasB S.ev n 1 64
def eviS (S : Stk) (n : Int) : Stk := if numB n && !deadS S n then { S with ev := S.ev ||| 2 ^ (n.toNat - 1) } else S
def eviE (S : Stk) (n : Int) : Nat := if numB n then (if deadS S n then 7 else 0) else 1
def admS (S : Stk) (n : Int) : Stk := if deadS S n then { S with ev := clrB S.ev (n.toNat - 1) } else S
def admE (S : Stk) (n : Int) : Nat := if deadS S n then 0 else 6
/-! bits -/
theorem testBit_clr (x k j : Nat) (hx : x < 18446744073709551616) (hk : k < 64) : (clrB x k).testBit j = (x.testBit j && decide (j ≠ k)) := by
 unfold clrB
 rw [Nat.testBit_and]
 by_cases hj : j < 64
 ·have e : 18446744073709551615 - 2 ^ k = 2 ^ 64 - (2 ^ k + 1) := by omega
  rw [e, Nat.testBit_two_pow_sub_succ (Nat.pow_lt_pow_right (by decide) hk), Nat.testBit_two_pow]
  by_cases h : k = j
  ·subst h; simp
  ·have h' : ¬ j = k := fun e => h e.symm
   simp [hj, h, h']
 ·have : x.testBit j = false := Nat.testBit_lt_two_pow (Nat.lt_of_lt_of_le hx (by
   have : 2 ^ 64 ≤ 2 ^ j := Nat.pow_le_pow_right (by decide) (by omega)
   omega))
  simp [this]
theorem testBit_or2 (x k j : Nat) : (x ||| 2 ^ k).testBit j = (x.testBit j || decide (j = k)) := by
 rw [Nat.testBit_or, Nat.testBit_two_pow]
 by_cases h : k = j
 ·subst h; simp
 ·have h' : ¬ j = k := fun e => h e.symm
  simp [h, h']
theorem clr_le (x k : Nat) : clrB x k ≤ x := Nat.and_le_left
theorem or2_lt (x k m : Nat) (hx : x < 2 ^ m) (hk : k < m) : x ||| 2 ^ k < 2 ^ m := Nat.or_lt_two_pow hx (Nat.pow_lt_pow_right (by decide) hk)
/-! each step keeps a stack right -/
theorem StkOk.empty : StkOk ⟨[], 0, 0⟩ := ⟨by simp, by simp, by decide, by decide, by simp⟩
theorem StkOk.push {S : Stk} (h : StkOk S) {t : Tab} (ht : TabOk t) : StkOk (pushS S t) := by
 unfold pushS
 split
 ·rename_i hf
  rcases freeS_spec S (freeS S) (Nat.le_refl _) hf with ⟨_, h2⟩ | ⟨h1, _⟩
  ·omega
  ·unfold takenS at h1
   simp only [Bool.or_eq_false_iff, decide_eq_false_iff_not] at h1
   have hn : freeS S ∉ S.lv.map (·.1) := fun hm => h1.2 (idxS_lt.2 hm)
   refine ⟨?_, ?_, h.ev, h.bz, ?_⟩
   ·rw [List.map_append, List.nodup_append]
    refine ⟨h.nd, by simp, ?_⟩
    intro a ha b hb e
    simp at hb
    subst hb e
    exact hn ha
   ·intro e he
    rcases List.mem_append.1 he with he | he
    ·exact h.rg e he
    ·simp at he; subst he; exact ⟨hf, ht⟩
   ·intro e he
    rcases List.mem_append.1 he with he | he
    ·exact h.bl e he
    ·simp at he; subst he; exact h1.1
 ·exact h
theorem StkOk.ret {S : Stk} (h : StkOk S) (v : Int) : StkOk (retS S v) := by
 unfold retS
 split
 ·rename_i hi
  have hlt : idxS S v < S.lv.length := by omega
  have hat := idxS_at hlt
  have h8 := (h.rg _ (List.getElem_mem hlt)).1
  have hv : v.toNat = (S.lv[idxS S v]).1 := by omega
  have hsub : (S.lv.eraseIdx (idxS S v)).Sublist S.lv := List.eraseIdx_sublist _ _
  refine ⟨?_, fun e he => h.rg e (hsub.subset he), h.ev, ?_, ?_⟩
  ·exact (hsub.map (·.1)).nodup h.nd
  ·have := or2_lt S.bz v.toNat 8 (by have := h.bz; omega) (by omega)
   simpa using this
  ·intro e he
   show (S.bz ||| 2 ^ v.toNat).testBit e.1 = false
   rw [testBit_or2, h.bl e (hsub.subset he), Bool.false_or, decide_eq_false_iff_not]
   intro hev
   -- e.1 = v.toNat, but e is not at idx
   obtain ⟨j, hj, hje⟩ := List.mem_iff_getElem.1 he
   rw [List.getElem_eraseIdx] at hje
   split at hje
   ·rename_i hji
    have := (List.getElem_inj (h₀ := by simpa using (show j < S.lv.length by omega)) (h₁ := by simpa using hlt) h.nd (i := j) (j := idxS S v)).1 (by simp [hje, hev, hv])
    omega
   ·rename_i hji
    have hl : j + 1 < S.lv.length := by rw [List.length_eraseIdx_of_lt hlt] at hj; omega
    have := (List.getElem_inj (h₀ := by simpa using hl) (h₁ := by simpa using hlt) h.nd (i := j + 1) (j := idxS S v)).1 (by simp [hje, hev, hv])
    omega
 ·exact h
theorem hasB_rg {x : Nat} {n : Int} {f m : Nat} (h : hasB x n f m = true) : (f : Int) ≤ n ∧ n < (f : Int) + m ∧ x.testBit (n - f).toNat = true := by
 unfold hasB at h
 simp only [Bool.and_eq_true, decide_eq_true_eq] at h
 exact ⟨h.1.1, h.1.2, h.2⟩
theorem StkOk.rls {S : Stk} (h : StkOk S) (v : Int) : StkOk (rlsS S v) := by
 unfold rlsS
 split
 ·rename_i hb
  have hr := hasB_rg hb
  refine ⟨h.nd, h.rg, h.ev, Nat.lt_of_le_of_lt (clr_le _ _) h.bz, fun e he => ?_⟩
  show (clrB S.bz v.toNat).testBit e.1 = false
  rw [testBit_clr _ _ _ (by have := h.bz; omega) (by omega), h.bl e he]
  rfl
 ·exact h
theorem StkOk.evi {S : Stk} (h : StkOk S) (n : Int) : StkOk (eviS S n) := by
 unfold eviS
 split
 ·rename_i hb
  simp only [numB, Bool.and_eq_true, decide_eq_true_eq] at hb
  refine ⟨h.nd, h.rg, ?_, h.bz, h.bl⟩
  have := or2_lt S.ev (n.toNat - 1) 64 (by have := h.ev; omega) (by omega)
  simpa using this
 ·exact h
theorem StkOk.adm {S : Stk} (h : StkOk S) (n : Int) : StkOk (admS S n) := by
 unfold admS
 split
 ·exact ⟨h.nd, h.rg, Nat.lt_of_le_of_lt (clr_le _ _) h.ev, h.bz, h.bl⟩
 ·exact h
/-! the reference's sets -/
def refEv (S : Stk) : List Bool := (List.range 65).map fun i : Nat => deadS S (i : Int)
def refBz (S : Stk) : List Bool := (List.range 8).map fun v => S.bz.testBit v
theorem deadS_evi {S : Stk} {n : Int} (h : (numB n && !deadS S n) = true) (i : Nat) : deadS (eviS S n) i = (deadS S i || decide ((i : Int) = n)) := by
 have e : (eviS S n).ev = S.ev ||| 2 ^ (n.toNat - 1) := by unfold eviS; rw [if_pos h]
 simp only [numB, Bool.and_eq_true, decide_eq_true_eq] at h
 unfold deadS hasB
 rw [e, testBit_or2]
 by_cases h1 : 1 ≤ i ∧ i < 65
 ·have a1 : ((1 : Nat) : Int) ≤ (i : Int) := by omega
  have a2 : (i : Int) < ((1 : Nat) : Int) + (64 : Nat) := by omega
  have a3 : decide (((i : Int) - ((1 : Nat) : Int)).toNat = n.toNat - 1) = decide ((i : Int) = n) := by
   by_cases hh : (i : Int) = n
   ·rw [decide_eq_true hh, decide_eq_true (by omega)]
   ·rw [decide_eq_false hh, decide_eq_false (by omega)]
  simp only [a1, a2, decide_true, Bool.true_and, a3]
 ·have h2 : ¬ (i : Int) = n := by omega
  have h3 : ((decide (((1 : Nat) : Int) ≤ (i : Int)) && decide ((i : Int) < ((1 : Nat) : Int) + (64 : Nat)))) = false := by
   simp only [Bool.and_eq_false_iff, decide_eq_false_iff_not]; omega
  simp only [h3, Bool.false_and, h2, decide_false, Bool.or_false]
theorem deadS_adm {S : Stk} {n : Int} (hx : S.ev < 18446744073709551616) (h : deadS S n = true) (i : Nat) : deadS (admS S n) i = (deadS S i && decide ((i : Int) ≠ n)) := by
 have e : (admS S n).ev = clrB S.ev (n.toNat - 1) := by unfold admS; rw [if_pos h]
 have hr := hasB_rg h
 unfold deadS hasB
 rw [e, testBit_clr _ _ _ hx (by omega)]
 by_cases h1 : 1 ≤ i ∧ i < 65
 ·have a1 : ((1 : Nat) : Int) ≤ (i : Int) := by omega
  have a2 : (i : Int) < ((1 : Nat) : Int) + (64 : Nat) := by omega
  have a3 : decide (((i : Int) - ((1 : Nat) : Int)).toNat ≠ n.toNat - 1) = decide ((i : Int) ≠ n) := by
   by_cases hh : (i : Int) = n
   ·rw [decide_eq_false (by omega), decide_eq_false (by omega)]
   ·rw [decide_eq_true (by omega), decide_eq_true hh]
  simp only [a1, a2, decide_true, Bool.true_and, a3]
 ·have h3 : ((decide (((1 : Nat) : Int) ≤ (i : Int)) && decide ((i : Int) < ((1 : Nat) : Int) + (64 : Nat)))) = false := by
   simp only [Bool.and_eq_false_iff, decide_eq_false_iff_not]; omega
  simp only [h3, Bool.false_and]
theorem map_range_set (f g : Nat → Bool) (m n : Nat) (b : Bool) (_hn : n < m) (h1 : ∀ i, i < m → i ≠ n → g i = f i) (h2 : g n = b) : (List.range m).map g = ((List.range m).map f).set n b := by
 apply List.ext_getElem
 ·simp
 ·intro i h3 h4
  rw [List.getElem_set]
  simp only [List.getElem_map, List.getElem_range]
  have hi : i < m := by simpa using h3
  split
  ·rename_i e; subst e; exact h2
  ·rename_i e; exact h1 i hi (fun e' => e e'.symm)
theorem refEv_evi {S : Stk} {n : Int} (h : (numB n && !deadS S n) = true) : refEv (eviS S n) = (refEv S).set n.toNat true := by
 have h' := h
 simp only [numB, Bool.and_eq_true, decide_eq_true_eq] at h'
 refine map_range_set _ _ _ _ _ ?_ (fun i hi hne => ?_) ?_
 ·omega
 ·rw [deadS_evi h, decide_eq_false (by omega), Bool.or_false]
 ·rw [deadS_evi h, decide_eq_true (by omega), Bool.or_true]
theorem refEv_adm {S : Stk} {n : Int} (hx : S.ev < 18446744073709551616) (h : deadS S n = true) : refEv (admS S n) = (refEv S).set n.toNat false := by
 have hr := hasB_rg h
 refine map_range_set _ _ _ _ _ ?_ (fun i hi hne => ?_) ?_
 ·omega
 ·rw [deadS_adm hx h, decide_eq_true (by omega), Bool.and_true]
 ·rw [deadS_adm hx h, decide_eq_false (by omega), Bool.and_false]
theorem refBz_ret {S : Stk} {v : Int} (h : idxS S v + 1 < S.lv.length) (ho : StkOk S) : refBz (retS S v) = (refBz S).set v.toNat true := by
 have e : (retS S v).bz = S.bz ||| 2 ^ v.toNat := by unfold retS; rw [if_pos h]
 have hlt : idxS S v < S.lv.length := by omega
 have hat := idxS_at hlt
 have h8 := (ho.rg _ (List.getElem_mem hlt)).1
 unfold refBz
 rw [e]
 refine map_range_set _ _ _ _ _ ?_ (fun i hi hne => ?_) ?_
 ·omega
 ·rw [testBit_or2, decide_eq_false hne, Bool.or_false]
 ·rw [testBit_or2]; simp
theorem refBz_rel {S : Stk} {v : Int} (h : hasB S.bz v 0 8 = true) (ho : StkOk S) : refBz (rlsS S v) = (refBz S).set v.toNat false := by
 have e : (rlsS S v).bz = clrB S.bz v.toNat := by unfold rlsS; rw [if_pos h]
 have hr := hasB_rg h
 unfold refBz
 rw [e]
 refine map_range_set _ _ _ _ _ ?_ (fun i hi hne => ?_) ?_
 ·omega
 ·rw [testBit_clr _ _ _ (by have := ho.bz; omega) (by omega), decide_eq_true hne, Bool.and_true]
 ·rw [testBit_clr _ _ _ (by have := ho.bz; omega) (by omega)]; simp
end

section
attribute [local go_sem ↓] sliced_cut
attribute [local go_sem] cutA_zero
open Go.RowKit
theorem bt : BT Tryz.prog 28 5 := ⟨Tryz.underlying28, Tryz.underlying5, by kernel_rfl⟩
theorem clone_any (A : Option Addr) (n c : Nat) (l : List UInt8) (w : World) (h : Rb w A n c l) (hm : n ≤ 549755813888) : Calls Tryz.prog 79 #[.slice A n c] w (RetB w l) := by
 have hnil := fun w => Lib.run_eql_slice_nil (P := Tryz.prog) w 28 5 A n c 0 0 Tryz.underlying28
 cases A with
 | none =>
  go_enter Tryz.func79, Tryz.ntmps79
  go_wp2
  go_ret
  have : l = [] := by
   rcases h.2.2 with h | ⟨b, off, h, _⟩
   ·exact bcs_nil h
   ·cases h
  subst this
  exact RetB.mk Ob.nil_ (Below.refl _ _)
 | some ad =>
  go_enter Tryz.func79, Tryz.ntmps79
  go_wp2_with (at_builtin; refine wpList_app0 bt rfl (.tmp 5) (.tmp 6) rfl rfl rfl rfl h (by omega) ?_; intro A1 n1 c1 bs1 d1 ho1)
  go_ret
  exact ⟨A1, n1, c1, bs1, d1, rfl, rfl, ho1⟩
theorem digits_any (A : Option Addr) (g off m c : Nat) (cs : List Value) (n : Nat) (w : World) (hA : m = 0 ∨ A = some ⟨g, off, none⟩) (hg : Bk w g 5 cs) (hm : off + m ≤ cs.length) (hc : m ≤ 1099511627776) (hn : n < 18446744073709551616) :
  Calls Tryz.prog 94 #[.slice A m c, .int .u64 n] w fun e w' => e = .returned (.tuple #[]) ∧ Bk w' g 5 (splice cs off (bcs (dig n m))) ∧ w.grownBy w' (some g) := by
 go_enter Tryz.func94, Tryz.ntmps94
 go_wp2
 go_loopw [1, 4] (fun x i wr => ∃ j N : Nat, ∃ ks : List Value, j ≤ m ∧ N < 18446744073709551616 ∧ x = .int .u64 N ∧ i = .int .i64 ((j : Int) - 1) ∧ ks.length = cs.length ∧ Bk wr g 5 ks ∧ splice ks off (bcs (dig N j)) = splice cs off (bcs (dig n m)) ∧ w.grownBy wr (some g)) (fun _ i _ => (intOf i + 1).toNat)
 case atStart => exact ⟨m, n, cs, Nat.le_refl _, hn, rfl, rfl, rfl, hg, rfl, World.grownBy.refl _ _⟩
 case round =>
  obtain ⟨j, N, ks, hj, hN, rfl, rfl, hk, hb, ho, hgr⟩ := hrel
  have HO := Lib.hid ho
  have HK := Lib.hid hk
  have hk1 : off + m ≤ ks.length := by omega
  clear ho hk
  by_cases h0 : j = 0
  ·subst h0
   go_wp2
   go_end0
   refine ⟨rfl, ?_, hgr⟩
   rw [← HO.out]
   simpa [dig, bcs, over_nil] using hb
  ·rcases hA with h | rfl
   ·omega
   obtain ⟨k, rfl⟩ : ∃ k, j = k + 1 := ⟨j - 1, by omega⟩
   have hlt : off + k < ks.length := by omega
   have hcell : wr.cell? ⟨g, off + k, none⟩ = some ks[off + k] := by rw [hb.cell, List.getElem?_eq_getElem hlt]
   have hfr := hb.frozen (off + k)
   go_wp2
   refine ⟨⟨k, N / 256, ks.set (off + k) (.int .u8 ((N % 256 : Nat) : Int)), by omega, by omega, by simp, rfl, by rw [List.length_set]; exact HK.out, by simpa using hb.set_ (off + k) _, ?_, hgr.trans (grownBy_setCell _ _ _ _)⟩, by simp [intOf]⟩
   rw [over_dig ks off N k (by omega)]
   exact HO.out
theorem put_cells (l : List UInt8) (n size k : Nat) (h : l.length = k) : splice (splice (List.replicate (k + size) (.int .u8 0)) 0 (bcs l)) k (bcs (dig n size)) = bcs (l ++ dig n size) := by
 subst h
 simp only [splice, bcs_append, bcs_length, dig_length, List.take_zero, List.nil_append, Nat.zero_add]
 rw [List.take_left' (bcs_length l)]
 simp [List.drop_append, bcs_length]
theorem put_any (A : Option Addr) (k c : Nat) (l : List UInt8) (n : Nat) (size : Nat) (w : World) (hr : Rb w A k c l) (hk : k ≤ 549755813888) (hn : n < 18446744073709551616) (hs0 : 1 ≤ size) (hs : size ≤ 8) :
  Calls Tryz.prog 51 #[.slice A k c, .int .u64 n, .int .i64 size] w (RetB w (l ++ dig n size)) := by
 go_enter Tryz.func51, Tryz.ntmps51
 go_wp2_with (first
  | (at_make; refine wpList_mk bt rfl (.tmp 14) rfl _ (k + size) rfl (by omega) (by omega) ?_; intro w1 hb1 hbe1 hs1)
  | (refine wpList_cpy 18 rfl bt rfl (.tmp 16) (.tmp 17) rfl rfl rfl w.heap.size 0 _ hb1 (.inr rfl) l (hr.later hbe1) (by omega) (by simp) w.heap.size w hbe1 (Nat.le_refl _) ?_; intro w2 hb2 hbe2)
  | (go_at_call 94; refine (digits_any _ w.heap.size k size _ (splice (List.replicate (k + size) (.int .u8 0)) 0 (bcs l)) n _ (.inr (by rw [cutA_some _ _ _ _ (by omega)]; simp)) hb2 (by rw [length_splice _ _ _ (by simp [bcs_length, hr.1])]; simp) (by omega) hn).mono ?_; rintro e w3 ⟨rfl, hb3, hg3⟩))
 go_ret
 rw [put_cells l n size k hr.1] at hb3
 exact RetB.mk (Ob.of_bk hb3 (Nat.le_refl _) (by simp [dig_length, hr.1]) (by simp [maxLen]; omega)) (hbe2.trans (below_of_grown hg3 hbe2.size (fun k hk => by injection hk with hk; omega)))
def Rdr (w : World) (r : Nat) (l : List UInt8) (bad : Bool) : Prop := ∃ A n c, Bk w r 212 [.slice A n c, .bool bad] ∧ l.length = n ∧ n ≤ c ∧ Rd w r A (bcs l)
theorem Rdr.lt {w : World} {r : Nat} {l : List UInt8} {bad : Bool} (h : Rdr w r l bad) : r < w.heap.size := by
 obtain ⟨A, n, c, h, _⟩ := h
 exact h.lt
theorem Rdr.later {w w' : World} {r : Nat} {l : List UInt8} {bad : Bool} (h : Rdr w r l bad) (hb : Below w.heap.size w w') : Rdr w' r l bad := by
 have hlt := h.lt
 obtain ⟨A, n, c, h1, h2, h3, h4⟩ := h
 exact ⟨A, n, c, h1.later hb, h2, h3, h4.below ⟨hb.os, hb.tape, hb.output, hb.size, fun k hk => hb.block k (by omega)⟩⟩
def RetP (W : World) (bs : List Obj) (d r : Nat) (l : List UInt8) (bad : Bool) (v : Value) (e : Ending) (w' : World) : Prop :=
 ∃ bs' d', e = .returned v ∧ w' = plus W bs' d' ∧ Rdr (plus W bs' d') r l bad ∧ (plus W bs d).grownBy (plus W bs' d') (some r)
theorem RetP.mk {W : World} {bs : List Obj} {d r : Nat} {l : List UInt8} {bad : Bool} {v : Value} {e : Ending} {w' : World} (hr : W.heap.size ≤ r) (he : e = .returned v) (h1 : Rdr w' r l bad) (h2 : (plus W bs d).grownBy w' (some r)) : RetP W bs d r l bad v e w' := by
 obtain ⟨bs', d', rfl⟩ := grown_plus h2 hr
 exact ⟨bs', d', he, rfl, h1, h2⟩
theorem refBytes_any (n size : Nat) (w : World) (hn : n < 18446744073709551616) (hs : size ≤ 8) :
  Calls Tryz.prog 58 #[.int .u64 n, .int .i64 size] w (RetB w (dig n size)) := by
 have q1 : (size : Int) ≤ 8 := by omega
 go_enter Tryz.func58, Tryz.ntmps58
 go_wp2_with (at_make; refine wpList_mk bt rfl (.tmp 11) rfl _ size rfl rfl (by omega) ?_; intro w1 hb1 hbe1 hs1)
 go_loopw [0, 6] (fun x i wr => ∃ j N : Nat, ∃ ks : List Value, j ≤ size ∧ N < 18446744073709551616 ∧ x = .int .u64 N ∧ i = .int .i64 ((j : Int) - 1) ∧ ks.length = size ∧ Bk wr w.heap.size 5 ks ∧ splice ks 0 (bcs (dig N j)) = bcs (dig n size) ∧ Below w.heap.size w wr) (fun _ i _ => (intOf i + 1).toNat)
 case atStart =>
  refine ⟨size, n, _, Nat.le_refl _, hn, rfl, rfl, by simp, hb1, ?_, hbe1⟩
  simp [splice, bcs_length, dig_length]
 case round =>
  obtain ⟨j, N, ks, hj, hN, rfl, rfl, hk, hb, ho, hgr⟩ := hrel
  have HO := Lib.hid ho
  have HK := Lib.hid hk
  have hk1 : size ≤ ks.length := by omega
  clear ho hk
  by_cases h0 : j = 0
  ·subst h0
   have hlen : (dig n size).length = size := dig_length _ _
   go_wp2
   go_ret
   have he : ks = bcs (dig n size) := by rw [← HO.out]; simp [dig, bcs, over_nil]
   rw [he] at hb
   exact RetB.mk (Ob.of_bk hb (Nat.le_refl _) (dig_length _ _) (by simp [maxLen]; omega)) hgr
  ·obtain ⟨k, rfl⟩ : ∃ k, j = k + 1 := ⟨j - 1, by omega⟩
   have hlt : k < ks.length := by omega
   have hcell : wr.cell? ⟨w.heap.size, k, none⟩ = some ks[k] := by rw [hb.cell, List.getElem?_eq_getElem hlt]
   have hfr := hb.frozen k
   go_wp2
   refine ⟨⟨k, N / 256, ks.set k (.int .u8 ((N % 256 : Nat) : Int)), by omega, by omega, by simp, rfl, by rw [List.length_set]; exact HK.out, by simpa using hb.set_ k _, ?_, hgr.setCell (Nat.le_refl _) _⟩, by simp [intOf]⟩
   have := over_dig ks 0 N k (by omega)
   rw [Nat.zero_add] at this
   rw [this]
   exact HO.out
def RdL (w : World) (A : Option Addr) (m : Nat) (L : List (List UInt8)) : Prop :=
 ∃ cs : List Value, cs.length = m ∧ L.length = m ∧ Rd w w.heap.size A cs ∧ ∀ (i : Nat) (u : Value), cs[i]? = some u → ∃ (A' : Option Addr) (n c : Nat), u = Value.slice A' n c ∧ ∃ l, L[i]? = some l ∧ Rb w A' n c l
theorem take_flatten_succ (L : List (List UInt8)) (i : Nat) (l : List UInt8) (h : L[i]? = some l) : (L.take (i + 1)).flatten = (L.take i).flatten ++ l := by
 rw [List.take_add_one, h]
 simp
theorem total_take (L : List (List UInt8)) : ∀ i, (L.take i).flatten.length ≤ L.flatten.length := by
 intro i
 have : L.flatten = (L.take i).flatten ++ (L.drop i).flatten := by rw [← List.flatten_append, List.take_append_drop]
 rw [this, List.length_append]
 omega
theorem refJoin_any (A : Option Addr) (m c : Nat) (L : List (List UInt8)) (w : World) (h : RdL w A m L) (hm : m ≤ 2000000) (ht : L.flatten.length ≤ 549755813888) :
  Calls Tryz.prog 62 #[.slice A m c] w (RetB w L.flatten) := by
 obtain ⟨cs, h1, h2, hrd, hel⟩ := h
 have H1 := Lib.hid h1
 have H2 := Lib.hid h2
 have HE := Lib.hid hel
 clear h1 h2 hel
 go_enter Tryz.func62, Tryz.ntmps62
 go_wp2
 go_loopw [3, 4] (fun x i wr => ∃ j : Nat, ∃ A' n' c', j ≤ m ∧ i = .int .i64 j ∧ x = .slice A' n' c' ∧ Ob wr w.heap.size A' n' c' (L.take j).flatten ∧ Below w.heap.size w wr) (fun _ i _ => m - (intOf i).toNat)
 case atStart => exact ⟨0, none, 0, 0, Nat.zero_le _, rfl, rfl, Ob.nil_, Below.refl _ _⟩
 case round =>
  obtain ⟨j, A', n', c', hj, rfl, rfl, ho, hb⟩ := hrel
  by_cases hlt : j < m
  ·obtain ⟨b, off, rfl, hbl, hcell⟩ := hrd.at_ (by rw [H1.out]; omega)
   have hjc : j < cs.length := by rw [H1.out]; exact hlt
   obtain ⟨A2, n2, c2, he, l, hl, hr2⟩ := HE.out j _ (List.getElem?_eq_getElem hjc)
   have hcj : wr.cell? ⟨b, off + j, none⟩ = some (.slice A2 n2 c2) := by
    rw [hb.cell (p := ⟨b, off + j, none⟩) hbl, ← he]
    exact hcell j _ (List.getElem?_eq_getElem hjc)
   have hsz : n' + n2 ≤ 1099511627776 := by
    have e1 := take_flatten_succ L j l hl
    have e2 := total_take L (j + 1)
    have e3 := ho.len
    have e4 := hr2.1
    rw [e1, List.length_append] at e2
    omega
   have HS := Lib.hid (take_flatten_succ L j l hl)
   clear hcell hrd hl he
   go_wp2_with (at_builtin; refine wpList_appP w bt rfl (.tmp 11) (.tmp 15) rfl hb rfl ho rfl (hr2.later hb) hsz ?_; intro A3 n3 c3 bs3 d3 ho3 _)
   go_roundw
   case rel => exact ⟨j + 1, A3, n3, c3, by omega, by go_num, rfl, by rw [HS.out]; exact ho3, below_plus _ _ _⟩
   case measure => simp [intOf]; omega
  ·obtain rfl : j = m := by omega
   go_wp2
   go_ret
   rw [List.take_of_length_le (by rw [H2.out]; omega)] at ho
   exact RetB.mk ho hb
end

section
open Go.RowKit Go.ChangeShapes Go.WideShapes
def Ex (w w' : World) : Prop := ∃ x : Ext, w' = plus w x.bs x.d
theorem Ex.refl (w : World) : Ex w w := ⟨⟨[], w.drawn⟩, by simp [plus]⟩
theorem Ex.trans {a b c : World} (h : Ex a b) (h' : Ex b c) : Ex a c := by
 obtain ⟨x, rfl⟩ := h
 obtain ⟨y, rfl⟩ := h'
 exact ⟨⟨x.bs ++ y.bs, y.d⟩, plus_plus _ _ _ _ _⟩
theorem Ex.of {w w' : World} (h : Below w.heap.size w w') : Ex w w' := by
 obtain ⟨bs, d, rfl⟩ := plus_of h
 exact ⟨⟨bs, d⟩, rfl⟩
theorem Ex.below {w w' : World} (h : Ex w w') : Below w.heap.size w w' := by
 obtain ⟨x, rfl⟩ := h
 exact below_plus _ _ _
theorem Ex.alloc (w : World) (o : Obj) : Ex w (w.alloc o) := Ex.of ((Below.refl _ _).alloc (Nat.le_refl _) o)
theorem Ex.plus_ (w : World) (bs : List Obj) (d : Nat) : Ex w (plus w bs d) := ⟨⟨bs, d⟩, rfl⟩
structure MP where
 p : Value → World → Prop
 mono : ∀ v w w', p v w → Ex w w' → p v w'
def MP.any : MP := ⟨fun _ _ => True, fun _ _ _ _ _ => trivial⟩
def MP.eq (c : Value) : MP := ⟨fun v _ => v = c, fun _ _ _ h _ => h⟩
def MP.rb (l : List UInt8) : MP := ⟨fun v w => ∃ A n c, v = .slice A n c ∧ Rb w A n c l, fun _ _ _ ⟨A, n, c, h1, h2⟩ h => ⟨A, n, c, h1, h2.later h.below⟩⟩
def MP.ob (base : Nat) (l : List UInt8) : MP := ⟨fun v w => ∃ A n c, v = .slice A n c ∧ Ob w base A n c l, fun _ _ _ ⟨A, n, c, h1, h2⟩ h => ⟨A, n, c, h1, h2.later h.below⟩⟩
theorem run_appF {P : Program} (w : World) {ts ty : TypeId} (bt : BT P ts 5) {A : Option Addr} {n : Nat} {l : List UInt8} (hr : Rb w A n n l)
  {A2 : Option Addr} {n2 c2 : Nat} {l2 : List UInt8} (hr2 : Rb w A2 n2 c2 l2) (hm : n + n2 ≤ 1099511627776) :
  ∃ A' n' c' w', (Builtin.append_ #[ts, ts] ty #[.slice A n n, .slice A2 n2 c2]).run P w = .ok (.slice A' n' c') w' ∧ Rb w' A' n' c' (l ++ l2) ∧ Ex w w' ∧ (A' = A ∨ A' = some ⟨w.heap.size, 0, none⟩) := by
 obtain ⟨i, hi, hz0, hz1, hz2⟩ := info_parts bt.info
 have hsrc : Src P i.size ts (.slice A2 n2 c2) n2 (bcs l2) w := by
  rw [hz1]
  cases A2 with
  | none =>
   have hl2 : l2 = [] := by
    rcases hr2.2.2 with h | ⟨b, off, h, _⟩
    ·exact bcs_nil h
    ·cases h
   subst hl2
   obtain rfl : n2 = 0 := hr2.1.symm
   exact Src.ofNil w bt.sl c2
  | some ad =>
   refine Src.ofSlice w bt.sl ad n2 c2 (bcs l2) (by rw [bcs_length, hr2.1, Nat.mul_one]) (fun j u hu => ?_) (bcs_one l2)
   rcases hr2.2.2 with h | ⟨b, off, h, _, hc⟩
   ·rw [h] at hu; simp at hu
   ·injection h with h
    subst h
    rw [add_plain]
    exact hc j u hu
 by_cases h0 : n2 = 0
 ·subst h0
  obtain rfl : l2 = [] := List.eq_nil_of_length_eq_zero hr2.1
  exact ⟨A, n, n, w, run_append_nothing w ts ts ty 5 i bt.sl hi A n n (Nat.le_refl _) _ hsrc, by simpa using hr, Ex.refl _, .inl rfl⟩
 ·have hold : (Builtin.firstCells i.size n (.slice A n n)).run P w.drew = .ok (bcs l).toArray w.drew := by
   rw [hz1]
   cases A with
   | none =>
    have hl : l = [] := by
     rcases hr.2.2 with h | ⟨b, off, h, _⟩
     ·exact bcs_nil h
     ·cases h
    subst hl
    exact run_firstCells_none w.drew 1 n n n
   | some ad =>
    refine run_firstCells_some w.drew 1 n ad n n (bcs l) (by rw [bcs_length, hr.1, Nat.mul_one]) (fun j u hu => ?_)
    rcases hr.2.2 with h | ⟨b, off, h, _, hc⟩
    ·rw [h] at hu; simp at hu
    ·injection h with h
     subst h
     rw [add_plain]
     exact hc j u hu
  have H := run_append_grow_src (P := P) w ts ts ty 5 i (.int .u8 0) bt.sl hi hz0 A n n (bcs l) hold _ n2 (bcs l2) hsrc (by omega) (by omega) (growslice_fits (by omega) (by rw [hz2]; omega))
  refine ⟨_, _, _, _, H, ⟨by rw [List.length_append, hr.1, hr2.1], grownCap_ge w _ _ _, .inr ⟨w.heap.size, 0, rfl, by simp, fun j u hu => ?_⟩⟩, Ex.of ((Below.refl _ _).drew.alloc (Nat.le_refl _) _), .inr rfl⟩
  rw [Nat.zero_add]
  have hj : j < (bcs (l ++ l2)).length := (List.getElem?_eq_some_iff.1 hu).1
  have hb := Bk.new w.drew 5 ((bcs l ++ bcs l2).toArray ++ Builtin.zeroCells (Value.int .u8 0).cells (grownCap w (n + n2) n 5 - (n + n2)))
  have hc := hb.cell j
  rw [bcs_append] at hu hj
  simp only [World.size_drew, Array.toList_append, List.getElem?_append_left hj, hu] at hc
  exact hc
section
variable {P : Program} {ops : Array Oper} {Q : Exit → Act → World → Prop}
def cnt (listed : Array Bool) : Nat → Nat
 | 0 => 0
 | n + 1 => cnt listed n + (if listed.getD n true then 0 else 1)
theorem cnt_set {listed : Array Bool} {i : Nat} (hi : listed.getD i true = false) : ∀ n, cnt (listed.setIfInBounds i true) n + (if i < n then 1 else 0) = cnt listed n
 | 0 => by simp [cnt]
 | n + 1 => by
  have ih := cnt_set hi n
  have hs : i < listed.size := by
   rcases Nat.lt_or_ge i listed.size with h | h
   ·exact h
   ·simp [Array.getElem?_eq_none h] at hi
  simp only [cnt]
  by_cases hn : i = n
  ·subst hn
   have e : (listed.setIfInBounds i true).getD i true = true := by simp [hs]
   rw [e, hi]
   simp at ih ⊢
   omega
  ·rw [getD_set_ne true hn]
   have e2 : (if i < n + 1 then 1 else 0) = (if i < n then 1 else 0) := by split <;> split <;> omega
   omega
theorem cnt_zero {listed : Array Bool} : ∀ n, cnt listed n = 0 → ∀ i, i < n → listed.getD i true = true
 | 0, _, i, h => by omega
 | n + 1, h, i, hi => by
  simp only [cnt] at h
  by_cases hn : i = n
  ·subst hn
   cases hg : listed.getD i true with
   | true => rfl
   | false => rw [hg] at h; simp at h
  ·exact cnt_zero n (by omega) i (by omega)
theorem cnt_first {listed : Array Bool} : ∀ n, cnt listed n ≠ 0 → ∃ i, i < n ∧ listed.getD i true = false ∧ ∀ j, j < i → listed.getD j true = true
 | 0, h => by simp [cnt] at h
 | n + 1, h => by
  by_cases h0 : cnt listed n = 0
  ·refine ⟨n, by omega, ?_, fun j hj => cnt_zero n h0 j hj⟩
   simp only [cnt, h0] at h
   cases hg : listed.getD n true with
   | true => rw [hg] at h; simp at h
   | false => rfl
  ·obtain ⟨i, h1, h2, h3⟩ := cnt_first n h0
   exact ⟨i, by omega, h2, h3⟩
theorem cnt_init (m : Nat) : ∀ n, n ≤ m → cnt (Array.replicate m false) n = n
 | 0, _ => rfl
 | n + 1, h => by
  simp only [cnt, cnt_init m n (by omega)]
  have : (Array.replicate m false).getD n true = false := by simp [show n < m by omega]
  rw [this]
  simp
def relB (ops : Array Oper) (n N : Nat) : Bool :=
 decide (n ≤ ops.size) && (decide (n = ops.size) || (Region.sinkB .any ops n && Region.chainB .any ops n)) &&
 Region.seqB .any ops (ops.size - n) n ((List.range ops.size).map fun i => decide (i < n)).toArray &&
 (List.range n).all fun i => match ops[i]? with
  | none => false
  | some o => (match o.dst with | some s => decide (s < N) | none => false) && (o.after.all fun e => !Region.binds .any e || decide (e.on < i)) &&
   (List.range n).all fun j => j == i || (match (ops[j]?).bind (·.dst) with | some s => o.dst != some s | none => false)
def outB (ops : Array Oper) (n i s : Nat) : Bool := (List.range n).all fun j => j == i || (match (ops[j]?).bind (·.dst) with | some d => d != s || Region.waitsFor .any ops j i | none => true)
def depB (ops : Array Oper) (n i j s : Nat) : Bool := decide (j < n) && Region.waitsFor .any ops i j && ((ops[j]?).bind (·.dst) == some s)
def putAll : List Oper → (Nat → Value) → Nat → Act → Act
 | [], _, _, a => a
 | o :: r, vs, k, a => putAll r vs (k + 1) (a.put o.dst (vs k))
theorem eval_put_same {a : Act} {s : Nat} {v : Value} (h : s < a.tmps.size) : (a.put (some s) v).eval (.tmp s) = v := by simp [Act.put, Act.eval, h]
theorem size_put (a : Act) (d : Option Tmp) (v : Value) : (a.put d v).tmps.size = a.tmps.size := by cases d <;> simp [Act.put]
theorem defers_put (a : Act) (d : Option Tmp) (v : Value) : (a.put d v).defers = a.defers := by cases d <;> rfl
theorem putAll_size : ∀ (l : List Oper) (vs : Nat → Value) (k : Nat) (a : Act), (putAll l vs k a).tmps.size = a.tmps.size
 | [], _, _, _ => rfl
 | o :: r, vs, k, a => by rw [putAll, putAll_size r, size_put]
theorem putAll_defers : ∀ (l : List Oper) (vs : Nat → Value) (k : Nat) (a : Act), (putAll l vs k a).defers = a.defers
 | [], _, _, _ => rfl
 | o :: r, vs, k, a => by rw [putAll, putAll_defers r, defers_put]
theorem putAll_eval (A : Act) (s : Nat) : ∀ (l : List Oper) (vs : Nat → Value) (k : Nat) (a : Act), s < a.tmps.size → (∀ j o, l[j]? = some o → o.dst = some s → vs (k + j) = A.eval (.tmp s)) →
  ((∃ o ∈ l, o.dst = some s) → (putAll l vs k a).eval (.tmp s) = A.eval (.tmp s)) ∧ ((∀ o ∈ l, o.dst ≠ some s) → (putAll l vs k a).eval (.tmp s) = a.eval (.tmp s))
 | [], _, _, _, _, _ => ⟨fun ⟨o, h, _⟩ => (by cases h), fun _ => rfl⟩
 | o :: r, vs, k, a, hs, hv => by
  have ih := putAll_eval A s r vs (k + 1) (a.put o.dst (vs k)) (by rw [size_put]; exact hs) (fun j o' hj hd => by
   have := hv (j + 1) o' (by simpa using hj) hd
   rw [← this]
   congr 1
   omega)
  rw [putAll]
  constructor
  ·rintro ⟨o', ho', hd⟩
   by_cases hr : ∃ o'' ∈ r, o''.dst = some s
   ·exact ih.1 hr
   ·rcases List.mem_cons.1 ho' with rfl | h
    ·rw [ih.2 (fun o'' h h' => hr ⟨o'', h, h'⟩), hd, eval_put_same hs]
     exact hv 0 _ rfl hd
    ·exact absurd ⟨o', h, hd⟩ hr
  ·intro hn
   rw [ih.2 (fun o' h => hn o' (List.mem_cons_of_mem _ h)), Act.eval_put (fun d hd e => hn o (List.mem_cons_self) (by rw [hd]; injection e with e; rw [e]))]
theorem act_ext {a b : Act} (h1 : a.tmps.size = b.tmps.size) (h2 : a.defers = b.defers) (h3 : ∀ s, s < a.tmps.size → a.eval (.tmp s) = b.eval (.tmp s)) : a = b := by
 cases a with | mk ta da =>
 cases b with | mk tb db =>
 simp only at h1 h2 h3
 subst h2
 congr 1
 refine Array.ext h1 fun i hi hj => ?_
 have := h3 i hi
 simpa [Act.eval, hi, hj] using this
structure RInv (ops : Array Oper) (n : Nat) (a0 : Act) (w0 : World) (Φ : Nat → MP) (listed : Array Bool) (A : Act) (w : World) : Prop where
 head : HeadInv .any ops n listed
 ex : Ex w0 w
 size : A.tmps.size = a0.tmps.size
 defers : A.defers = a0.defers
 out : ∀ s, (∀ j, j < n → ∀ o, ops[j]? = some o → listed.getD j false = true → o.dst ≠ some s) → A.eval (.tmp s) = a0.eval (.tmp s)
 ins : ∀ j, j < n → ∀ o s, ops[j]? = some o → listed.getD j false = true → o.dst = some s → (Φ j).p (A.eval (.tmp s)) w
theorem rel_app {w : World} {o : Oper} {a : Act} {K : Act → World → Prop} {ts : TypeId} (bt : BT P ts 5) (s x : Operand)
  (ho : o.op = .call { callee := .builtin .append, args := #[s, x], argTypes := #[ts, ts] }) {A : Option Addr} {n : Nat} {l : List UInt8} (hs : a.eval s = .slice A n n) (hr : Rb w A n n l)
  {A2 : Option Addr} {n2 c2 : Nat} {l2 : List UInt8} (hx : a.eval x = .slice A2 n2 c2) (hr2 : Rb w A2 n2 c2 l2) (hm : n + n2 ≤ 1099511627776)
  (h : ∀ A' n' c' w', Ex w w' → Rb w' A' n' c' (l ++ l2) → K (a.put o.dst (.slice A' n' c')) w') : o.wp P a w K Q := by
 obtain ⟨A', n', c', w', hrun, h2, h3, _⟩ := run_appF (P := P) w (ty := o.type) bt hr hr2 hm
 unfold Oper.wp execOp
 simp only [ho, resolve, invoke, builtin, Sem.run_bind, Sem.run_pure, Result.andThen_ok, List.map_toArray, List.map_cons, List.map_nil, hs, hx, hrun]
 exact h A' n' c' w' h3 h2
theorem wanted_if {o : Oper} {tmps : Array Value} {X Y : Prop} (h : o.guard = none) (hx : X) : if Region.wanted o (yielded ops tmps) = true then X else Y := by
 rw [if_pos (by simp [Region.wanted, h])]
 exact hx
theorem wp_rel {id : Nat} {a : Act} {w : World} {l : List Oper} (n N : Nat) (hN : a.tmps.size = N) (hm : P.follows .mixedOrders = true) (hB : relB l.toArray n N = true) (Φ : Nat → MP)
  (step : ∀ i, i < n → ∀ o, l[i]? = some o → ∀ (A : Act) (x : Ext), (∀ s, outB l.toArray n i s = true → A.eval (.tmp s) = a.eval (.tmp s)) → (∀ j s, depB l.toArray n i j s = true → (Φ j).p (A.eval (.tmp s)) (plus w x.bs x.d)) →
   ∀ K : Act → World → Prop, Shut (∀ v w', Ex (plus w x.bs x.d) w' → (Φ i).p v w' → K (A.put o.dst v) w') → if Region.wanted o (yielded l.toArray A.tmps) = true then o.wp P A (plus w x.bs x.d) K Q else K (A.put o.dst undef) (plus w x.bs x.d))
  (fin : ∀ (vs : Nat → Value) (x : Ext), (∀ i, i < n → (Φ i).p (vs i) (plus w x.bs x.d)) → wpList P l.toArray Q (l.drop n) (putAll (l.take n) vs 0 a) (plus w x.bs x.d)) : (Code.region id l.toArray true).wp P Q a w := by
 unfold relB at hB
 simp only [Bool.and_eq_true, decide_eq_true_eq] at hB
 obtain ⟨⟨⟨hn, htail⟩, hseq⟩, hall⟩ := hB
 have hal : ∀ i, i < n → ∃ o s, l.toArray[i]? = some o ∧ o.dst = some s ∧ s < N ∧ (∀ e ∈ o.after, Region.binds .any e = true → e.on < i) ∧ ∀ j, j < n → j ≠ i → ∃ oj sj, l.toArray[j]? = some oj ∧ oj.dst = some sj ∧ sj ≠ s := by
  intro i hi
  have h1 := List.all_eq_true.1 hall i (List.mem_range.2 hi)
  cases ho : l.toArray[i]? with
  | none => rw [ho] at h1; cases h1
  | some o =>
   rw [ho] at h1
   simp only [Bool.and_eq_true] at h1
   obtain ⟨⟨h2, h3⟩, h4⟩ := h1
   cases hd : o.dst with
   | none => rw [hd] at h2; cases h2
   | some s =>
    rw [hd] at h2 h4
    refine ⟨o, s, rfl, hd, by simpa using h2, fun e he hb => ?_, fun j hj hji => ?_⟩
    ·have := (Array.all_eq_true_iff_forall_mem.1 h3) e he
     rw [hb] at this
     simpa using this
    ·have h5 := List.all_eq_true.1 h4 j (List.mem_range.2 hj)
     cases hoj : l.toArray[j]? with
     | none => rw [hoj] at h5; simp [hji] at h5
     | some oj =>
      rw [hoj] at h5
      cases hdj : oj.dst with
      | none => simp [hdj, hji] at h5
      | some sj =>
       simp [hdj, hji] at h5
       exact ⟨oj, sj, rfl, hdj, fun e => h5 e.symm⟩
 have main : ∀ (f : Nat) (listed : Array Bool) (A : Act) (w' : World), RInv l.toArray n a w Φ listed A w' → cnt listed n = f → wpAny P .any l.toArray Q (f + (l.toArray.size - n)) listed A w' := by
  intro f
  induction f with
  | zero =>
   intro listed A w' inv hc
   have hl : ∀ i, i < n → listed.getD i true = true := cnt_zero n hc
   have el : listed = ((List.range l.toArray.size).map fun i => decide (i < n)).toArray := by
    apply Array.ext
    ·simp [inv.head.size]
    ·intro i h1 h2
     by_cases hi : i < n
     ·have := hl i hi
      simp only [Array.getD_eq_getD_getElem?, Array.getElem?_eq_getElem h1, Option.getD_some] at this
      simp [this, hi]
     ·have := inv.head.tail i (by omega) (by rw [← inv.head.size]; exact h1)
      simp only [Array.getD_eq_getD_getElem?, Array.getElem?_eq_getElem h1, Option.getD_some] at this
      simp [this, hi]
   have eA : A = putAll (l.take n) (fun j => ((l.toArray[j]?).bind (·.dst)).elim undef (fun s => A.eval (.tmp s))) 0 a := by
    refine act_ext (by rw [putAll_size, inv.size]) (by rw [putAll_defers, inv.defers]) fun s hs => ?_
    have H := putAll_eval A s (l.take n) (fun j => ((l.toArray[j]?).bind (·.dst)).elim undef (fun s => A.eval (.tmp s))) 0 a (by rw [← inv.size]; exact hs) (fun j o hj hd => by
     have hjn : j < n := by
      have := (List.getElem?_eq_some_iff.1 hj).1
      simp at this
      omega
     have : l.toArray[j]? = some o := by simpa [hjn] using hj
     simp [this, hd])
    by_cases he : ∃ o ∈ l.take n, o.dst = some s
    ·exact (H.1 he).symm
    ·rw [H.2 (fun o h h' => he ⟨o, h, h'⟩)]
     refine inv.out s fun j hj o ho _ hd => he ⟨o, ?_, hd⟩
     rw [List.mem_take_iff_getElem]
     have hjl := (Array.getElem?_eq_some_iff.1 ho)
     obtain ⟨h1, h2⟩ := hjl
     exact ⟨j, by simp at h1; omega, by simpa using h2⟩
   rw [Nat.zero_add]
   obtain ⟨x, rfl⟩ := inv.ex
   have := wpAny_of_seq (md := .any) (Q' := Q) (P := P) (ops := l.toArray) (l.drop n) n listed A (plus w x.bs x.d) (fun j => by simp [List.getElem?_drop]) (by
    rw [el]
    have : (l.drop n).length = l.toArray.size - n := by simp
    rw [this]
    exact hseq) (by
    rw [eA]
    refine fin _ x fun i hi => ?_
    obtain ⟨o, s, ho, hd, _⟩ := hal i hi
    have hli : listed.getD i false = true := by
     have := hl i hi
     have hsz : i < listed.size := by rw [inv.head.size]; exact (Array.getElem?_eq_some_iff.1 ho).1
     simpa [hsz] using this
    have := inv.ins i hi o s ho hli hd
    simpa [ho, hd] using this)
   have e2 : (l.drop n).length = l.toArray.size - n := by simp
   rwa [e2] at this
  | succ f ih =>
   intro listed A w' inv hc
   rw [show f + 1 + (l.toArray.size - n) = (f + (l.toArray.size - n)) + 1 by omega]
   obtain ⟨i0, hi0, hun0, hprev⟩ := cnt_first n (by rw [hc]; omega)
   have hready0 : i0 ∈ Region.ready .any l.toArray listed := by
    obtain ⟨o, s, ho, hd, _, hlt, _⟩ := hal i0 hi0
    refine mem_ready.2 ⟨hun0, o, ho, fun e he hb => ?_⟩
    have h1 := hlt e he hb
    have h2 := hprev e.on h1
    have hsz : e.on < listed.size := by rw [inv.head.size]; have := (Array.getElem?_eq_some_iff.1 ho).1; omega
    simpa [hsz] using h2
   refine ⟨fun h => (by rw [h] at hready0; cases hready0), fun i hi => ?_⟩
   obtain ⟨hun, o, ho, hdeps⟩ := mem_ready.1 hi
   have hin : i < n := by
    rcases Nat.lt_or_ge i n with h | h
    ·exact h
    ·have hsz := (Array.getElem?_eq_some_iff.1 ho).1
     simp only [Bool.or_eq_true, decide_eq_true_eq, Bool.and_eq_true] at htail
     rcases htail with ht | ht
     ·omega
     ·exact absurd hi (tail_waits ht.1 ht.2 (by omega) inv.head _ i0 rfl hi0 hun0 i h)
   obtain ⟨o', s, ho', hd, hsN, hlt, hother⟩ := hal i hin
   have : o' = o := Option.some.inj (ho'.symm.trans ho)
   subst this
   obtain ⟨x, rfl⟩ := inv.ex
   have unl : ∀ j, listed.getD j false = true → j ≠ i := fun j hj e => by subst e; rw [getD_both hun] at hj; cases hj
   have hstep := step i hin o' (by simpa using ho) A x (fun s' hs' => inv.out s' fun j hj oj hoj hlj hdj => by
     have h1 := List.all_eq_true.1 hs' j (List.mem_range.2 hj)
     have hji := unl j hlj
     rw [hoj] at h1
     simp only [Option.bind_some, hdj] at h1
     simp only [Bool.or_eq_true, beq_iff_eq, bne_self_eq_false, Bool.false_eq_true, false_or] at h1
     rcases h1 with h1 | h1
     ·exact hji h1
     ·obtain ⟨oj', hoj', e, he, hb, hon⟩ := Region.waitsFor_spec h1
      have : oj' = oj := Option.some.inj (hoj'.symm.trans hoj)
      subst this
      have h2 := inv.head.closed j oj' hoj hlj e he hb
      rw [hon, getD_both hun] at h2
      cases h2)
    (fun j s' hs' => by
     simp only [depB, Bool.and_eq_true, decide_eq_true_eq] at hs'
     obtain ⟨⟨hj, hw⟩, hds⟩ := hs'
     obtain ⟨oi, hoi, e, he, hb, hon⟩ := Region.waitsFor_spec hw
     have : oi = o' := Option.some.inj (hoi.symm.trans ho)
     subst this
     have hlj := hdeps e he hb
     rw [hon] at hlj
     cases hoj : l.toArray[j]? with
     | none => rw [hoj] at hds; simp at hds
     | some oj =>
      rw [hoj] at hds
      simp only [Option.bind_some, beq_iff_eq] at hds
      exact inv.ins j hj oj s' hoj hlj hds)
   have next : ∀ v w'', Ex (plus w x.bs x.d) w'' → (Φ i).p v w'' → wpAny P .any l.toArray Q (f + (l.toArray.size - n)) (listed.setIfInBounds i true) (A.put o'.dst v) w'' := by
    intro v w'' hex hp
    refine ih _ _ _ ?_ ?_
    ·refine ⟨inv.head.set hi hin, (Ex.plus_ w x.bs x.d).trans hex, by rw [size_put, inv.size], by rw [defers_put, inv.defers], fun s' hs' => ?_, fun j hj oj s' hoj hlj hdj => ?_⟩
     ·have hne : s ≠ s' := fun e => by
       subst e
       refine hs' i hin o' ho ?_ hd
       have hsz : i < listed.size := by rw [inv.head.size]; exact (Array.getElem?_eq_some_iff.1 ho).1
       simp [hsz]
      rw [Act.eval_put (fun d hd' e => by rw [hd] at hd'; injection hd' with hd'; injection e with e; exact hne (hd'.trans e.symm))]
      refine inv.out s' fun j hj oj hoj hlj => hs' j hj oj hoj (getD_set_true hlj)
     ·by_cases hji : j = i
      ·subst hji
       have : oj = o' := Option.some.inj (hoj.symm.trans ho)
       subst this
       rw [hd] at hdj
       injection hdj with hdj
       subst hdj
       rw [hd, eval_put_same (by rw [inv.size, hN]; exact hsN)]
       exact hp
      ·have hlj' : listed.getD j false = true := by rw [getD_set_ne false (Ne.symm hji)] at hlj; exact hlj
       obtain ⟨oj', sj, hoj', hdj', hne⟩ := hother j hj hji
       have : oj' = oj := Option.some.inj (hoj'.symm.trans hoj)
       subst this
       rw [hdj] at hdj'
       injection hdj' with hdj'
       subst hdj'
       rw [Act.eval_put (fun d hd' e => by rw [hd] at hd'; injection hd' with hd'; injection e with e; exact hne (e.trans hd'.symm))]
       exact (Φ j).mono _ _ _ (inv.ins j hj oj' s' hoj hlj' hdj) hex
    ·have := cnt_set hun n
     rw [if_pos hin] at this
     omega
   have hs := hstep _ next
   unfold wpOp
   rw [ho]
   simp only
   split
   ·rename_i hw
    rw [if_pos hw] at hs
    exact .inl hs
   ·rename_i hw
    rw [if_neg hw] at hs
    exact hs
 refine wp_region_any hm ?_
 have h0 : ({ w with drawn := w.drawn + 1 } : World) = w.drew := rfl
 have H := main n (Array.replicate l.toArray.size false) a w.drew ⟨⟨by simp, fun j oj _ hl => (by rw [getD_replicate_false] at hl; cases hl), fun t _ ht => getD_in (by simpa using ht) (getD_replicate_false _ _)⟩,
  ⟨⟨[], w.drawn + 1⟩, by show ({ w with drawn := w.drawn + 1 } : World) = _; simp [plus]⟩, rfl, rfl, fun s _ => rfl, fun j hj o s _ hl => (by rw [getD_replicate_false] at hl; cases hl)⟩ (cnt_init _ n hn)
 rw [show n + (l.toArray.size - n) = l.toArray.size by omega] at H
 exact H
/-! ### The same, with operations that hold no memory taken as soon as they may be: they may stand behind the tail's first -/
def sinkE (ops : Array Oper) (n : Nat) (pu : List Nat) : Bool :=
 (List.range n).all fun i => pu.contains i || (List.range (n + 1)).any fun j => decide (i < j) && (j == n || !pu.contains j) && Region.waitsFor .any ops j i
theorem tail_waitsE {n : Nat} {pu : List Nat} {listed : Array Bool} (hs : sinkE ops n pu = true) (hc : Region.chainB .any ops n = true) (inv : HeadInv .any ops n listed) :
  ∀ (d i : Nat), n - i = d → i < n → pu.contains i = false → listed.getD i true = false → ∀ t, n ≤ t → t ∉ Region.ready .any ops listed := by
 intro d
 induction d using Nat.strongRecOn with
 | _ d ih =>
  intro i hd hi hpu hun t ht hr
  obtain ⟨_, ot, hot, hall⟩ := mem_ready.1 hr
  have htlt : t < ops.size := (Array.getElem?_eq_some_iff.1 hot).1
  by_cases htn : t = n
  ·subst htn
   have h1 := List.all_eq_true.1 hs i (List.mem_range.2 hi)
   rw [hpu, Bool.false_or] at h1
   obtain ⟨j, hj, hj2⟩ := List.any_eq_true.1 h1
   simp only [Bool.and_eq_true, decide_eq_true_eq] at hj2
   obtain ⟨⟨hij, hjp⟩, hw⟩ := hj2
   obtain ⟨oj, hoj, e, he, hb, hon⟩ := Region.waitsFor_spec hw
   have hjle : j ≤ t := by have := List.mem_range.1 hj; omega
   by_cases hjt : j = t
   ·subst hjt
    have : oj = ot := Option.some.inj (hoj.symm.trans hot)
    subst this
    have h2 := hall e he hb
    rw [hon, getD_both hun] at h2
    cases h2
   ·cases hl : listed.getD j false with
    | true =>
     have h2 := inv.closed j oj hoj hl e he hb
     rw [hon, getD_both hun] at h2
     cases h2
    | false =>
     have hjs : j < listed.size := by rw [inv.size]; omega
     have hpj : pu.contains j = false := by
      simp only [Bool.or_eq_true, beq_iff_eq, hjt, false_or, Bool.not_eq_true'] at hjp
      exact hjp
     exact ih (t - j) (by omega) j rfl (by omega) hpj (getD_in hjs hl) t (Nat.le_refl _) hr
  ·have h1 := List.all_eq_true.1 hc t (List.mem_range.2 htlt)
   simp only [Bool.or_eq_true, decide_eq_true_eq] at h1
   rcases h1 with h1 | h1
   ·omega
   ·obtain ⟨o', ho', e, he, hb, hon⟩ := Region.waitsFor_spec h1
    have : o' = ot := Option.some.inj (ho'.symm.trans hot)
    subst this
    have h2 := hall e he hb
    rw [hon, getD_both (inv.tail (t - 1) (by omega) (by omega))] at h2
    cases h2
def relE (ops : Array Oper) (n N : Nat) (pu : List Nat) : Bool :=
 decide (n ≤ ops.size) && Region.noSelect ops && sinkE ops n pu && Region.chainB .any ops n &&
 Region.seqB .any ops (ops.size - n) n ((List.range ops.size).map fun i => decide (i < n)).toArray &&
 ((List.range n).all fun i => match ops[i]? with
  | none => false
  | some o => (match o.dst with | some s => decide (s < N) | none => false) && (o.after.all fun e => !Region.binds .any e || decide (e.on < i)) &&
   (List.range n).all fun j => j == i || (match (ops[j]?).bind (·.dst) with | some s => o.dst != some s | none => false)) &&
 pu.all fun i => match ops[i]? with
  | none => false
  | some oi => (List.range ops.size).all fun j => j == i || (match ops[j]? with | some oj => Region.waitsFor .any ops j i || Region.waitsFor .any ops i j || oi.apart ops oj | none => true)
theorem wp_relE {id : Nat} {a : Act} {w : World} {l : List Oper} (n N : Nat) (pu : List Nat) (hN : a.tmps.size = N) (hm : P.follows .mixedOrders = true) (hB : relE l.toArray n N pu = true) (Φ : Nat → MP)
  (step : ∀ i, i < n → ∀ o, l[i]? = some o → ∀ (A : Act) (x : Ext), (∀ s, outB l.toArray n i s = true → A.eval (.tmp s) = a.eval (.tmp s)) → (∀ j s, depB l.toArray n i j s = true → (Φ j).p (A.eval (.tmp s)) (plus w x.bs x.d)) →
   if pu.contains i = true then ∃ v, Yields P l.toArray o v A ∧ (Φ i).p v (plus w x.bs x.d) else
   ∀ K : Act → World → Prop, Shut (∀ v w', Ex (plus w x.bs x.d) w' → (Φ i).p v w' → K (A.put o.dst v) w') → if Region.wanted o (yielded l.toArray A.tmps) = true then o.wp P A (plus w x.bs x.d) K (NoPanic Q) else K (A.put o.dst undef) (plus w x.bs x.d))
  (fin : ∀ (vs : Nat → Value) (x : Ext), (∀ i, i < n → (Φ i).p (vs i) (plus w x.bs x.d)) → wpList P l.toArray (NoPanic Q) (l.drop n) (putAll (l.take n) vs 0 a) (plus w x.bs x.d)) : (Code.region id l.toArray true).wp P Q a w := by
 unfold relE at hB
 simp only [Bool.and_eq_true, decide_eq_true_eq] at hB
 obtain ⟨⟨⟨⟨⟨⟨hn, hsel⟩, hsink⟩, hchain⟩, hseq⟩, hall⟩, hpure⟩ := hB
 have hal : ∀ i, i < n → ∃ o s, l.toArray[i]? = some o ∧ o.dst = some s ∧ s < N ∧ (∀ e ∈ o.after, Region.binds .any e = true → e.on < i) ∧ ∀ j, j < n → j ≠ i → ∃ oj sj, l.toArray[j]? = some oj ∧ oj.dst = some sj ∧ sj ≠ s := by
  intro i hi
  have h1 := List.all_eq_true.1 hall i (List.mem_range.2 hi)
  cases ho : l.toArray[i]? with
  | none => rw [ho] at h1; cases h1
  | some o =>
   rw [ho] at h1
   simp only [Bool.and_eq_true] at h1
   obtain ⟨⟨h2, h3⟩, h4⟩ := h1
   cases hd : o.dst with
   | none => rw [hd] at h2; cases h2
   | some s =>
    rw [hd] at h2 h4
    refine ⟨o, s, rfl, hd, by simpa using h2, fun e he hb => ?_, fun j hj hji => ?_⟩
    ·have := (Array.all_eq_true_iff_forall_mem.1 h3) e he
     rw [hb] at this
     simpa using this
    ·have h5 := List.all_eq_true.1 h4 j (List.mem_range.2 hj)
     cases hoj : l.toArray[j]? with
     | none => rw [hoj] at h5; simp [hji] at h5
     | some oj =>
      rw [hoj] at h5
      cases hdj : oj.dst with
      | none => simp [hdj, hji] at h5
      | some sj =>
       simp [hdj, hji] at h5
       exact ⟨oj, sj, rfl, hdj, fun e => h5 e.symm⟩
 refine wp_region_noPanic ?_
 have main : ∀ (f : Nat) (listed : Array Bool) (A : Act) (w' : World), RInv l.toArray n a w Φ listed A w' → cnt listed n = f → wpAny P .any l.toArray (NoPanic Q) (f + (l.toArray.size - n)) listed A w' := by
  intro f
  induction f with
  | zero =>
   intro listed A w' inv hc
   have hl : ∀ i, i < n → listed.getD i true = true := cnt_zero n hc
   have el : listed = ((List.range l.toArray.size).map fun i => decide (i < n)).toArray := by
    apply Array.ext
    ·simp [inv.head.size]
    ·intro i h1 h2
     by_cases hi : i < n
     ·have := hl i hi
      simp only [Array.getD_eq_getD_getElem?, Array.getElem?_eq_getElem h1, Option.getD_some] at this
      simp [this, hi]
     ·have := inv.head.tail i (by omega) (by rw [← inv.head.size]; exact h1)
      simp only [Array.getD_eq_getD_getElem?, Array.getElem?_eq_getElem h1, Option.getD_some] at this
      simp [this, hi]
   have eA : A = putAll (l.take n) (fun j => ((l.toArray[j]?).bind (·.dst)).elim undef (fun s => A.eval (.tmp s))) 0 a := by
    refine act_ext (by rw [putAll_size, inv.size]) (by rw [putAll_defers, inv.defers]) fun s hs => ?_
    have H := putAll_eval A s (l.take n) (fun j => ((l.toArray[j]?).bind (·.dst)).elim undef (fun s => A.eval (.tmp s))) 0 a (by rw [← inv.size]; exact hs) (fun j o hj hd => by
     have hjn : j < n := by
      have := (List.getElem?_eq_some_iff.1 hj).1
      simp at this
      omega
     have : l.toArray[j]? = some o := by simpa [hjn] using hj
     simp [this, hd])
    by_cases he : ∃ o ∈ l.take n, o.dst = some s
    ·exact (H.1 he).symm
    ·rw [H.2 (fun o h h' => he ⟨o, h, h'⟩)]
     refine inv.out s fun j hj o ho _ hd => he ⟨o, ?_, hd⟩
     rw [List.mem_take_iff_getElem]
     have hjl := (Array.getElem?_eq_some_iff.1 ho)
     obtain ⟨h1, h2⟩ := hjl
     exact ⟨j, by simp at h1; omega, by simpa using h2⟩
   rw [Nat.zero_add]
   obtain ⟨x, rfl⟩ := inv.ex
   have := wpAny_of_seq (md := .any) (Q' := NoPanic Q) (P := P) (ops := l.toArray) (l.drop n) n listed A (plus w x.bs x.d) (fun j => by simp [List.getElem?_drop]) (by
    rw [el]
    have : (l.drop n).length = l.toArray.size - n := by simp
    rw [this]
    exact hseq) (by
    rw [eA]
    refine fin _ x fun i hi => ?_
    obtain ⟨o, s, ho, hd, _⟩ := hal i hi
    have hli : listed.getD i false = true := by
     have := hl i hi
     have hsz : i < listed.size := by rw [inv.head.size]; exact (Array.getElem?_eq_some_iff.1 ho).1
     simpa [hsz] using this
    have := inv.ins i hi o s ho hli hd
    simpa [ho, hd] using this)
   have e2 : (l.drop n).length = l.toArray.size - n := by simp
   rwa [e2] at this
  | succ f ih =>
   intro listed A w' inv hc
   rw [show f + 1 + (l.toArray.size - n) = (f + (l.toArray.size - n)) + 1 by omega]
   obtain ⟨i0, hi0, hun0, hprev⟩ := cnt_first n (by rw [hc]; omega)
   have hready0 : i0 ∈ Region.ready .any l.toArray listed := by
    obtain ⟨o, s, ho, hd, _, hlt, _⟩ := hal i0 hi0
    refine mem_ready.2 ⟨hun0, o, ho, fun e he hb => ?_⟩
    have h1 := hlt e he hb
    have h2 := hprev e.on h1
    have hsz : e.on < listed.size := by rw [inv.head.size]; have := (Array.getElem?_eq_some_iff.1 ho).1; omega
    simpa [hsz] using h2
   obtain ⟨x, rfl⟩ := inv.ex
   -- what an operation's step says, at a state that is reached
   have facts : ∀ i, i < n → i ∈ Region.ready .any l.toArray listed → ∃ o s, l.toArray[i]? = some o ∧ l[i]? = some o ∧ o.dst = some s ∧ listed.getD i true = false ∧
     (∀ s', outB l.toArray n i s' = true → A.eval (.tmp s') = a.eval (.tmp s')) ∧ (∀ j s', depB l.toArray n i j s' = true → (Φ j).p (A.eval (.tmp s')) (plus w x.bs x.d)) ∧
     ∀ v w'', Ex (plus w x.bs x.d) w'' → (Φ i).p v w'' → wpAny P .any l.toArray (NoPanic Q) (f + (l.toArray.size - n)) (listed.setIfInBounds i true) (A.put o.dst v) w'' := by
    intro i hin hi
    obtain ⟨hun, o', ho, hdeps⟩ := mem_ready.1 hi
    obtain ⟨o2, s, ho', hd, hsN, hlt, hother⟩ := hal i hin
    have : o2 = o' := Option.some.inj (ho'.symm.trans ho)
    subst this
    have unl : ∀ j, listed.getD j false = true → j ≠ i := fun j hj e => by subst e; rw [getD_both hun] at hj; cases hj
    refine ⟨o2, s, ho, by simpa using ho, hd, hun, fun s' hs' => inv.out s' fun j hj oj hoj hlj hdj => ?_, fun j s' hs' => ?_, ?_⟩
    ·have h1 := List.all_eq_true.1 hs' j (List.mem_range.2 hj)
     have hji := unl j hlj
     rw [hoj] at h1
     simp only [Option.bind_some, hdj] at h1
     simp only [Bool.or_eq_true, beq_iff_eq, bne_self_eq_false, Bool.false_eq_true, false_or] at h1
     rcases h1 with h1 | h1
     ·exact hji h1
     ·obtain ⟨oj', hoj', e, he, hb, hon⟩ := Region.waitsFor_spec h1
      have : oj' = oj := Option.some.inj (hoj'.symm.trans hoj)
      subst this
      have h2 := inv.head.closed j oj' hoj hlj e he hb
      rw [hon, getD_both hun] at h2
      cases h2
    ·simp only [depB, Bool.and_eq_true, decide_eq_true_eq] at hs'
     obtain ⟨⟨hj, hw⟩, hds⟩ := hs'
     obtain ⟨oi, hoi, e, he, hb, hon⟩ := Region.waitsFor_spec hw
     have : oi = o2 := Option.some.inj (hoi.symm.trans ho)
     subst this
     have hlj := hdeps e he hb
     rw [hon] at hlj
     cases hoj : l.toArray[j]? with
     | none => rw [hoj] at hds; simp at hds
     | some oj =>
      rw [hoj] at hds
      simp only [Option.bind_some, beq_iff_eq] at hds
      exact inv.ins j hj oj s' hoj hlj hds
    ·intro v w'' hex hp
     refine ih _ _ _ ?_ ?_
     ·refine ⟨inv.head.set hi hin, (Ex.plus_ w x.bs x.d).trans hex, by rw [size_put, inv.size], by rw [defers_put, inv.defers], fun s' hs' => ?_, fun j hj oj s' hoj hlj hdj => ?_⟩
      ·have hne : s ≠ s' := fun e => by
        subst e
        refine hs' i hin o2 ho ?_ hd
        have hsz : i < listed.size := by rw [inv.head.size]; exact (Array.getElem?_eq_some_iff.1 ho).1
        simp [hsz]
       rw [Act.eval_put (fun d hd' e => by rw [hd] at hd'; injection hd' with hd'; injection e with e; exact hne (hd'.trans e.symm))]
       refine inv.out s' fun j hj oj hoj hlj => hs' j hj oj hoj (getD_set_true hlj)
      ·by_cases hji : j = i
       ·subst hji
        have : oj = o2 := Option.some.inj (hoj.symm.trans ho)
        subst this
        rw [hd] at hdj
        injection hdj with hdj
        subst hdj
        rw [hd, eval_put_same (by rw [inv.size, hN]; exact hsN)]
        exact hp
       ·have hlj' : listed.getD j false = true := by rw [getD_set_ne false (Ne.symm hji)] at hlj; exact hlj
        obtain ⟨oj', sj, hoj', hdj', hne⟩ := hother j hj hji
        have : oj' = oj := Option.some.inj (hoj'.symm.trans hoj)
        subst this
        rw [hdj] at hdj'
        injection hdj' with hdj'
        subst hdj'
        rw [Act.eval_put (fun d hd' e => by rw [hd] at hd'; injection hd' with hd'; injection e with e; exact hne (e.trans hd'.symm))]
        exact (Φ j).mono _ _ _ (inv.ins j hj oj' s' hoj hlj' hdj) hex
     ·have := cnt_set hun n
      rw [if_pos hin] at this
      omega
   by_cases hp0 : pu.contains i0 = true
   ·obtain ⟨o, s, ho, hol, hd, hun, h1, h2, next⟩ := facts i0 hi0 hready0
    have hst := step i0 hi0 o hol A x h1 h2
    rw [if_pos hp0] at hst
    obtain ⟨v, hy, hv⟩ := hst
    refine wpAny_first ho (Region.noSelect_spec hsel) (fun c a' w'' h => ?_) _ listed A _ (fun j oj hoj hji hunj hno => ?_) hready0 hy (next v _ (Ex.refl _) hv)
    ·exact h
    ·have hpi := List.all_eq_true.1 hpure i0 (by simpa using hp0)
     rw [ho] at hpi
     have h3 := List.all_eq_true.1 hpi j (List.mem_range.2 (Array.getElem?_eq_some_iff.1 hoj).1)
     rw [hoj] at h3
     simp only [Bool.or_eq_true, beq_iff_eq, hji, false_or] at h3
     rcases h3 with (h3 | h3) | h3
     ·obtain ⟨oj', hoj', e, he, hb, hon⟩ := Region.waitsFor_spec h3
      have : oj' = oj := Option.some.inj (hoj'.symm.trans hoj)
      subst this
      exact absurd hon (hno e he hb)
     ·obtain ⟨oi', hoi', e, he, hb, hon⟩ := Region.waitsFor_spec h3
      have : oi' = o := Option.some.inj (hoi'.symm.trans ho)
      subst this
      have h4 := (mem_ready.1 hready0).2
      obtain ⟨o9, ho9, hdeps⟩ := h4
      have : o9 = oi' := Option.some.inj (ho9.symm.trans ho)
      subst this
      have h5 := hdeps e he hb
      rw [hon, getD_both hunj] at h5
      cases h5
     ·exact h3
   ·have hp0' : pu.contains i0 = false := by simpa using hp0
    refine ⟨fun h => (by rw [h] at hready0; cases hready0), fun i hi => ?_⟩
    have hin : i < n := by
     rcases Nat.lt_or_ge i n with h | h
     ·exact h
     ·exact absurd hi (tail_waitsE hsink hchain inv.head _ i0 rfl hi0 hp0' hun0 i h)
    obtain ⟨o, s, ho, hol, hd, hun, h1, h2, next⟩ := facts i hin hi
    have hst := step i hin o hol A x h1 h2
    by_cases hpi : pu.contains i = true
    ·rw [if_pos hpi] at hst
     obtain ⟨v, hy, hv⟩ := hst
     exact hy.wpOp ho (next v _ (Ex.refl _) hv)
    ·rw [if_neg hpi] at hst
     have hs := hst _ next
     unfold wpOp
     rw [ho]
     simp only
     split
     ·rename_i hw
      rw [if_pos hw] at hs
      exact .inl hs
     ·rename_i hw
      rw [if_neg hw] at hs
      exact hs
 refine wp_region_any hm ?_
 have H := main n (Array.replicate l.toArray.size false) a w.drew ⟨⟨by simp, fun j oj _ hl => (by rw [getD_replicate_false] at hl; cases hl), fun t _ ht => getD_in (by simpa using ht) (getD_replicate_false _ _)⟩,
  ⟨⟨[], w.drawn + 1⟩, by show ({ w with drawn := w.drawn + 1 } : World) = _; simp [plus]⟩, rfl, rfl, fun s _ => rfl, fun j hj o s _ hl => (by rw [getD_replicate_false] at hl; cases hl)⟩ (cnt_init _ n hn)
 rw [show n + (l.toArray.size - n) = l.toArray.size by omega] at H
 exact H
end
theorem slot_of {x : Option Value} {b : Bool} (h : x.getD undef = .bool b) : x = some (.bool b) := by
 cases x with
 | none => simp [undef] at h
 | some v => simp at h; rw [h]
theorem slot_un {x : Option Value} (h : x.getD undef = undef) : x = none ∨ x = some undef := by
 cases x with
 | none => exact .inl rfl
 | some v => simp at h; exact .inr (by rw [h])
end

section
open Go.RowKit
theorem Bk.range {w : World} {g : Nat} {t : TypeId} {cs : List Value} (h : Bk w g t cs) : w.rangeAt g 0 cs := fun j v hv => by rw [Nat.zero_add, h.cell]; exact hv
theorem list16 {α : Type} {l : List α} (h : l.length = 16) : ∃ a b c d e f g i j k m n o p q r, l = [a, b, c, d, e, f, g, i, j, k, m, n, o, p, q, r] := by
 match l, h with
 | [a, b, c, d, e, f, g, i, j, k, m, n, o, p, q, r], _ => exact ⟨a, b, c, d, e, f, g, i, j, k, m, n, o, p, q, r, rfl⟩
theorem bodyPost_agg {P : Program} {fn : Func} {R : Ending → World → Prop} {a : Act} {w : World} {slot ty g : Nat} {d : TypeDesc} {cs : List Value} (hfr : fn.results = #[.cell slot ty]) (hs : a.tmps.getD slot undef = .pointer (some ⟨g, 0, none⟩))
  (hb : w.rangeAt g 0 cs) (hu : P.underlying ty = some d) (hd : d.isRow = true) (hi : (P.info? ty).map (·.size) = some cs.length) (hdf : a.defers = []) (hR : R (.returned (.agg cs.toArray)) w) : bodyPost P fn R .ret a w := by
 refine bodyPost_ret (v := .agg cs.toArray) ?_ hdf hR
 have h1 := run_loadVar_mid (P := P) w g 0 ty cs d hb hu hd hi
 have hs' : a.tmps[slot]?.getD undef = .pointer (some ⟨g, 0, none⟩) := by simpa using hs
 simp [results, hfr, hs', asAddr, h1]
theorem bodyPost_agg2 {P : Program} {fn : Func} {R : Ending → World → Prop} {a : Act} {w : World} {slot slot2 ty g : Nat} {d : TypeDesc} {cs : List Value} {u : Value} (hfr : fn.results = #[.cell slot ty, .tmp slot2]) (hs : a.tmps.getD slot undef = .pointer (some ⟨g, 0, none⟩)) (hs2 : a.tmps.getD slot2 undef = u)
  (hb : w.rangeAt g 0 cs) (hu : P.underlying ty = some d) (hd : d.isRow = true) (hi : (P.info? ty).map (·.size) = some cs.length) (hdf : a.defers = []) (hR : R (.returned (.tuple #[.agg cs.toArray, u])) w) : bodyPost P fn R .ret a w := by
 refine bodyPost_ret (v := .tuple #[.agg cs.toArray, u]) ?_ hdf hR
 have h1 := run_loadVar_mid (P := P) w g 0 ty cs d hb hu hd hi
 have hs' : a.tmps[slot]?.getD undef = .pointer (some ⟨g, 0, none⟩) := by simpa using hs
 have hs2' : a.tmps[slot2]?.getD undef = u := by simpa using hs2
 simp [results, hfr, hs', hs2', asAddr, h1]
theorem Bk.setCells {w : World} {g : Nat} {t : TypeId} : ∀ (new old : List Value) (o : Nat), Bk w g t old → o + new.length = old.length → Bk (w.setCells g o new) g t (old.take o ++ new) := by
 intro new
 induction new generalizing w with
 | nil => intro old o h hl; simp only [List.length_nil, Nat.add_zero] at hl; simp only [World.setCells, List.append_nil, List.take_of_length_le (Nat.le_of_eq hl.symm)]; exact h
 | cons v r ih =>
  intro old o h hl
  rw [World.setCells]
  have h1 := ih (old.set o v) (o + 1) (h.set_ o v) (by simp only [List.length_set, List.length_cons] at *; omega)
  have e : (old.set o v).take (o + 1) ++ r = old.take o ++ v :: r := by
   rw [List.take_succ_eq_append_getElem (by simp only [List.length_set, List.length_cons] at *; omega)]
   simp [List.take_set_of_le]
  rw [e] at h1
  exact h1
theorem Below.setCells {B : Nat} {a : World} {g : Nat} (hg : B ≤ g) : ∀ (new : List Value) (o : Nat) (w : World), Below B a w → Below B a (w.setCells g o new)
 | [], _, _, h => h
 | v :: r, o, w, h => Below.setCells hg r (o + 1) _ (h.setCell hg v)
theorem at_op {P : Program} {w : World} {ops : Array Oper} {rest : List Oper} {o : Oper} {a : Act} {Q : Exit → Act → World → Prop} (op : Op) (h : o.op = op) (x : wpList P ops Q (o :: rest) a w) : wpList P ops Q (o :: rest) a w := x
theorem wpList_ldA {P : Program} {w : World} {ops : Array Oper} {rest : List Oper} {o : Oper} {a : Act} {Q : Exit → Act → World → Prop} (ty : TypeId) (x : Operand) (ho : o.op = .load ty x) (hgd : o.guard = none)
  {g off : Nat} {t : TypeId} {cs : List Value} {d : TypeDesc} (part : List Value) (hx : a.eval x = .pointer (some ⟨g, off, none⟩)) (hb : Bk w g t cs) (hp : (cs.drop off).take part.length = part)
  (hu : P.underlying ty = some d) (hd : d.isRow = true) (hi : (P.info? ty).map (·.size) = some part.length) (h : wpList P ops Q rest (a.put o.dst (.agg part.toArray)) w) : wpList P ops Q (o :: rest) a w := by
 refine wpList_load_mid hgd ty x ho g off hx part d (fun j v hv => ?_) hu hd hi h
 rw [hb.cell]
 rw [← hp, List.getElem?_take] at hv
 split at hv
 ·rw [List.getElem?_drop] at hv; exact hv
 ·cases hv
theorem wpList_ldG {P : Program} {w : World} {ops : Array Oper} {rest : List Oper} {o : Oper} {a : Act} {Q : Exit → Act → World → Prop} (ty : TypeId) (x : Operand) (ho : o.op = .load ty x) (hw : Region.wanted o (yielded ops a.tmps) = true)
  {g off : Nat} {t : TypeId} {cs : List Value} {d : TypeDesc} (part : List Value) (hx : a.eval x = .pointer (some ⟨g, off, none⟩)) (hb : Bk w g t cs) (hp : (cs.drop off).take part.length = part)
  (hu : P.underlying ty = some d) (hd : d.isRow = true) (hi : (P.info? ty).map (·.size) = some part.length) (h : wpList P ops Q rest (a.put o.dst (.agg part.toArray)) w) : wpList P ops Q (o :: rest) a w := by
 unfold wpList
 rw [if_pos hw]
 refine .inl (wp_load_mid ty x ho g off hx part d (fun j v hv => ?_) hu hd hi h)
 rw [hb.cell]
 rw [← hp, List.getElem?_take] at hv
 split at hv
 ·rw [List.getElem?_drop] at hv; exact hv
 ·cases hv
theorem wpList_stA {P : Program} {w : World} {ops : Array Oper} {rest : List Oper} {o : Oper} {a : Act} {Q : Exit → Act → World → Prop} (ty : TypeId) (x y : Operand) (ho : o.op = .store ty x y) (hgd : o.guard = none)
  {g : Nat} {t : TypeId} (new old : List Value) (hl : new.length = old.length) (h1 : ∀ u ∈ new, u.oneCell' = true) (hx : a.eval x = .pointer (some ⟨g, 0, none⟩)) (hy : a.eval y = .agg new.toArray) (hb : Bk w g t old)
  (hi : (P.info? ty).map (·.size) = some new.length) (h : ∀ w', Bk w' g t new → w.grownBy w' (some g) → wpList P ops Q rest (a.put o.dst undef) w') : wpList P ops Q (o :: rest) a w := by
 refine wpList_store_mid hgd ty x y ho g 0 new.toArray hx hy (fun j hj => ?_) (by simpa using hi) (all_oneCell_toArray h1) (h _ ?_ ?_)
 ·rw [Nat.zero_add]
  have hj' : j < old.length := by rw [← hl]; simpa using hj
  exact ⟨by rw [hb.cell, List.getElem?_eq_getElem hj']; rfl, hb.frozen j⟩
 ·have := Bk.setCells new old 0 hb (by omega)
  simpa using this
 ·generalize 0 = k
  clear hi h hb hy hl
  induction new generalizing w k with
  | nil => exact World.grownBy.refl _ _
  | cons v r ih => exact (grownBy_setCell _ _ _ _).trans (ih (fun u hu => h1 u (List.mem_cons_of_mem _ hu)) _)
theorem wpList_build {P : Program} {w : World} {ops : Array Oper} {rest : List Oper} {o : Oper} {a : Act} {Q : Exit → Act → World → Prop} (ty : TypeId) (ps : List (Nat × Operand)) (ho : o.op = .build ty ps.toArray) (hgd : o.guard = none) (v : Value)
  (hv : (Instr.build ty (ps.map fun p => (p.1, a.eval p.2)).toArray).run P w = .ok v w) (h : wpList P ops Q rest (a.put o.dst v) w) : wpList P ops Q (o :: rest) a w := by
 refine wpList_plain hgd fun _ hK => ?_
 unfold Oper.wp execOp
 simp only [ho, Sem.run_bind, List.map_toArray, hv, Result.andThen_ok, Sem.run_pure]
 exact hK _ _ h
theorem below_grown {w w1 w2 : World} {g : Nat} (h : Below w.heap.size w w1) (hg : w1.grownBy w2 (some g)) (hl : w.heap.size ≤ g) : Below w.heap.size w w2 :=
 h.trans (below_of_grown hg h.size (fun k hk => by injection hk with hk; omega))
theorem Bk.newK {W : World} {k : Nat} (t : TypeId) (cs : Array Value) (l : List Value) (hk : k = W.heap.size) (hl : cs.toList = l) : Bk (W.alloc (.cells cs t)) k t l := by
 subst hk
 subst hl
 exact Bk.new W t cs
theorem Below.allocS {a w : World} (h : Below a.heap.size a w) (o : Obj) : Below a.heap.size a (w.alloc o) := h.alloc h.size o
def MP.blk (base : Nat) (t : TypeId) (cs : List Value) : MP := ⟨fun v w => ∃ g, v = .pointer (some ⟨g, 0, none⟩) ∧ base ≤ g ∧ Bk w g t cs, fun _ _ _ ⟨g, h1, h2, h3⟩ h => ⟨g, h1, h2, h3.later h.below⟩⟩
theorem box1 (w : World) (t : TypeId) (cs : List Value) : Bk (w.alloc (.cells cs.toArray t)) w.heap.size t cs ∧ Below w.heap.size w (w.alloc (.cells cs.toArray t)) ∧ w.heap.size + 1 ≤ (w.alloc (.cells cs.toArray t)).heap.size := ⟨Bk.new w t cs.toArray, Below.allocS (Below.refl _ _) _, by simp⟩
theorem box2 (w : World) (t u : TypeId) (cs ds : List Value) : Bk ((w.alloc (.cells cs.toArray t)).alloc (.cells ds.toArray u)) w.heap.size t cs ∧ Bk ((w.alloc (.cells cs.toArray t)).alloc (.cells ds.toArray u)) (w.heap.size + 1) u ds ∧ Below w.heap.size w ((w.alloc (.cells cs.toArray t)).alloc (.cells ds.toArray u)) ∧ w.heap.size + 2 ≤ ((w.alloc (.cells cs.toArray t)).alloc (.cells ds.toArray u)).heap.size := ⟨(Bk.new w t cs.toArray).alloc _, Bk.newK _ _ _ (by simp) rfl, Below.allocS (Below.allocS (Below.refl _ _) _) _, by simp⟩
theorem box3 (w : World) (t u v : TypeId) (cs ds es : List Value) : Bk (((w.alloc (.cells cs.toArray t)).alloc (.cells ds.toArray u)).alloc (.cells es.toArray v)) w.heap.size t cs ∧ Bk (((w.alloc (.cells cs.toArray t)).alloc (.cells ds.toArray u)).alloc (.cells es.toArray v)) (w.heap.size + 1) u ds ∧ Bk (((w.alloc (.cells cs.toArray t)).alloc (.cells ds.toArray u)).alloc (.cells es.toArray v)) (w.heap.size + 1 + 1) v es ∧ Below w.heap.size w (((w.alloc (.cells cs.toArray t)).alloc (.cells ds.toArray u)).alloc (.cells es.toArray v)) ∧ w.heap.size + 3 ≤ (((w.alloc (.cells cs.toArray t)).alloc (.cells ds.toArray u)).alloc (.cells es.toArray v)).heap.size := ⟨((Bk.new w t cs.toArray).alloc _).alloc _, (Bk.newK _ _ _ (by simp) rfl).alloc _, Bk.newK _ _ _ (by simp) rfl, Below.allocS (Below.allocS (Below.allocS (Below.refl _ _) _) _) _, by simp⟩
end

section
attribute [local go_sem ↓] sliced_cut
attribute [local go_sem] cutA_zero
open Go.RowKit
theorem Rd.rb {w : World} {B n c : Nat} {A : Option Addr} {l : List UInt8} (h : Rd w B A (bcs l)) (hB : B ≤ w.heap.size) (hl : l.length = n) (hc : n ≤ c) : Rb w A n c l := ⟨hl, hc, h.more hB⟩
def RetF (w : World) (l : List UInt8) (e : Ending) (w' : World) : Prop := ∃ A n bs d, e = .returned (.slice A n n) ∧ w' = plus w bs d ∧ Ob (plus w bs d) w.heap.size A n n l
theorem RetF.mk {w w' : World} {l : List UInt8} {A : Option Addr} {n : Nat} (ho : Ob w' w.heap.size A n n l) (hb : Below w.heap.size w w') : RetF w l (.returned (.slice A n n)) w' := by
 obtain ⟨bs, d, rfl⟩ := plus_of hb
 exact ⟨A, n, bs, d, rfl, rfl, ho⟩
theorem RetF.b {w w' : World} {l : List UInt8} {e : Ending} (h : RetF w l e w') : RetB w l e w' := by
 obtain ⟨A, n, bs, d, h1, h2, h3⟩ := h
 exact ⟨A, n, n, bs, d, h1, h2, h3⟩
theorem RetV.is_ {w w' : World} {v v' : Value} (hv : v' = v) (hb : Below w.heap.size w w') : RetV w v (.returned v') w' := by
 subst hv
 exact RetV.mk hb
def MP.of (base : Nat) (l : List UInt8) : MP := ⟨fun v w => ∃ A n, v = .slice A n n ∧ Ob w base A n n l, fun _ _ _ ⟨A, n, h1, h2⟩ h => ⟨A, n, h1, h2.later h.below⟩⟩
theorem put_full (A : Option Addr) (k c : Nat) (l : List UInt8) (n : Nat) (size : Nat) (w : World) (hr : Rb w A k c l) (hk : k ≤ 549755813888) (hn : n < 18446744073709551616) (hs0 : 1 ≤ size) (hs : size ≤ 8) :
  Calls Tryz.prog 51 #[.slice A k c, .int .u64 n, .int .i64 size] w (RetF w (l ++ dig n size)) := by
 go_enter Tryz.func51, Tryz.ntmps51
 go_wp2_with (first
  | (at_make; refine wpList_mk bt rfl (.tmp 14) rfl _ (k + size) rfl (by omega) (by omega) ?_; intro w1 hb1 hbe1 hs1)
  | (refine wpList_cpy 18 rfl bt rfl (.tmp 16) (.tmp 17) rfl rfl rfl w.heap.size 0 _ hb1 (.inr rfl) l (hr.later hbe1) (by omega) (by simp) w.heap.size w hbe1 (Nat.le_refl _) ?_; intro w2 hb2 hbe2)
  | (go_at_call 94; refine (digits_any _ w.heap.size k size _ (splice (List.replicate (k + size) (.int .u8 0)) 0 (bcs l)) n _ (.inr (by rw [cutA_some _ _ _ _ (by omega)]; simp)) hb2 (by rw [length_splice _ _ _ (by simp [bcs_length, hr.1])]; simp) (by omega) hn).mono ?_; rintro e w3 ⟨rfl, hb3, hg3⟩))
 go_ret
 rw [put_cells l n size k hr.1] at hb3
 exact RetF.mk (Ob.of_bk hb3 (Nat.le_refl _) (by simp [dig_length, hr.1]) (by simp [maxLen]; omega)) (hbe2.trans (below_of_grown hg3 hbe2.size (fun k hk => by injection hk with hk; omega)))
def adrB (six : Bool) (ah al : Nat) : List UInt8 := if six then dig ah 8 ++ dig al 8 else dig al 4
theorem adrB_length (six : Bool) (ah al : Nat) : (adrB six ah al).length ≤ 16 := by cases six <;> simp [adrB, dig_length]
theorem adrBytes_any (six : Bool) (ah al : Nat) (w : World) (h1 : ah < 18446744073709551616) (h2 : al < 18446744073709551616) : Calls Tryz.prog 96 #[.agg #[.bool six, .int .u64 ah, .int .u64 al]] w (RetF w (adrB six ah al)) := by
 cases six
 ·go_enter Tryz.func96, Tryz.ntmps96
  go_wp2_with (go_at_call 51; refine (put_full _ _ _ [] al 4 _ Rb.nil_ (by omega) (by omega) (by omega) (by omega)).mono ?_; rintro e w1 ⟨A2, n2, bs2, d2, rfl, rfl, ho2⟩)
  go_ret
  exact RetF.mk (by simpa [adrB] using ho2.mono (base' := w.heap.size) (by simp)) (belowP (Below.allocS (Below.refl _ _) _) _ _)
 ·go_enter Tryz.func96, Tryz.ntmps96
  go_wp2
  refine wp_rel 7 14 rfl (by kernel_rfl) (by kernel_rfl) (fun i => match i with | 0 => MP.eq (.pointer (some ⟨w.heap.size, 1, none⟩)) | 1 => MP.eq (.int .u64 (ah : Int)) | 2 => MP.of w.heap.size (dig ah 8) | 3 => MP.eq (.pointer (some ⟨w.heap.size, 2, none⟩)) | 4 => MP.eq (.int .u64 (al : Int)) | 5 => MP.of w.heap.size (dig ah 8 ++ dig al 8) | 6 => MP.of w.heap.size (dig ah 8 ++ dig al 8) | _ => MP.any) ?_ ?_
  ·intro i hi o ho FA x hO hD K hK
   match i, hi, ho, hO, hD, hK with
   | 0, _, ho, hO, hD, hK => 
    obtain rfl := qoi ho
    have ev1 : FA.eval (.tmp 1) = .pointer (some ⟨w.heap.size, 0, none⟩) := hO 1 (by kernel_rfl)
    have e1 : FA.tmps[1]?.getD undef = .pointer (some ⟨w.heap.size, 0, none⟩) := by simpa [Act.eval] using ev1
    replace ev1 := Lib.hid ev1
    clear hO hD ho
    go_simp
    exact hK.out _ _ (Ex.refl _) rfl
   | 1, _, ho, hO, hD, hK => 
    obtain rfl := qoi ho
    have ev5 : FA.eval (.tmp 5) = .pointer (some ⟨w.heap.size, 1, none⟩) := hD 0 5 (by kernel_rfl)
    have e5 : FA.tmps[5]?.getD undef = .pointer (some ⟨w.heap.size, 1, none⟩) := by simpa [Act.eval] using ev5
    replace ev5 := Lib.hid ev5
    clear hO hD ho
    go_simp
    exact hK.out _ _ (Ex.refl _) rfl
   | 2, _, ho, hO, hD, hK => 
    obtain rfl := qoi ho
    have ev6 : FA.eval (.tmp 6) = .int .u64 (ah : Int) := hD 1 6 (by kernel_rfl)
    have e6 : FA.tmps[6]?.getD undef = .int .u64 (ah : Int) := by simpa [Act.eval] using ev6
    replace ev6 := Lib.hid ev6
    clear hO hD ho
    go_simp
    refine (put_full _ _ _ [] ah 8 _ Rb.nil_ (by omega) (by omega) (by omega) (by omega)).mono ?_
    rintro e w1 ⟨A2, n2, bs2, d2, rfl, rfl, ho2⟩
    exact hK.out _ _ (Ex.plus_ _ _ _) ⟨_, _, rfl, by simpa using ho2.mono (base' := w.heap.size) (by simp [size_plus]; omega)⟩
   | 3, _, ho, hO, hD, hK => 
    obtain rfl := qoi ho
    have ev1 : FA.eval (.tmp 1) = .pointer (some ⟨w.heap.size, 0, none⟩) := hO 1 (by kernel_rfl)
    have e1 : FA.tmps[1]?.getD undef = .pointer (some ⟨w.heap.size, 0, none⟩) := by simpa [Act.eval] using ev1
    replace ev1 := Lib.hid ev1
    clear hO hD ho
    go_simp
    exact hK.out _ _ (Ex.refl _) rfl
   | 4, _, ho, hO, hD, hK => 
    obtain rfl := qoi ho
    have ev8 : FA.eval (.tmp 8) = .pointer (some ⟨w.heap.size, 2, none⟩) := hD 3 8 (by kernel_rfl)
    have e8 : FA.tmps[8]?.getD undef = .pointer (some ⟨w.heap.size, 2, none⟩) := by simpa [Act.eval] using ev8
    replace ev8 := Lib.hid ev8
    clear hO hD ho
    go_simp
    exact hK.out _ _ (Ex.refl _) rfl
   | 5, _, ho, hO, hD, hK => 
    obtain rfl := qoi ho
    have f7 := hD 2 7 (by kernel_rfl)
    generalize eu7 : FA.eval (.tmp 7) = u7 at f7
    have e7 : FA.tmps[7]?.getD undef = u7 := by rw [← eu7]; simp [Act.eval]
    have ev7 := Lib.hid eu7
    clear eu7
    have ev9 : FA.eval (.tmp 9) = .int .u64 (al : Int) := hD 4 9 (by kernel_rfl)
    have e9 : FA.tmps[9]?.getD undef = .int .u64 (al : Int) := by simpa [Act.eval] using ev9
    replace ev9 := Lib.hid ev9
    clear hO hD ho
    obtain ⟨A1, n1, rfl, hr1⟩ := f7
    have hn1 : n1 ≤ 100 := by rw [← hr1.1]; simp [dig_length]
    go_simp
    refine (put_full _ _ _ _ al 8 _ hr1.rb (by omega) (by omega) (by omega) (by omega)).mono ?_
    rintro e w1 ⟨A2, n2, bs2, d2, rfl, rfl, ho2⟩
    exact hK.out _ _ (Ex.plus_ _ _ _) ⟨_, _, rfl, by simpa using ho2.mono (base' := w.heap.size) (by simp [size_plus]; omega)⟩
   | 6, _, ho, hO, hD, hK => 
    obtain rfl := qoi ho
    have f10 := hD 5 10 (by kernel_rfl)
    generalize eu10 : FA.eval (.tmp 10) = u10 at f10
    have e10 : FA.tmps[10]?.getD undef = u10 := by rw [← eu10]; simp [Act.eval]
    have ev10 := Lib.hid eu10
    clear eu10
    clear hO hD ho
    go_simp
    exact hK.out _ _ (Ex.refl _) f10
   | (k + 7), hi, _, _, _, _ => exact absurd hi (by omega)
  intro vs x hp
  have p0 : vs 0 = .pointer (some ⟨w.heap.size, 1, none⟩) := hp 0 (by omega)
  have p1 : vs 1 = .int .u64 (ah : Int) := hp 1 (by omega)
  have p2 := hp 2 (by omega)
  have p3 : vs 3 = .pointer (some ⟨w.heap.size, 2, none⟩) := hp 3 (by omega)
  have p4 : vs 4 = .int .u64 (al : Int) := hp 4 (by omega)
  have p5 := hp 5 (by omega)
  have p6 := hp 6 (by omega)
  clear hp
  simp only [qta, qtb, qda, qdb, putAll, Nat.zero_add, Nat.reduceAdd, Act.put, qsT, qsZ, qsS, p0, p1, p3, p4]
  clear p0 p1 p3 p4
  generalize vs 2 = y2 at *
  generalize vs 5 = y5 at *
  generalize vs 6 = y6 at *
  clear vs
  obtain ⟨A5, n5, rfl, h5⟩ := p6
  go_wp2
  go_ret
  exact RetF.mk (by simpa [adrB] using h5) (belowP (Below.allocS (Below.refl _ _) _) _ _)
end

section
open Go.RowKit
structure MW (base : Nat) (S : TypeId → Bool) where
 p : Value → Value → World → Prop
 ex : ∀ v u w w', p v u w → Ex w w' → p v u w'
 st : ∀ v u w b t cs k x, p v u w → Bk w b t cs → S t = true → base ≤ b → p v u (w.setCell ⟨b, k, none⟩ x)
section
variable {base : Nat} {S : TypeId → Bool}
def MW.any : MW base S := ⟨fun _ _ _ => True, fun _ _ _ _ _ _ => trivial, fun _ _ _ _ _ _ _ _ _ _ _ _ => trivial⟩
def MW.eq (c : Value) : MW base S := ⟨fun v _ _ => v = c, fun _ _ _ _ h _ => h, fun _ _ _ _ _ _ _ _ h _ _ _ => h⟩
def MW.sl (n : Nat) : MW base S := ⟨fun v u _ => ∃ b, u = .pointer (some ⟨b, 0, none⟩) ∧ v = .slice (some ⟨b, 0, none⟩) n n, fun _ _ _ _ h _ => h, fun _ _ _ _ _ _ _ _ h _ _ _ => h⟩
def MW.of (q : Value → Prop) : MW base S := ⟨fun v _ _ => q v, fun _ _ _ _ h _ => h, fun _ _ _ _ _ _ _ _ h _ _ _ => h⟩
theorem Ob.setB {w : World} {A : Option Addr} {n c : Nat} {l : List UInt8} {b : Nat} {t : TypeId} {cs : List Value} {k : Nat} {x : Value} (h : Ob w base A n c l) (hb : Bk w b t cs) (ht : t ≠ 5) : Ob (w.setCell ⟨b, k, none⟩ x) base A n c l := by
 refine h.grown (grownBy_setCell w b k x) fun j hj e => ?_
 injection e with e
 subst e
 rcases h.2.2 with ⟨hv, _⟩ | ⟨g, cap, cur, hv, _, hg, _⟩
 ·rw [hv] at hj
  simp [Value.ownBlock] at hj
 ·rw [hv] at hj
  simp [Value.ownBlock] at hj
  subst hj
  rw [Bk] at hb
  rw [hb] at hg
  injection hg with hg
  injection hg with _ h2
  exact ht h2
theorem S_ne {t : TypeId} (hS : S 5 = false) (ht : S t = true) : t ≠ 5 := fun e => by subst e; rw [hS] at ht; cases ht
def MW.ob (hS : S 5 = false) (l : List UInt8) : MW base S := ⟨fun v _ w => ∃ A n c, v = .slice A n c ∧ Ob w base A n c l, fun _ _ _ _ ⟨A, n, c, h1, h2⟩ h => ⟨A, n, c, h1, h2.later h.below⟩,
 fun _ _ _ _ _ _ _ _ ⟨A, n, c, h1, h2⟩ hb hs _ => ⟨A, n, c, h1, h2.setB hb (S_ne hS hs)⟩⟩
end
inductive BSrc | op (j : Nat) | val (v : Value)
def BSrc.get (vs : Nat → Value) : BSrc → Value | .op j => vs j | .val v => v
structure Bld where
 a : Nat
 t : TypeId
 cs : List Value
 sts : List (Nat × Nat × BSrc)
def Bld.at_ (B : Bld) (done : Nat → Bool) (vs : Nat → Value) (k : Nat) : Value :=
 match B.sts.find? (fun e => e.2.1 == k) with
 | some e => if done e.1 then e.2.2.get vs else B.cs.getD k undef
 | none => B.cs.getD k undef
def Bld.cells (B : Bld) (done : Nat → Bool) (vs : Nat → Value) : List Value := (List.range B.cs.length).map (B.at_ done vs)
def nodupB : List Nat → Bool
 | [] => true
 | x :: r => !r.contains x && nodupB r
theorem nodup_of : ∀ {l : List Nat}, nodupB l = true → l.Nodup
 | [], _ => List.nodup_nil
 | x :: r, h => by
  simp only [nodupB, Bool.and_eq_true, Bool.not_eq_true'] at h
  refine List.nodup_cons.2 ⟨fun hm => ?_, nodup_of h.2⟩
  have : r.contains x = true := by simpa using hm
  rw [this] at h
  exact absurd h.1 (by simp)
section
variable {P : Program} {Q : Exit → Act → World → Prop}
def tw (ops : Array Oper) (n : Nat) : Nat → Nat → Nat → Bool
 | 0, i, j => Region.waitsFor .any ops i j
 | f + 1, i, j => Region.waitsFor .any ops i j || (List.range n).any fun k => Region.waitsFor .any ops i k && tw ops n f k j
theorem tw_listed {ops : Array Oper} {n : Nat} {listed : Array Bool} (inv : HeadInv .any ops n listed) : ∀ (f i j : Nat), (∀ k, Region.waitsFor .any ops i k = true → listed.getD k false = true) → tw ops n f i j = true → listed.getD j false = true
 | 0, i, j, h, ht => h j ht
 | f + 1, i, j, h, ht => by
  simp only [tw, Bool.or_eq_true] at ht
  rcases ht with ht | ht
  ·exact h j ht
  ·obtain ⟨k, _, hk⟩ := List.any_eq_true.1 ht
   simp only [Bool.and_eq_true] at hk
   refine tw_listed inv f k j (fun k' hk' => ?_) hk.2
   obtain ⟨ok, hok, e, he, hb, hon⟩ := Region.waitsFor_spec hk'
   rw [← hon]
   exact inv.closed k ok hok (h k hk.1) e he hb
end
structure Chg (D : Nat → Prop) (w w' : World) : Prop where
 os : w'.os = w.os
 tape : w'.tape = w.tape
 output : w'.output = w.output
 size : w.heap.size ≤ w'.heap.size
 block : ∀ b, b < w.heap.size → ¬ D b → w'.heap[b]? = w.heap[b]?
section
variable {D : Nat → Prop} {w w' w'' : World}
theorem Chg.refl (w : World) : Chg D w w := ⟨rfl, rfl, rfl, Nat.le_refl _, fun _ _ _ => rfl⟩
theorem Chg.trans (h : Chg D w w') (h' : Chg D w' w'') : Chg D w w'' := ⟨h'.os.trans h.os, h'.tape.trans h.tape, h'.output.trans h.output, Nat.le_trans h.size h'.size, fun b hb hd => (h'.block b (Nat.lt_of_lt_of_le hb h.size) hd).trans (h.block b hb hd)⟩
theorem Chg.below {B : Nat} (h : Chg D w w') (hD : ∀ b, D b → B ≤ b) (hB : B ≤ w.heap.size) : Below B w w' := ⟨h.os, h.tape, h.output, h.size, fun b hb => h.block b (by omega) (fun hd => by have := hD b hd; omega)⟩
theorem Chg.of_below (h : Below w.heap.size w w') : Chg D w w' := ⟨h.os, h.tape, h.output, h.size, fun b hb _ => h.block b hb⟩
theorem Chg.ex (h : Ex w w') : Chg D w w' := .of_below h.below
theorem Chg.grown {row : Option Nat} (h : w.grownBy w' row) (hr : ∀ k, row = some k → D k) : Chg D w w' := ⟨h.os, h.tape, h.output, h.size, fun b hb hd => h.block b hb (fun e => hd (hr b e.symm))⟩
theorem Bk.chg {g : Nat} {t : TypeId} {cs : List Value} (h : Bk w g t cs) (hc : Chg D w w') (hd : ¬ D g) : Bk w' g t cs := (hc.block g h.lt hd).trans h
theorem Rb.chg {A : Option Addr} {n c : Nat} {l : List UInt8} (h : Rb w A n c l) (hc : Chg D w w') (hd : ∀ a, A = some a → ¬ D a.block) : Rb w' A n c l := by
 refine ⟨h.1, h.2.1, ?_⟩
 rcases h.2.2 with h' | ⟨b, off, hA, hb, hcell⟩
 ·exact .inl h'
 ·exact .inr ⟨b, off, hA, Nat.lt_of_lt_of_le hb hc.size, fun i u hu => (World.cell?_of_block (hc.block b hb (hd _ hA))).trans (hcell i u hu)⟩
theorem Ob.chg {base : Nat} {A : Option Addr} {n c : Nat} {l : List UInt8} (h : Ob w base A n c l) (hc : Chg D w w') (hd : ∀ b, D b → b < base) : Ob w' base A n c l := by
 refine ⟨h.1, h.2.1, ?_⟩
 rcases h.2.2 with h' | ⟨g, cap, cur, hv, hg, hh, hr⟩
 ·exact .inl h'
 ·refine .inr ⟨g, cap, cur, hv, hg, ?_, hr⟩
  rw [hc.block g (by rcases Nat.lt_or_ge g w.heap.size with h1 | h1; exact h1; rw [Array.getElem?_eq_none h1] at hh; cases hh) (fun hd' => by have := hd g hd'; omega)]
  exact hh
end
structure MC (D : Nat → Prop) where
 p : Value → World → Prop
 mono : ∀ v w w', p v w → Chg D w w' → p v w'
def MC.any {D : Nat → Prop} : MC D := ⟨fun _ _ => True, fun _ _ _ _ _ => trivial⟩
def MC.eq {D : Nat → Prop} (c : Value) : MC D := ⟨fun v _ => v = c, fun _ _ _ h _ => h⟩
def MC.ob {D : Nat → Prop} (base : Nat) (hd : ∀ b, D b → b < base) (l : List UInt8) : MC D := ⟨fun v w => ∃ A n c, v = .slice A n c ∧ Ob w base A n c l, fun _ _ _ ⟨A, n, c, h1, h2⟩ h => ⟨A, n, c, h1, h2.chg h hd⟩⟩
def MC.blk {D : Nat → Prop} (base : Nat) (hd : ∀ b, D b → b < base) (t : TypeId) (cs : List Value) : MC D := ⟨fun v w => ∃ g, v = .pointer (some ⟨g, 0, none⟩) ∧ base ≤ g ∧ Bk w g t cs, fun _ _ _ ⟨g, h1, h2, h3⟩ h => ⟨g, h1, h2, h3.chg h (fun hg => by have := hd g hg; omega)⟩⟩
section
variable {P : Program} {Q : Exit → Act → World → Prop}
structure SInv (ops : Array Oper) (n : Nat) (a0 : Act) (w0 : World) {D : Nat → Prop} (Φ : Nat → MC D) (cs : List Nat) (St : Nat → World → Prop) (listed : Array Bool) (A : Act) (w : World) : Prop where
 head : HeadInv .any ops n listed
 chg : Chg D w0 w
 size : A.tmps.size = a0.tmps.size
 defers : A.defers = a0.defers
 out : ∀ s, (∀ j, j < n → ∀ o, ops[j]? = some o → listed.getD j false = true → o.dst ≠ some s) → A.eval (.tmp s) = a0.eval (.tmp s)
 ins : ∀ j, j < n → ∀ o s, ops[j]? = some o → listed.getD j false = true → o.dst = some s → (Φ j).p (A.eval (.tmp s)) w
 st : St (cs.filter fun j => listed.getD j false).length w
theorem filter_first {p : Nat → Bool} : ∀ (cs : List Nat) (k : Nat), k ≤ cs.length → (∀ j, j < k → p (cs.getD j 0) = true) → (∀ j, k ≤ j → j < cs.length → p (cs.getD j 0) = false) → (cs.filter p).length = k
 | [], k, h, _, _ => by simp at h ⊢; omega
 | x :: r, 0, _, _, h2 => by
  have h0 := h2 0 (by omega) (by simp)
  simp only [List.getD_cons_zero] at h0
  rw [List.filter_cons, h0]
  exact filter_first r 0 (by omega) (by omega) (fun j h3 h4 => by have := h2 (j + 1) (by omega) (by simp; omega); simpa using this)
 | x :: r, k + 1, h, h1, h2 => by
  have h0 := h1 0 (by omega)
  simp only [List.getD_cons_zero] at h0
  rw [List.filter_cons, h0]
  simp only [if_true, List.length_cons]
  rw [filter_first r k (by simp at h; omega) (fun j h3 => by have := h1 (j + 1) (by omega); simpa using this) (fun j h3 h4 => by have := h2 (j + 1) (by omega) (by simp; omega); simpa using this)]
end
theorem wp_stA {P : Program} {w : World} {o : Oper} {a : Act} {K : Act → World → Prop} {Q : Exit → Act → World → Prop} (ty : TypeId) (x y : Operand) (ho : o.op = .store ty x y)
  {g : Nat} {t : TypeId} (new old : List Value) (hl : new.length = old.length) (h1 : ∀ u ∈ new, u.oneCell' = true) (hx : a.eval x = .pointer (some ⟨g, 0, none⟩)) (hy : a.eval y = .agg new.toArray) (hb : Bk w g t old)
  (hi : (P.info? ty).map (·.size) = some new.length) (h : ∀ w', Bk w' g t new → w.grownBy w' (some g) → K (a.put o.dst undef) w') : o.wp P a w K Q := by
 refine wp_store_mid ty x y ho g 0 new.toArray hx hy (fun j hj => ?_) (by simpa using hi) (all_oneCell_toArray h1) (h _ ?_ ?_)
 ·rw [Nat.zero_add]
  have hj' : j < old.length := by rw [← hl]; simpa using hj
  exact ⟨by rw [hb.cell, List.getElem?_eq_getElem hj']; rfl, hb.frozen j⟩
 ·have := Bk.setCells new old 0 hb (by omega)
  simpa using this
 ·generalize 0 = k
  clear hi h hb hy hl
  induction new generalizing w k with
  | nil => exact World.grownBy.refl _ _
  | cons v r ih => exact (grownBy_setCell _ _ _ _).trans (ih (fun u hu => h1 u (List.mem_cons_of_mem _ hu)) _)
theorem Chg.one {D : Nat → Prop} {w w' : World} {g : Nat} (h : w.grownBy w' (some g)) (hg : D g) : Chg D w w' := Chg.grown h (fun k hk => by injection hk with hk; subst hk; exact hg)
section
variable {P : Program} {Q : Exit → Act → World → Prop}
def suB (ops : Array Oper) (n N : Nat) (cs : List Nat) (f : Nat) : Bool :=
 decide (n ≤ ops.size) && (decide (n = ops.size) || (Region.sinkB .any ops n && Region.chainB .any ops n)) &&
 Region.seqB .any ops (ops.size - n) n ((List.range ops.size).map fun i => decide (i < n)).toArray &&
 ((List.range n).all fun i => match ops[i]? with
  | none => false
  | some o => (match o.dst with | some s => decide (s < N) | none => true) && (o.after.all fun e => !Region.binds .any e || decide (e.on < i)) &&
   (List.range n).all fun j => j == i || (match o.dst, (ops[j]?).bind (·.dst) with | some s, some s' => s != s' | _, _ => true)) &&
 (cs.all fun i => decide (i < n)) && ((List.range cs.length).all fun k => (List.range k).all fun j => tw ops n f (cs.getD k 0) (cs.getD j 0)) && nodupB cs
theorem wp_su {id : Nat} {a : Act} {w : World} {l : List Oper} (D : Nat → Prop) (n N f : Nat) (cs : List Nat) (hN : a.tmps.size = N) (hm : P.follows .mixedOrders = true) (hB : suB l.toArray n N cs f = true) (Φ : Nat → MC D)
  (St : Nat → World → Prop) (hSt : ∀ k w w', St k w → Ex w w' → St k w') (h0 : St 0 w)
  (step : ∀ i, i < n → ∀ o, l[i]? = some o → cs.contains i = false → ∀ (A : Act) (w' : World), Chg D w w' → (∀ s, outB l.toArray n i s = true → A.eval (.tmp s) = a.eval (.tmp s)) → (∀ j s, depB l.toArray n i j s = true → (Φ j).p (A.eval (.tmp s)) w') →
   ∀ K : Act → World → Prop, Shut (∀ v w'', Ex w' w'' → (Φ i).p v w'' → K (A.put o.dst v) w'') → if Region.wanted o (yielded l.toArray A.tmps) = true then o.wp P A w' K Q else K (A.put o.dst undef) w')
  (move : ∀ k i, cs[k]? = some i → ∀ o, l[i]? = some o → ∀ (A : Act) (w' : World), Chg D w w' → St k w' → (∀ s, outB l.toArray n i s = true → A.eval (.tmp s) = a.eval (.tmp s)) → (∀ j s, depB l.toArray n i j s = true → (Φ j).p (A.eval (.tmp s)) w') →
   ∀ K : Act → World → Prop, Shut (∀ v w'', Chg D w' w'' → St (k + 1) w'' → (Φ i).p v w'' → K (A.put o.dst v) w'') → if Region.wanted o (yielded l.toArray A.tmps) = true then o.wp P A w' K Q else False)
  (fin : ∀ (vs : Nat → Value) (w' : World), Chg D w w' → St cs.length w' → (∀ i, i < n → ((l[i]?).bind (·.dst)).isSome = true → (Φ i).p (vs i) w') → wpList P l.toArray Q (l.drop n) (putAll (l.take n) vs 0 a) w') : (Code.region id l.toArray true).wp P Q a w := by
 unfold suB at hB
 simp only [Bool.and_eq_true, decide_eq_true_eq] at hB
 obtain ⟨⟨⟨⟨⟨⟨hn, htail⟩, hseq⟩, hall⟩, hcn⟩, hcc⟩, hcd⟩ := hB
 have hal : ∀ i, i < n → ∃ o, l.toArray[i]? = some o ∧ (∀ s, o.dst = some s → s < N) ∧ (∀ e ∈ o.after, Region.binds .any e = true → e.on < i) ∧ ∀ j, j < n → j ≠ i → ∀ oj, l.toArray[j]? = some oj → ∀ s s', o.dst = some s → oj.dst = some s' → s ≠ s' := by
  intro i hi
  have h1 := List.all_eq_true.1 hall i (List.mem_range.2 hi)
  cases ho : l.toArray[i]? with
  | none => rw [ho] at h1; cases h1
  | some o =>
   rw [ho] at h1
   simp only [Bool.and_eq_true] at h1
   obtain ⟨⟨h2, h3⟩, h4⟩ := h1
   refine ⟨o, rfl, fun s hs => ?_, fun e he hb => ?_, fun j hj hji oj hoj s s' hs hs' => ?_⟩
   ·rw [hs] at h2; simpa using h2
   ·have := (Array.all_eq_true_iff_forall_mem.1 h3) e he
    rw [hb] at this
    simpa using this
   ·have h6 := List.all_eq_true.1 h4 j (List.mem_range.2 hj)
    rw [hoj, hs] at h6
    simp [hs', hji] at h6
    exact h6
 have main : ∀ (q : Nat) (listed : Array Bool) (A : Act) (w' : World), SInv l.toArray n a w Φ cs St listed A w' → cnt listed n = q → wpAny P .any l.toArray Q (q + (l.toArray.size - n)) listed A w' := by
  intro q
  induction q with
  | zero =>
   intro listed A w' inv hc
   have hl : ∀ i, i < n → listed.getD i true = true := cnt_zero n hc
   have hlf : ∀ i, i < n → listed.getD i false = true := fun i hi => by
    have := hl i hi
    have hsz : i < listed.size := by rw [inv.head.size]; omega
    simpa [hsz] using this
   have el : listed = ((List.range l.toArray.size).map fun i => decide (i < n)).toArray := by
    apply Array.ext
    ·simp [inv.head.size]
    ·intro i h1 h2
     by_cases hi : i < n
     ·have := hl i hi
      simp only [Array.getD_eq_getD_getElem?, Array.getElem?_eq_getElem h1, Option.getD_some] at this
      simp [this, hi]
     ·have := inv.head.tail i (by omega) (by rw [← inv.head.size]; exact h1)
      simp only [Array.getD_eq_getD_getElem?, Array.getElem?_eq_getElem h1, Option.getD_some] at this
      simp [this, hi]
   have eA : A = putAll (l.take n) (fun j => ((l.toArray[j]?).bind (·.dst)).elim undef (fun s => A.eval (.tmp s))) 0 a := by
    refine act_ext (by rw [putAll_size, inv.size]) (by rw [putAll_defers, inv.defers]) fun s hs => ?_
    have H := putAll_eval A s (l.take n) (fun j => ((l.toArray[j]?).bind (·.dst)).elim undef (fun s => A.eval (.tmp s))) 0 a (by rw [← inv.size]; exact hs) (fun j o hj hd => by
     have hjn : j < n := by
      have := (List.getElem?_eq_some_iff.1 hj).1
      simp at this
      omega
     have : l.toArray[j]? = some o := by simpa [hjn] using hj
     simp [this, hd])
    by_cases he : ∃ o ∈ l.take n, o.dst = some s
    ·exact (H.1 he).symm
    ·rw [H.2 (fun o h h' => he ⟨o, h, h'⟩)]
     refine inv.out s fun j hj o ho _ hd => he ⟨o, ?_, hd⟩
     rw [List.mem_take_iff_getElem]
     have hjl := (Array.getElem?_eq_some_iff.1 ho)
     obtain ⟨h1, h2⟩ := hjl
     exact ⟨j, by simp at h1; omega, by simpa using h2⟩
   rw [Nat.zero_add]
   have hst := inv.st
   rw [List.filter_eq_self.2 (fun j hj => hlf j (by simpa using List.all_eq_true.1 hcn j hj))] at hst
   have := wpAny_of_seq (md := .any) (Q' := Q) (P := P) (ops := l.toArray) (l.drop n) n listed A w' (fun j => by simp [List.getElem?_drop]) (by
    rw [el]
    have : (l.drop n).length = l.toArray.size - n := by simp
    rw [this]
    exact hseq) (by
    rw [eA]
    refine fin _ w' inv.chg hst fun i hi his => ?_
    obtain ⟨o, ho, _⟩ := hal i hi
    have hol : l[i]? = some o := by simpa using ho
    rw [hol] at his
    obtain ⟨s, hd⟩ := Option.isSome_iff_exists.1 his
    have hd' : o.dst = some s := hd
    have := inv.ins i hi o s ho (hlf i hi) hd'
    simpa [ho, hd'] using this)
   have e2 : (l.drop n).length = l.toArray.size - n := by simp
   rwa [e2] at this
  | succ q ih =>
   intro listed A w' inv hc
   rw [show q + 1 + (l.toArray.size - n) = (q + (l.toArray.size - n)) + 1 by omega]
   obtain ⟨i0, hi0, hun0, hprev⟩ := cnt_first n (by rw [hc]; omega)
   have hready0 : i0 ∈ Region.ready .any l.toArray listed := by
    obtain ⟨o, ho, _, hlt, _⟩ := hal i0 hi0
    refine mem_ready.2 ⟨hun0, o, ho, fun e he hb => ?_⟩
    have h1 := hlt e he hb
    have h2 := hprev e.on h1
    have hsz : e.on < listed.size := by rw [inv.head.size]; have := (Array.getElem?_eq_some_iff.1 ho).1; omega
    simpa [hsz] using h2
   refine ⟨fun h => (by rw [h] at hready0; cases hready0), fun i hi => ?_⟩
   obtain ⟨hun, o, ho, hdeps⟩ := mem_ready.1 hi
   have hin : i < n := by
    rcases Nat.lt_or_ge i n with h | h
    ·exact h
    ·have hsz := (Array.getElem?_eq_some_iff.1 ho).1
     simp only [Bool.or_eq_true, decide_eq_true_eq, Bool.and_eq_true] at htail
     rcases htail with ht | ht
     ·omega
     ·exact absurd hi (tail_waits ht.1 ht.2 (by omega) inv.head _ i0 rfl hi0 hun0 i h)
   obtain ⟨o', ho', hsN, hlt, hother⟩ := hal i hin
   have : o' = o := Option.some.inj (ho'.symm.trans ho)
   subst this
   have unl : ∀ j, listed.getD j false = true → j ≠ i := fun j hj e => by subst e; rw [getD_both hun] at hj; cases hj
   have hsz : i < listed.size := by rw [inv.head.size]; exact (Array.getElem?_eq_some_iff.1 ho).1
   have outs : ∀ s', outB l.toArray n i s' = true → A.eval (.tmp s') = a.eval (.tmp s') := fun s' hs' => inv.out s' fun j hj oj hoj hlj hdj => by
     have h1 := List.all_eq_true.1 hs' j (List.mem_range.2 hj)
     have hji := unl j hlj
     rw [hoj] at h1
     simp only [Option.bind_some, hdj] at h1
     simp only [Bool.or_eq_true, beq_iff_eq, bne_self_eq_false, Bool.false_eq_true, false_or] at h1
     rcases h1 with h1 | h1
     ·exact hji h1
     ·obtain ⟨oj', hoj', e, he, hb, hon⟩ := Region.waitsFor_spec h1
      have : oj' = oj := Option.some.inj (hoj'.symm.trans hoj)
      subst this
      have h2 := inv.head.closed j oj' hoj hlj e he hb
      rw [hon, getD_both hun] at h2
      cases h2
   have wl : ∀ j, Region.waitsFor .any l.toArray i j = true → listed.getD j false = true := fun j hw => by
     obtain ⟨oi, hoi, e, he, hb, hon⟩ := Region.waitsFor_spec hw
     have : oi = o' := Option.some.inj (hoi.symm.trans ho)
     subst this
     rw [← hon]
     exact hdeps e he hb
   have deps : ∀ j s', depB l.toArray n i j s' = true → (Φ j).p (A.eval (.tmp s')) w' := fun j s' hs' => by
     simp only [depB, Bool.and_eq_true, decide_eq_true_eq] at hs'
     obtain ⟨⟨hj, hw⟩, hds⟩ := hs'
     have hlj := wl j hw
     cases hoj : l.toArray[j]? with
     | none => rw [hoj] at hds; simp at hds
     | some oj =>
      rw [hoj] at hds
      simp only [Option.bind_some, beq_iff_eq] at hds
      exact inv.ins j hj oj s' hoj hlj hds
   have lst' : ∀ j, j ≠ i → (listed.setIfInBounds i true).getD j false = listed.getD j false := fun j hj => getD_set_ne false (Ne.symm hj)
   have next : ∀ v w'', Chg D w' w'' → St (cs.filter fun j => (listed.setIfInBounds i true).getD j false).length w'' → (Φ i).p v w'' → wpAny P .any l.toArray Q (q + (l.toArray.size - n)) (listed.setIfInBounds i true) (A.put o'.dst v) w'' := by
    intro v w'' hex hst hp
    refine ih _ _ _ ?_ ?_
    ·refine ⟨inv.head.set hi hin, inv.chg.trans hex, by rw [size_put, inv.size], by rw [defers_put, inv.defers], fun s' hs' => ?_, fun j hj oj s' hoj hlj hdj => ?_, hst⟩
     ·rw [Act.eval_put (fun d hd' e => by
       injection e with e
       subst e
       exact hs' i hin o' ho (by simp [hsz]) hd')]
      refine inv.out s' fun j hj oj hoj hlj => hs' j hj oj hoj (getD_set_true hlj)
     ·by_cases hji : j = i
      ·subst hji
       have : oj = o' := Option.some.inj (hoj.symm.trans ho)
       subst this
       rw [hdj, eval_put_same (by rw [inv.size, hN]; exact hsN s' hdj)]
       exact hp
      ·have hlj' : listed.getD j false = true := by rw [lst' j hji] at hlj; exact hlj
       rw [Act.eval_put (fun d hd' e => by
        injection e with e
        exact hother j hj hji oj hoj d s' hd' hdj e.symm)]
       exact (Φ j).mono _ _ _ (inv.ins j hj oj s' hoj hlj' hdj) hex
    ·have := cnt_set hun n
     rw [if_pos hin] at this
     omega
   cases hci : cs.contains i with
   | false =>
    have hsame : (cs.filter fun j => (listed.setIfInBounds i true).getD j false) = cs.filter fun j => listed.getD j false := by
     refine List.filter_congr fun j hj => lst' j (fun e => ?_)
     subst e
     have : cs.contains j = true := by simpa using hj
     rw [this] at hci
     cases hci
    have hs := step i hin o' (by simpa using ho) hci A w' inv.chg outs deps (wpAny P .any l.toArray Q (q + (l.toArray.size - n)) (listed.setIfInBounds i true)) (fun v w'' hex hp => next v w'' (Chg.ex hex) (by rw [hsame]; exact hSt _ _ _ inv.st hex) hp)
    unfold wpOp
    rw [ho]
    simp only
    split
    ·rename_i hw
     rw [if_pos hw] at hs
     exact .inl hs
    ·rename_i hw
     rw [if_neg hw] at hs
     exact hs
   | true =>
    have hmem : i ∈ cs := by simpa using hci
    obtain ⟨k, hk, hki⟩ := List.getElem_of_mem hmem
    have hki' : cs[k]? = some i := by rw [List.getElem?_eq_getElem hk, hki]
    have hkg : cs.getD k 0 = i := by simp [hki']
    have before : ∀ j, j < k → listed.getD (cs.getD j 0) false = true := fun j hj => by
     have h1 := List.all_eq_true.1 hcc k (List.mem_range.2 hk)
     have h2 := List.all_eq_true.1 h1 j (List.mem_range.2 hj)
     rw [hkg] at h2
     exact tw_listed inv.head f i _ wl h2
    have behind : ∀ j, k < j → j < cs.length → listed.getD (cs.getD j 0) false = false := fun j hj hjl => by
     cases hlj : listed.getD (cs.getD j 0) false with
     | false => rfl
     | true =>
      have h1 := List.all_eq_true.1 hcc j (List.mem_range.2 hjl)
      have h2 := List.all_eq_true.1 h1 k (List.mem_range.2 hj)
      rw [hkg] at h2
      have := tw_listed inv.head f _ i (fun k' hk' => by
       obtain ⟨ok, hok, e, he, hb, hon⟩ := Region.waitsFor_spec hk'
       rw [← hon]
       exact inv.head.closed _ ok hok hlj e he hb) h2
      exact absurd rfl (unl _ this)
    have cnow : (cs.filter fun j => listed.getD j false).length = k := filter_first cs k (by omega) before (fun j h1 h2 => by
     rcases Nat.eq_or_lt_of_le h1 with h3 | h3
     ·subst h3
      rw [hkg]
      exact getD_both hun
     ·exact behind j h3 h2)
    have nod := nodup_of hcd
    have cthen : (cs.filter fun j => (listed.setIfInBounds i true).getD j false).length = k + 1 := filter_first cs (k + 1) (by omega) (fun j hj => by
     by_cases hjk : j = k
     ·subst hjk
      rw [hkg]
      simp [hsz]
     ·exact getD_set_true (before j (by omega))) (fun j h1 h2 => by
     have hne : cs.getD j 0 ≠ i := fun e => by
      have e1 : cs[j]'h2 = cs[k]'hk := by rw [hki, ← e]; simp [h2]
      have := (List.getElem_inj nod).1 e1
      omega
     rw [lst' _ hne]
     exact behind j (by omega) h2)
    have hst := inv.st
    rw [cnow] at hst
    have hs := move k i hki' o' (by simpa using ho) A w' inv.chg hst outs deps (wpAny P .any l.toArray Q (q + (l.toArray.size - n)) (listed.setIfInBounds i true)) (fun v w'' hex hs' hp => next v w'' hex (by rw [cthen]; exact hs') hp)
    unfold wpOp
    rw [ho]
    simp only
    split
    ·rename_i hw
     rw [if_pos hw] at hs
     exact .inl hs
    ·rename_i hw
     rw [if_neg hw] at hs
     exact hs.elim
 refine wp_region_any hm ?_
 have H := main n (Array.replicate l.toArray.size false) a w.drew ⟨⟨by simp, fun j oj _ hl => (by rw [getD_replicate_false] at hl; cases hl), fun t _ ht => getD_in (by simpa using ht) (getD_replicate_false _ _)⟩,
  Chg.of_below ((Below.refl _ _).drew), rfl, rfl, fun s _ => rfl, fun j hj o s _ hl => (by rw [getD_replicate_false] at hl; cases hl), by
   rw [List.filter_eq_nil_iff.2 (fun j _ => by rw [getD_replicate_false]; simp)]
   exact hSt 0 w w.drew h0 (Ex.of ((Below.refl _ _).drew))⟩ (cnt_init _ n hn)
 rw [show n + (l.toArray.size - n) = l.toArray.size by omega] at H
 exact H
end
structure Kept (F : Nat → Prop) (w w' : World) : Prop where
 os : w'.os = w.os
 tape : w'.tape = w.tape
 output : w'.output = w.output
 size : w.heap.size ≤ w'.heap.size
 block : ∀ b, b < w.heap.size → F b → w'.heap[b]? = w.heap[b]?
theorem Kept.refl (F : Nat → Prop) (w : World) : Kept F w w := ⟨rfl, rfl, rfl, Nat.le_refl _, fun _ _ _ => rfl⟩
theorem Kept.chg {F D : Nat → Prop} {w w' w'' : World} (h : Kept F w w') (h' : Chg D w' w'') (hd : ∀ b, F b → ¬ D b) : Kept F w w'' :=
 ⟨h'.os.trans h.os, h'.tape.trans h.tape, h'.output.trans h.output, Nat.le_trans h.size h'.size, fun b hb hf => (h'.block b (Nat.lt_of_lt_of_le hb h.size) (hd b hf)).trans (h.block b hb hf)⟩
theorem Kept.of_chg {F D : Nat → Prop} {w w' : World} (h' : Chg D w w') (hd : ∀ b, F b → ¬ D b) : Kept F w w' := (Kept.refl F w).chg h' hd
theorem Kept.below {F : Nat → Prop} {w w' : World} {B : Nat} (h : Kept F w w') (hB : B ≤ w.heap.size) (hf : ∀ b, b < B → F b) : Below B w w' := ⟨h.os, h.tape, h.output, h.size, fun b hb => h.block b (by omega) (hf b hb)⟩
theorem Bk.kept {F : Nat → Prop} {w w' : World} {g : Nat} {t : TypeId} {cs : List Value} (h : Bk w g t cs) (hk : Kept F w w') (hf : F g) : Bk w' g t cs := (hk.block g h.lt hf).trans h
theorem Rb.kept {F : Nat → Prop} {w w' : World} {A : Option Addr} {n c : Nat} {l : List UInt8} (h : Rb w A n c l) (hk : Kept F w w') (hf : ∀ a, A = some a → a.block < w.heap.size → F a.block) : Rb w' A n c l := by
 refine ⟨h.1, h.2.1, ?_⟩
 rcases h.2.2 with h' | ⟨b, off, hA, hb, hc⟩
 ·exact .inl h'
 ·exact .inr ⟨b, off, hA, Nat.lt_of_lt_of_le hb hk.size, fun i u hu => (World.cell?_of_block (hk.block b hb (hf _ hA hb))).trans (hc i u hu)⟩
structure Own (prot : Nat → Prop) where
 p : Value → Value → World → Prop
 fp : Value → Value → Nat → Prop
 lt : ∀ v u w b, p v u w → fp v u b → b < w.heap.size
 keep : ∀ v u w w', p v u w → Kept (fun b => fp v u b ∨ prot b) w w' → p v u w'
section
variable {prot : Nat → Prop}
def Own.any : Own prot := ⟨fun _ _ _ => True, fun _ _ _ => False, fun _ _ _ _ _ h => h.elim, fun _ _ _ _ _ _ => trivial⟩
def Own.eq (c : Value) : Own prot := ⟨fun v _ _ => v = c, fun _ _ _ => False, fun _ _ _ _ _ h => h.elim, fun _ _ _ _ h _ => h⟩
def Own.blk (t : TypeId) (cs : List Value) : Own prot := ⟨fun v _ w => ∃ g, v = .pointer (some ⟨g, 0, none⟩) ∧ Bk w g t cs, fun v _ b => v = .pointer (some ⟨b, 0, none⟩),
 fun v u w b ⟨g, h1, h2⟩ h3 => (by rw [h1] at h3; injection h3 with h3; injection h3 with h3; injection h3 with h3; subst h3; exact h2.lt),
 fun v u w w' ⟨g, h1, h2⟩ hk => ⟨g, h1, h2.kept hk (.inl h1)⟩⟩
def Own.ob (base : Nat) (l : List UInt8) : Own prot := ⟨fun v _ w => ∃ A n c, v = .slice A n c ∧ Ob w base A n c l, fun v _ b => v.ownBlock = some b,
 fun v u w b ⟨A, n, c, h1, h2⟩ h3 => (by subst h1; exact (h2.blk b h3).2),
 fun v u w w' ⟨A, n, c, h1, h2⟩ hk => ⟨A, n, c, h1, by
  refine ⟨h2.1, h2.2.1, ?_⟩
  have hlt := h2.blk
  rcases h2.2.2 with h' | ⟨g, cap, cur, hv, hg, hh, hr⟩
  ·exact .inl h'
  ·have ho : (Value.slice A n c).ownBlock = some g := by rw [hv]; rfl
   refine .inr ⟨g, cap, cur, hv, hg, ?_, hr⟩
   rw [hk.block g (hlt g ho).2 (.inl (by subst h1; exact ho))]
   exact hh⟩⟩
def Own.of (base : Nat) (l : List UInt8) : Own prot := ⟨fun v _ w => ∃ A n, v = .slice A n n ∧ Ob w base A n n l, fun v _ b => v.ownBlock = some b,
 fun v u w b ⟨A, n, h1, h2⟩ h3 => (by subst h1; exact (h2.blk b h3).2),
 fun v u w w' ⟨A, n, h1, h2⟩ hk => ⟨A, n, h1, by
  obtain ⟨A', n', c', e1, e2⟩ := (Own.ob (prot := prot) base l).keep v u w w' ⟨A, n, n, h1, h2⟩ hk
  rw [h1] at e1
  injection e1 with x y z
  subst x y z
  exact e2⟩⟩
end
def Own.fn {prot : Nat → Prop} (g : Value → Value) : Own prot := ⟨fun v u _ => v = g u, fun _ _ _ => False, fun _ _ _ _ _ h => h.elim, fun _ _ _ _ h _ => h⟩
theorem own_ptr {g b : Nat} (h : Value.pointer (some ⟨g, 0, none⟩) = .pointer (some ⟨b, 0, none⟩)) : g = b := by
 injection h with h
 injection h with h
 injection h with h
def Own.holds {prot : Nat → Prop} (base : Nat) (t : TypeId) (cs : Value → List Value) (l : List UInt8) : Own prot := ⟨fun v u w => ∃ g A n, u = .pointer (some ⟨g, 0, none⟩) ∧ v = .slice A n n ∧ Bk w g t (cs v) ∧ Ob w base A n n l,
 fun v u b => u = .pointer (some ⟨b, 0, none⟩) ∨ v.ownBlock = some b,
 fun v u w b ⟨g, A, n, h1, h2, h3, h4⟩ h => (by
  rcases h with h | h
  ·rw [h1] at h; rw [← own_ptr h]; exact h3.lt
  ·subst h2; exact (h4.blk b h).2),
 fun v u w w' ⟨g, A, n, h1, h2, h3, h4⟩ hk => by
  refine ⟨g, A, n, h1, h2, h3.kept hk (.inl (.inl h1)), ?_⟩
  obtain ⟨A', n', e1, e2⟩ := (Own.of (prot := prot) base l).keep v u w w' ⟨A, n, h2, h4⟩ ⟨hk.os, hk.tape, hk.output, hk.size, fun b hb h => hk.block b hb (by rcases h with h | h; exact .inl (.inr h); exact .inr h)⟩
  rw [h2] at e1
  injection e1 with x y z
  subst x y
  exact e2⟩
theorem chgX {D : Nat → Prop} {w w' : World} (h : Ex w w') : Chg D w w' := Chg.ex h
section
variable {P : Program} {Q : Exit → Act → World → Prop}
def useB (ops : Array Oper) (n f : Nat) (cons : Nat → List Nat) (i j : Nat) : Bool := (decide (n ≤ j) || tw ops n f i j) && (List.range n).all fun c => !(cons c).contains j || c == i || tw ops n f c i
def lastB (n : Nat) (cons : Nat → List Nat) (j : Nat) : Bool := (List.range n).all fun c => !(cons c).contains j
def ownB (ops : Array Oper) (n m N f : Nat) (rel : Nat → Nat) (cons : Nat → List Nat) : Bool :=
 decide (n = ops.size) && Region.seqB .any ops (ops.size - n) n ((List.range ops.size).map fun i => decide (i < n)).toArray &&
 ((List.range n).all fun i => match ops[i]? with
  | none => false
  | some o => (match o.dst with | some s => decide (s < N) | none => true) && (o.after.all fun e => !Region.binds .any e || decide (e.on < i)) &&
   ((List.range n).all fun j => j == i || (match o.dst, (ops[j]?).bind (·.dst) with | some s, some s' => s != s' | _, _ => true)) &&
   (rel i == i || tw ops n f i (rel i) || decide (n ≤ rel i)) &&
   ((cons i).all fun j => decide (j < n + m) && (decide (n ≤ j) || tw ops n f i j) && (List.range n).all fun c => c == i || !(cons c).contains j)) &&
 ((List.range m).all fun t => decide (n ≤ rel (n + t)))
def Live (n : Nat) (cons : Nat → List Nat) (listed : Array Bool) (j : Nat) : Prop := (n ≤ j ∨ listed.getD j false = true) ∧ ∀ c, c < n → (cons c).contains j = true → listed.getD c false = false
structure OInv (ops : Array Oper) (n m : Nat) (a0 : Act) (w0 : World) {prot : Nat → Prop} (Φ : Nat → Own prot) (rel : Nat → Nat) (cons : Nat → List Nat) (vs0 : Nat → Value) (listed : Array Bool) (A : Act) (w : World) (vs : Nat → Value) : Prop where
 head : HeadInv .any ops n listed
 kept : Kept prot w0 w
 size : A.tmps.size = a0.tmps.size
 defers : A.defers = a0.defers
 out : ∀ s, (∀ j, j < n → ∀ o, ops[j]? = some o → listed.getD j false = true → o.dst ≠ some s) → A.eval (.tmp s) = a0.eval (.tmp s)
 ins : ∀ j, j < n → ∀ o s, ops[j]? = some o → listed.getD j false = true → o.dst = some s → A.eval (.tmp s) = vs j
 virt : ∀ j, n ≤ j → vs j = vs0 j
 word : ∀ j, j < n + m → Live n cons listed j → (Φ j).p (vs j) (vs (rel j)) w
 dis : ∀ j k, j < n + m → k < n + m → j ≠ k → Live n cons listed j → Live n cons listed k → ∀ b, (Φ j).fp (vs j) (vs (rel j)) b → ¬ (Φ k).fp (vs k) (vs (rel k)) b
 fresh : ∀ j, j < n + m → Live n cons listed j → ∀ b, (Φ j).fp (vs j) (vs (rel j)) b → ¬ prot b
structure AtO (ops : Array Oper) (n m f : Nat) (a0 : Act) (w0 : World) {prot : Nat → Prop} (Φ : Nat → Own prot) (rel : Nat → Nat) (cons : Nat → List Nat) (vs0 : Nat → Value) (i : Nat) (A : Act) (w : World) (vs : Nat → Value) : Prop where
 kept : Kept prot w0 w
 out : ∀ s, outB ops n i s = true → A.eval (.tmp s) = a0.eval (.tmp s)
 dep : ∀ j s, depB ops n i j s = true → A.eval (.tmp s) = vs j
 virt : ∀ j, n ≤ j → vs j = vs0 j
 word : ∀ j, j < n + m → useB ops n f cons i j = true → (Φ j).p (vs j) (vs (rel j)) w
 dis : ∀ j k, j < n + m → k < n + m → j ≠ k → useB ops n f cons i j = true → useB ops n f cons i k = true → ∀ b, (Φ j).fp (vs j) (vs (rel j)) b → ¬ (Φ k).fp (vs k) (vs (rel k)) b
 fresh : ∀ j, j < n + m → useB ops n f cons i j = true → ∀ b, (Φ j).fp (vs j) (vs (rel j)) b → ¬ prot b
def Eaten {prot : Nat → Prop} (Φ : Nat → Own prot) (rel : Nat → Nat) (cons : Nat → List Nat) (vs : Nat → Value) (i b : Nat) : Prop := ∃ j, (cons i).contains j = true ∧ (Φ j).fp (vs j) (vs (rel j)) b
theorem wp_own {id : Nat} {a : Act} {w : World} {l : List Oper} (prot : Nat → Prop) (n m N f : Nat) (rel : Nat → Nat) (cons : Nat → List Nat) (vs0 : Nat → Value) (hN : a.tmps.size = N) (hm : P.follows .mixedOrders = true) (hB : ownB l.toArray n m N f rel cons = true)
  (Φ : Nat → Own prot) (hprot : ∀ b, prot b → b < w.heap.size)
  (w0 : ∀ t, t < m → (Φ (n + t)).p (vs0 (n + t)) (vs0 (rel (n + t))) w)
  (d0 : ∀ t t', t < m → t' < m → t ≠ t' → ∀ b, (Φ (n + t)).fp (vs0 (n + t)) (vs0 (rel (n + t))) b → ¬ (Φ (n + t')).fp (vs0 (n + t')) (vs0 (rel (n + t'))) b)
  (f0 : ∀ t, t < m → ∀ b, (Φ (n + t)).fp (vs0 (n + t)) (vs0 (rel (n + t))) b → ¬ prot b)
  (step : ∀ i, i < n → ∀ o, l[i]? = some o → ∀ (A : Act) (w' : World) (vs : Nat → Value), AtO l.toArray n m f a w Φ rel cons vs0 i A w' vs →
   ∀ K : Act → World → Prop, Shut (∀ v w'', Chg (Eaten Φ rel cons vs i) w' w'' → (Φ i).p v (if rel i = i then v else vs (rel i)) w'' → (∀ b, (Φ i).fp v (if rel i = i then v else vs (rel i)) b → Eaten Φ rel cons vs i b ∨ w'.heap.size ≤ b) → K (A.put o.dst v) w'') →
    if Region.wanted o (yielded l.toArray A.tmps) = true then o.wp P A w' K Q else K (A.put o.dst undef) w')
  (fin : ∀ (vs : Nat → Value) (w' : World), Kept prot w w' → (∀ j, n ≤ j → vs j = vs0 j) → (∀ j, j < n + m → lastB n cons j = true → (Φ j).p (vs j) (vs (rel j)) w') →
   (∀ j k, j < n + m → k < n + m → j ≠ k → lastB n cons j = true → lastB n cons k = true → ∀ b, (Φ j).fp (vs j) (vs (rel j)) b → ¬ (Φ k).fp (vs k) (vs (rel k)) b) →
   (∀ j, j < n + m → lastB n cons j = true → ∀ b, (Φ j).fp (vs j) (vs (rel j)) b → ¬ prot b) → wpList P l.toArray Q (l.drop n) (putAll (l.take n) vs 0 a) w') : (Code.region id l.toArray true).wp P Q a w := by
 unfold ownB at hB
 simp only [Bool.and_eq_true, decide_eq_true_eq] at hB
 obtain ⟨⟨⟨hn, hseq⟩, hall⟩, hvirt⟩ := hB
 have hal : ∀ i, i < n → ∃ o, l.toArray[i]? = some o ∧ (∀ s, o.dst = some s → s < N) ∧ (∀ e ∈ o.after, Region.binds .any e = true → e.on < i) ∧ (∀ j, j < n → j ≠ i → ∀ oj, l.toArray[j]? = some oj → ∀ s s', o.dst = some s → oj.dst = some s' → s ≠ s') ∧
   (rel i = i ∨ tw l.toArray n f i (rel i) = true ∨ n ≤ rel i) ∧ (∀ j, (cons i).contains j = true → j < n + m ∧ (n ≤ j ∨ tw l.toArray n f i j = true) ∧ ∀ c, c < n → (cons c).contains j = true → c = i) := by
  intro i hi
  have h1 := List.all_eq_true.1 hall i (List.mem_range.2 hi)
  cases ho : l.toArray[i]? with
  | none => rw [ho] at h1; cases h1
  | some o =>
   rw [ho] at h1
   simp only [Bool.and_eq_true] at h1
   obtain ⟨⟨⟨⟨h2, h3⟩, h4⟩, h5⟩, h6⟩ := h1
   refine ⟨o, rfl, fun s hs => ?_, fun e he hb => ?_, fun j hj hji oj hoj s s' hs hs' => ?_, ?_, fun j hj => ?_⟩
   ·rw [hs] at h2; simpa using h2
   ·have := (Array.all_eq_true_iff_forall_mem.1 h3) e he
    rw [hb] at this
    simpa using this
   ·have h7 := List.all_eq_true.1 h4 j (List.mem_range.2 hj)
    rw [hoj, hs] at h7
    simp [hs', hji] at h7
    exact h7
   ·simp only [Bool.or_eq_true, beq_iff_eq, decide_eq_true_eq] at h5
    rcases h5 with (h5 | h5) | h5
    ·exact .inl h5
    ·exact .inr (.inl h5)
    ·exact .inr (.inr h5)
   ·have h7 := List.all_eq_true.1 h6 j (by simpa using hj)
    simp only [Bool.and_eq_true, Bool.or_eq_true, decide_eq_true_eq] at h7
    refine ⟨h7.1.1, h7.1.2, fun c hc hcj => ?_⟩
    have h8 := List.all_eq_true.1 h7.2 c (List.mem_range.2 hc)
    simp only [Bool.or_eq_true, beq_iff_eq, hcj, Bool.not_true, Bool.false_eq_true, or_false] at h8
    exact h8
 have hvr : ∀ j, n ≤ j → j < n + m → n ≤ rel j := fun j h1 h2 => by
  have := List.all_eq_true.1 hvirt (j - n) (List.mem_range.2 (by omega))
  simpa [Nat.add_sub_cancel' h1] using this
 have main : ∀ (q : Nat) (listed : Array Bool) (A : Act) (w' : World) (vs : Nat → Value), OInv l.toArray n m a w Φ rel cons vs0 listed A w' vs → cnt listed n = q → wpAny P .any l.toArray Q (q + (l.toArray.size - n)) listed A w' := by
  intro q
  induction q with
  | zero =>
   intro listed A w' vs inv hc
   have hl : ∀ i, i < n → listed.getD i true = true := cnt_zero n hc
   have hlf : ∀ i, i < n → listed.getD i false = true := fun i hi => by
    have := hl i hi
    have hsz : i < listed.size := by rw [inv.head.size]; omega
    simpa [hsz] using this
   have el : listed = ((List.range l.toArray.size).map fun i => decide (i < n)).toArray := by
    apply Array.ext
    ·simp [inv.head.size]
    ·intro i h1 h2
     by_cases hi : i < n
     ·have := hl i hi
      simp only [Array.getD_eq_getD_getElem?, Array.getElem?_eq_getElem h1, Option.getD_some] at this
      simp [this, hi]
     ·have := inv.head.tail i (by omega) (by rw [← inv.head.size]; exact h1)
      simp only [Array.getD_eq_getD_getElem?, Array.getElem?_eq_getElem h1, Option.getD_some] at this
      simp [this, hi]
   have eA : A = putAll (l.take n) vs 0 a := by
    refine act_ext (by rw [putAll_size, inv.size]) (by rw [putAll_defers, inv.defers]) fun s hs => ?_
    have H := putAll_eval A s (l.take n) vs 0 a (by rw [← inv.size]; exact hs) (fun j o hj hd => by
     have hjn : j < n := by
      have := (List.getElem?_eq_some_iff.1 hj).1
      simp at this
      omega
     have : l.toArray[j]? = some o := by simpa [hjn] using hj
     rw [Nat.zero_add]
     exact (inv.ins j hjn o s this (hlf j hjn) hd).symm)
    by_cases he : ∃ o ∈ l.take n, o.dst = some s
    ·exact (H.1 he).symm
    ·rw [H.2 (fun o h h' => he ⟨o, h, h'⟩)]
     refine inv.out s fun j hj o ho _ hd => he ⟨o, ?_, hd⟩
     rw [List.mem_take_iff_getElem]
     have hjl := (Array.getElem?_eq_some_iff.1 ho)
     obtain ⟨h1, h2⟩ := hjl
     exact ⟨j, by simp at h1; omega, by simpa using h2⟩
   rw [Nat.zero_add]
   have lv : ∀ j, lastB n cons j = true → j < n + m → Live n cons listed j := fun j hj hjm => ⟨by
    rcases Nat.lt_or_ge j n with h | h
    ·exact .inr (hlf j h)
    ·exact .inl h, fun c hc hcj => by
     have := List.all_eq_true.1 hj c (List.mem_range.2 hc)
     rw [hcj] at this
     cases this⟩
   have := wpAny_of_seq (md := .any) (Q' := Q) (P := P) (ops := l.toArray) (l.drop n) n listed A w' (fun j => by simp [List.getElem?_drop]) (by
    rw [el]
    have : (l.drop n).length = l.toArray.size - n := by simp
    rw [this]
    exact hseq) (by
    rw [eA]
    exact fin vs w' inv.kept inv.virt (fun j hj hl => inv.word j hj (lv j hl hj)) (fun j k hj hk hjk h1 h2 => inv.dis j k hj hk hjk (lv j h1 hj) (lv k h2 hk)) (fun j hj hl => inv.fresh j hj (lv j hl hj)))
   have e2 : (l.drop n).length = l.toArray.size - n := by simp
   rwa [e2] at this
  | succ q ih =>
   intro listed A w' vs inv hc
   rw [show q + 1 + (l.toArray.size - n) = (q + (l.toArray.size - n)) + 1 by omega]
   obtain ⟨i0, hi0, hun0, hprev⟩ := cnt_first n (by rw [hc]; omega)
   have hready0 : i0 ∈ Region.ready .any l.toArray listed := by
    obtain ⟨o, ho, _, hlt, _⟩ := hal i0 hi0
    refine mem_ready.2 ⟨hun0, o, ho, fun e he hb => ?_⟩
    have h1 := hlt e he hb
    have h2 := hprev e.on h1
    have hsz : e.on < listed.size := by rw [inv.head.size]; have := (Array.getElem?_eq_some_iff.1 ho).1; omega
    simpa [hsz] using h2
   refine ⟨fun h => (by rw [h] at hready0; cases hready0), fun i hi => ?_⟩
   obtain ⟨hun, o, ho, hdeps⟩ := mem_ready.1 hi
   have hin : i < n := by
    have hsz := (Array.getElem?_eq_some_iff.1 ho).1
    omega
   obtain ⟨o', ho', hsN, hlt, hother, hrel, hcons⟩ := hal i hin
   have : o' = o := Option.some.inj (ho'.symm.trans ho)
   subst this
   have unl : ∀ j, listed.getD j false = true → j ≠ i := fun j hj e => by subst e; rw [getD_both hun] at hj; cases hj
   have hsz : i < listed.size := by rw [inv.head.size]; exact (Array.getElem?_eq_some_iff.1 ho).1
   have outs : ∀ s', outB l.toArray n i s' = true → A.eval (.tmp s') = a.eval (.tmp s') := fun s' hs' => inv.out s' fun j hj oj hoj hlj hdj => by
     have h1 := List.all_eq_true.1 hs' j (List.mem_range.2 hj)
     have hji := unl j hlj
     rw [hoj] at h1
     simp only [Option.bind_some, hdj] at h1
     simp only [Bool.or_eq_true, beq_iff_eq, bne_self_eq_false, Bool.false_eq_true, false_or] at h1
     rcases h1 with h1 | h1
     ·exact hji h1
     ·obtain ⟨oj', hoj', e, he, hb, hon⟩ := Region.waitsFor_spec h1
      have : oj' = oj := Option.some.inj (hoj'.symm.trans hoj)
      subst this
      have h2 := inv.head.closed j oj' hoj hlj e he hb
      rw [hon, getD_both hun] at h2
      cases h2
   have wl : ∀ j, Region.waitsFor .any l.toArray i j = true → listed.getD j false = true := fun j hw => by
     obtain ⟨oi, hoi, e, he, hb, hon⟩ := Region.waitsFor_spec hw
     have : oi = o' := Option.some.inj (hoi.symm.trans ho)
     subst this
     rw [← hon]
     exact hdeps e he hb
   have deps : ∀ j s', depB l.toArray n i j s' = true → A.eval (.tmp s') = vs j := fun j s' hs' => by
     simp only [depB, Bool.and_eq_true, decide_eq_true_eq] at hs'
     obtain ⟨⟨hj, hw⟩, hds⟩ := hs'
     have hlj := wl j hw
     cases hoj : l.toArray[j]? with
     | none => rw [hoj] at hds; simp at hds
     | some oj =>
      rw [hoj] at hds
      simp only [Option.bind_some, beq_iff_eq] at hds
      exact inv.ins j hj oj s' hoj hlj hds
   have lst' : ∀ j, j ≠ i → (listed.setIfInBounds i true).getD j false = listed.getD j false := fun j hj => getD_set_ne false (Ne.symm hj)
   -- what waits for i is not listed
   have wait : ∀ c, tw l.toArray n f c i = true → listed.getD c false = false := fun c hc => by
    cases hlc : listed.getD c false with
    | false => rfl
    | true =>
     have := tw_listed inv.head f c i (fun k' hk' => by
      obtain ⟨ok, hok, e, he, hb, hon⟩ := Region.waitsFor_spec hk'
      rw [← hon]
      exact inv.head.closed _ ok hok hlc e he hb) hc
     exact absurd rfl (unl _ this)
   have usable : ∀ j, useB l.toArray n f cons i j = true → Live n cons listed j := fun j hj => by
    simp only [useB, Bool.and_eq_true, Bool.or_eq_true, decide_eq_true_eq] at hj
    refine ⟨?_, fun c hc hcj => ?_⟩
    ·rcases hj.1 with h | h
     ·exact .inl h
     ·exact .inr (tw_listed inv.head f i j wl h)
    ·have := List.all_eq_true.1 hj.2 c (List.mem_range.2 hc)
     simp only [hcj, Bool.not_true, Bool.false_or, Bool.or_eq_true, beq_iff_eq] at this
     rcases this with h | h
     ·subst h; exact getD_both hun
     ·exact wait c h
   have eaten : ∀ j, (cons i).contains j = true → j < n + m ∧ Live n cons listed j := fun j hj => by
    obtain ⟨h1, h2, h3⟩ := hcons j hj
    refine ⟨h1, ?_, fun c hc hcj => ?_⟩
    ·rcases h2 with h | h
     ·exact .inl h
     ·exact .inr (tw_listed inv.head f i j wl h)
    ·rw [h3 c hc hcj]; exact getD_both hun
   have next : ∀ v w'', Chg (Eaten Φ rel cons vs i) w' w'' → (Φ i).p v (if rel i = i then v else vs (rel i)) w'' → (∀ b, (Φ i).fp v (if rel i = i then v else vs (rel i)) b → Eaten Φ rel cons vs i b ∨ w'.heap.size ≤ b) → wpAny P .any l.toArray Q (q + (l.toArray.size - n)) (listed.setIfInBounds i true) (A.put o'.dst v) w'' := by
    intro v w'' hch hp hfp
    have hfe : ∀ b, prot b → ¬ Eaten Φ rel cons vs i b := fun b hb ⟨j, hj, hjb⟩ => by
     obtain ⟨h1, h2⟩ := eaten j hj
     exact inv.fresh j h1 h2 b hjb hb
    -- what lives behind the step, other than i
    have old : ∀ j, j < n + m → j ≠ i → Live n cons (listed.setIfInBounds i true) j → Live n cons listed j ∧ (cons i).contains j = false := fun j hjm hji hl => by
     refine ⟨⟨?_, fun c hc hcj => ?_⟩, ?_⟩
     ·rcases hl.1 with h | h
      ·exact .inl h
      ·exact .inr (by rw [lst' j hji] at h; exact h)
     ·have := hl.2 c hc hcj
      by_cases hci : c = i
      ·subst hci; exact getD_both hun
      ·rw [lst' c hci] at this; exact this
     ·cases hcj : (cons i).contains j with
      | false => rfl
      | true =>
       have := hl.2 i hin hcj
       simp [hsz] at this
    have rne : ∀ j, j < n + m → j ≠ i → Live n cons listed j → rel j ≠ i := fun j hjm hji hl e => by
     rcases Nat.lt_or_ge j n with h | h
     ·obtain ⟨_, _, _, _, _, hr, _⟩ := hal j h
      rcases hr with hr | hr | hr
      ·exact hji (hr.symm.trans e)
      ·rw [e] at hr
       have := wait j hr
       rcases hl.1 with h2 | h2
       ·omega
       ·rw [this] at h2; cases h2
      ·omega
     ·have := hvr j h hjm
      omega
    have hv : ∀ j, j < n + m → j ≠ i → Live n cons listed j → (if j = i then v else vs j) = vs j ∧ (if rel j = i then v else vs (rel j)) = vs (rel j) := fun j hjm hji hl => ⟨if_neg hji, if_neg (rne j hjm hji hl)⟩
    have hvi : (if i = i then v else vs i) = v ∧ (if rel i = i then v else vs (rel i)) = (if rel i = i then v else vs (rel i)) := ⟨if_pos rfl, rfl⟩
    have fi : ∀ k, k < n + m → k ≠ i → Live n cons listed k → (cons i).contains k = false → ∀ b, (Φ i).fp v (if rel i = i then v else vs (rel i)) b → ¬ (Φ k).fp (vs k) (vs (rel k)) b := fun k hk hki hl hck b hb hkb => by
     rcases hfp b hb with ⟨j, hj, hjb⟩ | h
     ·obtain ⟨h1, h2⟩ := eaten j hj
      refine inv.dis j k h1 hk (fun e => ?_) h2 hl b hjb hkb
      subst e
      rw [hj] at hck
      cases hck
     ·have := (Φ k).lt _ _ _ b (inv.word k hk hl) hkb
      omega
    refine ih _ _ _ (fun k => if k = i then v else vs k) ?_ ?_
    ·refine ⟨inv.head.set hi hin, inv.kept.chg hch hfe, by rw [size_put, inv.size], by rw [defers_put, inv.defers], fun s' hs' => ?_, fun j hj oj s' hoj hlj hdj => ?_, fun j hj => ?_, fun j hj hl => ?_, fun j k hj hk hjk h1 h2 b => ?_, fun j hj hl b => ?_⟩
     ·rw [Act.eval_put (fun d hd' e => by
       injection e with e
       subst e
       exact hs' i hin o' ho (by simp [hsz]) hd')]
      refine inv.out s' fun j hj oj hoj hlj => hs' j hj oj hoj (getD_set_true hlj)
     ·by_cases hji : j = i
      ·subst hji
       have : oj = o' := Option.some.inj (hoj.symm.trans ho)
       subst this
       rw [hdj, eval_put_same (by rw [inv.size, hN]; exact hsN s' hdj), if_pos rfl]
      ·have hlj' : listed.getD j false = true := by rw [lst' j hji] at hlj; exact hlj
       rw [Act.eval_put (fun d hd' e => by
        injection e with e
        exact hother j hj hji oj hoj d s' hd' hdj e.symm)]
       rw [if_neg hji]
       exact inv.ins j hj oj s' hoj hlj' hdj
     ·show (if j = i then v else vs j) = vs0 j
      rw [if_neg (by omega)]
      exact inv.virt j hj
     ·by_cases hji : j = i
      ·subst hji
       show (Φ j).p (if j = j then v else vs j) (if rel j = j then v else vs (rel j)) w''
       rw [if_pos rfl]
       exact hp
      ·obtain ⟨hlo, hnc⟩ := old j hj hji hl
       obtain ⟨e1, e2⟩ := hv j hj hji hlo
       show (Φ j).p (if j = i then v else vs j) (if rel j = i then v else vs (rel j)) w''
       rw [e1, e2]
       refine (Φ j).keep _ _ _ _ (inv.word j hj hlo) (Kept.of_chg hch fun b hb => ?_)
       rcases hb with hb | hb
       ·rintro ⟨k, hk, hkb⟩
        obtain ⟨h3, h4⟩ := eaten k hk
        refine inv.dis k j h3 hj (fun e => ?_) h4 hlo b hkb hb
        subst e
        rw [hk] at hnc
        cases hnc
       ·exact hfe b hb
     ·show (Φ j).fp (if j = i then v else vs j) (if rel j = i then v else vs (rel j)) b → ¬ (Φ k).fp (if k = i then v else vs k) (if rel k = i then v else vs (rel k)) b
      by_cases hji : j = i
      ·subst hji
       have hkj : k ≠ j := fun e => hjk e.symm
       obtain ⟨hlo, hnc⟩ := old k hk hkj h2
       obtain ⟨e1, e2⟩ := hv k hk hkj hlo
       rw [if_pos rfl, e1, e2]
       exact fi k hk hkj hlo hnc b
      ·obtain ⟨hlo, hnc⟩ := old j hj hji h1
       obtain ⟨e1, e2⟩ := hv j hj hji hlo
       rw [e1, e2]
       by_cases hki : k = i
       ·subst hki
        rw [if_pos rfl]
        exact fun x y => fi j hj hji hlo hnc b y x
       ·obtain ⟨hlk, _⟩ := old k hk hki h2
        obtain ⟨e3, e4⟩ := hv k hk hki hlk
        rw [e3, e4]
        exact inv.dis j k hj hk hjk hlo hlk b
     ·show (Φ j).fp (if j = i then v else vs j) (if rel j = i then v else vs (rel j)) b → ¬ prot b
      by_cases hji : j = i
      ·subst hji
       rw [if_pos rfl]
       intro hb hpb
       rcases hfp b hb with h | h
       ·exact hfe b hpb h
       ·have := hprot b hpb
        have := inv.kept.size
        omega
      ·obtain ⟨hlo, _⟩ := old j hj hji hl
       obtain ⟨e1, e2⟩ := hv j hj hji hlo
       rw [e1, e2]
       exact inv.fresh j hj hlo b
    ·have := cnt_set hun n
     rw [if_pos hin] at this
     omega
   have hs := step i hin o' (by simpa using ho) A w' vs ⟨inv.kept, outs, deps, inv.virt, fun j hj hu => inv.word j hj (usable j hu), fun j k hj hk hjk h1 h2 => inv.dis j k hj hk hjk (usable j h1) (usable k h2), fun j hj hu => inv.fresh j hj (usable j hu)⟩ (wpAny P .any l.toArray Q (q + (l.toArray.size - n)) (listed.setIfInBounds i true)) next
   unfold wpOp
   rw [ho]
   simp only
   split
   ·rename_i hw
    rw [if_pos hw] at hs
    exact .inl hs
   ·rename_i hw
    rw [if_neg hw] at hs
    exact hs
 refine wp_region_any hm ?_
 have nl : ∀ j, Live n cons (Array.replicate l.toArray.size false) j → n ≤ j := fun j hj => by
  rcases hj.1 with h | h
  ·exact h
  ·rw [getD_replicate_false] at h; cases h
 have H := main n (Array.replicate l.toArray.size false) a w.drew vs0 ⟨⟨by simp, fun j oj _ hl => (by rw [getD_replicate_false] at hl; cases hl), fun t _ ht => getD_in (by simpa using ht) (getD_replicate_false _ _)⟩,
  ⟨rfl, rfl, rfl, Nat.le_refl _, fun _ _ _ => rfl⟩, rfl, rfl, fun s _ => rfl, fun j hj o s _ hl => (by rw [getD_replicate_false] at hl; cases hl), fun _ _ => rfl,
  fun j hj hl => by
   have h1 := nl j hl
   have := w0 (j - n) (by omega)
   rw [Nat.add_sub_cancel' h1] at this
   exact (Φ j).keep _ _ _ _ this ⟨rfl, rfl, rfl, Nat.le_refl _, fun _ _ _ => rfl⟩,
  fun j k hj hk hjk h1 h2 => by
   have h3 := nl j h1
   have h4 := nl k h2
   have := d0 (j - n) (k - n) (by omega) (by omega) (by omega)
   rw [Nat.add_sub_cancel' h3, Nat.add_sub_cancel' h4] at this
   exact this,
  fun j hj hl => by
   have h1 := nl j hl
   have := f0 (j - n) (by omega)
   rw [Nat.add_sub_cancel' h1] at this
   exact this⟩ (cnt_init _ n (by omega))
 rw [show n + (l.toArray.size - n) = l.toArray.size by omega] at H
 exact H
end
end

section
attribute [local go_sem ↓] sliced_cut
attribute [local go_sem] cutA_zero
open Go.RowKit
theorem wanted_ifG {ops : Array Oper} {o : Oper} {tmps : Array Value} {X Y : Prop} (h : Region.wanted o (yielded ops tmps) = true) (hx : X) : if Region.wanted o (yielded ops tmps) = true then X else Y := by
 rw [if_pos h]
 exact hx
theorem whole_ (cs : List Value) : (cs.drop 0).take cs.length = cs := by rw [List.drop_zero]; exact List.take_of_length_le (Nat.le_refl _)
theorem Kept.size' {F : Nat → Prop} {w w' : World} {o : Obj} (h : Kept F (w.alloc o) w') : w.heap.size ≤ w'.heap.size := by
 have := h.size
 simp at this
 omega
theorem run_appB {P : Program} (w : World) {ts ty : TypeId} (bt : BT P ts 5) {base : Nat} {A : Option Addr} {n c : Nat} {l : List UInt8} (hown : Ob w base A n c l)
  {A2 : Option Addr} {n2 c2 : Nat} {l2 : List UInt8} (hr : Rb w A2 n2 c2 l2) (hm : n + n2 ≤ 1099511627776) (hbase : base ≤ w.heap.size) :
  ∃ A' n' c' w', (Builtin.append_ #[ts, ts] ty #[.slice A n c, .slice A2 n2 c2]).run P w = .ok (.slice A' n' c') w' ∧ Ob w' base A' n' c' (l ++ l2) ∧ Below base w w' ∧ w.grownBy w' (Value.slice A n c).ownBlock ∧ ((Value.slice A' n' c').ownBlock = (Value.slice A n c).ownBlock ∨ (Value.slice A' n' c').ownBlock = some w.heap.size) := by
 obtain ⟨i, hi, hz0, hz1, hz2⟩ := info_parts bt.info
 have hbel : ∀ {w'}, w.grownBy w' (Value.slice A n c).ownBlock → Below base w w' := fun hg => below_of_grown hg hbase fun k hk => (hown.blk k hk).1
 have fin : ∀ v' w', w'.ownsRow base 5 1 v' (n + n2) (bcs l ++ bcs l2) → ∃ A' n' c', v' = .slice A' n' c' ∧ Ob w' base A' n' c' (l ++ l2) := by
  intro v' w' h
  have hl : (l ++ l2).length = n + n2 := by rw [List.length_append, hown.1, hr.1]
  rw [← bcs_append] at h
  have h2 := h.2
  rcases h2 with ⟨hv, h0⟩ | ⟨g, cap, cur, hv, _⟩
  ·refine ⟨none, 0, 0, hv, by omega, ?_⟩
   rw [hv, h0] at h
   exact h
  ·refine ⟨_, _, _, hv, hl, ?_⟩
   rw [hv] at h
   exact h
 cases A2 with
 | none =>
  have hn2 : n2 = 0 := by
   rcases hr.2.2 with h | ⟨b, off, h, _⟩
   ·have := hr.1; rw [bcs_nil h] at this; simpa using this.symm
   ·cases h
  subst hn2
  have hl2 : l2 = [] := List.eq_nil_of_length_eq_zero hr.1
  subst hl2
  refine ⟨A, n, c, w, ?_, by simpa using hown, Below.refl _ _, World.grownBy.refl w _, .inl rfl⟩
  rcases hown.2.2 with ⟨hv, h0⟩ | ⟨g, cap, cur, hv, _, _, hnc, _⟩
  ·injection hv with h1 h2 h3
   subst h1 h2 h3
   simp [Builtin.append_, run_underlying bt.sl, sizeOf, typeInfo, hi, Builtin.lenOf, Builtin.firstCells]
  ·injection hv with h1 h2 h3
   subst h1 h3
   simp [Builtin.append_, run_underlying bt.sl, sizeOf, typeInfo, hi, Builtin.lenOf, Builtin.firstCells, hnc, storeCells]
 | some ad =>
  have hcells : ∀ j u, (bcs l2)[j]? = some u → w.cell? (ad.add j) = some u := by
   intro j u hu
   rcases hr.2.2 with h | ⟨b, off, h, _, hc⟩
   ·rw [h] at hu; simp at hu
   ·injection h with h
    subst h
    rw [add_plain]
    exact hc j u hu
  obtain ⟨v', w', hrun, h2, h3, _, h5⟩ := run_append_own_at (P := P) w base ts ty 5 i (.int .u8 0) 1 1 bt.sl hi hz0 hz1 hz2 rfl (by omega) (.slice A n c) n (bcs l) hown.2 ad n2 c2 (bcs l2)
   (by rw [bcs_length, hr.1]; omega) hcells (bcs_one l2) (by simp only [maxLen]; omega) (by omega) hbase
  obtain ⟨A', n', c', rfl, hob⟩ := fin v' w' h2
  exact ⟨A', n', c', w', hrun, hob, hbel h3, h3, h5⟩
theorem own_app {P : Program} {Q : Exit → Act → World → Prop} {w : World} {o : Oper} {a : Act} {K : Act → World → Prop} {ts : TypeId} (bt : BT P ts 5) (s x : Operand)
  (ho : o.op = .call { callee := .builtin .append, args := #[s, x], argTypes := #[ts, ts] }) {base : Nat} {A : Option Addr} {n c : Nat} {l : List UInt8} (hs : a.eval s = .slice A n c) (hown : Ob w base A n c l)
  {A2 : Option Addr} {n2 c2 : Nat} {l2 : List UInt8} (hx : a.eval x = .slice A2 n2 c2) (hr2 : Rb w A2 n2 c2 l2) (hm : n + n2 ≤ 1099511627776) (hbase : base ≤ w.heap.size)
  (h : ∀ A' n' c' w', Ob w' base A' n' c' (l ++ l2) → w.grownBy w' (Value.slice A n c).ownBlock → (∀ b, (Value.slice A' n' c').ownBlock = some b → (Value.slice A n c).ownBlock = some b ∨ w.heap.size ≤ b) → K (a.put o.dst (.slice A' n' c')) w') : o.wp P a w K Q := by
 obtain ⟨A', n', c', w', hrun, h2, h3, h4, h5⟩ := run_appB (P := P) w (ty := o.type) bt hown hr2 hm hbase
 unfold Oper.wp execOp
 simp only [ho, resolve, invoke, builtin, Sem.run_bind, Sem.run_pure, Result.andThen_ok, List.map_toArray, List.map_cons, List.map_nil, hs, hx, hrun]
 refine h A' n' c' w' h2 h4 (fun b hb => ?_)
 rcases h5 with h5 | h5
 ·exact .inl (by rw [← h5]; exact hb)
 ·rw [h5] at hb
  injection hb with hb
  exact .inr (by omega)
theorem refAdrBytes (six : Bool) (ah al : Nat) (w : World) (h1 : ah < 18446744073709551616) (h2 : al < 18446744073709551616) : Calls Tryz.prog 99 #[.agg #[.bool six, .int .u64 ah, .int .u64 al]] w (RetB w (adrB six ah al)) := by
 cases six
 ·go_enter Tryz.func99, Tryz.ntmps99
  go_wp2_with (go_at_call 58; refine (refBytes_any al 4 _ (by omega) (by omega)).mono ?_; rintro e w1 ⟨A2, n2, c2, bs2, d2, rfl, rfl, ho2⟩)
  go_ret
  exact RetB.mk (by simpa [adrB] using ho2.mono (base' := w.heap.size) (by simp)) (belowP (Below.allocS (Below.refl _ _) _) _ _)
 ·have hb0 : Bk (w.alloc (.cells #[.bool true, .int .u64 (ah : Int), .int .u64 (al : Int)] 53)) w.heap.size 53 [.bool true, .int .u64 (ah : Int), .int .u64 (al : Int)] := Bk.new w 53 _
  go_enter Tryz.func99, Tryz.ntmps99
  go_wp2
  refine wp_own (fun b => b < (w.alloc (.cells #[.bool true, .int .u64 (ah : Int), .int .u64 (al : Int)] 53)).heap.size) 8 0 16 2 (fun i => match i with | i => i) (fun i => match i with | 6 => [2] | 7 => [6] | _ => []) (fun i => match i with | _ => undef) rfl (by kernel_rfl) (by kernel_rfl) (fun i => match i with | 0 => Own.eq (.pointer (some ⟨w.heap.size, 1, none⟩)) | 1 => Own.eq (.int .u64 (ah : Int)) | 2 => Own.ob w.heap.size (dig ah 8) | 3 => Own.eq (.pointer (some ⟨w.heap.size, 2, none⟩)) | 4 => Own.eq (.int .u64 (al : Int)) | 5 => Own.ob w.heap.size (dig al 8) | 6 => Own.ob w.heap.size (dig ah 8 ++ dig al 8) | 7 => Own.ob w.heap.size (dig ah 8 ++ dig al 8) | _ => Own.any) (fun b h => h) ?_ ?_ ?_ ?_ ?_
  ·exact fun t ht => absurd ht (by omega)
  ·exact fun t t' ht => absurd ht (by omega)
  ·exact fun t ht => absurd ht (by omega)
  ·intro i hi o ho FA w' vs H K hK
   match i, hi, ho, H, hK with
   | 0, _, ho, H, hK => 
    obtain rfl := qoi ho
    have ev1 : FA.eval (.tmp 1) = .pointer (some ⟨w.heap.size, 0, none⟩) := H.out 1 (by kernel_rfl)
    have e1 : FA.tmps[1]?.getD undef = .pointer (some ⟨w.heap.size, 0, none⟩) := by simpa [Act.eval] using ev1
    replace ev1 := Lib.hid ev1
    go_simp
    exact hK.out _ _ (chgX (Ex.refl _)) rfl (fun _ h => h.elim)
   | 1, _, ho, H, hK => 
    obtain rfl := qoi ho
    have ev9 : FA.eval (.tmp 9) = .pointer (some ⟨w.heap.size, 1, none⟩) := (H.dep 0 9 (by kernel_rfl)).trans (H.word 0 (by omega) (by kernel_rfl))
    have e9 : FA.tmps[9]?.getD undef = .pointer (some ⟨w.heap.size, 1, none⟩) := by simpa [Act.eval] using ev9
    replace ev9 := Lib.hid ev9
    have cc := (hb0.kept H.kept hb0.lt).cell 1
    go_simp
    exact hK.out _ _ (chgX (Ex.refl _)) rfl (fun _ h => h.elim)
   | 2, _, ho, H, hK => 
    obtain rfl := qoi ho
    have ev10 : FA.eval (.tmp 10) = .int .u64 (ah : Int) := (H.dep 1 10 (by kernel_rfl)).trans (H.word 1 (by omega) (by kernel_rfl))
    have e10 : FA.tmps[10]?.getD undef = .int .u64 (ah : Int) := by simpa [Act.eval] using ev10
    replace ev10 := Lib.hid ev10
    go_simp
    refine (refBytes_any ah 8 _ (by omega) (by omega)).mono ?_
    rintro e w1 ⟨A2, n2, c2, bs2, d2, rfl, rfl, ho2⟩
    exact hK.out _ _ (chgX (Ex.plus_ _ _ _)) ⟨_, _, _, rfl, ho2.mono H.kept.size'⟩ (fun b hb => .inr (ho2.blk b hb).1)
   | 3, _, ho, H, hK => 
    obtain rfl := qoi ho
    have ev1 : FA.eval (.tmp 1) = .pointer (some ⟨w.heap.size, 0, none⟩) := H.out 1 (by kernel_rfl)
    have e1 : FA.tmps[1]?.getD undef = .pointer (some ⟨w.heap.size, 0, none⟩) := by simpa [Act.eval] using ev1
    replace ev1 := Lib.hid ev1
    go_simp
    exact hK.out _ _ (chgX (Ex.refl _)) rfl (fun _ h => h.elim)
   | 4, _, ho, H, hK => 
    obtain rfl := qoi ho
    have ev12 : FA.eval (.tmp 12) = .pointer (some ⟨w.heap.size, 2, none⟩) := (H.dep 3 12 (by kernel_rfl)).trans (H.word 3 (by omega) (by kernel_rfl))
    have e12 : FA.tmps[12]?.getD undef = .pointer (some ⟨w.heap.size, 2, none⟩) := by simpa [Act.eval] using ev12
    replace ev12 := Lib.hid ev12
    have cc := (hb0.kept H.kept hb0.lt).cell 2
    go_simp
    exact hK.out _ _ (chgX (Ex.refl _)) rfl (fun _ h => h.elim)
   | 5, _, ho, H, hK => 
    obtain rfl := qoi ho
    have ev13 : FA.eval (.tmp 13) = .int .u64 (al : Int) := (H.dep 4 13 (by kernel_rfl)).trans (H.word 4 (by omega) (by kernel_rfl))
    have e13 : FA.tmps[13]?.getD undef = .int .u64 (al : Int) := by simpa [Act.eval] using ev13
    replace ev13 := Lib.hid ev13
    go_simp
    refine (refBytes_any al 8 _ (by omega) (by omega)).mono ?_
    rintro e w1 ⟨A2, n2, c2, bs2, d2, rfl, rfl, ho2⟩
    exact hK.out _ _ (chgX (Ex.plus_ _ _ _)) ⟨_, _, _, rfl, ho2.mono H.kept.size'⟩ (fun b hb => .inr (ho2.blk b hb).1)
   | 6, _, ho, H, hK => 
    obtain rfl := qoi ho
    clear ho
    have ev11 := H.dep 2 11 (by kernel_rfl)
    have e11 : FA.tmps[11]?.getD undef = vs 2 := by simpa [Act.eval] using ev11
    replace ev11 := Lib.hid ev11
    have ev14 := H.dep 5 14 (by kernel_rfl)
    have e14 : FA.tmps[14]?.getD undef = vs 5 := by simpa [Act.eval] using ev14
    replace ev14 := Lib.hid ev14
    obtain ⟨A1, n1, c1, hv1, h1⟩ := H.word 2 (by omega) (by kernel_rfl)
    obtain ⟨A2, n2, c2, hv2, h2⟩ := H.word 5 (by omega) (by kernel_rfl)
    have hn1 : n1 ≤ 100 := by rw [← h1.1]; simp [dig_length]
    have hn2 : n2 ≤ 100 := by rw [← h2.1]; simp [dig_length]
    refine wanted_if rfl ?_
    refine own_app bt (.tmp 11) (.tmp 14) rfl (ev11.out.trans hv1) h1 (ev14.out.trans hv2) h2.rb (by omega) H.kept.size' ?_
    intro A3 n3 c3 w3 ho3 hg3 hf3
    refine hK.out _ _ (Chg.grown hg3 (fun k hk => ⟨2, rfl, by show (vs 2).ownBlock = some k; rw [hv1]; exact hk⟩)) ⟨_, _, _, rfl, ho3⟩ (fun b hb => ?_)
    rcases hf3 b hb with h | h
    ·exact .inl ⟨2, rfl, by show (vs 2).ownBlock = some b; rw [hv1]; exact h⟩
    ·exact .inr h
   | 7, _, ho, H, hK => 
    obtain rfl := qoi ho
    clear ho
    have ev15 := H.dep 6 15 (by kernel_rfl)
    have e15 : FA.tmps[15]?.getD undef = vs 6 := by simpa [Act.eval] using ev15
    replace ev15 := Lib.hid ev15
    have hw := H.word 6 (by omega) (by kernel_rfl)
    go_simp
    exact hK.out _ _ (chgX (Ex.refl _)) hw (fun b hb => .inl ⟨6, rfl, hb⟩)
   | (k + 8), hi, _, _, _ => exact absurd hi (by omega)
  intro vs w' hC hV hW hDis hFr
  have p0 : vs 0 = .pointer (some ⟨w.heap.size, 1, none⟩) := hW 0 (by omega) (by kernel_rfl)
  have p1 : vs 1 = .int .u64 (ah : Int) := hW 1 (by omega) (by kernel_rfl)
  have p3 : vs 3 = .pointer (some ⟨w.heap.size, 2, none⟩) := hW 3 (by omega) (by kernel_rfl)
  have p4 : vs 4 = .int .u64 (al : Int) := hW 4 (by omega) (by kernel_rfl)
  have p5 := hW 5 (by omega) (by kernel_rfl)
  have p7 := hW 7 (by omega) (by kernel_rfl)
  clear hW
  simp only [qta, qtb, qda, qdb, putAll, Nat.zero_add, Nat.reduceAdd, Act.put, qsT, qsZ, qsS, p0, p1, p3, p4]
  obtain ⟨A9, n9, c9, hv9, h9⟩ := p7
  have be := hC.below (Nat.le_refl _) (fun b h => h)
  go_wp2
  go_ret
  exact RetB.mk (by simpa [adrB] using h9) ((Below.allocS (Below.refl _ _) _).trans (be.mono (by simp)))
theorem ofNat_eq (x y : Nat) (h : x % 256 = y % 256) : UInt8.ofNat x = UInt8.ofNat y := by
 apply UInt8.toNat_inj.1
 simp [h]
theorem take_set_succ {α : Type} (l : List α) (o : Nat) (v : α) (h : o < l.length) : (l.set o v).take (o + 1) = l.take o ++ [v] := by
 rw [List.take_succ_eq_append_getElem (by simpa using h), List.take_set_of_le (Nat.le_refl _)]
 simp
theorem Bk.setMid {w : World} {g : Nat} {t : TypeId} : ∀ (new old : List Value) (o : Nat), Bk w g t old → o + new.length ≤ old.length → Bk (w.setCells g o new) g t (splice old o new) := by
 intro new
 induction new generalizing w with
 | nil => intro old o h hl; simp only [World.setCells, over_nil]; exact h
 | cons v r ih =>
  intro old o h hl
  simp only [List.length_cons] at hl
  have := ih (old.set o v) (o + 1) (h.set_ o v) (by simp; omega)
  have e : splice (old.set o v) (o + 1) r = splice old o (v :: r) := by
   unfold splice
   rw [take_set_succ old o v (by omega), List.drop_set_of_lt (by omega)]
   simp [Nat.add_assoc, Nat.add_comm 1]
  rw [e] at this
  exact this
theorem wpList_stM {P : Program} {w : World} {ops : Array Oper} {rest : List Oper} {o : Oper} {a : Act} {Q : Exit → Act → World → Prop} (ty : TypeId) (x y : Operand) (ho : o.op = .store ty x y) (hgd : o.guard = none)
  {g off : Nat} {t : TypeId} (new old : List Value) (hl : off + new.length ≤ old.length) (h1 : ∀ u ∈ new, u.oneCell' = true) (hx : a.eval x = .pointer (some ⟨g, off, none⟩)) (hy : a.eval y = .agg new.toArray) (hb : Bk w g t old)
  (hi : (P.info? ty).map (·.size) = some new.length) (h : ∀ w', Bk w' g t (splice old off new) → w.grownBy w' (some g) → wpList P ops Q rest (a.put o.dst undef) w') : wpList P ops Q (o :: rest) a w := by
 refine wpList_store_mid hgd ty x y ho g off new.toArray hx hy (fun j hj => ?_) (by simpa using hi) (all_oneCell_toArray h1) (h _ (Bk.setMid new old off hb hl) ?_)
 ·have hj' : off + j < old.length := by simp at hj; omega
  exact ⟨by rw [hb.cell, List.getElem?_eq_getElem hj']; rfl, hb.frozen _⟩
 ·generalize off = k
  clear hi h hb hy hl hx
  induction new generalizing w k with
  | nil => exact World.grownBy.refl _ _
  | cons v r ih => exact (grownBy_setCell _ _ _ _).trans (ih (fun u hu => h1 u (List.mem_cons_of_mem _ hu)) _)
def adC (six : Bool) (a b : Nat) : List Value := [.bool six, .int .u64 (a : Int), .int .u64 (b : Int)]
theorem szAd (six : Bool) (a b : Nat) : (Tryz.prog.info? 53).map (·.size) = some (adC six a b).length := by kernel_rfl
end

section
open Go.RowKit Go.ChangeShapes Go.WideShapes
structure ET (P : Program) (ts e : TypeId) (z : Value) (s by_ : Nat) : Prop where
 sl : P.underlying ts = some (.slice e)
 info : (P.info? e).map (fun i => (i.zero, i.size, i.bytes)) = some (some z, s, by_)
 zs : z.cells.size = s
 pos : 0 < s
 small : by_ ≤ 1048576
def Rs (s : Nat) (w : World) (A : Option Addr) (n c : Nat) (cs : List Value) : Prop := cs.length = n * s ∧ n ≤ c ∧ Rd w w.heap.size A cs
def Os (e : TypeId) (s : Nat) (w : World) (base : Nat) (A : Option Addr) (n c : Nat) (cs : List Value) : Prop := w.ownsRow base e s (.slice A n c) n cs
theorem Rd.cutS {w : World} {B : Nat} {A : Option Addr} {cs : List Value} (h : Rd w B A cs) {s c k : Nat} (hc : cs.length ≤ c * s) : Rd w B (cutA A c k s) (cs.drop (k * s)) := by
 by_cases hk : cs.length ≤ k * s
 ·exact .inl (List.drop_eq_nil_of_le hk)
 rcases h with h | ⟨b, off, hA, hb, hcell⟩
 ·exact .inl (by simp [h])
 ·have hck : ¬ c = k := fun e => by subst e; exact hk hc
  refine .inr ⟨b, off + k * s, ?_, hb, fun i u hu => ?_⟩
  ·subst hA
   simp only [cutA, if_neg hck, Option.map_some, Addr.add]
   split
   ·simp_all
   ·rfl
  ·rw [Nat.add_assoc]
   rw [List.getElem?_drop] at hu
   exact hcell _ _ hu
theorem Rd.of_ownS {w : World} {A : Option Addr} {cs : List Value} {base : Nat} {e : TypeId} {s n c : Nat} (h : w.ownsRow base e s (.slice A n c) n cs) : Rd w w.heap.size A cs := by
 rcases Nat.eq_zero_or_pos n with h0 | h0
 ·subst h0
  exact .inl (List.eq_nil_of_length_eq_zero (by simpa using h.1))
 ·obtain ⟨g, cap, hv, _, hlt⟩ := h.form h0
  have hA : A = some ⟨g, 0, none⟩ := by injection hv
  subst hA
  refine .inr ⟨g, 0, rfl, hlt, fun i u hu => ?_⟩
  have := h.cells (g := g) rfl i u hu
  have hplain : (⟨g, 0, none⟩ : Addr).add i = ⟨g, 0 + i, none⟩ := by unfold Addr.add; split <;> simp_all
  rwa [hplain] at this
section
variable {s : Nat} {w w' : World} {base : Nat} {e : TypeId} {A : Option Addr} {n c : Nat} {cs : List Value}
theorem Rs.nil_ : Rs s w none 0 0 [] := ⟨by simp, Nat.le_refl _, .inl rfl⟩
theorem Rs.later (h : Rs s w A n c cs) (hb : Below w.heap.size w w') : Rs s w' A n c cs := ⟨h.1, h.2.1, (h.2.2.below hb).more hb.size⟩
theorem Rs.drew (h : Rs s w A n c cs) : Rs s w.drew A n c cs := h
theorem Rs.alloc (h : Rs s w A n c cs) (o : Obj) : Rs s (w.alloc o) A n c cs := ⟨h.1, h.2.1, (h.2.2.alloc (Nat.le_refl _) o).more (by simp)⟩
theorem Rs.plus_ (h : Rs s w A n c cs) (bs : List Obj) (d : Nat) : Rs s (plus w bs d) A n c cs := h.later (below_plus w bs d)
theorem Rs.take (h : Rs s w A n c cs) {k : Nat} (hk : k ≤ n) : Rs s w A k c (cs.take (k * s)) := ⟨by rw [List.length_take, h.1]; exact Nat.min_eq_left (Nat.mul_le_mul_right _ hk), Nat.le_trans hk h.2.1, h.2.2.take _⟩
theorem Rs.cut (h : Rs s w A n c cs) {k : Nat} (hk : k ≤ n) : Rs s w (cutA A c k s) (n - k) (c - k) (cs.drop (k * s)) :=
 ⟨by rw [List.length_drop, h.1, Nat.sub_mul], by have := h.2.1; omega, h.2.2.cutS (by rw [h.1]; exact Nat.mul_le_mul_right _ h.2.1)⟩
theorem Rs.grown (h : Rs s w A n c cs) {row : Option Nat} (hg : w.grownBy w' row) (hr : ∀ a, A = some a → some a.block ≠ row) : Rs s w' A n c cs := by
 refine ⟨h.1, h.2.1, ?_⟩
 rcases h.2.2 with h' | ⟨b, off, hA, hbl, hc⟩
 ·exact .inl h'
 ·exact .inr ⟨b, off, hA, Nat.lt_of_lt_of_le hbl hg.size, fun i u hu => (World.cell?_of_block (hg.block b hbl (hr _ hA))).trans (hc i u hu)⟩
theorem Rs.at_ (h : Rs s w A n c cs) (hn : 0 < n) (hs : 0 < s) : ∃ b off, A = some ⟨b, off, none⟩ ∧ b < w.heap.size ∧ ∀ i u, cs[i]? = some u → w.cell? ⟨b, off + i, none⟩ = some u :=
 h.2.2.at_ (by rw [h.1]; exact Nat.mul_pos hn hs)
theorem Os.rs (h : Os e s w base A n c cs) : Rs s w A n c cs := by
 refine ⟨h.1, ?_, Rd.of_ownS h⟩
 rcases h.2 with ⟨hv, h0⟩ | ⟨g, cap, cur, hv, _, _, hnc, _⟩
 ·omega
 ·injection hv with _ _ h3
  omega
theorem Os.nil_ : Os e s w base none 0 0 [] := World.ownsRow_nil w base _ s
theorem Os.blk (h : Os e s w base A n c cs) : ∀ k, (Value.slice A n c).ownBlock = some k → base ≤ k ∧ k < w.heap.size := h.lt
theorem Os.grown {row : Option Nat} (h : Os e s w base A n c cs) (hg : w.grownBy w' row) (hne : ∀ k, (Value.slice A n c).ownBlock = some k → row ≠ some k) : Os e s w' base A n c cs := by
 refine h.kept hg ?_
 cases hk : (Value.slice A n c).ownBlock with
 | none => exact .inl rfl
 | some k => exact .inr (fun e => hne k hk e.symm)
theorem Os.later (h : Os e s w base A n c cs) (hb : Below w.heap.size w w') : Os e s w' base A n c cs := h.grown (grownBy_of_below hb) (fun _ _ => by simp)
theorem Os.plus_ (h : Os e s w base A n c cs) (bs : List Obj) (d : Nat) : Os e s (plus w bs d) base A n c cs := h.later (below_plus w bs d)
theorem Os.mono {base' : Nat} (h : Os e s w base A n c cs) (hb : base' ≤ base) : Os e s w base' A n c cs := by
 refine ⟨h.1, ?_⟩
 rcases h.2 with h2 | ⟨g, cap, cur, hv, hg, hr⟩
 ·exact .inl h2
 ·exact .inr ⟨g, cap, cur, hv, by omega, hr⟩
end
theorem Os.lit (w : World) {base s : Nat} {e : TypeId} (hb : base ≤ w.heap.size) (cs : Array Value) (n : Nat) (hn : cs.size = n * s) (hm : n ≤ maxLen) : Os e s (w.alloc (.cells cs e)) base (some ⟨w.heap.size, 0, none⟩) n n cs.toList :=
 ⟨by simpa using hn, .inr ⟨w.heap.size, n, cs, rfl, hb, heap_alloc_new w _, Nat.le_refl _, hm, hn, List.take_of_length_le (by simp [hn])⟩⟩
theorem Rs.of_bk {w : World} {g s n c : Nat} {t : TypeId} {cs : List Value} (h : Bk w g t cs) (hn : cs.length = n * s) (hc : n ≤ c) : Rs s w (some ⟨g, 0, none⟩) n c cs :=
 ⟨hn, hc, .inr ⟨g, 0, rfl, h.lt, fun i u hu => by rw [Nat.zero_add]; exact (h.cell i).trans hu⟩⟩
theorem run_appS {P : Program} (w : World) {ts ty e : TypeId} {z : Value} {s by_ : Nat} (et : ET P ts e z s by_) {base : Nat} {A : Option Addr} {n c : Nat} {l : List Value} (hown : Os e s w base A n c l)
  {A2 : Option Addr} {n2 c2 : Nat} {l2 : List Value} (hr : Rs s w A2 n2 c2 l2) (h1 : ∀ u ∈ l2, u.oneCell' = true) (hm : n + n2 ≤ 134217728) (hbase : base ≤ w.heap.size) :
  ∃ A' n' c' w', (Builtin.append_ #[ts, ts] ty #[.slice A n c, .slice A2 n2 c2]).run P w = .ok (.slice A' n' c') w' ∧ n' = n + n2 ∧ Os e s w' base A' n' c' (l ++ l2) ∧ Below base w w' ∧ w.grownBy w' (Value.slice A n c).ownBlock := by
 obtain ⟨i, hi, hz0, hz1, hz2⟩ := info_parts et.info
 have hbel : ∀ {w'}, w.grownBy w' (Value.slice A n c).ownBlock → Below base w w' := fun hg => below_of_grown hg hbase fun k hk => (hown.blk k hk).1
 have fin : ∀ v' w', w'.ownsRow base e s v' (n + n2) (l ++ l2) → ∃ A' n' c', v' = .slice A' n' c' ∧ n' = n + n2 ∧ Os e s w' base A' n' c' (l ++ l2) := by
  intro v' w' h
  have h2 := h.2
  rcases h2 with ⟨hv, h0⟩ | ⟨g, cap, cur, hv, _⟩
  ·refine ⟨none, 0, 0, hv, h0.symm, ?_⟩
   rw [hv, h0] at h
   exact h
  ·refine ⟨_, _, _, hv, rfl, ?_⟩
   rw [hv] at h
   exact h
 cases A2 with
 | none =>
  have hl2 : l2 = [] := by
   rcases hr.2.2 with h | ⟨b, off, h, _⟩
   ·exact h
   ·cases h
  have hn2 : n2 = 0 := by
   have h3 := hr.1
   rw [hl2] at h3
   rcases Nat.eq_zero_or_pos n2 with h | h
   ·exact h
   ·have := Nat.mul_pos h et.pos
    simp at h3
    omega
  subst hn2
  subst hl2
  refine ⟨A, n, c, w, ?_, rfl, by simpa using hown, Below.refl _ _, World.grownBy.refl w _⟩
  rcases hown.2 with ⟨hv, h0⟩ | ⟨g, cap, cur, hv, _, _, hnc, _⟩
  ·injection hv with h1 h2 h3
   subst h1 h2 h3
   simp [Builtin.append_, run_underlying et.sl, sizeOf, typeInfo, hi, Builtin.lenOf, Builtin.firstCells]
  ·injection hv with h1 h2 h3
   subst h1 h3
   simp [Builtin.append_, run_underlying et.sl, sizeOf, typeInfo, hi, Builtin.lenOf, Builtin.firstCells, hnc, storeCells]
 | some ad =>
  have hcells : ∀ j u, l2[j]? = some u → w.cell? (ad.add j) = some u := by
   intro j u hu
   rcases hr.2.2 with h | ⟨b, off, h, _, hc⟩
   ·rw [h] at hu; simp at hu
   ·injection h with h
    subst h
    rw [add_plain]
    exact hc j u hu
  have hby : (n + n2) * by_ ≤ 140737488355328 := Nat.le_trans (Nat.mul_le_mul hm et.small) (by decide)
  obtain ⟨v', w', hrun, h2, h3, _, _⟩ := run_append_own_at (P := P) w base ts ty e i z s by_ et.sl hi hz0 hz1 hz2 et.zs et.pos (.slice A n c) n l hown ad n2 c2 l2
   hr.1 hcells h1 (by simp only [maxLen]; omega) hby hbase
  obtain ⟨A', n', c', rfl, hn', hob⟩ := fin v' w' h2
  exact ⟨A', n', c', w', hrun, hn', hob, hbel h3, h3⟩
theorem wpList_appS {P : Program} {w : World} {ops : Array Oper} {rest : List Oper} {o : Oper} {a : Act} {Q : Exit → Act → World → Prop} {ts e : TypeId} {z : Value} {sz by_ : Nat} (et : ET P ts e z sz by_) (hgd : o.guard = none) (s x : Operand)
  (ho : o.op = .call { callee := .builtin .append, args := #[s, x], argTypes := #[ts, ts] })
  {base : Nat} {A : Option Addr} {n c : Nat} {l : List Value} (hs : a.eval s = .slice A n c) (hown : Os e sz w base A n c l)
  {A2 : Option Addr} {n2 c2 : Nat} {l2 : List Value} (hx : a.eval x = .slice A2 n2 c2) (hr : Rs sz w A2 n2 c2 l2) (h1 : ∀ u ∈ l2, u.oneCell' = true) (hm : n + n2 ≤ 134217728) (hbase : base ≤ w.heap.size)
  (h : ∀ A' n' c' w', n' = n + n2 → Os e sz w' base A' n' c' (l ++ l2) → Below base w w' → w.grownBy w' (Value.slice A n c).ownBlock → wpList P ops Q rest (a.put o.dst (.slice A' n' c')) w') : wpList P ops Q (o :: rest) a w := by
 refine wpList_plain hgd fun _ hK => ?_
 obtain ⟨A', n', c', w', hrun, h0, h2, h3, h4⟩ := run_appS (P := P) w (ty := o.type) et hown hr h1 hm hbase
 unfold Oper.wp execOp
 simp only [ho, resolve, invoke, builtin, Sem.run_bind, Sem.run_pure, Result.andThen_ok, List.map_toArray, List.map_cons, List.map_nil, hs, hx, hrun]
 exact hK _ _ (h A' n' c' w' h0 h2 h3 h4)
def prs (k : IntKind) (L : List (Int × Int)) : List Value := L.flatMap fun p => [.int .i64 p.1, .int k p.2]
theorem prs_length (k : IntKind) : ∀ L : List (Int × Int), (prs k L).length = L.length * 2
 | [] => rfl
 | p :: L => by
  have := prs_length k L
  simp only [prs, List.flatMap_cons, List.length_append, List.length_cons, List.length_nil] at this ⊢
  omega
theorem prs_append (k : IntKind) (a b : List (Int × Int)) : prs k (a ++ b) = prs k a ++ prs k b := by simp [prs]
theorem prs_one (k : IntKind) (L : List (Int × Int)) : ∀ u ∈ prs k L, u.oneCell' = true := by
 intro u hu
 simp only [prs, List.mem_flatMap] at hu
 obtain ⟨p, _, h⟩ := hu
 simp only [List.mem_cons, List.not_mem_nil, or_false] at h
 rcases h with rfl | rfl <;> rfl
theorem prs_at (k : IntKind) : ∀ (L : List (Int × Int)) (i : Nat) (h : i < L.length), (prs k L)[2 * i]? = some (.int .i64 L[i].1) ∧ (prs k L)[2 * i + 1]? = some (.int k L[i].2)
 | [], i, h => by simp at h
 | p :: L, 0, _ => by simp [prs]
 | p :: L, i + 1, h => by
  have := prs_at k L i (by simpa using h)
  simp only [prs, List.flatMap_cons] at this ⊢
  rw [show 2 * (i + 1) = 2 * i + 1 + 1 by omega]
  simpa using this
end

section
open Go.RowKit
def upd (k : Nat) (p : MP) (f : Nat → MP) : Nat → MP := fun j => bif Nat.beq j k then p else f j
theorem upd_same (k : Nat) (p : MP) (f : Nat → MP) : upd k p f k = p := by simp [upd]
theorem upd_ne {j k : Nat} (h : j ≠ k) (p : MP) (f : Nat → MP) : upd k p f j = f j := by
 have : Nat.beq j k = false := by
  cases hb : Nat.beq j k with
  | false => rfl
  | true => exact absurd (Nat.eq_of_beq_eq_true hb) h
 simp [upd, this]
theorem eval_tmp (a : Act) (s : Nat) : a.eval (.tmp s) = a.tmps[s]?.getD undef := by simp [Act.eval]
section
variable {P : Program} {Q : Exit → Act → World → Prop}
def StepOk (body : Nat → Oper → Act → World → MP → Prop) (l : List Oper) (n : Nat) (a : Act) (w : World) (φs : Nat → MP) (i : Nat) (φ : MP) : Prop :=
 ∀ o, l[i]? = some o → ∀ (A : Act) (x : Ext), (∀ s, outB l.toArray n i s = true → A.eval (.tmp s) = a.eval (.tmp s)) → (∀ j s, depB l.toArray n i j s = true → (φs j).p (A.eval (.tmp s)) (plus w x.bs x.d)) → body i o A (plus w x.bs x.d) φ
def Steps (fin : (Nat → MP) → Prop) (body : Nat → Oper → Act → World → MP → Prop) (l : List Oper) (n : Nat) (a : Act) (w : World) : Nat → Nat → (Nat → MP) → Prop
 | 0, _, φs => fin φs
 | r + 1, i, φs => ∃ φ, StepOk body l n a w φs i φ ∧ Steps fin body l n a w r (i + 1) (upd i φ φs)
variable {fin : (Nat → MP) → Prop} {body : Nat → Oper → Act → World → MP → Prop}
theorem Steps.all {l : List Oper} {n : Nat} {a : Act} {w : World} (hdep : ∀ i, i < n → ∀ j s, depB l.toArray n i j s = true → j < i) : ∀ (r i : Nat) (φs : Nat → MP), i + r = n → Steps fin body l n a w r i φs → (∀ j, j < i → StepOk body l n a w φs j (φs j)) →
  ∃ Φ : Nat → MP, (∀ i, i < n → StepOk body l n a w Φ i (Φ i)) ∧ fin Φ
 | 0, i, φs, hi, hs, hd => ⟨φs, fun j hj => hd j (by omega), hs⟩
 | r + 1, i, φs, hi, hs, hd => by
  obtain ⟨φ, h1, h2⟩ := hs
  refine Steps.all hdep r (i + 1) (upd i φ φs) (by omega) h2 fun j hj => ?_
  have conv : ∀ k (ψ : MP), k ≤ i → k < n → StepOk body l n a w φs k ψ → StepOk body l n a w (upd i φ φs) k ψ := by
   intro k ψ hk hkn h o ho A x hO hD
   refine h o ho A x hO (fun j' s hj' => ?_)
   have hlt := hdep k hkn j' s hj'
   have := hD j' s hj'
   rwa [upd_ne (by omega)] at this
  by_cases hji : j = i
  ·subst hji
   rw [upd_same]
   exact conv j φ (Nat.le_refl _) (by omega) h1
  ·rw [upd_ne hji]
   exact conv j (φs j) (by omega) (by omega) (hd j (by omega))
theorem all_dep {ops : Array Oper} {n : Nat} {g : Nat → Oper → Bool} (hall : ((List.range n).all fun i => match ops[i]? with
  | none => false
  | some o => (match o.dst with | some s => g s o | none => false) && (o.after.all fun e => !Region.binds .any e || decide (e.on < i)) &&
   (List.range n).all fun j => j == i || (match (ops[j]?).bind (·.dst) with | some s => o.dst != some s | none => false)) = true) : ∀ i, i < n → ∀ j s, depB ops n i j s = true → j < i := by
 intro i hi j s hd
 have h1 := List.all_eq_true.1 hall i (List.mem_range.2 hi)
 simp only [depB, Bool.and_eq_true, decide_eq_true_eq] at hd
 obtain ⟨o, ho, e, he, hb, hon⟩ := Region.waitsFor_spec hd.1.2
 rw [ho] at h1
 simp only [Bool.and_eq_true] at h1
 have h3 := (Array.all_eq_true_iff_forall_mem.1 h1.1.2) e he
 rw [hb] at h3
 have : e.on < i := by simpa using h3
 omega
def bodyS (P : Program) (Q : Exit → Act → World → Prop) (l : List Oper) (i : Nat) (o : Oper) (A : Act) (w : World) (φ : MP) : Prop :=
 ∀ K : Act → World → Prop, Shut (∀ v w', Ex w w' → φ.p v w' → K (A.put o.dst v) w') → if Region.wanted o (yielded l.toArray A.tmps) = true then o.wp P A w K Q else K (A.put o.dst undef) w
def bodyE (P : Program) (Q : Exit → Act → World → Prop) (l : List Oper) (pu : List Nat) (i : Nat) (o : Oper) (A : Act) (w : World) (φ : MP) : Prop :=
 if pu.contains i = true then ∃ v, Yields P l.toArray o v A ∧ φ.p v w else bodyS P (NoPanic Q) l i o A w φ
def finS (P : Program) (Q : Exit → Act → World → Prop) (l : List Oper) (n : Nat) (a : Act) (w : World) (φs : Nat → MP) : Prop :=
 ∀ (vs : Nat → Value) (x : Ext), (∀ i, i < n → (φs i).p (vs i) (plus w x.bs x.d)) → wpList P l.toArray Q (l.drop n) (putAll (l.take n) vs 0 a) (plus w x.bs x.d)
theorem wp_relS {id : Nat} {a : Act} {w : World} {l : List Oper} (n N : Nat) (hN : a.tmps.size = N) (hm : P.follows .mixedOrders = true) (hB : relB l.toArray n N = true)
  (h : Steps (finS P Q l n a w) (bodyS P Q l) l n a w n 0 (fun _ => MP.any)) : (Code.region id l.toArray true).wp P Q a w := by
 have hdep : ∀ i, i < n → ∀ j s, depB l.toArray n i j s = true → j < i := by
  have hB' := hB
  unfold relB at hB'
  simp only [Bool.and_eq_true] at hB'
  exact all_dep (g := fun s _ => decide (s < N)) (by exact hB'.2)
 obtain ⟨Φ, h1, h2⟩ := Steps.all hdep n 0 _ (by omega) h (fun j hj => absurd hj (by omega))
 exact wp_rel n N hN hm hB Φ (fun i hi o ho A x hO hD K hK => h1 i hi o ho A x hO hD K hK) h2
theorem wp_relES {id : Nat} {a : Act} {w : World} {l : List Oper} (n N : Nat) (pu : List Nat) (hN : a.tmps.size = N) (hm : P.follows .mixedOrders = true) (hB : relE l.toArray n N pu = true)
  (h : Steps (finS P (NoPanic Q) l n a w) (bodyE P Q l pu) l n a w n 0 (fun _ => MP.any)) : (Code.region id l.toArray true).wp P Q a w := by
 have hdep : ∀ i, i < n → ∀ j s, depB l.toArray n i j s = true → j < i := by
  have hB' := hB
  unfold relE at hB'
  simp only [Bool.and_eq_true] at hB'
  exact all_dep (g := fun s _ => decide (s < N)) (by exact hB'.1.2)
 obtain ⟨Φ, h1, h2⟩ := Steps.all hdep n 0 _ (by omega) h (fun j hj => absurd hj (by omega))
 exact wp_relE n N pu hN hm hB Φ (fun i hi o ho A x hO hD => h1 i hi o ho A x hO hD) h2
theorem Steps.one (φ : MP) {l : List Oper} {n : Nat} {a : Act} {w : World} {r i : Nat} {φs : Nat → MP} (i' : Nat) (hi : i + 1 = i')
  (h : ∀ o, l[i]? = some o → ∀ (A : Act) (x : Ext), (∀ s, outB l.toArray n i s = true → A.eval (.tmp s) = a.eval (.tmp s)) → (∀ j s, depB l.toArray n i j s = true → (φs j).p (A.eval (.tmp s)) (plus w x.bs x.d)) →
   ∀ K : Act → World → Prop, Shut (∀ v w', Ex (plus w x.bs x.d) w' → φ.p v w' → K (A.put o.dst v) w') → if Region.wanted o (yielded l.toArray A.tmps) = true then o.wp P A (plus w x.bs x.d) K Q else K (A.put o.dst undef) (plus w x.bs x.d))
  (h' : Steps fin (bodyS P Q l) l n a w r i' (upd i φ φs)) : Steps fin (bodyS P Q l) l n a w (r + 1) i φs := by
 subst hi
 exact ⟨φ, fun o ho A x hO hD => h o ho A x hO hD, h'⟩
theorem Steps.oneE (φ : MP) {l : List Oper} {n : Nat} {a : Act} {w : World} {r i : Nat} {φs : Nat → MP} {pu : List Nat} (i' : Nat) (hi : i + 1 = i') (hp : pu.contains i = false)
  (h : ∀ o, l[i]? = some o → ∀ (A : Act) (x : Ext), (∀ s, outB l.toArray n i s = true → A.eval (.tmp s) = a.eval (.tmp s)) → (∀ j s, depB l.toArray n i j s = true → (φs j).p (A.eval (.tmp s)) (plus w x.bs x.d)) →
   ∀ K : Act → World → Prop, Shut (∀ v w', Ex (plus w x.bs x.d) w' → φ.p v w' → K (A.put o.dst v) w') → if Region.wanted o (yielded l.toArray A.tmps) = true then o.wp P A (plus w x.bs x.d) K (NoPanic Q) else K (A.put o.dst undef) (plus w x.bs x.d))
  (h' : Steps fin (bodyE P Q l pu) l n a w r i' (upd i φ φs)) : Steps fin (bodyE P Q l pu) l n a w (r + 1) i φs := by
 subst hi
 refine ⟨φ, fun o ho A x hO hD => ?_, h'⟩
 unfold bodyE
 rw [if_neg (by rw [hp]; decide)]
 exact h o ho A x hO hD
theorem Steps.oneP (v : Value) {l : List Oper} {n : Nat} {a : Act} {w : World} {r i : Nat} {φs : Nat → MP} {pu : List Nat} (i' : Nat) (hi : i + 1 = i') (hp : pu.contains i = true)
  (h : ∀ o, l[i]? = some o → ∀ (A : Act) (x : Ext), (∀ s, outB l.toArray n i s = true → A.eval (.tmp s) = a.eval (.tmp s)) → (∀ j s, depB l.toArray n i j s = true → (φs j).p (A.eval (.tmp s)) (plus w x.bs x.d)) → Yields P l.toArray o v A)
  (h' : Steps fin (bodyE P Q l pu) l n a w r i' (upd i (MP.eq v) φs)) : Steps fin (bodyE P Q l pu) l n a w (r + 1) i φs := by
 subst hi
 refine ⟨MP.eq v, fun o ho A x hO hD => ?_, h'⟩
 unfold bodyE
 rw [if_pos hp]
 exact ⟨v, h o ho A x hO hD, rfl⟩
theorem Steps.fin_ {l : List Oper} {n : Nat} {a : Act} {w : World} {i : Nat} {φs : Nat → MP} (h : ∀ (vs : Nat → Value) (x : Ext), (∀ i, i < n → (φs i).p (vs i) (plus w x.bs x.d)) → wpList P l.toArray Q (l.drop n) (putAll (l.take n) vs 0 a) (plus w x.bs x.d)) : Steps (finS P Q l n a w) body l n a w 0 i φs := h
end
/-! ### loads of one cell -/
theorem run_loadAt_one {P : Program} (w : World) (b o : Nat) (ty : TypeId) (v : Value) (d : TypeDesc) (hc : w.cell? ⟨b, o, none⟩ = some v) (hu : P.underlying ty = some d) (hd : d.isRow = false) :
  (Instr.loadAt ty (.pointer (some ⟨b, o, none⟩))).run P w = .ok v w := by
 have hagg : (isAgg ty).run P w = .ok false w := by
  unfold isAgg
  rw [Sem.run_bind, run_underlying hu w]
  cases d <;> simp_all
 simp [Instr.loadAt, Instr.sureAddr, loadVar, Sem.run_bind, hagg, run_load, hc]
theorem wp_ld1 {P : Program} {Q : Exit → Act → World → Prop} {o : Oper} {a : Act} {w : World} {K : Act → World → Prop} (ty : TypeId) (x : Operand) (ho : o.op = .load ty x) {g off : Nat} {t : TypeId} {cs : List Value} {v : Value} {d : TypeDesc}
  (hx : a.eval x = .pointer (some ⟨g, off, none⟩)) (hb : Bk w g t cs) (hv : cs[off]? = some v) (hu : P.underlying ty = some d) (hd : d.isRow = false) (h : K (a.put o.dst v) w) : o.wp P a w K Q := by
 unfold Oper.wp execOp
 simp only [ho, hx, Sem.run_bind, run_loadAt_one w g off ty v d ((hb.cell off).trans hv) hu hd, Result.andThen_ok]
 exact h
theorem wp_ldA {P : Program} {Q : Exit → Act → World → Prop} {o : Oper} {a : Act} {w : World} {K : Act → World → Prop} (ty : TypeId) (x : Operand) (ho : o.op = .load ty x) {g off : Nat} {t : TypeId} {cs : List Value} {d : TypeDesc} (part : List Value)
  (hx : a.eval x = .pointer (some ⟨g, off, none⟩)) (hb : Bk w g t cs) (hp : (cs.drop off).take part.length = part) (hu : P.underlying ty = some d) (hd : d.isRow = true) (hi : (P.info? ty).map (·.size) = some part.length) (h : K (a.put o.dst (.agg part.toArray)) w) : o.wp P a w K Q := by
 refine wp_load_mid ty x ho g off hx part d (fun j v hv => ?_) hu hd hi h
 rw [hb.cell]
 rw [← hp, List.getElem?_take] at hv
 split at hv
 ·rw [List.getElem?_drop] at hv; exact hv
 ·cases hv
theorem wpList_ld1 {P : Program} {w : World} {ops : Array Oper} {rest : List Oper} {o : Oper} {a : Act} {Q : Exit → Act → World → Prop} (ty : TypeId) (x : Operand) (ho : o.op = .load ty x) (hw : Region.wanted o (yielded ops a.tmps) = true) {g off : Nat} {t : TypeId} {cs : List Value} {v : Value} {d : TypeDesc}
  (hx : a.eval x = .pointer (some ⟨g, off, none⟩)) (hb : Bk w g t cs) (hv : cs[off]? = some v) (hu : P.underlying ty = some d) (hd : d.isRow = false) (h : wpList P ops Q rest (a.put o.dst v) w) : wpList P ops Q (o :: rest) a w := by
 unfold wpList
 rw [if_pos hw]
 exact .inl (wp_ld1 ty x ho hx hb hv hu hd h)
/-! ### stores of one cell -/
theorem run_storeAt_one {P : Program} (w : World) (ty : TypeId) (v : Value) {g off : Nat} {t : TypeId} {cs : List Value} (hb : Bk w g t cs) (hl : off < cs.length) (h1 : v.oneCell' = true) (hi : (P.info? ty).map (·.size) = some 1) :
  (Instr.storeAt ty (.pointer (some ⟨g, off, none⟩)) v).run P w = .ok () (w.setCell ⟨g, off, none⟩ v) := by
 have hv : v.cells = #[v] := by cases v <;> first | rfl | (simp [Value.oneCell'] at h1)
 have hst := run_store P w ((⟨g, off, none⟩ : Addr).add 0) v .plain h1
 rw [add_plain, Nat.add_zero, hb.cell, hb.frozen, List.getElem?_eq_getElem hl] at hst
 cases hq : P.info? ty with
 | none => simp [hq] at hi
 | some i =>
  have hs : i.size = 1 := by simpa [hq] using hi
  simp [Instr.storeAt, Instr.sureAddr, storeVar, sizeOf, typeInfo, hq, hv, hs, storeCells, add_plain, hst]
theorem wp_st1 {P : Program} {Q : Exit → Act → World → Prop} {o : Oper} {a : Act} {w : World} {K : Act → World → Prop} (ty : TypeId) (x y : Operand) (ho : o.op = .store ty x y) {g off : Nat} {t : TypeId} {cs : List Value} {v : Value}
  (hx : a.eval x = .pointer (some ⟨g, off, none⟩)) (hy : a.eval y = v) (hb : Bk w g t cs) (hl : off < cs.length) (h1 : v.oneCell' = true) (hi : (P.info? ty).map (·.size) = some 1)
  (h : ∀ w', Bk w' g t (cs.set off v) → w.grownBy w' (some g) → K (a.put o.dst undef) w') : o.wp P a w K Q := by
 unfold Oper.wp execOp
 simp only [ho, hx, hy, Sem.run_bind, run_storeAt_one w ty v hb hl h1 hi, Result.andThen_ok]
 exact h _ (hb.set_ off v) (grownBy_setCell _ _ _ _)
theorem wpList_st1 {P : Program} {w : World} {ops : Array Oper} {rest : List Oper} {o : Oper} {a : Act} {Q : Exit → Act → World → Prop} (ty : TypeId) (x y : Operand) (ho : o.op = .store ty x y) (hgd : o.guard = none) {g off : Nat} {t : TypeId} {cs : List Value} {v : Value}
  (hx : a.eval x = .pointer (some ⟨g, off, none⟩)) (hy : a.eval y = v) (hb : Bk w g t cs) (hl : off < cs.length) (h1 : v.oneCell' = true) (hi : (P.info? ty).map (·.size) = some 1)
  (h : ∀ w', Bk w' g t (cs.set off v) → w.grownBy w' (some g) → wpList P ops Q rest (a.put o.dst undef) w') : wpList P ops Q (o :: rest) a w :=
 wpList_plain hgd fun _ hK => wp_st1 ty x y ho hx hy hb hl h1 hi fun w' h2 h3 => hK _ _ (h w' h2 h3)
theorem qE {A : Act} {s : Nat} {v : Value} (h : A.eval (.tmp s) = v) : A.tmps[s]?.getD undef = v ∧ Go.RowKit.Hid (A.eval (.tmp s) = v) := ⟨(eval_tmp A s).symm.trans h, Go.Lib.hid h⟩
theorem qG {φ : MP} {W : World} {A : Act} {s : Nat} (h : φ.p (A.eval (.tmp s)) W) : ∃ u, φ.p u W ∧ A.tmps[s]?.getD undef = u ∧ Go.RowKit.Hid (A.eval (.tmp s) = u) := ⟨_, h, (eval_tmp A s).symm, Go.Lib.hid rfl⟩
theorem Steps.o1 {P : Program} {Q : Exit → Act → World → Prop} {fin : (Nat → MP) → Prop} (φ : MP) {l : List Oper} {n : Nat} {a : Act} {w : World} {r i : Nat} {φs : Nat → MP} (i' : Nat) (hi : i + 1 = i') {o : Oper} (ho : l[i]? = some o)
 (h : ∀ (A : Act) (x : Ext), (∀ s, outB l.toArray n i s = true → A.eval (.tmp s) = a.eval (.tmp s)) → (∀ j s, depB l.toArray n i j s = true → (φs j).p (A.eval (.tmp s)) (plus w x.bs x.d)) →
 ∀ K : Act → World → Prop, Shut (∀ v w', Ex (plus w x.bs x.d) w' → φ.p v w' → K (A.put o.dst v) w') → if Region.wanted o (yielded l.toArray A.tmps) = true then o.wp P A (plus w x.bs x.d) K Q else K (A.put o.dst undef) (plus w x.bs x.d))
 (h' : Steps fin (bodyS P Q l) l n a w r i' (upd i φ φs)) : Steps fin (bodyS P Q l) l n a w (r + 1) i φs := Steps.one φ i' hi (fun o2 h2 => by obtain rfl := qoi (ho.symm.trans h2); exact h) h'
theorem qk {p : Value → World → Prop} {K : Act → World → Prop} {A : Act} {d : Option Nat} {W : World} {v : Value} (h : Shut (∀ v w', Ex W w' → p v w' → K (A.put d v) w')) (hp : p v W) : K (A.put d v) W := h.out _ _ (Ex.refl _) hp
theorem qi {c v : Value} {w : World} (h : (MP.eq c).p v w) : v = c := h
theorem qe {A : Act} {s : Nat} {v : Value} (h : A.eval (.tmp s) = v) : A.tmps[s]?.getD undef = v := (eval_tmp A s).symm.trans h
theorem qo {P : Program} {Q : Exit → Act → World → Prop} {fin : (Nat → MP) → Prop} {φ : MP} {l : List Oper} {n : Nat} {a : Act} {w : World} {r i : Nat} {φs : Nat → MP} (i' : Nat) (hi : i + 1 = i') {o : Oper} (ho : l[i]? = some o)
 (h : ∀ (A : Act) (x : Ext), (∀ (s : Nat) (_ : outB l.toArray n i s = true := by kernel_rfl), A.eval (.tmp s) = a.eval (.tmp s)) → (∀ (j s : Nat) (_ : depB l.toArray n i j s = true := by kernel_rfl), (φs j).p (A.eval (.tmp s)) (plus w x.bs x.d)) →
 ∀ K : Act → World → Prop, Shut (∀ v w', Ex (plus w x.bs x.d) w' → φ.p v w' → K (A.put o.dst v) w') → if Region.wanted o (yielded l.toArray A.tmps) = true then o.wp P A (plus w x.bs x.d) K Q else K (A.put o.dst undef) (plus w x.bs x.d))
 (h' : Steps fin (bodyS P Q l) l n a w r i' (upd i φ φs)) : Steps fin (bodyS P Q l) l n a w (r + 1) i φs := Steps.o1 φ i' hi ho (fun A x hO hD => h A x hO hD) h'
theorem qm {P : Program} {Q : Exit → Act → World → Prop} {fin : (Nat → MP) → Prop} {v : Value} {l : List Oper} {n : Nat} {a : Act} {w : World} {r i : Nat} {φs : Nat → MP} (i' : Nat) (hi : i + 1 = i') {o : Oper} (ho : l[i]? = some o)
 (h : ∀ (A : Act) (x : Ext), (∀ (s : Nat) (_ : outB l.toArray n i s = true := by kernel_rfl), A.eval (.tmp s) = a.eval (.tmp s)) → (∀ (j s : Nat) (_ : depB l.toArray n i j s = true := by kernel_rfl), (φs j).p (A.eval (.tmp s)) (plus w x.bs x.d)) →
 ∀ K : Act → World → Prop, Shut (∀ v9 w', Ex (plus w x.bs x.d) w' → (MP.eq v).p v9 w' → K (A.put o.dst v9) w') → if Region.wanted o (yielded l.toArray A.tmps) = true then o.wp P A (plus w x.bs x.d) K Q else K (A.put o.dst undef) (plus w x.bs x.d))
 (h' : Steps fin (bodyS P Q l) l n a w r i' (upd i (MP.eq v) φs)) : Steps fin (bodyS P Q l) l n a w (r + 1) i φs := qo i' hi ho h h'
theorem qa {P : Program} {Q : Exit → Act → World → Prop} {fin : (Nat → MP) → Prop} {v : Value} {l : List Oper} {n : Nat} {a : Act} {w : World} {r i : Nat} {φs : Nat → MP} {c0 : Value} {o : Oper} (j0 s0 i' : Nat) (h' : Steps fin (bodyS P Q l) l n a w r i' (upd i (MP.eq v) φs)) (hi : i + 1 = i' := by rfl) (ho : l[i]? = some o := by rfl)
 (d0 : depB l.toArray n i j0 s0 = true := by kernel_rfl) (f0 : ∀ v w, (φs j0).p v w → v = c0 := by exact fun _ _ h => h)
 (h : ∀ (A : Act) (x : Ext) (K : Act → World → Prop), A.tmps[s0]?.getD undef = c0 → Shut (∀ v9 w', Ex (plus w x.bs x.d) w' → (MP.eq v).p v9 w' → K (A.put o.dst v9) w') → if Region.wanted o (yielded l.toArray A.tmps) = true then o.wp P A (plus w x.bs x.d) K Q else K (A.put o.dst undef) (plus w x.bs x.d) := by (intro A x K e0 hK; go_simp; exact qk hK rfl)) : Steps fin (bodyS P Q l) l n a w (r + 1) i φs := qm i' hi ho (fun A x hO hD K hK => h A x K ((eval_tmp A s0).symm.trans (f0 _ _ (hD j0 s0 d0))) hK) h'
theorem qb {P : Program} {Q : Exit → Act → World → Prop} {fin : (Nat → MP) → Prop} {v : Value} {l : List Oper} {n : Nat} {a : Act} {w : World} {r i : Nat} {φs : Nat → MP} {c0 : Value} {o : Oper} (s0 i' : Nat) (h' : Steps fin (bodyS P Q l) l n a w r i' (upd i (MP.eq v) φs)) (hi : i + 1 = i' := by rfl) (ho : l[i]? = some o := by rfl)
 (d0 : outB l.toArray n i s0 = true := by kernel_rfl) (f0 : a.eval (.tmp s0) = c0 := by first | (simp only [eval_tmp, qgT, qgS, qgZ, qoS]; done) | (simp only [eval_tmp, qgT, qgS, qgZ, qoS]; exact rfl))
 (h : ∀ (A : Act) (x : Ext) (K : Act → World → Prop), A.tmps[s0]?.getD undef = c0 → Shut (∀ v9 w', Ex (plus w x.bs x.d) w' → (MP.eq v).p v9 w' → K (A.put o.dst v9) w') → if Region.wanted o (yielded l.toArray A.tmps) = true then o.wp P A (plus w x.bs x.d) K Q else K (A.put o.dst undef) (plus w x.bs x.d) := by (intro A x K e0 hK; go_simp; exact qk hK rfl)) : Steps fin (bodyS P Q l) l n a w (r + 1) i φs := qm i' hi ho (fun A x hO hD K hK => h A x K ((eval_tmp A s0).symm.trans ((hO s0 d0).trans f0)) hK) h'
theorem qc {P : Program} {Q : Exit → Act → World → Prop} {fin : (Nat → MP) → Prop} {v : Value} {l : List Oper} {n : Nat} {a : Act} {w : World} {r i : Nat} {φs : Nat → MP} {c0 c1 : Value} {o : Oper} (j0 s0 j1 s1 i' : Nat) (h' : Steps fin (bodyS P Q l) l n a w r i' (upd i (MP.eq v) φs)) (hi : i + 1 = i' := by rfl) (ho : l[i]? = some o := by rfl)
 (d0 : depB l.toArray n i j0 s0 = true := by kernel_rfl) (f0 : ∀ v w, (φs j0).p v w → v = c0 := by exact fun _ _ h => h) (d1 : depB l.toArray n i j1 s1 = true := by kernel_rfl) (f1 : ∀ v w, (φs j1).p v w → v = c1 := by exact fun _ _ h => h)
 (h : ∀ (A : Act) (x : Ext) (K : Act → World → Prop), A.tmps[s0]?.getD undef = c0 → A.tmps[s1]?.getD undef = c1 → Shut (∀ v9 w', Ex (plus w x.bs x.d) w' → (MP.eq v).p v9 w' → K (A.put o.dst v9) w') → if Region.wanted o (yielded l.toArray A.tmps) = true then o.wp P A (plus w x.bs x.d) K Q else K (A.put o.dst undef) (plus w x.bs x.d) := by (intro A x K e0 e1 hK; go_simp; exact qk hK rfl)) : Steps fin (bodyS P Q l) l n a w (r + 1) i φs := qm i' hi ho (fun A x hO hD K hK => h A x K ((eval_tmp A s0).symm.trans (f0 _ _ (hD j0 s0 d0))) ((eval_tmp A s1).symm.trans (f1 _ _ (hD j1 s1 d1))) hK) h'
theorem qf {P : Program} {Q : Exit → Act → World → Prop} {fin : (Nat → MP) → Prop} {v : Value} {l : List Oper} {n : Nat} {a : Act} {w : World} {r i : Nat} {φs : Nat → MP} {c0 c1 : Value} {o : Oper} (s0 j1 s1 i' : Nat) (h' : Steps fin (bodyS P Q l) l n a w r i' (upd i (MP.eq v) φs)) (hi : i + 1 = i' := by rfl) (ho : l[i]? = some o := by rfl)
 (d0 : outB l.toArray n i s0 = true := by kernel_rfl) (f0 : a.eval (.tmp s0) = c0 := by first | (simp only [eval_tmp, qgT, qgS, qgZ, qoS]; done) | (simp only [eval_tmp, qgT, qgS, qgZ, qoS]; exact rfl)) (d1 : depB l.toArray n i j1 s1 = true := by kernel_rfl) (f1 : ∀ v w, (φs j1).p v w → v = c1 := by exact fun _ _ h => h)
 (h : ∀ (A : Act) (x : Ext) (K : Act → World → Prop), A.tmps[s0]?.getD undef = c0 → A.tmps[s1]?.getD undef = c1 → Shut (∀ v9 w', Ex (plus w x.bs x.d) w' → (MP.eq v).p v9 w' → K (A.put o.dst v9) w') → if Region.wanted o (yielded l.toArray A.tmps) = true then o.wp P A (plus w x.bs x.d) K Q else K (A.put o.dst undef) (plus w x.bs x.d) := by (intro A x K e0 e1 hK; (first | have ge := slot_of e1 | have ge := slot_un e1); first | (go_simp; exact qk hK rfl) | (rcases ge with ge | ge <;> (go_simp; exact qk hK rfl)))) : Steps fin (bodyS P Q l) l n a w (r + 1) i φs := qm i' hi ho (fun A x hO hD K hK => h A x K ((eval_tmp A s0).symm.trans ((hO s0 d0).trans f0)) ((eval_tmp A s1).symm.trans (f1 _ _ (hD j1 s1 d1))) hK) h'
theorem qg {P : Program} {Q : Exit → Act → World → Prop} {fin : (Nat → MP) → Prop} {v : Value} {l : List Oper} {n : Nat} {a : Act} {w : World} {r i : Nat} {φs : Nat → MP} {c0 c1 : Value} {o : Oper} (j0 s0 j1 s1 i' : Nat) (h' : Steps fin (bodyS P Q l) l n a w r i' (upd i (MP.eq v) φs)) (hi : i + 1 = i' := by rfl) (ho : l[i]? = some o := by rfl)
 (d0 : depB l.toArray n i j0 s0 = true := by kernel_rfl) (f0 : ∀ v w, (φs j0).p v w → v = c0 := by exact fun _ _ h => h) (d1 : depB l.toArray n i j1 s1 = true := by kernel_rfl) (f1 : ∀ v w, (φs j1).p v w → v = c1 := by exact fun _ _ h => h)
 (h : ∀ (A : Act) (x : Ext) (K : Act → World → Prop), A.tmps[s0]?.getD undef = c0 → A.tmps[s1]?.getD undef = c1 → Shut (∀ v9 w', Ex (plus w x.bs x.d) w' → (MP.eq v).p v9 w' → K (A.put o.dst v9) w') → if Region.wanted o (yielded l.toArray A.tmps) = true then o.wp P A (plus w x.bs x.d) K Q else K (A.put o.dst undef) (plus w x.bs x.d) := by (intro A x K e0 e1 hK; (first | have ge := slot_of e1 | have ge := slot_un e1); first | (go_simp; exact qk hK rfl) | (rcases ge with ge | ge <;> (go_simp; exact qk hK rfl)))) : Steps fin (bodyS P Q l) l n a w (r + 1) i φs := qm i' hi ho (fun A x hO hD K hK => h A x K ((eval_tmp A s0).symm.trans (f0 _ _ (hD j0 s0 d0))) ((eval_tmp A s1).symm.trans (f1 _ _ (hD j1 s1 d1))) hK) h'
theorem qh {P : Program} {Q : Exit → Act → World → Prop} {fin : (Nat → MP) → Prop} {v : Value} {l : List Oper} {n : Nat} {a : Act} {w : World} {r i : Nat} {φs : Nat → MP} {c0 c1 c2 : Value} {o : Oper} (j0 s0 j1 s1 j2 s2 i' : Nat) (h' : Steps fin (bodyS P Q l) l n a w r i' (upd i (MP.eq v) φs)) (hi : i + 1 = i' := by rfl) (ho : l[i]? = some o := by rfl)
 (d0 : depB l.toArray n i j0 s0 = true := by kernel_rfl) (f0 : ∀ v w, (φs j0).p v w → v = c0 := by exact fun _ _ h => h) (d1 : depB l.toArray n i j1 s1 = true := by kernel_rfl) (f1 : ∀ v w, (φs j1).p v w → v = c1 := by exact fun _ _ h => h) (d2 : depB l.toArray n i j2 s2 = true := by kernel_rfl) (f2 : ∀ v w, (φs j2).p v w → v = c2 := by exact fun _ _ h => h)
 (h : ∀ (A : Act) (x : Ext) (K : Act → World → Prop), A.tmps[s0]?.getD undef = c0 → A.tmps[s1]?.getD undef = c1 → A.tmps[s2]?.getD undef = c2 → Shut (∀ v9 w', Ex (plus w x.bs x.d) w' → (MP.eq v).p v9 w' → K (A.put o.dst v9) w') → if Region.wanted o (yielded l.toArray A.tmps) = true then o.wp P A (plus w x.bs x.d) K Q else K (A.put o.dst undef) (plus w x.bs x.d) := by (intro A x K e0 e1 e2 hK; (first | have ge := slot_of e2 | have ge := slot_un e2); first | (go_simp; exact qk hK rfl) | (rcases ge with ge | ge <;> (go_simp; exact qk hK rfl)))) : Steps fin (bodyS P Q l) l n a w (r + 1) i φs := qm i' hi ho (fun A x hO hD K hK => h A x K ((eval_tmp A s0).symm.trans (f0 _ _ (hD j0 s0 d0))) ((eval_tmp A s1).symm.trans (f1 _ _ (hD j1 s1 d1))) ((eval_tmp A s2).symm.trans (f2 _ _ (hD j2 s2 d2))) hK) h'
theorem bpl {w : World} {bs : List Obj} {d : Nat} : Below w.heap.size w (plus w bs d) := below_plus w bs d
theorem qy {p : Prop} (h : p) : Go.RowKit.Hid p := Go.Lib.hid h
theorem qL {P : Program} {w : World} {ops : Array Oper} {rest : List Oper} {o : Oper} {a : Act} {Q : Exit → Act → World → Prop} {g off : Nat} {t : TypeId} {cs : List Value} {v : Value} {d : TypeDesc} (ty : TypeId) (x : Operand) (hb : Bk w g t cs) (hu : P.underlying ty = some d) (h : wpList P ops Q rest (a.put o.dst v) w) (ho : o.op = .load ty x := by rfl) (hw : Region.wanted o (yielded ops a.tmps) = true := by rfl) (hx : a.eval x = .pointer (some ⟨g, off, none⟩) := by rfl) (hv : cs[off]? = some v := by rfl) (hd : d.isRow = false := by rfl) : wpList P ops Q (o :: rest) a w := wpList_ld1 ty x ho hw hx hb hv hu hd h
theorem qA {P : Program} {w : World} {ops : Array Oper} {rest : List Oper} {o : Oper} {a : Act} {Q : Exit → Act → World → Prop} {g : Nat} {t : TypeId} {cs : List Value} {d : TypeDesc} (ty : TypeId) (x : Operand) (hb : Bk w g t cs) (hu : P.underlying ty = some d) (hd : d.isRow = true) (hi : (P.info? ty).map (·.size) = some cs.length) (h : wpList P ops Q rest (a.put o.dst (.agg cs.toArray)) w) (ho : o.op = .load ty x := by rfl) (hgd : o.guard = none := by rfl) (hx : a.eval x = .pointer (some ⟨g, 0, none⟩) := by rfl) : wpList P ops Q (o :: rest) a w := wpList_ldA ty x ho hgd cs hx hb (whole_ _) hu hd hi h
theorem ql {P : Program} {Q : Exit → Act → World → Prop} {fin : (Nat → MP) → Prop} {v : Value} {l : List Oper} {n : Nat} {a : Act} {w : World} {r i : Nat} {φs : Nat → MP} {o : Oper} {g off : Nat} {t : TypeId} {cs : List Value} {d : TypeDesc} (j s i' : Nat) (ty : TypeId) (hb : Bk w g t cs) (hu : P.underlying ty = some d) (h' : Steps fin (bodyS P Q l) l n a w r i' (upd i (MP.eq v) φs)) (hi : i + 1 = i' := by rfl) (ho : l[i]? = some o := by rfl)
 (dk : depB l.toArray n i j s = true := by kernel_rfl) (fk : ∀ u w, (φs j).p u w → u = .pointer (some ⟨g, off, none⟩) := by exact fun _ _ h => h) (hop : o.op = .load ty (.tmp s) := by rfl) (hgd : o.guard = none := by rfl) (hv : cs[off]? = some v := by rfl) (hd : d.isRow = false := by rfl) : Steps fin (bodyS P Q l) l n a w (r + 1) i φs :=
 qm i' hi ho (fun A x hO hD K hK => wanted_if hgd (wp_ld1 ty (.tmp s) hop (fk _ _ (hD j s dk)) (hb.later (below_plus _ _ _)) hv hu hd (qk hK rfl))) h'
def MP.rs (s : Nat) (cs : List Value) : MP := ⟨fun v w => ∃ A n c, v = .slice A n c ∧ Rs s w A n c cs, fun _ _ _ ⟨A, n, c, h1, h2⟩ h => ⟨A, n, c, h1, h2.later h.below⟩⟩
def RetRs (s : Nat) (w : World) (cs : List Value) (e : Ending) (w' : World) : Prop := ∃ A n c bs d, e = .returned (.slice A n c) ∧ w' = plus w bs d ∧ Rs s (plus w bs d) A n c cs
theorem RetRs.mk {s : Nat} {w w' : World} {cs : List Value} {A : Option Addr} {n c : Nat} (h : Rs s w' A n c cs) (hb : Below w.heap.size w w') : RetRs s w cs (.returned (.slice A n c)) w' := by
 obtain ⟨bs, d, rfl⟩ := plus_of hb
 exact ⟨A, n, c, bs, d, rfl, rfl, h⟩
theorem Rs.range2 {w : World} {b off n c : Nat} {k : IntKind} {L : List (Int × Int)} (h : Rs 2 w (some ⟨b, off, none⟩) n c (prs k L)) (j : Nat) (hj : j < L.length) :
  w.cell? ⟨b, off + j * 2, none⟩ = some (.int .i64 L[j].1) ∧ w.cell? ⟨b, off + j * 2 + 1, none⟩ = some (.int k L[j].2) := by
 have hp := prs_at k L j hj
 rcases h.2.2 with h0 | ⟨b', off', hA, hb, hc⟩
 ·rw [h0] at hp; simp at hp
 ·injection hA with hA
  injection hA with e1 e2
  subst e1 e2
  rw [Nat.add_assoc, Nat.mul_comm]
  exact ⟨hc _ _ hp.1, hc _ _ hp.2⟩
def MP.ofs (e : TypeId) (s base : Nat) (cs : List Value) : MP := ⟨fun v w => ∃ A n, v = .slice A n n ∧ Os e s w base A n n cs, fun _ _ _ ⟨A, n, h1, h2⟩ h => ⟨A, n, h1, h2.later h.below⟩⟩
def MP.os (e : TypeId) (s base : Nat) (cs : List Value) : MP := ⟨fun v w => ∃ A n c, v = .slice A n c ∧ Os e s w base A n c cs, fun _ _ _ ⟨A, n, c, h1, h2⟩ h => ⟨A, n, c, h1, h2.later h.below⟩⟩
theorem run_appFS {P : Program} (w : World) {ts ty e : TypeId} {z : Value} {s by_ : Nat} (et : ET P ts e z s by_) {base : Nat} {A : Option Addr} {n : Nat} {l : List Value} (hown : Os e s w base A n n l)
  {A2 : Option Addr} {n2 c2 : Nat} {l2 : List Value} (hr2 : Rs s w A2 n2 c2 l2) (h1 : ∀ u ∈ l2, u.oneCell' = true) (hm : n + n2 ≤ 134217728) (hbase : base ≤ w.heap.size) :
  ∃ A' n' c' w', (Builtin.append_ #[ts, ts] ty #[.slice A n n, .slice A2 n2 c2]).run P w = .ok (.slice A' n' c') w' ∧ n' = n + n2 ∧ Os e s w' base A' n' c' (l ++ l2) ∧ Ex w w' := by
 obtain ⟨i, hi, hz0, hz1, hz2⟩ := info_parts et.info
 have hr := hown.rs
 have hl0 : ∀ {A : Option Addr} {n c : Nat} {l : List Value}, Rs s w A n c l → A = none → l = [] := by
  intro A n c l h e
  rcases h.2.2 with h' | ⟨b, off, h', _⟩
  ·exact h'
  ·rw [e] at h'; cases h'
 have hn0 : ∀ {A : Option Addr} {n c : Nat} {l : List Value}, Rs s w A n c l → l = [] → n = 0 := by
  intro A n c l h e
  have h3 := h.1
  rw [e] at h3
  rcases Nat.eq_zero_or_pos n with h | h
  ·exact h
  ·have := Nat.mul_pos h et.pos
   simp at h3
   omega
 have hsrc : Src P i.size ts (.slice A2 n2 c2) n2 l2 w := by
  rw [hz1]
  cases A2 with
  | none =>
   have hl2 := hl0 hr2 rfl
   obtain rfl := hn0 hr2 hl2
   subst hl2
   exact Src.ofNil w et.sl c2
  | some ad =>
   refine Src.ofSlice w et.sl ad n2 c2 l2 hr2.1 (fun j u hu => ?_) h1
   rcases hr2.2.2 with h | ⟨b, off, h, _, hc⟩
   ·rw [h] at hu; simp at hu
   ·injection h with h
    subst h
    rw [add_plain]
    exact hc j u hu
 by_cases h0 : n2 = 0
 ·subst h0
  obtain rfl : l2 = [] := List.eq_nil_of_length_eq_zero (by simpa using hr2.1)
  exact ⟨A, n, n, w, run_append_nothing w ts ts ty e i et.sl hi A n n (Nat.le_refl _) _ hsrc, rfl, by simpa using hown, Ex.refl _⟩
 ·have hold : (Builtin.firstCells i.size n (.slice A n n)).run P w.drew = .ok l.toArray w.drew := by
   rw [hz1]
   cases A with
   | none =>
    have hl := hl0 hr rfl
    subst hl
    exact run_firstCells_none w.drew s n n n
   | some ad =>
    refine run_firstCells_some w.drew s n ad n n l hr.1 (fun j u hu => ?_)
    rcases hr.2.2 with h | ⟨b, off, h, _, hc⟩
    ·rw [h] at hu; simp at hu
    ·injection h with h
     subst h
     rw [add_plain]
     exact hc j u hu
  have hby : (n + n2) * by_ ≤ 140737488355328 := Nat.le_trans (Nat.mul_le_mul hm et.small) (by decide)
  have H := run_append_grow_src (P := P) w ts ts ty e i z et.sl hi hz0 A n n l hold _ n2 l2 hsrc (by omega) (by omega) (growslice_fits (by omega) (by rw [hz2]; exact hby))
  have hlen : (l ++ l2).length = (n + n2) * s := by rw [List.length_append, hr.1, hr2.1, Nat.add_mul]
  have hge := grownCap_ge w (n + n2) n e
  refine ⟨_, _, _, _, H, rfl, ⟨hlen, .inr ⟨w.heap.size, _, _, rfl, hbase, heap_alloc_new w.drew _, hge, grownCap_le_maxLen w (n + n2) n e (by simp only [maxLen]; omega), ?_, ?_⟩⟩, Ex.of ((Below.refl _ _).drew.alloc (Nat.le_refl _) _)⟩
  ·simp only [Array.size_append, List.size_toArray, size_zeroCells, et.zs, hlen, ← Nat.add_mul]
   congr 1
   omega
  ·simp only [Array.toList_append]
   rw [← hlen]
   exact List.take_left
theorem wp_appFS {P : Program} {Q : Exit → Act → World → Prop} {w : World} {o : Oper} {a : Act} {K : Act → World → Prop} {ts e : TypeId} {z : Value} {s by_ : Nat} (et : ET P ts e z s by_) (sl x : Operand)
  (ho : o.op = .call { callee := .builtin .append, args := #[sl, x], argTypes := #[ts, ts] }) {base : Nat} {A : Option Addr} {n : Nat} {l : List Value} (hs : a.eval sl = .slice A n n) (hown : Os e s w base A n n l)
  {A2 : Option Addr} {n2 c2 : Nat} {l2 : List Value} (hx : a.eval x = .slice A2 n2 c2) (hr2 : Rs s w A2 n2 c2 l2) (h1 : ∀ u ∈ l2, u.oneCell' = true) (hm : n + n2 ≤ 134217728) (hbase : base ≤ w.heap.size)
  (h : ∀ A' n' c' w', n' = n + n2 → Os e s w' base A' n' c' (l ++ l2) → Ex w w' → K (a.put o.dst (.slice A' n' c')) w') : o.wp P a w K Q := by
 obtain ⟨A', n', c', w', hrun, h0, h2, h3⟩ := run_appFS (P := P) w (ty := o.type) et hown hr2 h1 hm hbase
 unfold Oper.wp execOp
 simp only [ho, resolve, invoke, builtin, Sem.run_bind, Sem.run_pure, Result.andThen_ok, List.map_toArray, List.map_cons, List.map_nil, hs, hx, hrun]
 exact h A' n' c' w' h0 h2 h3
end

end Go.Proofs.YtjiiloffgipfhaaGreatDoor
