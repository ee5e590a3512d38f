/- Texts of the law ConnsPlay, part 1. -/
import Derived.ProofKit
import Derived.OpenShut
import Derived.Below
import Derived.WalkKit
import Derived.WalkSpells
import Derived.Laws.OwnMore
import Derived.Deep.Draws
import Derived.Laws.Rows
import Derived.Lib.Hide
import Derived.Maps.AppendAt
import Derived.Deep.AppendLies
import Derived.Deep.QuietTactic
import Derived.BigQuiet
import Derived.ChangeSlices
import Derived.Deep.Fields
import Derived.Laws.CopyOwn
import Derived.StillTailTactics
import Derived.Deep.MidRow
import Derived.Deep.RegionHeld3
import Derived.Deep.Upon
import Derived.Deep.AppendSrc
import Derived.Laws.StructEq
import Derived.Maps.Keyed
import Derived.WalkLawsBesides
import Derived.Outline
import Derived.Deep.RegionLaw
import Derived.Deep.CutBlock
import Derived.Deep.Slices
import Derived.Test.YtenaiojddohbkaaRows
/- From a walk to the row of a law: whatever the arguments, the call returns true and changes nothing that was there. -/
namespace Go.Proofs.Ytenaiojddohbkaa
open Go.ChangeShapes Go.WideShapes Go.ChangeAt Go.RowKit

/-- All arguments read behind the call as they did before it. -/
theorem trodAll_below {H : Type} {enc : TypeId × Value → H} {P : Program} (hl : laidOutB P = true) {W W' : World} (hb : Below W.heap.size W W') :
    ∀ {ts : List TypeId} {vs : List Value} {ds : List (DataW H)} {ps : List MemPlace}, (ts.all fun t => P.readableRec t && decide (t < P.types.size)) = true →
      DataW.TrodAll enc P W 0 (fun _ => true) true ts vs ds ps → DataW.TrodAll enc P W' 0 (fun b => decide (b < W.heap.size)) true ts vs ds ps
  | [], vs, ds, ps, _, h => by
    obtain ⟨rfl, rfl, rfl⟩ := trodAll_nil h
    exact trodAll_mk0
  | t :: ts, vs, ds, ps, hr, h => by
    obtain ⟨v, vs', d, ds', p, q, rfl, rfl, rfl, h0, hs⟩ := trodAll_cons h
    simp only [List.all_cons, Bool.and_eq_true, decide_eq_true_eq] at hr
    have lt0 : ∀ x ∈ p, x.block < W.heap.size := by
      obtain ⟨m, hm⟩ := h0
      exact DataW.trod_lt m _ _ _ hm
    exact trodAll_cons_mk (Below.trod hl hr.1.1 hr.1.2 h0 hb lt0) (trodAll_below hl hb (by simpa using hr.2) hs)

/-- The lift: the law's walk, for every world and all arguments that can be read, gives what the row asks. -/
theorem lift {C : Checked} {os : Os} {f : FuncId} {fn : Func} {s : ChangeSpec} {H : Type} {enc : TypeId × Value → H} {tb : TypeId} (n : Nat)
    (own : ownKnob C.prog.godebug = none) (started : os.Started) (noInit : C.prog.inits.idxOf? f = none) (hfn : C.prog.funcs[f]? = some fn)
    (witness : ∃ (w : World) (tape : Tape) (i : Input), w.os = os ∧ (w.forCall tape i).Shaped C.prog ∧ i.vars = [] ∧ Input.okWide C.prog (w.forCall tape i) .any w.heap.size f i ∧
      s.pre6 enc C.prog fn [] false (w.forCall tape i).memory i.args ∧ ({} : Assume).holds C.prog (lone (Frame.enter C.prog f i.args .normal) [] (w.forCall tape i)))
    (hl : laidOutB C.prog = true) (hrd : (fn.params.toList.all fun t => C.prog.readableRec t && decide (t < C.prog.types.size)) = true)
    (htb : C.prog.underlying tb = some .bool) (hres : fn.resultTypes = #[tb]) (hn : fn.params.toList.length = n) (hvars : s.vars = [])
    (hspec : ∀ ds : List (DataW H), ds.length = n → (s.fn H ds).results = [.lit (.bool true)] ∧ (s.fn H ds).args = ds ∧ (s.fn H ds).vars = [])
    (walk : ∀ (W : World) (base : Nat) (args : Array Value) (ds : List (DataW H)) (ps : List MemPlace),
      (∀ (j : Nat) t v, fn.params[j]? = some t → args[j]? = some v → Value.okWide C.prog W .any base t v) →
      DataW.TrodAll enc C.prog W 0 (fun _ => true) true fn.params.toList args.toList ds ps →
      Calls C.prog f args W fun e W' => e = .returned (.bool true) ∧ Below W.heap.size W W') :
    ReturnsInHanded {} C os f .any (s.pre6 enc C.prog fn [] false) (s.post enc C.prog fn false true false false) := by
  refine returnsInHanded_of_change (C := C) own started noInit hfn witness ?_
  intro W base args ds gs before hval hW _ _
  have hW' := hW
  obtain ⟨p, q, hA, hV, rfl, _, _⟩ := hW
  rw [hvars] at hV
  obtain ⟨rfl, rfl⟩ := trodVars_none hV
  have hlen : ds.length = n := by
    have aux : ∀ {ts : List TypeId} {vs : List Value} {ds : List (DataW H)} {ps : List MemPlace}, DataW.TrodAll enc C.prog W 0 (fun _ => true) true ts vs ds ps → ds.length = ts.length := by
      intro ts
      induction ts with
      | nil => intro vs ds ps h; obtain ⟨_, rfl, _⟩ := trodAll_nil h; rfl
      | cons t ts ih =>
        intro vs ds ps h
        obtain ⟨v, vs', d, ds', p, q, rfl, rfl, rfl, _, hs⟩ := trodAll_cons h
        simp [ih hs]
    rw [aux hA, hn]
  obtain ⟨r1, r2, r3⟩ := hspec ds hlen
  refine (walk W base args ds p hval hA).mono fun e W' ⟨he, bel⟩ => ?_
  subst he
  refine ⟨_, rfl, ds, [], p ++ [], [], p, [], hW', ?_, ?_, ?_, bel.frame _, fun h => by cases h⟩
  · simp only [List.append_nil, r1, hres]
    exact trodAll_mk1 (shut_bool htb _)
  · simp only [List.append_nil, r2]
    exact trodAll_below hl bel hrd hA
  · simp only [List.append_nil, r3, hvars]
    rfl
end Go.Proofs.Ytenaiojddohbkaa

/- Words for memory: a slice that reads as a list of cells; a block that is known whole; bytes. No program in sight. -/
namespace Go.Proofs.Ytenaiojddohbkaa
open Go.RowKit Go.ChangeShapes Go.WideShapes
set_option linter.unusedVariables false
set_option linter.unusedSimpArgs false

/-- the cells of bytes -/
def bcs (l : List UInt8) : List Value := l.map fun b => .int .u8 (b.toNat : Int)
theorem bcs_length (l : List UInt8) : (bcs l).length = l.length := by simp [bcs]
theorem bcs_take (l : List UInt8) (n : Nat) : (bcs l).take n = bcs (l.take n) := by simp [bcs, List.map_take]
theorem bcs_drop (l : List UInt8) (n : Nat) : (bcs l).drop n = bcs (l.drop n) := by simp [bcs, List.map_drop]
/-- A slice whose array lies at A reads as the cells cs; its block is below B. -/
def Rd (w : World) (B : Nat) (A : Option Addr) (cs : List Value) : Prop :=
  cs = [] ∨ ∃ b off, A = some ⟨b, off, none⟩ ∧ b < B ∧ ∀ i u, cs[i]? = some u → w.cell? ⟨b, off + i, none⟩ = some u

/-- where a cut lies -/
def cutA (A : Option Addr) (c k s : Nat) : Option Addr := if c = k then A else A.map (·.add (k * s))
theorem sliced_cut (a : Option Addr) (l h m s : Nat) : sliced a l h m s = .slice (cutA a m l s) (h - l) (m - l) := rfl
section
variable {w w' : World} {B B' : Nat} {A : Option Addr} {cs : List Value}
theorem Rd.keep (h : Rd w B A cs) (hk : ∀ p : Addr, p.block < B → w'.cell? p = w.cell? p) : Rd w' B A cs := by
  rcases h with h | ⟨b, off, hA, hb, hc⟩
  · exact .inl h
  · exact .inr ⟨b, off, hA, hb, fun i u hu => (hk _ hb).trans (hc i u hu)⟩
theorem Rd.more (h : Rd w B A cs) (hB : B ≤ B') : Rd w B' A cs := by
  rcases h with h | ⟨b, off, hA, hb, hc⟩
  · exact .inl h
  · exact .inr ⟨b, off, hA, by omega, hc⟩
theorem Rd.below (h : Rd w B A cs) (hb : Below B w w') : Rd w' B A cs := h.keep fun _ hp => hb.cell hp
theorem Rd.drew (h : Rd w B A cs) : Rd w.drew B A cs := h
theorem Rd.drewN (h : Rd w B A cs) (k : Nat) : Rd (w.drewN k) B A cs := h
theorem Rd.alloc (h : Rd w B A cs) (hB : B ≤ w.heap.size) (o : Obj) : Rd (w.alloc o) B A cs := h.keep fun p hp => World.cell?_alloc_lt w o p (by omega)
theorem Rd.setCell (h : Rd w B A cs) {p : Addr} (hB : B ≤ p.block) (u : Value) : Rd (w.setCell p u) B A cs :=
  h.keep fun q hq => World.cell?_setCell_other w p q u (fun e => by subst e; omega)
theorem Rd.grown (h : Rd w B A cs) {row : Option Nat} (hg : w.grownBy w' row) (hB : B ≤ w.heap.size) (hr : ∀ g, row = some g → B ≤ g) : Rd w' B A cs :=
  h.keep fun p hp => World.cell?_of_block (hg.block p.block (by omega) (fun e => by have := hr _ e.symm; omega))
theorem Rd.take (h : Rd w B A cs) (n : Nat) : Rd w B A (cs.take n) := by
  rcases h with h | ⟨b, off, hA, hb, hc⟩
  · exact .inl (by simp [h])
  · refine .inr ⟨b, off, hA, hb, fun i u hu => hc i u ?_⟩
    rw [List.getElem?_take] at hu
    split at hu
    · exact hu
    · cases hu
theorem Rd.cut (h : Rd w B A cs) {c k : Nat} (hc : cs.length ≤ c) : Rd w B (cutA A c k 1) (cs.drop k) := by
  by_cases hk : cs.length ≤ k
  · exact .inl (List.drop_eq_nil_of_le hk)
  rcases h with h | ⟨b, off, hA, hb, hcell⟩
  · exact .inl (by simp [h])
  · refine .inr ⟨b, off + k, ?_, hb, fun i u hu => ?_⟩
    · subst hA
      simp only [cutA, if_neg (show ¬ c = k by omega), Option.map_some, Addr.add, Nat.mul_one]
      split
      · simp_all
      · rfl
    · rw [Nat.add_assoc]
      rw [List.getElem?_drop] at hu
      exact hcell _ _ hu
/-- Where there is an element the address is known. -/
theorem Rd.at_ (h : Rd w B A cs) (hn : 0 < cs.length) : ∃ b off, A = some ⟨b, off, none⟩ ∧ b < B ∧ ∀ i u, cs[i]? = some u → w.cell? ⟨b, off + i, none⟩ = some u := by
  rcases h with h | h
  · subst h; simp at hn
  · exact h
end

theorem add_plain (b off i : Nat) : (⟨b, off, none⟩ : Addr).add i = ⟨b, off + i, none⟩ := by unfold Addr.add; split <;> simp_all
theorem lt_of_cell {w : World} {a : Addr} {v : Value} (h : w.cell? a = some v) : a.block < w.heap.size := by
  rcases Nat.lt_or_ge a.block w.heap.size with h' | h'
  · exact h'
  · simp [World.cell?, Array.getElem?_eq_none h'] at h

/-- A slice of bytes reads as l. -/
def Rb (w : World) (A : Option Addr) (n c : Nat) (l : List UInt8) : Prop := l.length = n ∧ n ≤ c ∧ Rd w w.heap.size A (bcs l)
/-- A slice of bytes of the call's own (its block from base on) reads as l. -/
def Ob (w : World) (base : Nat) (A : Option Addr) (n c : Nat) (l : List UInt8) : Prop := l.length = n ∧ w.ownsRow base 5 1 (.slice A n c) n (bcs l)

section
variable {w w' : World} {base : Nat} {A : Option Addr} {n c : Nat} {l : List UInt8}
theorem Rb.len (h : Rb w A n c l) : l.length = n := h.1
theorem Rb.nil_ : Rb w none 0 0 [] := ⟨rfl, Nat.le_refl _, .inl rfl⟩
theorem Rb.later (h : Rb w A n c l) (hb : Below w.heap.size w w') : Rb w' A n c l := ⟨h.1, h.2.1, (h.2.2.below hb).more hb.size⟩
theorem Rb.drew (h : Rb w A n c l) : Rb w.drew A n c l := h
theorem Rb.drewN (h : Rb w A n c l) (k : Nat) : Rb (w.drewN k) A n c l := h
theorem Rb.alloc (h : Rb w A n c l) (o : Obj) : Rb (w.alloc o) A n c l := ⟨h.1, h.2.1, (h.2.2.alloc (Nat.le_refl _) o).more (by simp)⟩
theorem Rb.take (h : Rb w A n c l) {k : Nat} (hk : k ≤ n) : Rb w A k c (l.take k) := ⟨by rw [List.length_take, h.1]; omega, Nat.le_trans hk h.2.1, by rw [← bcs_take]; exact h.2.2.take k⟩
theorem Rb.cut (h : Rb w A n c l) {k : Nat} (hk : k ≤ n) : Rb w (cutA A c k 1) (n - k) (c - k) (l.drop k) :=
  ⟨by rw [List.length_drop, h.1], by have := h.2.1; omega, by rw [← bcs_drop]; exact h.2.2.cut (by rw [bcs_length, h.1]; exact h.2.1)⟩
theorem Ob.len (h : Ob w base A n c l) : l.length = n := h.1
theorem Ob.nil_ : Ob w base none 0 0 [] := ⟨rfl, World.ownsRow_nil w base _ 1⟩
theorem Ob.blk (h : Ob w base A n c l) : ∀ k, (Value.slice A n c).ownBlock = some k → base ≤ k ∧ k < w.heap.size := h.2.lt
theorem Ob.grown {row : Option Nat} (h : Ob w base A n c l) (hg : w.grownBy w' row) (hne : ∀ k, (Value.slice A n c).ownBlock = some k → row ≠ some k) : Ob w' base A n c l := by
  refine ⟨h.1, h.2.kept hg ?_⟩
  cases hk : (Value.slice A n c).ownBlock with
  | none => exact .inl rfl
  | some k => exact .inr (fun e => hne k hk e.symm)
theorem grownBy_of_below (h : Below w.heap.size w w') : w.grownBy w' none := ⟨h.os, h.tape, h.output, h.size, fun i hi _ => h.block i hi⟩
theorem Ob.later (h : Ob w base A n c l) (hb : Below w.heap.size w w') : Ob w' base A n c l := h.grown (grownBy_of_below hb) (fun _ _ => by simp)
theorem Ob.mono {base' : Nat} (h : Ob w base A n c l) (hb : base' ≤ base) : Ob w base' A n c l := by
  refine ⟨h.1, h.2.1, ?_⟩
  rcases h.2.2 with h2 | ⟨g, cap, cur, hv, hg, hr⟩
  · exact .inl h2
  · exact .inr ⟨g, cap, cur, hv, by omega, hr⟩
end

/-- new bytes, written out -/
theorem Ob.lit (w : World) {base : Nat} (hb : base ≤ w.heap.size) (cs : Array Value) (l : List UInt8) (n : Nat) (hn : l.length = n) (hm : n ≤ maxLen) (h : cs.toList = bcs l) : Ob (w.alloc (.cells cs 5)) base (some ⟨w.heap.size, 0, none⟩) n n l := by
  have hs : cs.size = n := by rw [← Array.length_toList, h, bcs_length, hn]
  refine ⟨hn, by rw [bcs_length, hn]; omega, .inr ⟨w.heap.size, n, cs, rfl, hb, heap_alloc_new w _, Nat.le_refl _, hm, by omega, ?_⟩⟩
  rw [h, List.take_of_length_le (by rw [bcs_length]; omega)]

theorem below_of_grown {w w' : World} {base : Nat} {row : Option Nat} (hg : w.grownBy w' row) (hb : base ≤ w.heap.size) (hr : ∀ k, row = some k → base ≤ k) : Below base w w' :=
  ⟨hg.os, hg.tape, hg.output, hg.size, fun i hi => hg.block i (by omega) (fun e => by have := hr _ e.symm; omega)⟩

/-- Block g is the cells cs of element type t, none frozen. -/
def Bk (w : World) (g : Nat) (t : TypeId) (cs : List Value) : Prop := w.heap[g]? = some (.cells cs.toArray t (0, 0))
section
variable {w w' : World} {g : Nat} {t : TypeId} {cs : List Value}
theorem Bk.lt (h : Bk w g t cs) : g < w.heap.size := by
  rcases Nat.lt_or_ge g w.heap.size with hlt | hge
  · exact hlt
  · unfold Bk at h; rw [Array.getElem?_eq_none hge] at h; cases h
theorem Bk.cell (h : Bk w g t cs) (i : Nat) : w.cell? ⟨g, i, none⟩ = cs[i]? := by
  unfold Bk at h
  simp [World.cell?, h]
theorem Bk.frozen (h : Bk w g t cs) (i : Nat) : w.frozen? ⟨g, i, none⟩ = false := by
  unfold Bk at h
  simp [World.frozen?, h]
theorem Bk.new (w : World) (t : TypeId) (cs : Array Value) : Bk (w.alloc (.cells cs t)) w.heap.size t cs.toList := heap_alloc_new w _
theorem Bk.alloc (h : Bk w g t cs) (o : Obj) : Bk (w.alloc o) g t cs := (Below.heap_alloc w o g h.lt).trans h
theorem Bk.set_ (h : Bk w g t cs) (i : Nat) (u : Value) : Bk (w.setCell ⟨g, i, none⟩ u) g t (cs.set i u) := by
  unfold Bk at h ⊢
  simp [World.setCell, Array.getElem?_modify, h]
theorem Bk.far (h : Bk w g t cs) {p : Addr} (hp : g ≠ p.block) (u : Value) : Bk (w.setCell p u) g t cs := (Below.heap_setCell w p u g hp).trans h
theorem Bk.below {B : Nat} (h : Bk w g t cs) (hb : Below B w w') (hg : g < B) : Bk w' g t cs := (hb.block g hg).trans h
theorem Bk.later (h : Bk w g t cs) (hb : Below w.heap.size w w') : Bk w' g t cs := h.below hb h.lt
theorem Bk.grown {row : Option Nat} (h : Bk w g t cs) (hb : w.grownBy w' row) (hg : row ≠ some g) : Bk w' g t cs := (hb.block g h.lt (fun e => hg e.symm)).trans h
end
theorem grownBy_setCell (w : World) (g i : Nat) (u : Value) : w.grownBy (w.setCell ⟨g, i, none⟩ u) (some g) :=
  ⟨rfl, rfl, rfl, by simp [World.setCell], fun k _ hne => Below.heap_setCell w _ u k (fun e => hne (by rw [e]))⟩
theorem cutA_zero (A : Option Addr) (c s : Nat) : cutA A c 0 s = A := by
  unfold cutA
  split
  · rfl
  · cases A <;> simp [Addr.add]

theorem Rb.setCell {w : World} {A : Option Addr} {n c : Nat} {l : List UInt8} (h : Rb w A n c l) {p : Addr} (hp : ∀ a, A = some a → a.block ≠ p.block) (u : Value) : Rb (w.setCell p u) A n c l := by
  refine ⟨h.1, h.2.1, ?_⟩
  rcases h.2.2 with h' | ⟨b, off, hA, hb, hc⟩
  · exact .inl h'
  · refine .inr ⟨b, off, hA, by simpa [World.setCell] using hb, fun i u' hu => ?_⟩
    rw [World.cell?_setCell_other w p ⟨b, off + i, none⟩ u (fun e => hp _ hA (by rw [e]))]
    exact hc i u' hu

theorem Ob.setCell {w : World} {base : Nat} {A : Option Addr} {n c : Nat} {l : List UInt8} (h : Ob w base A n c l) {p : Addr} (hp : p.block < base) (u : Value) : Ob (w.setCell p u) base A n c l :=
  ⟨h.1, ownsRow_setCell_below h.2 hp u⟩

/-! ### A world with more blocks behind it: what a callee leaves -/
/-- w with the blocks bs behind its own, and d answers drawn -/
def plus (w : World) (bs : List Obj) (d : Nat) : World := { w with heap := w.heap ++ bs.toArray, drawn := d }
section
variable {w W : World} {bs : List Obj} {d : Nat}
@[go_sem] theorem size_plus (w : World) (bs : List Obj) (d : Nat) : (plus w bs d).heap.size = w.heap.size + bs.length := by simp [plus]
theorem block_plus {n : Nat} (h : n < w.heap.size) : (plus w bs d).heap[n]? = w.heap[n]? := by
  simp [plus, Array.getElem?_append, h]
@[go_sem] theorem cell_plus (w : World) (bs : List Obj) (d : Nat) (n i : Nat) (hn : n < w.heap.size) : (plus w bs d).cell? ⟨n, i, none⟩ = w.cell? ⟨n, i, none⟩ := World.cell?_of_block (block_plus hn)
@[go_sem] theorem frozen_plus (w : World) (bs : List Obj) (d : Nat) (n i : Nat) (hn : n < w.heap.size) : (plus w bs d).frozen? ⟨n, i, none⟩ = w.frozen? ⟨n, i, none⟩ := World.frozen?_of_block (block_plus hn)
@[go_sem] theorem setCell_plus (w : World) (bs : List Obj) (d : Nat) (n i : Nat) (v : Value) (hn : n < w.heap.size) : (plus w bs d).setCell ⟨n, i, none⟩ v = plus (w.setCell ⟨n, i, none⟩ v) bs d := by
  simp only [plus, World.setCell, World.mk.injEq, and_true]
  apply Array.ext
  · simp
  · intro j h1 h2
    simp only [Array.getElem_append, Array.getElem_modify, Array.size_modify] at *
    by_cases hj : j < w.heap.size
    · simp [hj]
    · simp [hj]
      intro e
      omega
@[go_sem] theorem lt_more {n m k : Nat} (h : n < m) : (n < m + k) = True := eq_true (by omega)
@[go_sem] theorem lt_more2 {n m k0 k1 : Nat} (h : n < m) : (n < m + k0 + k1) = True := eq_true (by omega)
@[go_sem] theorem lt_more3 {n m k0 k1 k2 : Nat} (h : n < m) : (n < m + k0 + k1 + k2) = True := eq_true (by omega)
@[go_sem] theorem lt_more4 {n m k0 k1 k2 k3 : Nat} (h : n < m) : (n < m + k0 + k1 + k2 + k3) = True := eq_true (by omega)
@[go_sem] theorem lt_more5 {n m k0 k1 k2 k3 k4 : Nat} (h : n < m) : (n < m + k0 + k1 + k2 + k3 + k4) = True := eq_true (by omega)
@[go_sem] theorem lt_more6 {n m k0 k1 k2 k3 k4 k5 : Nat} (h : n < m) : (n < m + k0 + k1 + k2 + k3 + k4 + k5) = True := eq_true (by omega)
@[go_sem] theorem lt_more7 {n m k0 k1 k2 k3 k4 k5 k6 : Nat} (h : n < m) : (n < m + k0 + k1 + k2 + k3 + k4 + k5 + k6) = True := eq_true (by omega)
@[go_sem] theorem lt_more8 {n m k0 k1 k2 k3 k4 k5 k6 k7 : Nat} (h : n < m) : (n < m + k0 + k1 + k2 + k3 + k4 + k5 + k6 + k7) = True := eq_true (by omega)
@[go_sem] theorem lt_more9 {n m k0 k1 k2 k3 k4 k5 k6 k7 k8 : Nat} (h : n < m) : (n < m + k0 + k1 + k2 + k3 + k4 + k5 + k6 + k7 + k8) = True := eq_true (by omega)
@[go_sem] theorem lt_more10 {n m k0 k1 k2 k3 k4 k5 k6 k7 k8 k9 : Nat} (h : n < m) : (n < m + k0 + k1 + k2 + k3 + k4 + k5 + k6 + k7 + k8 + k9) = True := eq_true (by omega)
@[go_sem] theorem plus_drew (w : World) (bs : List Obj) (d : Nat) : plus w.drew bs d = plus w bs d := rfl
@[go_sem] theorem plus_drewN (w : World) (bs : List Obj) (d n : Nat) : plus (w.drewN n) bs d = plus w bs d := rfl
@[go_sem] theorem drew_plus (w : World) (bs : List Obj) (d : Nat) : (plus w bs d).drew = plus w bs (d + 1) := rfl
@[go_sem] theorem drewN_plus (w : World) (bs : List Obj) (d n : Nat) : (plus w bs d).drewN n = plus w bs (d + n) := rfl
theorem plus_of (h : Below W.heap.size W w) : ∃ bs d, w = plus W bs d := by
  refine ⟨(w.heap.toList.drop W.heap.size), w.drawn, ?_⟩
  have hh : w.heap = W.heap ++ (w.heap.toList.drop W.heap.size).toArray := by
    apply Array.ext_getElem?
    intro j
    rw [Array.getElem?_append]
    split
    · rename_i hj
      exact h.block j hj
    · rename_i hj
      simp only [List.getElem?_toArray, List.getElem?_drop]
      rw [show W.heap.size + (j - W.heap.size) = j from by omega]
      simp
  have h1 := h.os
  have h2 := h.tape
  have h3 := h.output
  cases w
  simp only [plus] at *
  subst h1 h2 h3
  rw [← hh]
theorem below_plus (w : World) (bs : List Obj) (d : Nat) : Below w.heap.size w (plus w bs d) := ⟨rfl, rfl, rfl, by simp [plus], fun _ hk => block_plus hk⟩
theorem toPlus {B : Nat} {a : World} (h : Below B a w) (hB : B ≤ w.heap.size) (bs : List Obj) (d : Nat) : Below B a (plus w bs d) := h.trans ((below_plus w bs d).mono hB)
theorem Rb.plus_ {A : Option Addr} {n c : Nat} {l : List UInt8} (h : Rb w A n c l) (bs : List Obj) (d : Nat) : Rb (plus w bs d) A n c l := h.later (below_plus w bs d)
theorem Ob.plus_ {base : Nat} {A : Option Addr} {n c : Nat} {l : List UInt8} (h : Ob w base A n c l) (bs : List Obj) (d : Nat) : Ob (plus w bs d) base A n c l := h.later (below_plus w bs d)
theorem Ob.alloc {base : Nat} {A : Option Addr} {n c : Nat} {l : List UInt8} (h : Ob w base A n c l) (o : Obj) : Ob (w.alloc o) base A n c l := ⟨h.1, h.2.alloc o⟩
end

/-- The call returns new bytes l, and changes nothing that was there. -/
def RetB (w : World) (l : List UInt8) (e : Ending) (w' : World) : Prop := ∃ A n c bs d, e = .returned (.slice A n c) ∧ w' = plus w bs d ∧ Ob (plus w bs d) w.heap.size A n c l
theorem RetB.mk {w w' : World} {l : List UInt8} {A : Option Addr} {n c : Nat} (ho : Ob w' w.heap.size A n c l) (hb : Below w.heap.size w w') : RetB w l (.returned (.slice A n c)) w' := by
  obtain ⟨bs, d, rfl⟩ := plus_of hb
  exact ⟨A, n, c, bs, d, rfl, rfl, ho⟩
theorem grown_plus {W w' : World} {bs : List Obj} {d r : Nat} (h : (plus W bs d).grownBy w' (some r)) (hr : W.heap.size ≤ r) : ∃ bs' d', w' = plus W bs' d' := by
  refine plus_of ?_
  have h2 : Below W.heap.size (plus W bs d) w' := below_of_grown h (by simp [size_plus]) (fun k hk => by injection hk with hk; omega)
  exact (below_plus W bs d).trans h2
theorem Ob.drew {w : World} {base : Nat} {A : Option Addr} {n c : Nat} {l : List UInt8} (h : Ob w base A n c l) : Ob w.drew base A n c l := h
theorem Bk.drew {w : World} {g : Nat} {t : TypeId} {cs : List Value} (h : Bk w g t cs) : Bk w.drew g t cs := h
/-- a region that draws its order: n operations that leave the world alone, then the rest in their order -/
theorem wp_tail {P : Program} {id : Nat} {Q : Exit → Act → World → Prop} {a : Act} {w : World} {l : List Oper} (n : Nat) (hm : P.follows .mixedOrders = true) (hB : Region.lexTailB .any l.toArray n = true)
    (h : wpStill P l.toArray w.drew (fun a' => wpList P l.toArray Q (l.drop n) a' w.drew) (l.take n) a) : (Code.region id l.toArray true).wp P Q a w := wp_region_still_tail n hm hB h
/-- The call returns v, and changes nothing that was there. -/
def RetV (w : World) (v : Value) (e : Ending) (w' : World) : Prop := ∃ bs d, e = .returned v ∧ w' = plus w bs d
theorem RetV.mk {w w' : World} {v : Value} (hb : Below w.heap.size w w') : RetV w v (.returned v) w' := by
  obtain ⟨bs, d, rfl⟩ := plus_of hb
  exact ⟨bs, d, rfl, rfl⟩
theorem belowP {a w : World} (h : Below a.heap.size a w) (bs : List Obj) (d : Nat) : Below a.heap.size a (plus w bs d) := toPlus h h.size bs d
/-! ### A region that draws its order, whose operations read what was there and whose calls make memory and hand back plain values -/
theorem plus_plus (w : World) (bs bs' : List Obj) (d d' : Nat) : plus (plus w bs d) bs' d' = plus w (bs ++ bs') d' := by simp [plus, Array.append_assoc]
/-- more blocks, and a count of draws -/
structure Ext where
  bs : List Obj
  d : Nat
instance : Inhabited Ext := ⟨⟨[], 0⟩⟩
end Go.Proofs.Ytenaiojddohbkaa

/- What calls return. -/
namespace Go.Proofs.Ytenaiojddohbkaa
open Go.RowKit
/-- bytes and an error -/
def RetBE (w : World) (l : List UInt8) (E : Int) (e : Ending) (w' : World) : Prop := ∃ A n c bs d, e = .returned (.tuple #[.slice A n c, .int .i64 E]) ∧ w' = plus w bs d ∧ Rb (plus w bs d) A n c l
theorem RetBE.mk {w w' : World} {l : List UInt8} {E : Int} {A : Option Addr} {n c : Nat} (h : Rb w' A n c l) (hb : Below w.heap.size w w') : RetBE w l E (.returned (.tuple #[.slice A n c, .int .i64 E])) w' := by
  obtain ⟨bs, d, rfl⟩ := plus_of hb
  exact ⟨A, n, c, bs, d, rfl, rfl, h⟩
end Go.Proofs.Ytenaiojddohbkaa

/- A flow (chapter 3). -/
namespace Go.Proofs.Ytenaiojddohbkaa
open Go.RowKit
/-- a flow -/
def flC (s1 : Bool) (h1 l1 : Nat) (s2 : Bool) (h2 l2 : Nat) (sp dp p : Nat) : List Value := [.bool s1, .int .u64 (h1 : Int), .int .u64 (l1 : Int), .bool s2, .int .u64 (h2 : Int), .int .u64 (l2 : Int), .int .u16 (sp : Int), .int .u16 (dp : Int), .int .u8 (p : Int)]
theorem flC_one (s1 : Bool) (h1 l1 : Nat) (s2 : Bool) (h2 l2 : Nat) (sp dp p : Nat) : ∀ u ∈ flC s1 h1 l1 s2 h2 l2 sp dp p, u.oneCell' = true := by
  intro u hu
  simp only [flC, List.mem_cons, List.not_mem_nil, or_false] at hu
  rcases hu with rfl | rfl | rfl | rfl | rfl | rfl | rfl | rfl | rfl <;> rfl
theorem szFl (s1 : Bool) (h1 l1 : Nat) (s2 : Bool) (h2 l2 : Nat) (sp dp p : Nat) : (Try.prog.info? 28).map (·.size) = some (flC s1 h1 l1 s2 h2 l2 sp dp p).length := by kernel_rfl
end Go.Proofs.Ytenaiojddohbkaa

/- A region that draws its order, by what each operation's value is good for: every operation reads, or makes memory, and changes nothing that was there; a tail may follow in its order. -/
namespace Go.Proofs.Ytenaiojddohbkaa
open Go.RowKit Go.ChangeShapes Go.WideShapes
set_option linter.unusedVariables false

/-- w' is w with more blocks -/
def Ex (w w' : World) : Prop := ∃ x : Ext, w' = plus w x.bs x.d
theorem Ex.refl (w : World) : Ex w w := ⟨⟨[], w.drawn⟩, by simp [plus]⟩
theorem Ex.trans {a b c : World} (h : Ex a b) (h' : Ex b c) : Ex a c := by
  obtain ⟨x, rfl⟩ := h
  obtain ⟨y, rfl⟩ := h'
  exact ⟨⟨x.bs ++ y.bs, y.d⟩, plus_plus _ _ _ _ _⟩
theorem Ex.of {w w' : World} (h : Below w.heap.size w w') : Ex w w' := by
  obtain ⟨bs, d, rfl⟩ := plus_of h
  exact ⟨⟨bs, d⟩, rfl⟩
theorem Ex.below {w w' : World} (h : Ex w w') : Below w.heap.size w w' := by
  obtain ⟨x, rfl⟩ := h
  exact below_plus _ _ _
theorem Ex.alloc (w : World) (o : Obj) : Ex w (w.alloc o) := Ex.of ((Below.refl _ _).alloc (Nat.le_refl _) o)
theorem Ex.plus_ (w : World) (bs : List Obj) (d : Nat) : Ex w (plus w bs d) := ⟨⟨bs, d⟩, rfl⟩

/-- what a value is good for; it stays so -/
structure MP where
  p : Value → World → Prop
  mono : ∀ v w w', p v w → Ex w w' → p v w'
def MP.any : MP := ⟨fun _ _ => True, fun _ _ _ _ _ => trivial⟩
def MP.eq (c : Value) : MP := ⟨fun v _ => v = c, fun _ _ _ h _ => h⟩
def MP.ob (base : Nat) (l : List UInt8) : MP := ⟨fun v w => ∃ A n c, v = .slice A n c ∧ Ob w base A n c l, fun _ _ _ ⟨A, n, c, h1, h2⟩ h => ⟨A, n, c, h1, h2.later h.below⟩⟩

section
variable {P : Program} {ops : Array Oper} {Q : Exit → Act → World → Prop}

def cnt (listed : Array Bool) : Nat → Nat
  | 0 => 0
  | n + 1 => cnt listed n + (if listed.getD n true then 0 else 1)
theorem cnt_set {listed : Array Bool} {i : Nat} (hi : listed.getD i true = false) : ∀ n, cnt (listed.setIfInBounds i true) n + (if i < n then 1 else 0) = cnt listed n
  | 0 => by simp [cnt]
  | n + 1 => by
    have ih := cnt_set hi n
    have hs : i < listed.size := by
      rcases Nat.lt_or_ge i listed.size with h | h
      · exact h
      · simp [Array.getElem?_eq_none h] at hi
    simp only [cnt]
    by_cases hn : i = n
    · subst hn
      have e : (listed.setIfInBounds i true).getD i true = true := by simp [hs]
      rw [e, hi]
      simp at ih ⊢
      omega
    · rw [getD_set_ne true hn]
      have e2 : (if i < n + 1 then 1 else 0) = (if i < n then 1 else 0) := by split <;> split <;> omega
      omega
theorem cnt_zero {listed : Array Bool} : ∀ n, cnt listed n = 0 → ∀ i, i < n → listed.getD i true = true
  | 0, _, i, h => by omega
  | n + 1, h, i, hi => by
    simp only [cnt] at h
    by_cases hn : i = n
    · subst hn
      cases hg : listed.getD i true with
      | true => rfl
      | false => rw [hg] at h; simp at h
    · exact cnt_zero n (by omega) i (by omega)
theorem cnt_first {listed : Array Bool} : ∀ n, cnt listed n ≠ 0 → ∃ i, i < n ∧ listed.getD i true = false ∧ ∀ j, j < i → listed.getD j true = true
  | 0, h => by simp [cnt] at h
  | n + 1, h => by
    by_cases h0 : cnt listed n = 0
    · refine ⟨n, by omega, ?_, fun j hj => cnt_zero n h0 j hj⟩
      simp only [cnt, h0] at h
      cases hg : listed.getD n true with
      | true => rw [hg] at h; simp at h
      | false => rfl
    · obtain ⟨i, h1, h2, h3⟩ := cnt_first n h0
      exact ⟨i, by omega, h2, h3⟩
theorem cnt_init (m : Nat) : ∀ n, n ≤ m → cnt (Array.replicate m false) n = n
  | 0, _ => rfl
  | n + 1, h => by
    simp only [cnt, cnt_init m n (by omega)]
    have : (Array.replicate m false).getD n true = false := by simp [show n < m by omega]
    rw [this]
    simp

/-- may the region be walked so: n operations ahead of the tail, N slots -/
def relB (ops : Array Oper) (n N : Nat) : Bool :=
  decide (n ≤ ops.size) && (decide (n = ops.size) || (Region.sinkB .any ops n && Region.chainB .any ops n)) &&
  Region.seqB .any ops (ops.size - n) n ((List.range ops.size).map fun i => decide (i < n)).toArray &&
  (List.range n).all fun i => match ops[i]? with
    | none => false
    | some o => (match o.dst with | some s => decide (s < N) | none => false) && (o.after.all fun e => !Region.binds .any e || decide (e.on < i)) &&
      (List.range n).all fun j => j == i || (match (ops[j]?).bind (·.dst) with | some s => o.dst != some s | none => false)
/-- what operation i sees in slot s is what lay there ahead of the region -/
def outB (ops : Array Oper) (n i s : Nat) : Bool := (List.range n).all fun j => j == i || (match (ops[j]?).bind (·.dst) with | some d => d != s || Region.waitsFor .any ops j i | none => true)
/-- operation i waits for operation j, which writes slot s -/
def depB (ops : Array Oper) (n i j s : Nat) : Bool := decide (j < n) && Region.waitsFor .any ops i j && ((ops[j]?).bind (·.dst) == some s)

def putAll : List Oper → (Nat → Value) → Nat → Act → Act
  | [], _, _, a => a
  | o :: r, vs, k, a => putAll r vs (k + 1) (a.put o.dst (vs k))

theorem eval_put_same {a : Act} {s : Nat} {v : Value} (h : s < a.tmps.size) : (a.put (some s) v).eval (.tmp s) = v := by simp [Act.put, Act.eval, h]
theorem size_put (a : Act) (d : Option Tmp) (v : Value) : (a.put d v).tmps.size = a.tmps.size := by cases d <;> simp [Act.put]
theorem defers_put (a : Act) (d : Option Tmp) (v : Value) : (a.put d v).defers = a.defers := by cases d <;> rfl
theorem putAll_size : ∀ (l : List Oper) (vs : Nat → Value) (k : Nat) (a : Act), (putAll l vs k a).tmps.size = a.tmps.size
  | [], _, _, _ => rfl
  | o :: r, vs, k, a => by rw [putAll, putAll_size r, size_put]
theorem putAll_defers : ∀ (l : List Oper) (vs : Nat → Value) (k : Nat) (a : Act), (putAll l vs k a).defers = a.defers
  | [], _, _, _ => rfl
  | o :: r, vs, k, a => by rw [putAll, putAll_defers r, defers_put]
theorem putAll_eval (A : Act) (s : Nat) : ∀ (l : List Oper) (vs : Nat → Value) (k : Nat) (a : Act), s < a.tmps.size → (∀ j o, l[j]? = some o → o.dst = some s → vs (k + j) = A.eval (.tmp s)) →
    ((∃ o ∈ l, o.dst = some s) → (putAll l vs k a).eval (.tmp s) = A.eval (.tmp s)) ∧ ((∀ o ∈ l, o.dst ≠ some s) → (putAll l vs k a).eval (.tmp s) = a.eval (.tmp s))
  | [], _, _, _, _, _ => ⟨fun ⟨o, h, _⟩ => (by cases h), fun _ => rfl⟩
  | o :: r, vs, k, a, hs, hv => by
    have ih := putAll_eval A s r vs (k + 1) (a.put o.dst (vs k)) (by rw [size_put]; exact hs) (fun j o' hj hd => by
      have := hv (j + 1) o' (by simpa using hj) hd
      rw [← this]
      congr 1
      omega)
    rw [putAll]
    constructor
    · rintro ⟨o', ho', hd⟩
      by_cases hr : ∃ o'' ∈ r, o''.dst = some s
      · exact ih.1 hr
      · rcases List.mem_cons.1 ho' with rfl | h
        · rw [ih.2 (fun o'' h h' => hr ⟨o'', h, h'⟩), hd, eval_put_same hs]
          exact hv 0 _ rfl hd
        · exact absurd ⟨o', h, hd⟩ hr
    · intro hn
      rw [ih.2 (fun o' h => hn o' (List.mem_cons_of_mem _ h)), Act.eval_put (fun d hd e => hn o (List.mem_cons_self) (by rw [hd]; injection e with e; rw [e]))]
theorem act_ext {a b : Act} (h1 : a.tmps.size = b.tmps.size) (h2 : a.defers = b.defers) (h3 : ∀ s, s < a.tmps.size → a.eval (.tmp s) = b.eval (.tmp s)) : a = b := by
  cases a with | mk ta da =>
  cases b with | mk tb db =>
  simp only at h1 h2 h3
  subst h2
  congr 1
  refine Array.ext h1 fun i hi hj => ?_
  have := h3 i hi
  simpa [Act.eval, hi, hj] using this

structure RInv (ops : Array Oper) (n : Nat) (a0 : Act) (w0 : World) (Φ : Nat → MP) (listed : Array Bool) (A : Act) (w : World) : Prop where
  head : HeadInv .any ops n listed
  ex : Ex w0 w
  size : A.tmps.size = a0.tmps.size
  defers : A.defers = a0.defers
  out : ∀ s, (∀ j, j < n → ∀ o, ops[j]? = some o → listed.getD j false = true → o.dst ≠ some s) → A.eval (.tmp s) = a0.eval (.tmp s)
  ins : ∀ j, j < n → ∀ o s, ops[j]? = some o → listed.getD j false = true → o.dst = some s → (Φ j).p (A.eval (.tmp s)) w

theorem wanted_if {o : Oper} {tmps : Array Value} {X Y : Prop} (h : o.guard = none) (hx : X) : if Region.wanted o (yielded ops tmps) = true then X else Y := by
  rw [if_pos (by simp [Region.wanted, h])]
  exact hx
theorem wp_rel {id : Nat} {a : Act} {w : World} {l : List Oper} (n N : Nat) (hN : a.tmps.size = N) (hm : P.follows .mixedOrders = true) (hB : relB l.toArray n N = true) (Φ : Nat → MP)
    (step : ∀ i, i < n → ∀ o, l[i]? = some o → ∀ (A : Act) (x : Ext), (∀ s, outB l.toArray n i s = true → A.eval (.tmp s) = a.eval (.tmp s)) → (∀ j s, depB l.toArray n i j s = true → (Φ j).p (A.eval (.tmp s)) (plus w x.bs x.d)) →
      ∀ K : Act → World → Prop, Shut (∀ v w', Ex (plus w x.bs x.d) w' → (Φ i).p v w' → K (A.put o.dst v) w') → if Region.wanted o (yielded l.toArray A.tmps) = true then o.wp P A (plus w x.bs x.d) K Q else K (A.put o.dst undef) (plus w x.bs x.d))
    (fin : ∀ (vs : Nat → Value) (x : Ext), (∀ i, i < n → (Φ i).p (vs i) (plus w x.bs x.d)) → wpList P l.toArray Q (l.drop n) (putAll (l.take n) vs 0 a) (plus w x.bs x.d)) : (Code.region id l.toArray true).wp P Q a w := by
  unfold relB at hB
  simp only [Bool.and_eq_true, decide_eq_true_eq] at hB
  obtain ⟨⟨⟨hn, htail⟩, hseq⟩, hall⟩ := hB
  have hal : ∀ i, i < n → ∃ o s, l.toArray[i]? = some o ∧ o.dst = some s ∧ s < N ∧ (∀ e ∈ o.after, Region.binds .any e = true → e.on < i) ∧ ∀ j, j < n → j ≠ i → ∃ oj sj, l.toArray[j]? = some oj ∧ oj.dst = some sj ∧ sj ≠ s := by
    intro i hi
    have h1 := List.all_eq_true.1 hall i (List.mem_range.2 hi)
    cases ho : l.toArray[i]? with
    | none => rw [ho] at h1; cases h1
    | some o =>
      rw [ho] at h1
      simp only [Bool.and_eq_true] at h1
      obtain ⟨⟨h2, h3⟩, h4⟩ := h1
      cases hd : o.dst with
      | none => rw [hd] at h2; cases h2
      | some s =>
        rw [hd] at h2 h4
        refine ⟨o, s, rfl, hd, by simpa using h2, fun e he hb => ?_, fun j hj hji => ?_⟩
        · have := (Array.all_eq_true_iff_forall_mem.1 h3) e he
          rw [hb] at this
          simpa using this
        · have h5 := List.all_eq_true.1 h4 j (List.mem_range.2 hj)
          cases hoj : l.toArray[j]? with
          | none => rw [hoj] at h5; simp [hji] at h5
          | some oj =>
            rw [hoj] at h5
            cases hdj : oj.dst with
            | none => simp [hdj, hji] at h5
            | some sj =>
              simp [hdj, hji] at h5
              exact ⟨oj, sj, rfl, hdj, fun e => h5 e.symm⟩
  have main : ∀ (f : Nat) (listed : Array Bool) (A : Act) (w' : World), RInv l.toArray n a w Φ listed A w' → cnt listed n = f → wpAny P .any l.toArray Q (f + (l.toArray.size - n)) listed A w' := by
    intro f
    induction f with
    | zero =>
      intro listed A w' inv hc
      have hl : ∀ i, i < n → listed.getD i true = true := cnt_zero n hc
      have el : listed = ((List.range l.toArray.size).map fun i => decide (i < n)).toArray := by
        apply Array.ext
        · simp [inv.head.size]
        · intro i h1 h2
          by_cases hi : i < n
          · have := hl i hi
            simp only [Array.getD_eq_getD_getElem?, Array.getElem?_eq_getElem h1, Option.getD_some] at this
            simp [this, hi]
          · have := inv.head.tail i (by omega) (by rw [← inv.head.size]; exact h1)
            simp only [Array.getD_eq_getD_getElem?, Array.getElem?_eq_getElem h1, Option.getD_some] at this
            simp [this, hi]
      have eA : A = putAll (l.take n) (fun j => ((l.toArray[j]?).bind (·.dst)).elim undef (fun s => A.eval (.tmp s))) 0 a := by
        refine act_ext (by rw [putAll_size, inv.size]) (by rw [putAll_defers, inv.defers]) fun s hs => ?_
        have H := putAll_eval A s (l.take n) (fun j => ((l.toArray[j]?).bind (·.dst)).elim undef (fun s => A.eval (.tmp s))) 0 a (by rw [← inv.size]; exact hs) (fun j o hj hd => by
          have hjn : j < n := by
            have := (List.getElem?_eq_some_iff.1 hj).1
            simp at this
            omega
          have : l.toArray[j]? = some o := by simpa [hjn] using hj
          simp [this, hd])
        by_cases he : ∃ o ∈ l.take n, o.dst = some s
        · exact (H.1 he).symm
        · rw [H.2 (fun o h h' => he ⟨o, h, h'⟩)]
          refine inv.out s fun j hj o ho _ hd => he ⟨o, ?_, hd⟩
          rw [List.mem_take_iff_getElem]
          have hjl := (Array.getElem?_eq_some_iff.1 ho)
          obtain ⟨h1, h2⟩ := hjl
          exact ⟨j, by simp at h1; omega, by simpa using h2⟩
      rw [Nat.zero_add]
      obtain ⟨x, rfl⟩ := inv.ex
      have := wpAny_of_seq (md := .any) (Q' := Q) (P := P) (ops := l.toArray) (l.drop n) n listed A (plus w x.bs x.d) (fun j => by simp [List.getElem?_drop]) (by
        rw [el]
        have : (l.drop n).length = l.toArray.size - n := by simp
        rw [this]
        exact hseq) (by
        rw [eA]
        refine fin _ x fun i hi => ?_
        obtain ⟨o, s, ho, hd, _⟩ := hal i hi
        have hli : listed.getD i false = true := by
          have := hl i hi
          have hsz : i < listed.size := by rw [inv.head.size]; exact (Array.getElem?_eq_some_iff.1 ho).1
          simpa [hsz] using this
        have := inv.ins i hi o s ho hli hd
        simpa [ho, hd] using this)
      have e2 : (l.drop n).length = l.toArray.size - n := by simp
      rwa [e2] at this
    | succ f ih =>
      intro listed A w' inv hc
      rw [show f + 1 + (l.toArray.size - n) = (f + (l.toArray.size - n)) + 1 by omega]
      obtain ⟨i0, hi0, hun0, hprev⟩ := cnt_first n (by rw [hc]; omega)
      have hready0 : i0 ∈ Region.ready .any l.toArray listed := by
        obtain ⟨o, s, ho, hd, _, hlt, _⟩ := hal i0 hi0
        refine mem_ready.2 ⟨hun0, o, ho, fun e he hb => ?_⟩
        have h1 := hlt e he hb
        have h2 := hprev e.on h1
        have hsz : e.on < listed.size := by rw [inv.head.size]; have := (Array.getElem?_eq_some_iff.1 ho).1; omega
        simpa [hsz] using h2
      refine ⟨fun h => (by rw [h] at hready0; cases hready0), fun i hi => ?_⟩
      obtain ⟨hun, o, ho, hdeps⟩ := mem_ready.1 hi
      have hin : i < n := by
        rcases Nat.lt_or_ge i n with h | h
        · exact h
        · have hsz := (Array.getElem?_eq_some_iff.1 ho).1
          simp only [Bool.or_eq_true, decide_eq_true_eq, Bool.and_eq_true] at htail
          rcases htail with ht | ht
          · omega
          · exact absurd hi (tail_waits ht.1 ht.2 (by omega) inv.head _ i0 rfl hi0 hun0 i h)
      obtain ⟨o', s, ho', hd, hsN, hlt, hother⟩ := hal i hin
      have : o' = o := Option.some.inj (ho'.symm.trans ho)
      subst this
      obtain ⟨x, rfl⟩ := inv.ex
      have unl : ∀ j, listed.getD j false = true → j ≠ i := fun j hj e => by subst e; rw [getD_both hun] at hj; cases hj
      have hstep := step i hin o' (by simpa using ho) A x (fun s' hs' => inv.out s' fun j hj oj hoj hlj hdj => by
          have h1 := List.all_eq_true.1 hs' j (List.mem_range.2 hj)
          have hji := unl j hlj
          rw [hoj] at h1
          simp only [Option.bind_some, hdj] at h1
          simp only [Bool.or_eq_true, beq_iff_eq, bne_self_eq_false, Bool.false_eq_true, false_or] at h1
          rcases h1 with h1 | h1
          · exact hji h1
          · obtain ⟨oj', hoj', e, he, hb, hon⟩ := Region.waitsFor_spec h1
            have : oj' = oj := Option.some.inj (hoj'.symm.trans hoj)
            subst this
            have h2 := inv.head.closed j oj' hoj hlj e he hb
            rw [hon, getD_both hun] at h2
            cases h2)
        (fun j s' hs' => by
          simp only [depB, Bool.and_eq_true, decide_eq_true_eq] at hs'
          obtain ⟨⟨hj, hw⟩, hds⟩ := hs'
          obtain ⟨oi, hoi, e, he, hb, hon⟩ := Region.waitsFor_spec hw
          have : oi = o' := Option.some.inj (hoi.symm.trans ho)
          subst this
          have hlj := hdeps e he hb
          rw [hon] at hlj
          cases hoj : l.toArray[j]? with
          | none => rw [hoj] at hds; simp at hds
          | some oj =>
            rw [hoj] at hds
            simp only [Option.bind_some, beq_iff_eq] at hds
            exact inv.ins j hj oj s' hoj hlj hds)
      have next : ∀ v w'', Ex (plus w x.bs x.d) w'' → (Φ i).p v w'' → wpAny P .any l.toArray Q (f + (l.toArray.size - n)) (listed.setIfInBounds i true) (A.put o'.dst v) w'' := by
        intro v w'' hex hp
        refine ih _ _ _ ?_ ?_
        · refine ⟨inv.head.set hi hin, (Ex.plus_ w x.bs x.d).trans hex, by rw [size_put, inv.size], by rw [defers_put, inv.defers], fun s' hs' => ?_, fun j hj oj s' hoj hlj hdj => ?_⟩
          · have hne : s ≠ s' := fun e => by
              subst e
              refine hs' i hin o' ho ?_ hd
              have hsz : i < listed.size := by rw [inv.head.size]; exact (Array.getElem?_eq_some_iff.1 ho).1
              simp [hsz]
            rw [Act.eval_put (fun d hd' e => by rw [hd] at hd'; injection hd' with hd'; injection e with e; exact hne (hd'.trans e.symm))]
            refine inv.out s' fun j hj oj hoj hlj => hs' j hj oj hoj (getD_set_true hlj)
          · by_cases hji : j = i
            · subst hji
              have : oj = o' := Option.some.inj (hoj.symm.trans ho)
              subst this
              rw [hd] at hdj
              injection hdj with hdj
              subst hdj
              rw [hd, eval_put_same (by rw [inv.size, hN]; exact hsN)]
              exact hp
            · have hlj' : listed.getD j false = true := by rw [getD_set_ne false (Ne.symm hji)] at hlj; exact hlj
              obtain ⟨oj', sj, hoj', hdj', hne⟩ := hother j hj hji
              have : oj' = oj := Option.some.inj (hoj'.symm.trans hoj)
              subst this
              rw [hdj] at hdj'
              injection hdj' with hdj'
              subst hdj'
              rw [Act.eval_put (fun d hd' e => by rw [hd] at hd'; injection hd' with hd'; injection e with e; exact hne (e.trans hd'.symm))]
              exact (Φ j).mono _ _ _ (inv.ins j hj oj' s' hoj hlj' hdj) hex
        · have := cnt_set hun n
          rw [if_pos hin] at this
          omega
      have hs := hstep _ next
      unfold wpOp
      rw [ho]
      simp only
      split
      · rename_i hw
        rw [if_pos hw] at hs
        exact .inl hs
      · rename_i hw
        rw [if_neg hw] at hs
        exact hs
  refine wp_region_any hm ?_
  have h0 : ({ w with drawn := w.drawn + 1 } : World) = w.drew := rfl
  have H := main n (Array.replicate l.toArray.size false) a w.drew ⟨⟨by simp, fun j oj _ hl => (by rw [getD_replicate_false] at hl; cases hl), fun t _ ht => getD_in (by simpa using ht) (getD_replicate_false _ _)⟩,
    ⟨⟨[], w.drawn + 1⟩, by show ({ w with drawn := w.drawn + 1 } : World) = _; simp [plus]⟩, rfl, rfl, fun s _ => rfl, fun j hj o s _ hl => (by rw [getD_replicate_false] at hl; cases hl)⟩ (cnt_init _ n hn)
  rw [show n + (l.toArray.size - n) = l.toArray.size by omega] at H
  exact H
/-! ### The same, with operations that hold no memory taken as soon as they may be: they may stand behind the tail's first -/
end
/-- the slot of a guard -/
theorem slot_of {x : Option Value} {b : Bool} (h : x.getD undef = .bool b) : x = some (.bool b) := by
  cases x with
  | none => simp [undef] at h
  | some v => simp at h; rw [h]
theorem slot_un {x : Option Value} (h : x.getD undef = undef) : x = none ∨ x = some undef := by
  cases x with
  | none => exact .inl rfl
  | some v => simp at h; exact .inr (by rw [h])
end Go.Proofs.Ytenaiojddohbkaa

/- Whole arrays and structs out of and into blocks; results in memory. -/
namespace Go.Proofs.Ytenaiojddohbkaa
open Go.RowKit
set_option linter.unusedVariables false
set_option linter.unusedSimpArgs false

theorem Bk.range {w : World} {g : Nat} {t : TypeId} {cs : List Value} (h : Bk w g t cs) : w.rangeAt g 0 cs := fun j v hv => by rw [Nat.zero_add, h.cell]; exact hv
theorem bodyPost_agg2 {P : Program} {fn : Func} {R : Ending → World → Prop} {a : Act} {w : World} {slot slot2 ty g : Nat} {d : TypeDesc} {cs : List Value} {u : Value} (hfr : fn.results = #[.cell slot ty, .tmp slot2]) (hs : a.tmps.getD slot undef = .pointer (some ⟨g, 0, none⟩)) (hs2 : a.tmps.getD slot2 undef = u)
    (hb : w.rangeAt g 0 cs) (hu : P.underlying ty = some d) (hd : d.isRow = true) (hi : (P.info? ty).map (·.size) = some cs.length) (hdf : a.defers = []) (hR : R (.returned (.tuple #[.agg cs.toArray, u])) w) : bodyPost P fn R .ret a w := by
  refine bodyPost_ret (v := .tuple #[.agg cs.toArray, u]) ?_ hdf hR
  have h1 := run_loadVar_mid (P := P) w g 0 ty cs d hb hu hd hi
  have hs' : a.tmps[slot]?.getD undef = .pointer (some ⟨g, 0, none⟩) := by simpa using hs
  have hs2' : a.tmps[slot2]?.getD undef = u := by simpa using hs2
  simp [results, hfr, hs', hs2', asAddr, h1]
/-- a block's cells, all stored anew -/
theorem Bk.setCells {w : World} {g : Nat} {t : TypeId} : ∀ (new old : List Value) (o : Nat), Bk w g t old → o + new.length = old.length → Bk (w.setCells g o new) g t (old.take o ++ new) := by
  intro new
  induction new generalizing w with
  | nil => intro old o h hl; simp only [List.length_nil, Nat.add_zero] at hl; simp only [World.setCells, List.append_nil, List.take_of_length_le (Nat.le_of_eq hl.symm)]; exact h
  | cons v r ih =>
    intro old o h hl
    rw [World.setCells]
    have h1 := ih (old.set o v) (o + 1) (h.set_ o v) (by simp only [List.length_set, List.length_cons] at *; omega)
    have e : (old.set o v).take (o + 1) ++ r = old.take o ++ v :: r := by
      rw [List.take_succ_eq_append_getElem (by simp only [List.length_set, List.length_cons] at *; omega)]
      simp [List.take_set_of_le]
    rw [e] at h1
    exact h1
theorem Below.setCells {B : Nat} {a : World} {g : Nat} (hg : B ≤ g) : ∀ (new : List Value) (o : Nat) (w : World), Below B a w → Below B a (w.setCells g o new)
  | [], _, _, h => h
  | v :: r, o, w, h => Below.setCells hg r (o + 1) _ (h.setCell hg v)
/-- is it this operation? -/
theorem at_op {P : Program} {w : World} {ops : Array Oper} {rest : List Oper} {o : Oper} {a : Act} {Q : Exit → Act → World → Prop} (op : Op) (h : o.op = op) (x : wpList P ops Q (o :: rest) a w) : wpList P ops Q (o :: rest) a w := x
/-- a part of a block that is known whole, as an aggregate -/
theorem wpList_ldA {P : Program} {w : World} {ops : Array Oper} {rest : List Oper} {o : Oper} {a : Act} {Q : Exit → Act → World → Prop} (ty : TypeId) (x : Operand) (ho : o.op = .load ty x) (hgd : o.guard = none)
    {g off : Nat} {t : TypeId} {cs : List Value} {d : TypeDesc} (part : List Value) (hx : a.eval x = .pointer (some ⟨g, off, none⟩)) (hb : Bk w g t cs) (hp : (cs.drop off).take part.length = part)
    (hu : P.underlying ty = some d) (hd : d.isRow = true) (hi : (P.info? ty).map (·.size) = some part.length) (h : wpList P ops Q rest (a.put o.dst (.agg part.toArray)) w) : wpList P ops Q (o :: rest) a w := by
  refine wpList_load_mid hgd ty x ho g off hx part d (fun j v hv => ?_) hu hd hi h
  rw [hb.cell]
  rw [← hp, List.getElem?_take] at hv
  split at hv
  · rw [List.getElem?_drop] at hv; exact hv
  · cases hv
/-- a guarded operation that is wanted: a part of a block, as an aggregate -/
theorem wpList_ldG {P : Program} {w : World} {ops : Array Oper} {rest : List Oper} {o : Oper} {a : Act} {Q : Exit → Act → World → Prop} (ty : TypeId) (x : Operand) (ho : o.op = .load ty x) (hw : Region.wanted o (yielded ops a.tmps) = true)
    {g off : Nat} {t : TypeId} {cs : List Value} {d : TypeDesc} (part : List Value) (hx : a.eval x = .pointer (some ⟨g, off, none⟩)) (hb : Bk w g t cs) (hp : (cs.drop off).take part.length = part)
    (hu : P.underlying ty = some d) (hd : d.isRow = true) (hi : (P.info? ty).map (·.size) = some part.length) (h : wpList P ops Q rest (a.put o.dst (.agg part.toArray)) w) : wpList P ops Q (o :: rest) a w := by
  unfold wpList
  rw [if_pos hw]
  refine .inl (wp_load_mid ty x ho g off hx part d (fun j v hv => ?_) hu hd hi h)
  rw [hb.cell]
  rw [← hp, List.getElem?_take] at hv
  split at hv
  · rw [List.getElem?_drop] at hv; exact hv
  · cases hv
/-- an aggregate stored over a whole block -/
theorem wpList_stA {P : Program} {w : World} {ops : Array Oper} {rest : List Oper} {o : Oper} {a : Act} {Q : Exit → Act → World → Prop} (ty : TypeId) (x y : Operand) (ho : o.op = .store ty x y) (hgd : o.guard = none)
    {g : Nat} {t : TypeId} (new old : List Value) (hl : new.length = old.length) (h1 : ∀ u ∈ new, u.oneCell' = true) (hx : a.eval x = .pointer (some ⟨g, 0, none⟩)) (hy : a.eval y = .agg new.toArray) (hb : Bk w g t old)
    (hi : (P.info? ty).map (·.size) = some new.length) (h : ∀ w', Bk w' g t new → w.grownBy w' (some g) → wpList P ops Q rest (a.put o.dst undef) w') : wpList P ops Q (o :: rest) a w := by
  refine wpList_store_mid hgd ty x y ho g 0 new.toArray hx hy (fun j hj => ?_) (by simpa using hi) (all_oneCell_toArray h1) (h _ ?_ ?_)
  · rw [Nat.zero_add]
    have hj' : j < old.length := by rw [← hl]; simpa using hj
    exact ⟨by rw [hb.cell, List.getElem?_eq_getElem hj']; rfl, hb.frozen j⟩
  · have := Bk.setCells new old 0 hb (by omega)
    simpa using this
  · generalize 0 = k
    clear hi h hb hy hl
    induction new generalizing w k with
    | nil => exact World.grownBy.refl _ _
    | cons v r ih => exact (grownBy_setCell _ _ _ _).trans (ih (fun u hu => h1 u (List.mem_cons_of_mem _ hu)) _)
/-- an operation whose value is known -/
theorem wpList_build {P : Program} {w : World} {ops : Array Oper} {rest : List Oper} {o : Oper} {a : Act} {Q : Exit → Act → World → Prop} (ty : TypeId) (ps : List (Nat × Operand)) (ho : o.op = .build ty ps.toArray) (hgd : o.guard = none) (v : Value)
    (hv : (Instr.build ty (ps.map fun p => (p.1, a.eval p.2)).toArray).run P w = .ok v w) (h : wpList P ops Q rest (a.put o.dst v) w) : wpList P ops Q (o :: rest) a w := by
  refine wpList_plain hgd fun _ hK => ?_
  unfold Oper.wp execOp
  simp only [ho, Sem.run_bind, List.map_toArray, hv, Result.andThen_ok, Sem.run_pure]
  exact hK _ _ h
theorem below_grown {w w1 w2 : World} {g : Nat} (h : Below w.heap.size w w1) (hg : w1.grownBy w2 (some g)) (hl : w.heap.size ≤ g) : Below w.heap.size w w2 :=
  h.trans (below_of_grown hg h.size (fun k hk => by injection hk with hk; omega))
theorem Bk.newK {W : World} {k : Nat} (t : TypeId) (cs : Array Value) (l : List Value) (hk : k = W.heap.size) (hl : cs.toList = l) : Bk (W.alloc (.cells cs t)) k t l := by
  subst hk
  subst hl
  exact Bk.new W t cs
theorem Below.allocS {a w : World} (h : Below a.heap.size a w) (o : Obj) : Below a.heap.size a (w.alloc o) := h.alloc h.size o
def MP.blk (base : Nat) (t : TypeId) (cs : List Value) : MP := ⟨fun v w => ∃ g, v = .pointer (some ⟨g, 0, none⟩) ∧ base ≤ g ∧ Bk w g t cs, fun _ _ _ ⟨g, h1, h2, h3⟩ h => ⟨g, h1, h2, h3.later h.below⟩⟩
end Go.Proofs.Ytenaiojddohbkaa

/- A region that draws its order and builds structs or rows in new blocks: stores into the new blocks may stand anywhere among the other operations. -/
namespace Go.Proofs.Ytenaiojddohbkaa
open Go.RowKit
set_option linter.unusedVariables false
set_option linter.unusedSimpArgs false

/-- what a value v is good for, beside the value u of another operation; it stays so as memory grows, and as blocks of the types S are written -/
structure MW (base : Nat) (S : TypeId → Bool) where
  p : Value → Value → World → Prop
  ex : ∀ v u w w', p v u w → Ex w w' → p v u w'
  st : ∀ v u w b t cs k x, p v u w → Bk w b t cs → S t = true → base ≤ b → p v u (w.setCell ⟨b, k, none⟩ x)
section
variable {base : Nat} {S : TypeId → Bool}
def MW.any : MW base S := ⟨fun _ _ _ => True, fun _ _ _ _ _ _ => trivial, fun _ _ _ _ _ _ _ _ _ _ _ _ => trivial⟩
def MW.eq (c : Value) : MW base S := ⟨fun v _ _ => v = c, fun _ _ _ _ h _ => h, fun _ _ _ _ _ _ _ _ h _ _ _ => h⟩
/-- a slice over the other's block -/
def MW.sl (n : Nat) : MW base S := ⟨fun v u _ => ∃ b, u = .pointer (some ⟨b, 0, none⟩) ∧ v = .slice (some ⟨b, 0, none⟩) n n, fun _ _ _ _ h _ => h, fun _ _ _ _ _ _ _ _ h _ _ _ => h⟩
/-- no more than that it is a word that holds of the value alone -/
def MW.of (q : Value → Prop) : MW base S := ⟨fun v _ _ => q v, fun _ _ _ _ h _ => h, fun _ _ _ _ _ _ _ _ h _ _ _ => h⟩
theorem Ob.setB {w : World} {A : Option Addr} {n c : Nat} {l : List UInt8} {b : Nat} {t : TypeId} {cs : List Value} {k : Nat} {x : Value} (h : Ob w base A n c l) (hb : Bk w b t cs) (ht : t ≠ 5) : Ob (w.setCell ⟨b, k, none⟩ x) base A n c l := by
  refine h.grown (grownBy_setCell w b k x) fun j hj e => ?_
  injection e with e
  subst e
  rcases h.2.2 with ⟨hv, _⟩ | ⟨g, cap, cur, hv, _, hg, _⟩
  · rw [hv] at hj
    simp [Value.ownBlock] at hj
  · rw [hv] at hj
    simp [Value.ownBlock] at hj
    subst hj
    rw [Bk] at hb
    rw [hb] at hg
    injection hg with hg
    injection hg with _ h2
    exact ht h2
theorem S_ne {t : TypeId} (hS : S 5 = false) (ht : S t = true) : t ≠ 5 := fun e => by subst e; rw [hS] at ht; cases ht
/-- new bytes -/
def MW.ob (hS : S 5 = false) (l : List UInt8) : MW base S := ⟨fun v _ w => ∃ A n c, v = .slice A n c ∧ Ob w base A n c l, fun _ _ _ _ ⟨A, n, c, h1, h2⟩ h => ⟨A, n, c, h1, h2.later h.below⟩,
  fun _ _ _ _ _ _ _ _ ⟨A, n, c, h1, h2⟩ hb hs _ => ⟨A, n, c, h1, h2.setB hb (S_ne hS hs)⟩⟩
end

/-- where a stored value comes from: another operation of the region, or it is known -/
inductive BSrc | op (j : Nat) | val (v : Value)
def BSrc.get (vs : Nat → Value) : BSrc → Value | .op j => vs j | .val v => v
/-- a block that is built: the operation that makes it, its cells' type, its cells as they are made, the stores into it: operation, cell, value -/
structure Bld where
  a : Nat
  t : TypeId
  cs : List Value
  sts : List (Nat × Nat × BSrc)
def Bld.at_ (B : Bld) (done : Nat → Bool) (vs : Nat → Value) (k : Nat) : Value :=
  match B.sts.find? (fun e => e.2.1 == k) with
  | some e => if done e.1 then e.2.2.get vs else B.cs.getD k undef
  | none => B.cs.getD k undef
def Bld.cells (B : Bld) (done : Nat → Bool) (vs : Nat → Value) : List Value := (List.range B.cs.length).map (B.at_ done vs)
section
variable {P : Program} {Q : Exit → Act → World → Prop}
/-- operation i waits for operation j, over at most f others -/
def tw (ops : Array Oper) (n : Nat) : Nat → Nat → Nat → Bool
  | 0, i, j => Region.waitsFor .any ops i j
  | f + 1, i, j => Region.waitsFor .any ops i j || (List.range n).any fun k => Region.waitsFor .any ops i k && tw ops n f k j
theorem tw_listed {ops : Array Oper} {n : Nat} {listed : Array Bool} (inv : HeadInv .any ops n listed) : ∀ (f i j : Nat), (∀ k, Region.waitsFor .any ops i k = true → listed.getD k false = true) → tw ops n f i j = true → listed.getD j false = true
  | 0, i, j, h, ht => h j ht
  | f + 1, i, j, h, ht => by
    simp only [tw, Bool.or_eq_true] at ht
    rcases ht with ht | ht
    · exact h j ht
    · obtain ⟨k, _, hk⟩ := List.any_eq_true.1 ht
      simp only [Bool.and_eq_true] at hk
      refine tw_listed inv f k j (fun k' hk' => ?_) hk.2
      obtain ⟨ok, hok, e, he, hb, hon⟩ := Region.waitsFor_spec hk'
      rw [← hon]
      exact inv.closed k ok hok (h k hk.1) e he hb
end
end Go.Proofs.Ytenaiojddohbkaa

/- A region that draws its order, some of whose operations change known blocks, one behind the other (calls on a reader): the others read, or make memory. -/
namespace Go.Proofs.Ytenaiojddohbkaa
open Go.RowKit
set_option linter.unusedVariables false
set_option linter.unusedSimpArgs false

/-- w' is w with other cells in the blocks D, and more blocks -/
structure Chg (D : Nat → Prop) (w w' : World) : Prop where
  os : w'.os = w.os
  tape : w'.tape = w.tape
  output : w'.output = w.output
  size : w.heap.size ≤ w'.heap.size
  block : ∀ b, b < w.heap.size → ¬ D b → w'.heap[b]? = w.heap[b]?
section
variable {D : Nat → Prop} {w w' w'' : World}
theorem Chg.refl (w : World) : Chg D w w := ⟨rfl, rfl, rfl, Nat.le_refl _, fun _ _ _ => rfl⟩
theorem Chg.trans (h : Chg D w w') (h' : Chg D w' w'') : Chg D w w'' := ⟨h'.os.trans h.os, h'.tape.trans h.tape, h'.output.trans h.output, Nat.le_trans h.size h'.size, fun b hb hd => (h'.block b (Nat.lt_of_lt_of_le hb h.size) hd).trans (h.block b hb hd)⟩
theorem Chg.below {B : Nat} (h : Chg D w w') (hD : ∀ b, D b → B ≤ b) (hB : B ≤ w.heap.size) : Below B w w' := ⟨h.os, h.tape, h.output, h.size, fun b hb => h.block b (by omega) (fun hd => by have := hD b hd; omega)⟩
theorem Chg.of_below (h : Below w.heap.size w w') : Chg D w w' := ⟨h.os, h.tape, h.output, h.size, fun b hb _ => h.block b hb⟩
theorem Chg.ex (h : Ex w w') : Chg D w w' := .of_below h.below
theorem Chg.grown {row : Option Nat} (h : w.grownBy w' row) (hr : ∀ k, row = some k → D k) : Chg D w w' := ⟨h.os, h.tape, h.output, h.size, fun b hb hd => h.block b hb (fun e => hd (hr b e.symm))⟩
theorem Bk.chg {g : Nat} {t : TypeId} {cs : List Value} (h : Bk w g t cs) (hc : Chg D w w') (hd : ¬ D g) : Bk w' g t cs := (hc.block g h.lt hd).trans h
theorem Rb.chg {A : Option Addr} {n c : Nat} {l : List UInt8} (h : Rb w A n c l) (hc : Chg D w w') (hd : ∀ a, A = some a → ¬ D a.block) : Rb w' A n c l := by
  refine ⟨h.1, h.2.1, ?_⟩
  rcases h.2.2 with h' | ⟨b, off, hA, hb, hcell⟩
  · exact .inl h'
  · exact .inr ⟨b, off, hA, Nat.lt_of_lt_of_le hb hc.size, fun i u hu => (World.cell?_of_block (hc.block b hb (hd _ hA))).trans (hcell i u hu)⟩
theorem Ob.chg {base : Nat} {A : Option Addr} {n c : Nat} {l : List UInt8} (h : Ob w base A n c l) (hc : Chg D w w') (hd : ∀ b, D b → b < base) : Ob w' base A n c l := by
  refine ⟨h.1, h.2.1, ?_⟩
  rcases h.2.2 with h' | ⟨g, cap, cur, hv, hg, hh, hr⟩
  · exact .inl h'
  · refine .inr ⟨g, cap, cur, hv, hg, ?_, hr⟩
    rw [hc.block g (by rcases Nat.lt_or_ge g w.heap.size with h1 | h1; exact h1; rw [Array.getElem?_eq_none h1] at hh; cases hh) (fun hd' => by have := hd g hd'; omega)]
    exact hh
end
/-- what a value is good for, whatever happens in the blocks D -/
structure MC (D : Nat → Prop) where
  p : Value → World → Prop
  mono : ∀ v w w', p v w → Chg D w w' → p v w'
def MC.any {D : Nat → Prop} : MC D := ⟨fun _ _ => True, fun _ _ _ _ _ => trivial⟩
def MC.eq {D : Nat → Prop} (c : Value) : MC D := ⟨fun v _ => v = c, fun _ _ _ h _ => h⟩
def MC.ob {D : Nat → Prop} (base : Nat) (hd : ∀ b, D b → b < base) (l : List UInt8) : MC D := ⟨fun v w => ∃ A n c, v = .slice A n c ∧ Ob w base A n c l, fun _ _ _ ⟨A, n, c, h1, h2⟩ h => ⟨A, n, c, h1, h2.chg h hd⟩⟩
def MC.blk {D : Nat → Prop} (base : Nat) (hd : ∀ b, D b → b < base) (t : TypeId) (cs : List Value) : MC D := ⟨fun v w => ∃ g, v = .pointer (some ⟨g, 0, none⟩) ∧ base ≤ g ∧ Bk w g t cs, fun _ _ _ ⟨g, h1, h2, h3⟩ h => ⟨g, h1, h2, h3.chg h (fun hg => by have := hd g hg; omega)⟩⟩

section
variable {P : Program} {Q : Exit → Act → World → Prop}
end
end Go.Proofs.Ytenaiojddohbkaa

/- Connections (chapter 31): flows as keys, maps keyed by flows, doubly linked entries. Plain words; the laws on the map's operations. -/
namespace Go.Proofs.Ytenaiojddohbkaa
open Go.RowKit Go.ChangeShapes Go.WideShapes
open Go.ChangeMaps (setBlock heap_setBlock_same heap_setBlock_other map_eraseIdx)
set_option linter.unusedVariables false
set_option linter.unusedSimpArgs false

/-- a flow's parts -/
structure Fw where
  s1 : Bool
  h1 : Nat
  l1 : Nat
  s2 : Bool
  h2 : Nat
  l2 : Nat
  sp : Nat
  dp : Nat
  p : Nat
def Fw.c (f : Fw) : List Value := flC f.s1 f.h1 f.l1 f.s2 f.h2 f.l2 f.sp f.dp f.p
def Fw.v (f : Fw) : Value := .agg f.c.toArray
noncomputable instance : DecidableEq Fw := fun _ _ => Classical.propDecidable _
theorem Fw.c_one (f : Fw) : ∀ u ∈ f.c, u.oneCell' = true := flC_one _ _ _ _ _ _ _ _ _
theorem Fw.c_len (f : Fw) : f.c.length = 9 := rfl
theorem szFw (f : Fw) : (Try.prog.info? 28).map (·.size) = some f.c.length := szFl _ _ _ _ _ _ _ _ _
set_option maxRecDepth 100000 in
theorem eqI_fw (d : Nat) (hd : d = 9998 ∨ d = 9999) (w : World) (f g : Fw) : (Op.equalIn (d + 1) 28 f.v g.v).run Try.prog w = .ok (decide (f = g)) w := by
  have hS : Try.prog.underlying 28 = some (.struct (Try.prog.fieldsOf 28)) := by kernel_rfl
  have hp : Try.prog.stoodInHeld 28 = false := by kernel_rfl
  obtain ⟨a1, a2, a3, a4, a5, a6, a7, a8, a9⟩ := f
  obtain ⟨b1, b2, b3, b4, b5, b6, b7, b8, b9⟩ := g
  simp only [Fw.v, Fw.c, flC]
  rcases hd with rfl | rfl
  all_goals
    rw [run_equalIn_agg w _ 28 _ _ hS hp]
    simp only [Program.fieldsOf, Try.underlying28]
    go_simp
    repeat' split
    all_goals (simp_all <;> omega)
theorem eq_fw (w : World) (f g : Fw) : (Op.equal 28 f.v g.v).run Try.prog w = .ok (decide (f = g)) w := eqI_fw 9999 (.inr rfl) w f g
theorem eql_fw (w : World) (f g : Fw) : (binOp .eql 28 f.v g.v).run Try.prog w = .ok (.bool (decide (f = g))) w := by
  have h := eqI_fw 9999 (.inr rfl) w f g
  simp only [Fw.v] at h ⊢
  rw [run_eql_struct, h]
  rfl
theorem neq_fw (w : World) (f g : Fw) : (binOp .neq 28 f.v g.v).run Try.prog w = .ok (.bool (!decide (f = g))) w := by
  have h := eqI_fw 9999 (.inr rfl) w f g
  simp only [Fw.v] at h ⊢
  rw [run_neq_struct, h]
  rfl
theorem check_leaf (w : World) (em : Bool) (n : Nat) (t : TypeId) (v : Value) {d : TypeDesc} (h : Try.prog.underlying t = some d) (hd : (∃ k, d = .int k) ∨ d = .bool) : (Instr.checkKey em (n + 1) t v).run Try.prog w = .ok () w := by
  unfold Instr.checkKey
  simp only [Sem.run_bind, run_underlying h, Result.andThen_ok]
  rcases hd with ⟨k, rfl⟩ | rfl <;> rfl
theorem check_adr (w : World) (em : Bool) (n : Nat) (s : Bool) (a b : Nat) : (Instr.checkKey em (n + 1 + 1) 25 (.agg #[.bool s, .int .u64 (a : Int), .int .u64 (b : Int)])).run Try.prog w = .ok () w := by
  have l1 := fun (v : Value) (w : World) => check_leaf w em n 4 v Try.underlying4 (.inr rfl)
  have l2 := fun (v : Value) (w : World) => check_leaf w em n 23 v Try.underlying23 (.inl ⟨_, rfl⟩)
  unfold Instr.checkKey
  simp only [Sem.run_bind, run_underlying Try.underlying25, Result.andThen_ok]
  simp only [← Array.forIn_toList, List.forIn_cons, List.forIn_nil]
  go_simp
set_option maxRecDepth 100000 in
theorem check_fw (w : World) (em : Bool) (f : Fw) : (Instr.checkKey em 10000 28 f.v).run Try.prog w = .ok () w := by
  have l0 := fun (w : World) (s : Bool) (a b : Nat) => check_adr w em 9997 s a b
  have l1 := fun (v : Value) (w : World) => check_leaf w em 9998 26 v Try.underlying26 (.inl ⟨_, rfl⟩)
  have l2 := fun (v : Value) (w : World) => check_leaf w em 9998 5 v Try.underlying5 (.inl ⟨_, rfl⟩)
  simp only [Nat.reduceAdd] at l0 l1 l2
  simp only [Fw.v, Fw.c, flC]
  unfold Instr.checkKey
  simp only [Sem.run_bind, run_underlying Try.underlying28, Result.andThen_ok]
  simp only [← Array.forIn_toList, List.forIn_cons, List.forIn_nil]
  go_simp
/-- where a flow stands among a map's entries -/
noncomputable def findL (f : Fw) : List (Fw × Value) → Nat → Option (Nat × Value)
  | [], _ => none
  | x :: t, i => if f = x.1 then some (i, x.2) else findL f t (i + 1)
theorem findA_fw (w : World) (f : Fw) : ∀ (L : List (Fw × Value)) (es : List MapEntry) (i : Nat), es.map (fun e => (e.key, e.val)) = L.map (fun x => (x.1.v, x.2)) →
    (Instr.findAsking 28 f.v es i).run Try.prog w = .ok (findL f L i) w
  | [], es, i, h => by
    obtain rfl : es = [] := by simpa using h
    rfl
  | x :: t, [], i, h => by simp at h
  | x :: t, e :: es, i, h => by
    simp only [List.map_cons, List.cons.injEq, Prod.mk.injEq] at h
    obtain ⟨⟨hk, hv⟩, ht⟩ := h
    unfold Instr.findAsking findL
    rw [Sem.run_bind, hk, eq_fw]
    simp only [Result.andThen_ok]
    by_cases hf : f = x.1
    · simp [hf, hv]
    · simp only [hf, decide_false, if_false]
      exact findA_fw w f t es (i + 1) ht
theorem find_fw (w : World) (f : Fw) (L : List (Fw × Value)) (es : List MapEntry) (h : es.map (fun e => (e.key, e.val)) = L.map (fun x => (x.1.v, x.2))) :
    (Instr.findKey 28 f.v es).run Try.prog w = .ok (findL f L 0) w := by
  obtain ⟨fs, hS⟩ : ∃ fs, Try.prog.underlying 28 = some (.struct fs) := ⟨_, Try.underlying28⟩
  unfold Instr.findKey
  rw [Sem.run_bind, run_underlying hS]
  simp only [Result.andThen_ok]
  rcases es with _ | ⟨e, es⟩
  · obtain rfl : L = [] := by simpa using h.symm
    rfl
  · have : Instr.findNow (.struct fs) f.v (e :: es) 0 = none := by
      unfold Instr.findNow Instr.sameNow Fw.v
      rfl
    rw [this]
    exact findA_fw w f L (e :: es) 0 h
theorem eraseIdx_map {α β : Type} (f : α → β) : ∀ (l : List α) (i : Nat), (l.eraseIdx i).map f = (l.map f).eraseIdx i
  | [], _ => rfl
  | x :: t, 0 => rfl
  | x :: t, i + 1 => by simp [eraseIdx_map f t i]
/-- block m is a map whose entries are L, in their order -/
def Mp (w : World) (m : Nat) (L : List (Fw × Value)) : Prop := ∃ es clk, w.heap[m]? = some (.map es clk) ∧ es.toList.map (fun e => (e.key, e.val)) = L.map (fun x => (x.1.v, x.2))
theorem Mp.lt {w : World} {m : Nat} {L : List (Fw × Value)} (h : Mp w m L) : m < w.heap.size := by
  obtain ⟨es, clk, h, _⟩ := h
  by_cases hlt : m < w.heap.size
  · exact hlt
  · rw [Array.getElem?_eq_none (by omega)] at h; cases h
theorem Mp.new (w : World) : Mp (w.alloc (.map #[] 0)) w.heap.size [] := ⟨#[], 0, heap_alloc_new w _, rfl⟩
theorem Mp.block {w w' : World} {m : Nat} {L : List (Fw × Value)} (h : Mp w m L) (hb : w'.heap[m]? = w.heap[m]?) : Mp w' m L := by
  obtain ⟨es, clk, h, hl⟩ := h
  exact ⟨es, clk, hb.trans h, hl⟩
theorem Mp.later {w w' : World} {m : Nat} {L : List (Fw × Value)} (h : Mp w m L) (hb : Below w.heap.size w w') : Mp w' m L := h.block (hb.block m h.lt)
theorem Mp.chg {D : Nat → Prop} {w w' : World} {m : Nat} {L : List (Fw × Value)} (h : Mp w m L) (hc : Chg D w w') (hd : ¬ D m) : Mp w' m L := h.block (hc.block m h.lt hd)
theorem Mp.alloc {w : World} {m : Nat} {L : List (Fw × Value)} (h : Mp w m L) (o : Obj) : Mp (w.alloc o) m L := h.block (Below.heap_alloc w o m h.lt)
theorem Mp.far {w : World} {m : Nat} {L : List (Fw × Value)} (h : Mp w m L) {p : Addr} (hp : m ≠ p.block) (u : Value) : Mp (w.setCell p u) m L := h.block (Below.heap_setCell w p u m hp)
theorem Mp.len {w : World} {m : Nat} {L : List (Fw × Value)} (h : Mp w m L) (ty : TypeId) : (Builtin.len_ #[49] ty #[.map (some m)]).run Try.prog w = .ok (.int .i64 (L.length : Int)) w := by
  obtain ⟨es, clk, hb, hl⟩ := h
  have e1 : es.size = L.length := by have := congrArg List.length hl; simpa using this
  simp [Builtin.len_, run_underlying Try.underlying49, MapKept.run_getObj_map hb, goInt, Result.andThen, e1]
/-- what is at a flow: an entry's address, or nil -/
noncomputable def atL (f : Fw) (L : List (Fw × Value)) : Value := match findL f L 0 with | some x => x.2 | none => .pointer none
theorem Mp.look {w : World} {m : Nat} {L : List (Fw × Value)} (h : Mp w m L) (f : Fw) : (Instr.lookup 49 (.map (some m)) f.v false).run Try.prog w = .ok (atL f L) w := by
  obtain ⟨es, clk, hb, hl⟩ := h
  have hz : (zeroValue 50).run Try.prog w = .ok (.pointer none) w := by kernel_rfl
  unfold atL
  rcases hf : findL f L 0 with _ | ⟨i, v⟩ <;>
    simp [Instr.lookup, run_underlying Try.underlying49, MapKept.run_getObj_map hb, check_fw, find_fw w f L es.toList hl, hf, hz, Result.andThen]
theorem Mp.put {w : World} {m : Nat} {L : List (Fw × Value)} (h : Mp w m L) (f : Fw) (hf : findL f L 0 = none) (v : Value) :
    ∃ w', (Instr.mapUpdate 49 (.map (some m)) f.v v).run Try.prog w = .ok () w' ∧ Mp w' m (L ++ [(f, v)]) ∧ w.grownBy w' (some m) := by
  obtain ⟨es, clk, hb, hl⟩ := h
  refine ⟨setBlock w m (.map (es.push ⟨f.v, v, clk⟩) (clk + 1)), ?_, ⟨_, _, heap_setBlock_same hb _, by simp [hl]⟩, ⟨rfl, rfl, rfl, by simp [setBlock], fun i _ hi => heap_setBlock_other hb _ (fun e => hi (by rw [e]))⟩⟩
  simp [Instr.mapUpdate, run_underlying Try.underlying49, MapKept.run_getObj_map hb, check_fw, find_fw w f L es.toList hl, hf, MapKept.run_setObj_map _ hb, Result.andThen, setBlock]
theorem Mp.drop {w : World} {m : Nat} {L : List (Fw × Value)} (h : Mp w m L) (f : Fw) {i : Nat} {v : Value} (hf : findL f L 0 = some (i, v)) (ty : TypeId) :
    ∃ w', (Builtin.delete_ #[49, 28] ty #[.map (some m), f.v]).run Try.prog w = .ok (.tuple #[]) w' ∧ Mp w' m (L.eraseIdx i) ∧ w.grownBy w' (some m) := by
  obtain ⟨es, clk, hb, hl⟩ := h
  refine ⟨setBlock w m (.map (es.eraseIdxIfInBounds i) clk), ?_, ⟨_, _, heap_setBlock_same hb _, ?_⟩, ⟨rfl, rfl, rfl, by simp [setBlock], fun i _ hi => heap_setBlock_other hb _ (fun e => hi (by rw [e]))⟩⟩
  · simp [Builtin.delete_, run_underlying Try.underlying49, MapKept.run_getObj_map hb, check_fw, find_fw w f L es.toList hl, hf, MapKept.run_setObj_map _ hb, Result.andThen, setBlock]
  · rw [show (es.eraseIdxIfInBounds i).toList = es.toList.eraseIdx i by simp [Array.eraseIdxIfInBounds]; split <;> simp_all [List.eraseIdx_of_length_le], eraseIdx_map, hl, ← eraseIdx_map]
theorem wpList_put {w : World} {ops : Array Oper} {rest : List Oper} {o : Oper} {a : Act} {Q : Exit → Act → World → Prop} (hg : o.guard = none) (x y z : Operand) (hop : o.op = Op.mapUpdate 49 x y z)
    {m : Nat} {L : List (Fw × Value)} (hx : a.eval x = .map (some m)) (f : Fw) (hy : a.eval y = f.v) (v : Value) (hz : a.eval z = v) (h : Mp w m L) (hf : findL f L 0 = none)
    (hK : ∀ w', Mp w' m (L ++ [(f, v)]) → w.grownBy w' (some m) → wpList Try.prog ops Q rest (a.put o.dst undef) w') : wpList Try.prog ops Q (o :: rest) a w := by
  refine wpList_plain hg fun K' hK' => ?_
  obtain ⟨w', hrun, r1, r2⟩ := h.put f hf v
  unfold Oper.wp
  simp [execOp, hop, hx, hy, hz, hrun, Result.andThen]
  exact hK' _ _ (hK w' r1 r2)
theorem wpList_drop {w : World} {ops : Array Oper} {rest : List Oper} {o : Oper} {a : Act} {Q : Exit → Act → World → Prop} (hg : o.guard = none) (x y : Operand)
    (hop : o.op = Op.call { callee := Callee.builtin Builtin.delete, args := #[x, y], argTypes := #[49, 28] })
    {m : Nat} {L : List (Fw × Value)} (hx : a.eval x = .map (some m)) (f : Fw) (hy : a.eval y = f.v) (h : Mp w m L) {i : Nat} {v : Value} (hf : findL f L 0 = some (i, v))
    (hK : ∀ w', Mp w' m (L.eraseIdx i) → w.grownBy w' (some m) → wpList Try.prog ops Q rest (a.put o.dst (.tuple #[])) w') : wpList Try.prog ops Q (o :: rest) a w := by
  refine wpList_plain hg fun K' hK' => ?_
  obtain ⟨w', hrun, r1, r2⟩ := h.drop f hf o.type
  unfold Oper.wp
  simp [execOp, hop, resolve, invoke, builtin, hx, hy, hrun, Result.andThen]
  exact hK' _ _ (hK w' r1 r2)
theorem wpList_lenM {w : World} {ops : Array Oper} {rest : List Oper} {o : Oper} {a : Act} {Q : Exit → Act → World → Prop} (hg : o.guard = none) (x : Operand)
    (hop : o.op = Op.call { callee := Callee.builtin Builtin.len, args := #[x], argTypes := #[49] })
    {m : Nat} {L : List (Fw × Value)} (hx : a.eval x = .map (some m)) (h : Mp w m L) (hK : wpList Try.prog ops Q rest (a.put o.dst (.int .i64 (L.length : Int))) w) : wpList Try.prog ops Q (o :: rest) a w := by
  refine wpList_plain hg fun K' hK' => ?_
  unfold Oper.wp
  simp [execOp, hop, resolve, invoke, builtin, hx, h.len o.type, Result.andThen]
  exact hK' _ _ hK

/-! ### the list of uses -/
/-- an entry: its flow, its word, its block -/
structure En where
  f : Fw
  wd : Nat
  b : Nat
def pp : Option Nat → Value
  | none => .pointer none
  | some b => .pointer (some ⟨b, 0, none⟩)
def enC (f : Fw) (wd : Nat) (o n : Option Nat) : List Value := f.c ++ [.int .u16 (wd : Int), pp o, pp n]
def hdB (n : Option Nat) : List En → Option Nat
  | [] => n
  | x :: _ => some x.b
def lsB (o : Option Nat) : List En → Option Nat
  | [] => o
  | x :: t => lsB (some x.b) t
theorem lsB_snoc (o : Option Nat) (p : List En) (x : En) : lsB o (p ++ [x]) = some x.b := by
  induction p generalizing o with
  | nil => rfl
  | cons y t ih => exact ih _
theorem lsB_app (o : Option Nat) (p s : List En) : lsB o (p ++ s) = lsB (lsB o p) s := by
  induction p generalizing o with
  | nil => rfl
  | cons y t ih => exact ih _
theorem hdB_app (n : Option Nat) (p s : List En) : hdB n (p ++ s) = hdB (hdB n s) p := by cases p <;> rfl
/-- entries that stand in a row: each tells its neighbours -/
def Seg (w : World) (o : Option Nat) (n : Option Nat) : List En → Prop
  | [] => True
  | x :: t => Bk w x.b 168 (enC x.f x.wd o (hdB n t)) ∧ Seg w (some x.b) n t
theorem Seg.app (w : World) (n : Option Nat) : ∀ (p s : List En) (o : Option Nat), Seg w o n (p ++ s) ↔ Seg w o (hdB n s) p ∧ Seg w (lsB o p) n s
  | [], s, o => by simp [Seg, lsB]
  | x :: t, s, o => by
    simp only [List.cons_append, Seg, lsB, hdB_app, Seg.app w n t s (some x.b)]
    constructor
    · rintro ⟨h1, h2, h3⟩; exact ⟨⟨h1, h2⟩, h3⟩
    · rintro ⟨⟨h1, h2⟩, h3⟩; exact ⟨h1, h2, h3⟩
theorem Seg.keep {w w' : World} {n : Option Nat} : ∀ (l : List En) (o : Option Nat), Seg w o n l → (∀ x ∈ l, w'.heap[x.b]? = w.heap[x.b]?) → Seg w' o n l
  | [], _, _, _ => trivial
  | x :: t, o, h, hk => ⟨(hk x (by simp)).trans h.1, Seg.keep t _ h.2 fun y hy => hk y (by simp [hy])⟩
theorem Seg.lt {w : World} {n : Option Nat} : ∀ (l : List En) (o : Option Nat), Seg w o n l → ∀ x ∈ l, x.b < w.heap.size
  | [], _, _, _, hx => by cases hx
  | y :: t, o, h, x, hx => by
    rcases List.mem_cons.1 hx with rfl | hx
    · exact h.1.lt
    · exact Seg.lt t _ h.2 x hx
/-- the last one's newer neighbour is another -/
theorem Seg.newer {w : World} {n n' : Option Nat} (p : List En) (x : En) (o : Option Nat) (h : Seg w o n (p ++ [x])) (hd : ∀ y ∈ p, y.b ≠ x.b) : Seg (w.setCell ⟨x.b, 11, none⟩ (pp n')) o n' (p ++ [x]) := by
  rw [Seg.app] at h ⊢
  refine ⟨Seg.keep p o h.1 fun y hy => Below.heap_setCell w _ _ _ (hd y hy), ?_, trivial⟩
  have := Bk.set_ h.2.1 11 (pp n')
  exact this
/-- the first one's older neighbour is another -/
theorem Seg.older {w : World} {n o o' : Option Nat} (s : List En) (x : En) (h : Seg w o n (x :: s)) (hd : ∀ y ∈ s, y.b ≠ x.b) : Seg (w.setCell ⟨x.b, 10, none⟩ (pp o')) o' n (x :: s) := by
  refine ⟨?_, Seg.keep s _ h.2 fun y hy => Below.heap_setCell w _ _ _ (hd y hy)⟩
  have := Bk.set_ h.1 10 (pp o')
  exact this
end Go.Proofs.Ytenaiojddohbkaa

/- Slices whose elements have s cells each (structs, ints): read, cut, owned, appended to. No program in sight. -/
namespace Go.Proofs.Ytenaiojddohbkaa
open Go.RowKit Go.ChangeShapes Go.WideShapes
set_option linter.unusedVariables false
set_option linter.unusedSimpArgs false

/-- a slice type, its element type, the element's zero value, its cells and bytes -/
structure ET (P : Program) (ts e : TypeId) (z : Value) (s by_ : Nat) : Prop where
  sl : P.underlying ts = some (.slice e)
  info : (P.info? e).map (fun i => (i.zero, i.size, i.bytes)) = some (some z, s, by_)
  zs : z.cells.size = s
  pos : 0 < s
  small : by_ ≤ 64
/-- a slice reads as the cells cs -/
def Rs (s : Nat) (w : World) (A : Option Addr) (n c : Nat) (cs : List Value) : Prop := cs.length = n * s ∧ n ≤ c ∧ Rd w w.heap.size A cs
/-- a slice of the call's own (its block from base on) reads as cs -/
def Os (e : TypeId) (s : Nat) (w : World) (base : Nat) (A : Option Addr) (n c : Nat) (cs : List Value) : Prop := w.ownsRow base e s (.slice A n c) n cs

theorem Rd.cutS {w : World} {B : Nat} {A : Option Addr} {cs : List Value} (h : Rd w B A cs) {s c k : Nat} (hc : cs.length ≤ c * s) : Rd w B (cutA A c k s) (cs.drop (k * s)) := by
  by_cases hk : cs.length ≤ k * s
  · exact .inl (List.drop_eq_nil_of_le hk)
  rcases h with h | ⟨b, off, hA, hb, hcell⟩
  · exact .inl (by simp [h])
  · have hck : ¬ c = k := fun e => by subst e; exact hk hc
    refine .inr ⟨b, off + k * s, ?_, hb, fun i u hu => ?_⟩
    · subst hA
      simp only [cutA, if_neg hck, Option.map_some, Addr.add]
      split
      · simp_all
      · rfl
    · rw [Nat.add_assoc]
      rw [List.getElem?_drop] at hu
      exact hcell _ _ hu
theorem Rd.of_ownS {w : World} {A : Option Addr} {cs : List Value} {base : Nat} {e : TypeId} {s n c : Nat} (h : w.ownsRow base e s (.slice A n c) n cs) : Rd w w.heap.size A cs := by
  rcases Nat.eq_zero_or_pos n with h0 | h0
  · subst h0
    exact .inl (List.eq_nil_of_length_eq_zero (by simpa using h.1))
  · obtain ⟨g, cap, hv, _, hlt⟩ := h.form h0
    have hA : A = some ⟨g, 0, none⟩ := by injection hv
    subst hA
    refine .inr ⟨g, 0, rfl, hlt, fun i u hu => ?_⟩
    have := h.cells (g := g) rfl i u hu
    have hplain : (⟨g, 0, none⟩ : Addr).add i = ⟨g, 0 + i, none⟩ := by unfold Addr.add; split <;> simp_all
    rwa [hplain] at this
section
variable {s : Nat} {w w' : World} {base : Nat} {e : TypeId} {A : Option Addr} {n c : Nat} {cs : List Value}
theorem Rs.nil_ : Rs s w none 0 0 [] := ⟨by simp, Nat.le_refl _, .inl rfl⟩
theorem Rs.later (h : Rs s w A n c cs) (hb : Below w.heap.size w w') : Rs s w' A n c cs := ⟨h.1, h.2.1, (h.2.2.below hb).more hb.size⟩
theorem Rs.drew (h : Rs s w A n c cs) : Rs s w.drew A n c cs := h
theorem Rs.alloc (h : Rs s w A n c cs) (o : Obj) : Rs s (w.alloc o) A n c cs := ⟨h.1, h.2.1, (h.2.2.alloc (Nat.le_refl _) o).more (by simp)⟩
theorem Rs.plus_ (h : Rs s w A n c cs) (bs : List Obj) (d : Nat) : Rs s (plus w bs d) A n c cs := h.later (below_plus w bs d)
theorem Rs.take (h : Rs s w A n c cs) {k : Nat} (hk : k ≤ n) : Rs s w A k c (cs.take (k * s)) := ⟨by rw [List.length_take, h.1]; exact Nat.min_eq_left (Nat.mul_le_mul_right _ hk), Nat.le_trans hk h.2.1, h.2.2.take _⟩
theorem Rs.cut (h : Rs s w A n c cs) {k : Nat} (hk : k ≤ n) : Rs s w (cutA A c k s) (n - k) (c - k) (cs.drop (k * s)) :=
  ⟨by rw [List.length_drop, h.1, Nat.sub_mul], by have := h.2.1; omega, h.2.2.cutS (by rw [h.1]; exact Nat.mul_le_mul_right _ h.2.1)⟩
theorem Rs.grown (h : Rs s w A n c cs) {row : Option Nat} (hg : w.grownBy w' row) (hr : ∀ a, A = some a → some a.block ≠ row) : Rs s w' A n c cs := by
  refine ⟨h.1, h.2.1, ?_⟩
  rcases h.2.2 with h' | ⟨b, off, hA, hbl, hc⟩
  · exact .inl h'
  · exact .inr ⟨b, off, hA, Nat.lt_of_lt_of_le hbl hg.size, fun i u hu => (World.cell?_of_block (hg.block b hbl (hr _ hA))).trans (hc i u hu)⟩
/-- the i-th element's cells -/
theorem Rs.at_ (h : Rs s w A n c cs) (hn : 0 < n) (hs : 0 < s) : ∃ b off, A = some ⟨b, off, none⟩ ∧ b < w.heap.size ∧ ∀ i u, cs[i]? = some u → w.cell? ⟨b, off + i, none⟩ = some u :=
  h.2.2.at_ (by rw [h.1]; exact Nat.mul_pos hn hs)
theorem Os.rs (h : Os e s w base A n c cs) : Rs s w A n c cs := by
  refine ⟨h.1, ?_, Rd.of_ownS h⟩
  rcases h.2 with ⟨hv, h0⟩ | ⟨g, cap, cur, hv, _, _, hnc, _⟩
  · omega
  · injection hv with _ _ h3
    omega
theorem Os.nil_ : Os e s w base none 0 0 [] := World.ownsRow_nil w base _ s
theorem Os.blk (h : Os e s w base A n c cs) : ∀ k, (Value.slice A n c).ownBlock = some k → base ≤ k ∧ k < w.heap.size := h.lt
theorem Os.grown {row : Option Nat} (h : Os e s w base A n c cs) (hg : w.grownBy w' row) (hne : ∀ k, (Value.slice A n c).ownBlock = some k → row ≠ some k) : Os e s w' base A n c cs := by
  refine h.kept hg ?_
  cases hk : (Value.slice A n c).ownBlock with
  | none => exact .inl rfl
  | some k => exact .inr (fun e => hne k hk e.symm)
theorem Os.later (h : Os e s w base A n c cs) (hb : Below w.heap.size w w') : Os e s w' base A n c cs := h.grown (grownBy_of_below hb) (fun _ _ => by simp)
theorem Os.plus_ (h : Os e s w base A n c cs) (bs : List Obj) (d : Nat) : Os e s (plus w bs d) base A n c cs := h.later (below_plus w bs d)
theorem Os.mono {base' : Nat} (h : Os e s w base A n c cs) (hb : base' ≤ base) : Os e s w base' A n c cs := by
  refine ⟨h.1, ?_⟩
  rcases h.2 with h2 | ⟨g, cap, cur, hv, hg, hr⟩
  · exact .inl h2
  · exact .inr ⟨g, cap, cur, hv, by omega, hr⟩
end
/-- new elements, written out -/
theorem Os.lit (w : World) {base s : Nat} {e : TypeId} (hb : base ≤ w.heap.size) (cs : Array Value) (n : Nat) (hn : cs.size = n * s) (hm : n ≤ maxLen) : Os e s (w.alloc (.cells cs e)) base (some ⟨w.heap.size, 0, none⟩) n n cs.toList :=
  ⟨by simpa using hn, .inr ⟨w.heap.size, n, cs, rfl, hb, heap_alloc_new w _, Nat.le_refl _, hm, hn, List.take_of_length_le (by simp [hn])⟩⟩
/-- append onto a row of the call's own, whatever the source -/
theorem run_appS {P : Program} (w : World) {ts ty e : TypeId} {z : Value} {s by_ : Nat} (et : ET P ts e z s by_) {base : Nat} {A : Option Addr} {n c : Nat} {l : List Value} (hown : Os e s w base A n c l)
    {A2 : Option Addr} {n2 c2 : Nat} {l2 : List Value} (hr : Rs s w A2 n2 c2 l2) (h1 : ∀ u ∈ l2, u.oneCell' = true) (hm : n + n2 ≤ 1099511627776) (hbase : base ≤ w.heap.size) :
    ∃ A' n' c' w', (Builtin.append_ #[ts, ts] ty #[.slice A n c, .slice A2 n2 c2]).run P w = .ok (.slice A' n' c') w' ∧ n' = n + n2 ∧ Os e s w' base A' n' c' (l ++ l2) ∧ Below base w w' ∧ w.grownBy w' (Value.slice A n c).ownBlock := by
  obtain ⟨i, hi, hz0, hz1, hz2⟩ := info_parts et.info
  have hbel : ∀ {w'}, w.grownBy w' (Value.slice A n c).ownBlock → Below base w w' := fun hg => below_of_grown hg hbase fun k hk => (hown.blk k hk).1
  have fin : ∀ v' w', w'.ownsRow base e s v' (n + n2) (l ++ l2) → ∃ A' n' c', v' = .slice A' n' c' ∧ n' = n + n2 ∧ Os e s w' base A' n' c' (l ++ l2) := by
    intro v' w' h
    have h2 := h.2
    rcases h2 with ⟨hv, h0⟩ | ⟨g, cap, cur, hv, _⟩
    · refine ⟨none, 0, 0, hv, h0.symm, ?_⟩
      rw [hv, h0] at h
      exact h
    · refine ⟨_, _, _, hv, rfl, ?_⟩
      rw [hv] at h
      exact h
  cases A2 with
  | none =>
    have hl2 : l2 = [] := by
      rcases hr.2.2 with h | ⟨b, off, h, _⟩
      · exact h
      · cases h
    have hn2 : n2 = 0 := by
      have h3 := hr.1
      rw [hl2] at h3
      rcases Nat.eq_zero_or_pos n2 with h | h
      · exact h
      · have := Nat.mul_pos h et.pos
        simp at h3
        omega
    subst hn2
    subst hl2
    refine ⟨A, n, c, w, ?_, rfl, by simpa using hown, Below.refl _ _, World.grownBy.refl w _⟩
    rcases hown.2 with ⟨hv, h0⟩ | ⟨g, cap, cur, hv, _, _, hnc, _⟩
    · injection hv with h1 h2 h3
      subst h1 h2 h3
      simp [Builtin.append_, run_underlying et.sl, sizeOf, typeInfo, hi, Builtin.lenOf, Builtin.firstCells]
    · injection hv with h1 h2 h3
      subst h1 h3
      simp [Builtin.append_, run_underlying et.sl, sizeOf, typeInfo, hi, Builtin.lenOf, Builtin.firstCells, hnc, storeCells]
  | some ad =>
    have hcells : ∀ j u, l2[j]? = some u → w.cell? (ad.add j) = some u := by
      intro j u hu
      rcases hr.2.2 with h | ⟨b, off, h, _, hc⟩
      · rw [h] at hu; simp at hu
      · injection h with h
        subst h
        rw [add_plain]
        exact hc j u hu
    have hby : (n + n2) * by_ ≤ 140737488355328 := Nat.le_trans (Nat.mul_le_mul hm et.small) (by decide)
    obtain ⟨v', w', hrun, h2, h3, _, _⟩ := run_append_own_at (P := P) w base ts ty e i z s by_ et.sl hi hz0 hz1 hz2 et.zs et.pos (.slice A n c) n l hown ad n2 c2 l2
      hr.1 hcells h1 (by simp only [maxLen]; omega) hby hbase
    obtain ⟨A', n', c', rfl, hn', hob⟩ := fin v' w' h2
    exact ⟨A', n', c', w', hrun, hn', hob, hbel h3, h3⟩

theorem wpList_appS {P : Program} {w : World} {ops : Array Oper} {rest : List Oper} {o : Oper} {a : Act} {Q : Exit → Act → World → Prop} {ts e : TypeId} {z : Value} {sz by_ : Nat} (et : ET P ts e z sz by_) (hgd : o.guard = none) (s x : Operand)
    (ho : o.op = .call { callee := .builtin .append, args := #[s, x], argTypes := #[ts, ts] })
    {base : Nat} {A : Option Addr} {n c : Nat} {l : List Value} (hs : a.eval s = .slice A n c) (hown : Os e sz w base A n c l)
    {A2 : Option Addr} {n2 c2 : Nat} {l2 : List Value} (hx : a.eval x = .slice A2 n2 c2) (hr : Rs sz w A2 n2 c2 l2) (h1 : ∀ u ∈ l2, u.oneCell' = true) (hm : n + n2 ≤ 1099511627776) (hbase : base ≤ w.heap.size)
    (h : ∀ A' n' c' w', n' = n + n2 → Os e sz w' base A' n' c' (l ++ l2) → Below base w w' → w.grownBy w' (Value.slice A n c).ownBlock → wpList P ops Q rest (a.put o.dst (.slice A' n' c')) w') : wpList P ops Q (o :: rest) a w := by
  refine wpList_plain hgd fun _ hK => ?_
  obtain ⟨A', n', c', w', hrun, h0, h2, h3, h4⟩ := run_appS (P := P) w (ty := o.type) et hown hr h1 hm hbase
  unfold Oper.wp execOp
  simp only [ho, resolve, invoke, builtin, Sem.run_bind, Sem.run_pure, Result.andThen_ok, List.map_toArray, List.map_cons, List.map_nil, hs, hx, hrun]
  exact hK _ _ (h A' n' c' w' h0 h2 h3 h4)

end Go.Proofs.Ytenaiojddohbkaa

/- A region that draws its order, by words that are chosen one by one (wp_rel, wp_relE, step for step). -/
namespace Go.Proofs.Ytenaiojddohbkaa
open Go.RowKit
set_option linter.unusedVariables false

/-- the words so far, and one more for operation k -/
def upd (k : Nat) (p : MP) (f : Nat → MP) : Nat → MP := fun j => bif Nat.beq j k then p else f j
theorem upd_same (k : Nat) (p : MP) (f : Nat → MP) : upd k p f k = p := by simp [upd]
theorem upd_ne {j k : Nat} (h : j ≠ k) (p : MP) (f : Nat → MP) : upd k p f j = f j := by
  have : Nat.beq j k = false := by
    cases hb : Nat.beq j k with
    | false => rfl
    | true => exact absurd (Nat.eq_of_beq_eq_true hb) h
  simp [upd, this]
theorem eval_tmp (a : Act) (s : Nat) : a.eval (.tmp s) = a.tmps[s]?.getD undef := by simp [Act.eval]
section
variable {P : Program} {Q : Exit → Act → World → Prop}
/-- operation i does what its word says, whenever its turn comes -/
def StepOk (body : Nat → Oper → Act → World → MP → Prop) (l : List Oper) (n : Nat) (a : Act) (w : World) (φs : Nat → MP) (i : Nat) (φ : MP) : Prop :=
  ∀ o, l[i]? = some o → ∀ (A : Act) (x : Ext), (∀ s, outB l.toArray n i s = true → A.eval (.tmp s) = a.eval (.tmp s)) → (∀ j s, depB l.toArray n i j s = true → (φs j).p (A.eval (.tmp s)) (plus w x.bs x.d)) → body i o A (plus w x.bs x.d) φ
def Steps (fin : (Nat → MP) → Prop) (body : Nat → Oper → Act → World → MP → Prop) (l : List Oper) (n : Nat) (a : Act) (w : World) : Nat → Nat → (Nat → MP) → Prop
  | 0, _, φs => fin φs
  | r + 1, i, φs => ∃ φ, StepOk body l n a w φs i φ ∧ Steps fin body l n a w r (i + 1) (upd i φ φs)
variable {fin : (Nat → MP) → Prop} {body : Nat → Oper → Act → World → MP → Prop}
theorem Steps.all {l : List Oper} {n : Nat} {a : Act} {w : World} (hdep : ∀ i, i < n → ∀ j s, depB l.toArray n i j s = true → j < i) : ∀ (r i : Nat) (φs : Nat → MP), i + r = n → Steps fin body l n a w r i φs → (∀ j, j < i → StepOk body l n a w φs j (φs j)) →
    ∃ Φ : Nat → MP, (∀ i, i < n → StepOk body l n a w Φ i (Φ i)) ∧ fin Φ
  | 0, i, φs, hi, hs, hd => ⟨φs, fun j hj => hd j (by omega), hs⟩
  | r + 1, i, φs, hi, hs, hd => by
    obtain ⟨φ, h1, h2⟩ := hs
    refine Steps.all hdep r (i + 1) (upd i φ φs) (by omega) h2 fun j hj => ?_
    have conv : ∀ k (ψ : MP), k ≤ i → k < n → StepOk body l n a w φs k ψ → StepOk body l n a w (upd i φ φs) k ψ := by
      intro k ψ hk hkn h o ho A x hO hD
      refine h o ho A x hO (fun j' s hj' => ?_)
      have hlt := hdep k hkn j' s hj'
      have := hD j' s hj'
      rwa [upd_ne (by omega)] at this
    by_cases hji : j = i
    · subst hji
      rw [upd_same]
      exact conv j φ (Nat.le_refl _) (by omega) h1
    · rw [upd_ne hji]
      exact conv j (φs j) (by omega) (by omega) (hd j (by omega))
theorem all_dep {ops : Array Oper} {n : Nat} {g : Nat → Oper → Bool} (hall : ((List.range n).all fun i => match ops[i]? with
    | none => false
    | some o => (match o.dst with | some s => g s o | none => false) && (o.after.all fun e => !Region.binds .any e || decide (e.on < i)) &&
      (List.range n).all fun j => j == i || (match (ops[j]?).bind (·.dst) with | some s => o.dst != some s | none => false)) = true) : ∀ i, i < n → ∀ j s, depB ops n i j s = true → j < i := by
  intro i hi j s hd
  have h1 := List.all_eq_true.1 hall i (List.mem_range.2 hi)
  simp only [depB, Bool.and_eq_true, decide_eq_true_eq] at hd
  obtain ⟨o, ho, e, he, hb, hon⟩ := Region.waitsFor_spec hd.1.2
  rw [ho] at h1
  simp only [Bool.and_eq_true] at h1
  have h3 := (Array.all_eq_true_iff_forall_mem.1 h1.1.2) e he
  rw [hb] at h3
  have : e.on < i := by simpa using h3
  omega
def bodyS (P : Program) (Q : Exit → Act → World → Prop) (l : List Oper) (i : Nat) (o : Oper) (A : Act) (w : World) (φ : MP) : Prop :=
  ∀ K : Act → World → Prop, Shut (∀ v w', Ex w w' → φ.p v w' → K (A.put o.dst v) w') → if Region.wanted o (yielded l.toArray A.tmps) = true then o.wp P A w K Q else K (A.put o.dst undef) w
def finS (P : Program) (Q : Exit → Act → World → Prop) (l : List Oper) (n : Nat) (a : Act) (w : World) (φs : Nat → MP) : Prop :=
  ∀ (vs : Nat → Value) (x : Ext), (∀ i, i < n → (φs i).p (vs i) (plus w x.bs x.d)) → wpList P l.toArray Q (l.drop n) (putAll (l.take n) vs 0 a) (plus w x.bs x.d)
theorem wp_relS {id : Nat} {a : Act} {w : World} {l : List Oper} (n N : Nat) (hN : a.tmps.size = N) (hm : P.follows .mixedOrders = true) (hB : relB l.toArray n N = true)
    (h : Steps (finS P Q l n a w) (bodyS P Q l) l n a w n 0 (fun _ => MP.any)) : (Code.region id l.toArray true).wp P Q a w := by
  have hdep : ∀ i, i < n → ∀ j s, depB l.toArray n i j s = true → j < i := by
    have hB' := hB
    unfold relB at hB'
    simp only [Bool.and_eq_true] at hB'
    exact all_dep (g := fun s _ => decide (s < N)) (by exact hB'.2)
  obtain ⟨Φ, h1, h2⟩ := Steps.all hdep n 0 _ (by omega) h (fun j hj => absurd hj (by omega))
  exact wp_rel n N hN hm hB Φ (fun i hi o ho A x hO hD K hK => h1 i hi o ho A x hO hD K hK) h2
/-- one operation more; its word is found by the proof -/
theorem Steps.one (φ : MP) {l : List Oper} {n : Nat} {a : Act} {w : World} {r i : Nat} {φs : Nat → MP} (i' : Nat) (hi : i + 1 = i')
    (h : ∀ o, l[i]? = some o → ∀ (A : Act) (x : Ext), (∀ s, outB l.toArray n i s = true → A.eval (.tmp s) = a.eval (.tmp s)) → (∀ j s, depB l.toArray n i j s = true → (φs j).p (A.eval (.tmp s)) (plus w x.bs x.d)) →
      ∀ K : Act → World → Prop, Shut (∀ v w', Ex (plus w x.bs x.d) w' → φ.p v w' → K (A.put o.dst v) w') → if Region.wanted o (yielded l.toArray A.tmps) = true then o.wp P A (plus w x.bs x.d) K Q else K (A.put o.dst undef) (plus w x.bs x.d))
    (h' : Steps fin (bodyS P Q l) l n a w r i' (upd i φ φs)) : Steps fin (bodyS P Q l) l n a w (r + 1) i φs := by
  subst hi
  exact ⟨φ, fun o ho A x hO hD => h o ho A x hO hD, h'⟩
theorem Steps.fin_ {l : List Oper} {n : Nat} {a : Act} {w : World} {i : Nat} {φs : Nat → MP} (h : ∀ (vs : Nat → Value) (x : Ext), (∀ i, i < n → (φs i).p (vs i) (plus w x.bs x.d)) → wpList P l.toArray Q (l.drop n) (putAll (l.take n) vs 0 a) (plus w x.bs x.d)) : Steps (finS P Q l n a w) body l n a w 0 i φs := h
end
/-! ### loads of one cell -/
theorem run_loadAt_one {P : Program} (w : World) (b o : Nat) (ty : TypeId) (v : Value) (d : TypeDesc) (hc : w.cell? ⟨b, o, none⟩ = some v) (hu : P.underlying ty = some d) (hd : d.isRow = false) :
    (Instr.loadAt ty (.pointer (some ⟨b, o, none⟩))).run P w = .ok v w := by
  have hagg : (isAgg ty).run P w = .ok false w := by
    unfold isAgg
    rw [Sem.run_bind, run_underlying hu w]
    cases d <;> simp_all
  simp [Instr.loadAt, Instr.sureAddr, loadVar, Sem.run_bind, hagg, run_load, hc]
theorem wp_ld1 {P : Program} {Q : Exit → Act → World → Prop} {o : Oper} {a : Act} {w : World} {K : Act → World → Prop} (ty : TypeId) (x : Operand) (ho : o.op = .load ty x) {g off : Nat} {t : TypeId} {cs : List Value} {v : Value} {d : TypeDesc}
    (hx : a.eval x = .pointer (some ⟨g, off, none⟩)) (hb : Bk w g t cs) (hv : cs[off]? = some v) (hu : P.underlying ty = some d) (hd : d.isRow = false) (h : K (a.put o.dst v) w) : o.wp P a w K Q := by
  unfold Oper.wp execOp
  simp only [ho, hx, Sem.run_bind, run_loadAt_one w g off ty v d ((hb.cell off).trans hv) hu hd, Result.andThen_ok]
  exact h
theorem wp_ldA {P : Program} {Q : Exit → Act → World → Prop} {o : Oper} {a : Act} {w : World} {K : Act → World → Prop} (ty : TypeId) (x : Operand) (ho : o.op = .load ty x) {g off : Nat} {t : TypeId} {cs : List Value} {d : TypeDesc} (part : List Value)
    (hx : a.eval x = .pointer (some ⟨g, off, none⟩)) (hb : Bk w g t cs) (hp : (cs.drop off).take part.length = part) (hu : P.underlying ty = some d) (hd : d.isRow = true) (hi : (P.info? ty).map (·.size) = some part.length) (h : K (a.put o.dst (.agg part.toArray)) w) : o.wp P a w K Q := by
  refine wp_load_mid ty x ho g off hx part d (fun j v hv => ?_) hu hd hi h
  rw [hb.cell]
  rw [← hp, List.getElem?_take] at hv
  split at hv
  · rw [List.getElem?_drop] at hv; exact hv
  · cases hv
theorem wpList_ld1 {P : Program} {w : World} {ops : Array Oper} {rest : List Oper} {o : Oper} {a : Act} {Q : Exit → Act → World → Prop} (ty : TypeId) (x : Operand) (ho : o.op = .load ty x) (hw : Region.wanted o (yielded ops a.tmps) = true) {g off : Nat} {t : TypeId} {cs : List Value} {v : Value} {d : TypeDesc}
    (hx : a.eval x = .pointer (some ⟨g, off, none⟩)) (hb : Bk w g t cs) (hv : cs[off]? = some v) (hu : P.underlying ty = some d) (hd : d.isRow = false) (h : wpList P ops Q rest (a.put o.dst v) w) : wpList P ops Q (o :: rest) a w := by
  unfold wpList
  rw [if_pos hw]
  exact .inl (wp_ld1 ty x ho hx hb hv hu hd h)
/-! ### stores of one cell -/
end Go.Proofs.Ytenaiojddohbkaa

/- Rows of structs as words of a region's values; calls that hand back such a row. -/
namespace Go.Proofs.Ytenaiojddohbkaa
open Go.RowKit
set_option linter.unusedVariables false

/-- a slice of elements of s cells -/
def MP.rs (s : Nat) (cs : List Value) : MP := ⟨fun v w => ∃ A n c, v = .slice A n c ∧ Rs s w A n c cs, fun _ _ _ ⟨A, n, c, h1, h2⟩ h => ⟨A, n, c, h1, h2.later h.below⟩⟩
/-- a call hands back a new or old slice that reads as cs, and changes nothing that was there -/
def RetRs (s : Nat) (w : World) (cs : List Value) (e : Ending) (w' : World) : Prop := ∃ A n c bs d, e = .returned (.slice A n c) ∧ w' = plus w bs d ∧ Rs s (plus w bs d) A n c cs
theorem RetRs.mk {s : Nat} {w w' : World} {cs : List Value} {A : Option Addr} {n c : Nat} (h : Rs s w' A n c cs) (hb : Below w.heap.size w w') : RetRs s w cs (.returned (.slice A n c)) w' := by
  obtain ⟨bs, d, rfl⟩ := plus_of hb
  exact ⟨A, n, c, bs, d, rfl, rfl, h⟩
/-- a slice of the call's own, without room -/
def MP.ofs (e : TypeId) (s base : Nat) (cs : List Value) : MP := ⟨fun v w => ∃ A n, v = .slice A n n ∧ Os e s w base A n n cs, fun _ _ _ ⟨A, n, h1, h2⟩ h => ⟨A, n, h1, h2.later h.below⟩⟩
/-- a slice of the call's own -/
def MP.os (e : TypeId) (s base : Nat) (cs : List Value) : MP := ⟨fun v w => ∃ A n c, v = .slice A n c ∧ Os e s w base A n c cs, fun _ _ _ ⟨A, n, c, h1, h2⟩ h => ⟨A, n, c, h1, h2.later h.below⟩⟩
/-- append onto a slice without room: new memory, or nothing -/
theorem run_appFS {P : Program} (w : World) {ts ty e : TypeId} {z : Value} {s by_ : Nat} (et : ET P ts e z s by_) {base : Nat} {A : Option Addr} {n : Nat} {l : List Value} (hown : Os e s w base A n n l)
    {A2 : Option Addr} {n2 c2 : Nat} {l2 : List Value} (hr2 : Rs s w A2 n2 c2 l2) (h1 : ∀ u ∈ l2, u.oneCell' = true) (hm : n + n2 ≤ 1099511627776) (hbase : base ≤ w.heap.size) :
    ∃ A' n' c' w', (Builtin.append_ #[ts, ts] ty #[.slice A n n, .slice A2 n2 c2]).run P w = .ok (.slice A' n' c') w' ∧ n' = n + n2 ∧ Os e s w' base A' n' c' (l ++ l2) ∧ Ex w w' := by
  obtain ⟨i, hi, hz0, hz1, hz2⟩ := info_parts et.info
  have hr := hown.rs
  have hl0 : ∀ {A : Option Addr} {n c : Nat} {l : List Value}, Rs s w A n c l → A = none → l = [] := by
    intro A n c l h e
    rcases h.2.2 with h' | ⟨b, off, h', _⟩
    · exact h'
    · rw [e] at h'; cases h'
  have hn0 : ∀ {A : Option Addr} {n c : Nat} {l : List Value}, Rs s w A n c l → l = [] → n = 0 := by
    intro A n c l h e
    have h3 := h.1
    rw [e] at h3
    rcases Nat.eq_zero_or_pos n with h | h
    · exact h
    · have := Nat.mul_pos h et.pos
      simp at h3
      omega
  have hsrc : Src P i.size ts (.slice A2 n2 c2) n2 l2 w := by
    rw [hz1]
    cases A2 with
    | none =>
      have hl2 := hl0 hr2 rfl
      obtain rfl := hn0 hr2 hl2
      subst hl2
      exact Src.ofNil w et.sl c2
    | some ad =>
      refine Src.ofSlice w et.sl ad n2 c2 l2 hr2.1 (fun j u hu => ?_) h1
      rcases hr2.2.2 with h | ⟨b, off, h, _, hc⟩
      · rw [h] at hu; simp at hu
      · injection h with h
        subst h
        rw [add_plain]
        exact hc j u hu
  by_cases h0 : n2 = 0
  · subst h0
    obtain rfl : l2 = [] := List.eq_nil_of_length_eq_zero (by simpa using hr2.1)
    exact ⟨A, n, n, w, run_append_nothing w ts ts ty e i et.sl hi A n n (Nat.le_refl _) _ hsrc, rfl, by simpa using hown, Ex.refl _⟩
  · have hold : (Builtin.firstCells i.size n (.slice A n n)).run P w.drew = .ok l.toArray w.drew := by
      rw [hz1]
      cases A with
      | none =>
        have hl := hl0 hr rfl
        subst hl
        exact run_firstCells_none w.drew s n n n
      | some ad =>
        refine run_firstCells_some w.drew s n ad n n l hr.1 (fun j u hu => ?_)
        rcases hr.2.2 with h | ⟨b, off, h, _, hc⟩
        · rw [h] at hu; simp at hu
        · injection h with h
          subst h
          rw [add_plain]
          exact hc j u hu
    have hby : (n + n2) * by_ ≤ 140737488355328 := Nat.le_trans (Nat.mul_le_mul hm et.small) (by decide)
    have H := run_append_grow_src (P := P) w ts ts ty e i z et.sl hi hz0 A n n l hold _ n2 l2 hsrc (by omega) (by omega) (growslice_fits (by omega) (by rw [hz2]; exact hby))
    have hlen : (l ++ l2).length = (n + n2) * s := by rw [List.length_append, hr.1, hr2.1, Nat.add_mul]
    have hge := grownCap_ge w (n + n2) n e
    refine ⟨_, _, _, _, H, rfl, ⟨hlen, .inr ⟨w.heap.size, _, _, rfl, hbase, heap_alloc_new w.drew _, hge, grownCap_le_maxLen w (n + n2) n e (by simp only [maxLen]; omega), ?_, ?_⟩⟩, Ex.of ((Below.refl _ _).drew.alloc (Nat.le_refl _) _)⟩
    · simp only [Array.size_append, List.size_toArray, size_zeroCells, et.zs, hlen, ← Nat.add_mul]
      congr 1
      omega
    · simp only [Array.toList_append]
      rw [← hlen]
      exact List.take_left
/-- the same, as an operation of a region that draws its order -/
theorem wp_appFS {P : Program} {Q : Exit → Act → World → Prop} {w : World} {o : Oper} {a : Act} {K : Act → World → Prop} {ts e : TypeId} {z : Value} {s by_ : Nat} (et : ET P ts e z s by_) (sl x : Operand)
    (ho : o.op = .call { callee := .builtin .append, args := #[sl, x], argTypes := #[ts, ts] }) {base : Nat} {A : Option Addr} {n : Nat} {l : List Value} (hs : a.eval sl = .slice A n n) (hown : Os e s w base A n n l)
    {A2 : Option Addr} {n2 c2 : Nat} {l2 : List Value} (hx : a.eval x = .slice A2 n2 c2) (hr2 : Rs s w A2 n2 c2 l2) (h1 : ∀ u ∈ l2, u.oneCell' = true) (hm : n + n2 ≤ 1099511627776) (hbase : base ≤ w.heap.size)
    (h : ∀ A' n' c' w', n' = n + n2 → Os e s w' base A' n' c' (l ++ l2) → Ex w w' → K (a.put o.dst (.slice A' n' c')) w') : o.wp P a w K Q := by
  obtain ⟨A', n', c', w', hrun, h0, h2, h3⟩ := run_appFS (P := P) w (ty := o.type) et hown hr2 h1 hm hbase
  unfold Oper.wp execOp
  simp only [ho, resolve, invoke, builtin, Sem.run_bind, Sem.run_pure, Result.andThen_ok, List.map_toArray, List.map_cons, List.map_nil, hs, hx, hrun]
  exact h A' n' c' w' h0 h2 h3
end Go.Proofs.Ytenaiojddohbkaa

/- Contracts of bytes.Clone, slices.Clone and of the package octet. -/
namespace Go.Proofs.Ytenaiojddohbkaa
open Go.RowKit
set_option linter.unusedVariables false
attribute [local go_sem ↓] sliced_cut

attribute [local go_sem] cutA_zero

/-- The block r is a Reader of the bytes l. -/
def Rdr (w : World) (r : Nat) (l : List UInt8) (bad : Bool) : Prop := ∃ A n c, Bk w r 253 [.slice A n c, .bool bad] ∧ l.length = n ∧ n ≤ c ∧ Rd w r A (bcs l)
theorem Rdr.lt {w : World} {r : Nat} {l : List UInt8} {bad : Bool} (h : Rdr w r l bad) : r < w.heap.size := by
  obtain ⟨A, n, c, h, _⟩ := h
  exact h.lt
theorem Rdr.later {w w' : World} {r : Nat} {l : List UInt8} {bad : Bool} (h : Rdr w r l bad) (hb : Below w.heap.size w w') : Rdr w' r l bad := by
  have hlt := h.lt
  obtain ⟨A, n, c, h1, h2, h3, h4⟩ := h
  exact ⟨A, n, c, h1.later hb, h2, h3, h4.below ⟨hb.os, hb.tape, hb.output, hb.size, fun k hk => hb.block k (by omega)⟩⟩

/-- what a reader's call leaves: the reader moved on, nothing else changed -/
def RetP (W : World) (bs : List Obj) (d r : Nat) (l : List UInt8) (bad : Bool) (v : Value) (e : Ending) (w' : World) : Prop :=
  ∃ bs' d', e = .returned v ∧ w' = plus W bs' d' ∧ Rdr (plus W bs' d') r l bad ∧ (plus W bs d).grownBy (plus W bs' d') (some r)
theorem RetP.mk {W : World} {bs : List Obj} {d r : Nat} {l : List UInt8} {bad : Bool} {v : Value} {e : Ending} {w' : World} (hr : W.heap.size ≤ r) (he : e = .returned v) (h1 : Rdr w' r l bad) (h2 : (plus W bs d).grownBy w' (some r)) : RetP W bs d r l bad v e w' := by
  obtain ⟨bs', d', rfl⟩ := grown_plus h2 hr
  exact ⟨bs', d', he, rfl, h1, h2⟩
end Go.Proofs.Ytenaiojddohbkaa

/- A reader's calls, by the place k in the bytes L; the values are letters. -/
namespace Go.Proofs.Ytenaiojddohbkaa
open Go.RowKit
set_option linter.unusedVariables false

theorem Rdr.far {w : World} {r : Nat} {l : List UInt8} {bad : Bool} (h : Rdr w r l bad) {p : Addr} (hp : r < p.block) (u : Value) : Rdr (w.setCell p u) r l bad := by
  obtain ⟨A, n, c, h1, h2, h3, h4⟩ := h
  exact ⟨A, n, c, h1.far (by omega) u, h2, h3, h4.setCell (by omega) u⟩
end Go.Proofs.Ytenaiojddohbkaa

/- octet.Put without room; addr.Bytes, addr.Key. -/
namespace Go.Proofs.Ytenaiojddohbkaa
open Go.RowKit
set_option linter.unusedVariables false
set_option linter.unusedSimpArgs false
attribute [local go_sem ↓] sliced_cut

attribute [local go_sem] cutA_zero

/-- The call returns new bytes l without room, and changes nothing that was there. -/
def RetF (w : World) (l : List UInt8) (e : Ending) (w' : World) : Prop := ∃ A n bs d, e = .returned (.slice A n n) ∧ w' = plus w bs d ∧ Ob (plus w bs d) w.heap.size A n n l
theorem RetF.mk {w w' : World} {l : List UInt8} {A : Option Addr} {n : Nat} (ho : Ob w' w.heap.size A n n l) (hb : Below w.heap.size w w') : RetF w l (.returned (.slice A n n)) w' := by
  obtain ⟨bs, d, rfl⟩ := plus_of hb
  exact ⟨A, n, bs, d, rfl, rfl, ho⟩
theorem RetF.b {w w' : World} {l : List UInt8} {e : Ending} (h : RetF w l e w') : RetB w l e w' := by
  obtain ⟨A, n, bs, d, h1, h2, h3⟩ := h
  exact ⟨A, n, n, bs, d, h1, h2, h3⟩
theorem RetV.is_ {w w' : World} {v v' : Value} (hv : v' = v) (hb : Below w.heap.size w w') : RetV w v (.returned v') w' := by
  subst hv
  exact RetV.mk hb
/-- new bytes without room, in a block from base on -/
def MP.of (base : Nat) (l : List UInt8) : MP := ⟨fun v w => ∃ A n, v = .slice A n n ∧ Ob w base A n n l, fun _ _ _ ⟨A, n, h1, h2⟩ h => ⟨A, n, h1, h2.later h.below⟩⟩

end Go.Proofs.Ytenaiojddohbkaa

/- A region that draws its order, some of whose operations change known blocks, one behind the other; these may be stores (no slot). -/
namespace Go.Proofs.Ytenaiojddohbkaa
open Go.RowKit
set_option linter.unusedVariables false
set_option linter.unusedSimpArgs false

/-- an aggregate stored over a whole block, as one operation -/
theorem wp_stA {P : Program} {w : World} {o : Oper} {a : Act} {K : Act → World → Prop} {Q : Exit → Act → World → Prop} (ty : TypeId) (x y : Operand) (ho : o.op = .store ty x y)
    {g : Nat} {t : TypeId} (new old : List Value) (hl : new.length = old.length) (h1 : ∀ u ∈ new, u.oneCell' = true) (hx : a.eval x = .pointer (some ⟨g, 0, none⟩)) (hy : a.eval y = .agg new.toArray) (hb : Bk w g t old)
    (hi : (P.info? ty).map (·.size) = some new.length) (h : ∀ w', Bk w' g t new → w.grownBy w' (some g) → K (a.put o.dst undef) w') : o.wp P a w K Q := by
  refine wp_store_mid ty x y ho g 0 new.toArray hx hy (fun j hj => ?_) (by simpa using hi) (all_oneCell_toArray h1) (h _ ?_ ?_)
  · rw [Nat.zero_add]
    have hj' : j < old.length := by rw [← hl]; simpa using hj
    exact ⟨by rw [hb.cell, List.getElem?_eq_getElem hj']; rfl, hb.frozen j⟩
  · have := Bk.setCells new old 0 hb (by omega)
    simpa using this
  · generalize 0 = k
    clear hi h hb hy hl
    induction new generalizing w k with
    | nil => exact World.grownBy.refl _ _
    | cons v r ih => exact (grownBy_setCell _ _ _ _).trans (ih (fun u hu => h1 u (List.mem_cons_of_mem _ hu)) _)
theorem Chg.one {D : Nat → Prop} {w w' : World} {g : Nat} (h : w.grownBy w' (some g)) (hg : D g) : Chg D w w' := Chg.grown h (fun k hk => by injection hk with hk; subst hk; exact hg)
section
variable {P : Program} {Q : Exit → Act → World → Prop}
end
end Go.Proofs.Ytenaiojddohbkaa

/- A region that draws its order: each operation's value has a word and owns blocks; an operation may change the blocks of the words that it consumes. -/
namespace Go.Proofs.Ytenaiojddohbkaa
open Go.RowKit
set_option linter.unusedVariables false
set_option linter.unusedSimpArgs false

/-- the blocks F of w are as they were -/
structure Kept (F : Nat → Prop) (w w' : World) : Prop where
  os : w'.os = w.os
  tape : w'.tape = w.tape
  output : w'.output = w.output
  size : w.heap.size ≤ w'.heap.size
  block : ∀ b, b < w.heap.size → F b → w'.heap[b]? = w.heap[b]?
theorem Kept.refl (F : Nat → Prop) (w : World) : Kept F w w := ⟨rfl, rfl, rfl, Nat.le_refl _, fun _ _ _ => rfl⟩
theorem Kept.chg {F D : Nat → Prop} {w w' w'' : World} (h : Kept F w w') (h' : Chg D w' w'') (hd : ∀ b, F b → ¬ D b) : Kept F w w'' :=
  ⟨h'.os.trans h.os, h'.tape.trans h.tape, h'.output.trans h.output, Nat.le_trans h.size h'.size, fun b hb hf => (h'.block b (Nat.lt_of_lt_of_le hb h.size) (hd b hf)).trans (h.block b hb hf)⟩
theorem Kept.of_chg {F D : Nat → Prop} {w w' : World} (h' : Chg D w w') (hd : ∀ b, F b → ¬ D b) : Kept F w w' := (Kept.refl F w).chg h' hd
theorem Kept.below {F : Nat → Prop} {w w' : World} {B : Nat} (h : Kept F w w') (hB : B ≤ w.heap.size) (hf : ∀ b, b < B → F b) : Below B w w' := ⟨h.os, h.tape, h.output, h.size, fun b hb => h.block b (by omega) (hf b hb)⟩
theorem Bk.kept {F : Nat → Prop} {w w' : World} {g : Nat} {t : TypeId} {cs : List Value} (h : Bk w g t cs) (hk : Kept F w w') (hf : F g) : Bk w' g t cs := (hk.block g h.lt hf).trans h
theorem Rb.kept {F : Nat → Prop} {w w' : World} {A : Option Addr} {n c : Nat} {l : List UInt8} (h : Rb w A n c l) (hk : Kept F w w') (hf : ∀ a, A = some a → a.block < w.heap.size → F a.block) : Rb w' A n c l := by
  refine ⟨h.1, h.2.1, ?_⟩
  rcases h.2.2 with h' | ⟨b, off, hA, hb, hc⟩
  · exact .inl h'
  · exact .inr ⟨b, off, hA, Nat.lt_of_lt_of_le hb hk.size, fun i u hu => (World.cell?_of_block (hk.block b hb (hf _ hA hb))).trans (hc i u hu)⟩
/-- a word of a value v, beside the value u of another operation, and the blocks that it owns -/
structure Own (prot : Nat → Prop) where
  p : Value → Value → World → Prop
  fp : Value → Value → Nat → Prop
  lt : ∀ v u w b, p v u w → fp v u b → b < w.heap.size
  keep : ∀ v u w w', p v u w → Kept (fun b => fp v u b ∨ prot b) w w' → p v u w'
section
variable {prot : Nat → Prop}
def Own.any : Own prot := ⟨fun _ _ _ => True, fun _ _ _ => False, fun _ _ _ _ _ h => h.elim, fun _ _ _ _ _ _ => trivial⟩
def Own.eq (c : Value) : Own prot := ⟨fun v _ _ => v = c, fun _ _ _ => False, fun _ _ _ _ _ h => h.elim, fun _ _ _ _ h _ => h⟩
/-- a block -/
def Own.blk (t : TypeId) (cs : List Value) : Own prot := ⟨fun v _ w => ∃ g, v = .pointer (some ⟨g, 0, none⟩) ∧ Bk w g t cs, fun v _ b => v = .pointer (some ⟨b, 0, none⟩),
  fun v u w b ⟨g, h1, h2⟩ h3 => (by rw [h1] at h3; injection h3 with h3; injection h3 with h3; injection h3 with h3; subst h3; exact h2.lt),
  fun v u w w' ⟨g, h1, h2⟩ hk => ⟨g, h1, h2.kept hk (.inl h1)⟩⟩
/-- the block that another value points to -/
def Own.into (t : TypeId) (q : List Value → World → Prop) (hq : ∀ cs w w', q cs w → Kept prot w w' → q cs w') : Own prot := ⟨fun _ u w => ∃ g cs, u = .pointer (some ⟨g, 0, none⟩) ∧ Bk w g t cs ∧ q cs w, fun _ u b => u = .pointer (some ⟨b, 0, none⟩),
  fun v u w b ⟨g, cs, h1, h2, _⟩ h3 => (by rw [h1] at h3; injection h3 with h3; injection h3 with h3; injection h3 with h3; subst h3; exact h2.lt),
  fun v u w w' ⟨g, cs, h1, h2, h3⟩ hk => ⟨g, cs, h1, h2.kept hk (.inl h1), hq _ _ _ h3 ⟨hk.os, hk.tape, hk.output, hk.size, fun b hb hp => hk.block b hb (.inr hp)⟩⟩⟩
/-- own bytes, from base on -/
def Own.ob (base : Nat) (l : List UInt8) : Own prot := ⟨fun v _ w => ∃ A n c, v = .slice A n c ∧ Ob w base A n c l, fun v _ b => v.ownBlock = some b,
  fun v u w b ⟨A, n, c, h1, h2⟩ h3 => (by subst h1; exact (h2.blk b h3).2),
  fun v u w w' ⟨A, n, c, h1, h2⟩ hk => ⟨A, n, c, h1, by
    refine ⟨h2.1, h2.2.1, ?_⟩
    have hlt := h2.blk
    rcases h2.2.2 with h' | ⟨g, cap, cur, hv, hg, hh, hr⟩
    · exact .inl h'
    · have ho : (Value.slice A n c).ownBlock = some g := by rw [hv]; rfl
      refine .inr ⟨g, cap, cur, hv, hg, ?_, hr⟩
      rw [hk.block g (hlt g ho).2 (.inl (by subst h1; exact ho))]
      exact hh⟩⟩
/-- own bytes without room -/
def Own.of (base : Nat) (l : List UInt8) : Own prot := ⟨fun v _ w => ∃ A n, v = .slice A n n ∧ Ob w base A n n l, fun v _ b => v.ownBlock = some b,
  fun v u w b ⟨A, n, h1, h2⟩ h3 => (by subst h1; exact (h2.blk b h3).2),
  fun v u w w' ⟨A, n, h1, h2⟩ hk => ⟨A, n, h1, by
    obtain ⟨A', n', c', e1, e2⟩ := (Own.ob (prot := prot) base l).keep v u w w' ⟨A, n, n, h1, h2⟩ hk
    rw [h1] at e1
    injection e1 with x y z
    subst x y z
    exact e2⟩⟩
end
/-- a value that is made of another operation's value -/
def Own.fn {prot : Nat → Prop} (g : Value → Value) : Own prot := ⟨fun v u _ => v = g u, fun _ _ _ => False, fun _ _ _ _ _ h => h.elim, fun _ _ _ _ h _ => h⟩
theorem own_ptr {g b : Nat} (h : Value.pointer (some ⟨g, 0, none⟩) = .pointer (some ⟨b, 0, none⟩)) : g = b := by
  injection h with h
  injection h with h
  injection h with h
/-- a pointer's block, one of whose cells is a slice of own bytes without room (v) -/
def Own.holds {prot : Nat → Prop} (base : Nat) (t : TypeId) (cs : Value → List Value) (l : List UInt8) : Own prot := ⟨fun v u w => ∃ g A n, u = .pointer (some ⟨g, 0, none⟩) ∧ v = .slice A n n ∧ Bk w g t (cs v) ∧ Ob w base A n n l,
  fun v u b => u = .pointer (some ⟨b, 0, none⟩) ∨ v.ownBlock = some b,
  fun v u w b ⟨g, A, n, h1, h2, h3, h4⟩ h => (by
    rcases h with h | h
    · rw [h1] at h; rw [← own_ptr h]; exact h3.lt
    · subst h2; exact (h4.blk b h).2),
  fun v u w w' ⟨g, A, n, h1, h2, h3, h4⟩ hk => by
    refine ⟨g, A, n, h1, h2, h3.kept hk (.inl (.inl h1)), ?_⟩
    obtain ⟨A', n', e1, e2⟩ := (Own.of (prot := prot) base l).keep v u w w' ⟨A, n, h2, h4⟩ ⟨hk.os, hk.tape, hk.output, hk.size, fun b hb h => hk.block b hb (by rcases h with h | h; exact .inl (.inr h); exact .inr h)⟩
    rw [h2] at e1
    injection e1 with x y z
    subst x y
    exact e2⟩
theorem chgX {D : Nat → Prop} {w w' : World} (h : Ex w w') : Chg D w w' := Chg.ex h
section
variable {P : Program} {Q : Exit → Act → World → Prop}
def useB (ops : Array Oper) (n f : Nat) (cons : Nat → List Nat) (i j : Nat) : Bool := (decide (n ≤ j) || tw ops n f i j) && (List.range n).all fun c => !(cons c).contains j || c == i || tw ops n f c i
def lastB (n : Nat) (cons : Nat → List Nat) (j : Nat) : Bool := (List.range n).all fun c => !(cons c).contains j
def ownB (ops : Array Oper) (n m N f : Nat) (rel : Nat → Nat) (cons : Nat → List Nat) : Bool :=
  decide (n = ops.size) && Region.seqB .any ops (ops.size - n) n ((List.range ops.size).map fun i => decide (i < n)).toArray &&
  ((List.range n).all fun i => match ops[i]? with
    | none => false
    | some o => (match o.dst with | some s => decide (s < N) | none => true) && (o.after.all fun e => !Region.binds .any e || decide (e.on < i)) &&
      ((List.range n).all fun j => j == i || (match o.dst, (ops[j]?).bind (·.dst) with | some s, some s' => s != s' | _, _ => true)) &&
      (rel i == i || tw ops n f i (rel i) || decide (n ≤ rel i)) &&
      ((cons i).all fun j => decide (j < n + m) && (decide (n ≤ j) || tw ops n f i j) && (List.range n).all fun c => c == i || !(cons c).contains j)) &&
  ((List.range m).all fun t => decide (n ≤ rel (n + t)))

def Live (n : Nat) (cons : Nat → List Nat) (listed : Array Bool) (j : Nat) : Prop := (n ≤ j ∨ listed.getD j false = true) ∧ ∀ c, c < n → (cons c).contains j = true → listed.getD c false = false
structure OInv (ops : Array Oper) (n m : Nat) (a0 : Act) (w0 : World) {prot : Nat → Prop} (Φ : Nat → Own prot) (rel : Nat → Nat) (cons : Nat → List Nat) (vs0 : Nat → Value) (listed : Array Bool) (A : Act) (w : World) (vs : Nat → Value) : Prop where
  head : HeadInv .any ops n listed
  kept : Kept prot w0 w
  size : A.tmps.size = a0.tmps.size
  defers : A.defers = a0.defers
  out : ∀ s, (∀ j, j < n → ∀ o, ops[j]? = some o → listed.getD j false = true → o.dst ≠ some s) → A.eval (.tmp s) = a0.eval (.tmp s)
  ins : ∀ j, j < n → ∀ o s, ops[j]? = some o → listed.getD j false = true → o.dst = some s → A.eval (.tmp s) = vs j
  virt : ∀ j, n ≤ j → vs j = vs0 j
  word : ∀ j, j < n + m → Live n cons listed j → (Φ j).p (vs j) (vs (rel j)) w
  dis : ∀ j k, j < n + m → k < n + m → j ≠ k → Live n cons listed j → Live n cons listed k → ∀ b, (Φ j).fp (vs j) (vs (rel j)) b → ¬ (Φ k).fp (vs k) (vs (rel k)) b
  fresh : ∀ j, j < n + m → Live n cons listed j → ∀ b, (Φ j).fp (vs j) (vs (rel j)) b → ¬ prot b

/-- what is known where operation i is carried out -/
structure AtO (ops : Array Oper) (n m f : Nat) (a0 : Act) (w0 : World) {prot : Nat → Prop} (Φ : Nat → Own prot) (rel : Nat → Nat) (cons : Nat → List Nat) (vs0 : Nat → Value) (i : Nat) (A : Act) (w : World) (vs : Nat → Value) : Prop where
  kept : Kept prot w0 w
  out : ∀ s, outB ops n i s = true → A.eval (.tmp s) = a0.eval (.tmp s)
  dep : ∀ j s, depB ops n i j s = true → A.eval (.tmp s) = vs j
  virt : ∀ j, n ≤ j → vs j = vs0 j
  word : ∀ j, j < n + m → useB ops n f cons i j = true → (Φ j).p (vs j) (vs (rel j)) w
  dis : ∀ j k, j < n + m → k < n + m → j ≠ k → useB ops n f cons i j = true → useB ops n f cons i k = true → ∀ b, (Φ j).fp (vs j) (vs (rel j)) b → ¬ (Φ k).fp (vs k) (vs (rel k)) b
  fresh : ∀ j, j < n + m → useB ops n f cons i j = true → ∀ b, (Φ j).fp (vs j) (vs (rel j)) b → ¬ prot b
/-- the blocks of the words that operation i consumes -/
def Eaten {prot : Nat → Prop} (Φ : Nat → Own prot) (rel : Nat → Nat) (cons : Nat → List Nat) (vs : Nat → Value) (i b : Nat) : Prop := ∃ j, (cons i).contains j = true ∧ (Φ j).fp (vs j) (vs (rel j)) b

theorem wp_own {id : Nat} {a : Act} {w : World} {l : List Oper} (prot : Nat → Prop) (n m N f : Nat) (rel : Nat → Nat) (cons : Nat → List Nat) (vs0 : Nat → Value) (hN : a.tmps.size = N) (hm : P.follows .mixedOrders = true) (hB : ownB l.toArray n m N f rel cons = true)
    (Φ : Nat → Own prot) (hprot : ∀ b, prot b → b < w.heap.size)
    (w0 : ∀ t, t < m → (Φ (n + t)).p (vs0 (n + t)) (vs0 (rel (n + t))) w)
    (d0 : ∀ t t', t < m → t' < m → t ≠ t' → ∀ b, (Φ (n + t)).fp (vs0 (n + t)) (vs0 (rel (n + t))) b → ¬ (Φ (n + t')).fp (vs0 (n + t')) (vs0 (rel (n + t'))) b)
    (f0 : ∀ t, t < m → ∀ b, (Φ (n + t)).fp (vs0 (n + t)) (vs0 (rel (n + t))) b → ¬ prot b)
    (step : ∀ i, i < n → ∀ o, l[i]? = some o → ∀ (A : Act) (w' : World) (vs : Nat → Value), AtO l.toArray n m f a w Φ rel cons vs0 i A w' vs →
      ∀ K : Act → World → Prop, Shut (∀ v w'', Chg (Eaten Φ rel cons vs i) w' w'' → (Φ i).p v (if rel i = i then v else vs (rel i)) w'' → (∀ b, (Φ i).fp v (if rel i = i then v else vs (rel i)) b → Eaten Φ rel cons vs i b ∨ w'.heap.size ≤ b) → K (A.put o.dst v) w'') →
        if Region.wanted o (yielded l.toArray A.tmps) = true then o.wp P A w' K Q else K (A.put o.dst undef) w')
    (fin : ∀ (vs : Nat → Value) (w' : World), Kept prot w w' → (∀ j, n ≤ j → vs j = vs0 j) → (∀ j, j < n + m → lastB n cons j = true → (Φ j).p (vs j) (vs (rel j)) w') →
      (∀ j k, j < n + m → k < n + m → j ≠ k → lastB n cons j = true → lastB n cons k = true → ∀ b, (Φ j).fp (vs j) (vs (rel j)) b → ¬ (Φ k).fp (vs k) (vs (rel k)) b) →
      (∀ j, j < n + m → lastB n cons j = true → ∀ b, (Φ j).fp (vs j) (vs (rel j)) b → ¬ prot b) → wpList P l.toArray Q (l.drop n) (putAll (l.take n) vs 0 a) w') : (Code.region id l.toArray true).wp P Q a w := by
  unfold ownB at hB
  simp only [Bool.and_eq_true, decide_eq_true_eq] at hB
  obtain ⟨⟨⟨hn, hseq⟩, hall⟩, hvirt⟩ := hB
  have hal : ∀ i, i < n → ∃ o, l.toArray[i]? = some o ∧ (∀ s, o.dst = some s → s < N) ∧ (∀ e ∈ o.after, Region.binds .any e = true → e.on < i) ∧ (∀ j, j < n → j ≠ i → ∀ oj, l.toArray[j]? = some oj → ∀ s s', o.dst = some s → oj.dst = some s' → s ≠ s') ∧
      (rel i = i ∨ tw l.toArray n f i (rel i) = true ∨ n ≤ rel i) ∧ (∀ j, (cons i).contains j = true → j < n + m ∧ (n ≤ j ∨ tw l.toArray n f i j = true) ∧ ∀ c, c < n → (cons c).contains j = true → c = i) := by
    intro i hi
    have h1 := List.all_eq_true.1 hall i (List.mem_range.2 hi)
    cases ho : l.toArray[i]? with
    | none => rw [ho] at h1; cases h1
    | some o =>
      rw [ho] at h1
      simp only [Bool.and_eq_true] at h1
      obtain ⟨⟨⟨⟨h2, h3⟩, h4⟩, h5⟩, h6⟩ := h1
      refine ⟨o, rfl, fun s hs => ?_, fun e he hb => ?_, fun j hj hji oj hoj s s' hs hs' => ?_, ?_, fun j hj => ?_⟩
      · rw [hs] at h2; simpa using h2
      · have := (Array.all_eq_true_iff_forall_mem.1 h3) e he
        rw [hb] at this
        simpa using this
      · have h7 := List.all_eq_true.1 h4 j (List.mem_range.2 hj)
        rw [hoj, hs] at h7
        simp [hs', hji] at h7
        exact h7
      · simp only [Bool.or_eq_true, beq_iff_eq, decide_eq_true_eq] at h5
        rcases h5 with (h5 | h5) | h5
        · exact .inl h5
        · exact .inr (.inl h5)
        · exact .inr (.inr h5)
      · have h7 := List.all_eq_true.1 h6 j (by simpa using hj)
        simp only [Bool.and_eq_true, Bool.or_eq_true, decide_eq_true_eq] at h7
        refine ⟨h7.1.1, h7.1.2, fun c hc hcj => ?_⟩
        have h8 := List.all_eq_true.1 h7.2 c (List.mem_range.2 hc)
        simp only [Bool.or_eq_true, beq_iff_eq, hcj, Bool.not_true, Bool.false_eq_true, or_false] at h8
        exact h8
  have hvr : ∀ j, n ≤ j → j < n + m → n ≤ rel j := fun j h1 h2 => by
    have := List.all_eq_true.1 hvirt (j - n) (List.mem_range.2 (by omega))
    simpa [Nat.add_sub_cancel' h1] using this
  have main : ∀ (q : Nat) (listed : Array Bool) (A : Act) (w' : World) (vs : Nat → Value), OInv l.toArray n m a w Φ rel cons vs0 listed A w' vs → cnt listed n = q → wpAny P .any l.toArray Q (q + (l.toArray.size - n)) listed A w' := by
    intro q
    induction q with
    | zero =>
      intro listed A w' vs inv hc
      have hl : ∀ i, i < n → listed.getD i true = true := cnt_zero n hc
      have hlf : ∀ i, i < n → listed.getD i false = true := fun i hi => by
        have := hl i hi
        have hsz : i < listed.size := by rw [inv.head.size]; omega
        simpa [hsz] using this
      have el : listed = ((List.range l.toArray.size).map fun i => decide (i < n)).toArray := by
        apply Array.ext
        · simp [inv.head.size]
        · intro i h1 h2
          by_cases hi : i < n
          · have := hl i hi
            simp only [Array.getD_eq_getD_getElem?, Array.getElem?_eq_getElem h1, Option.getD_some] at this
            simp [this, hi]
          · have := inv.head.tail i (by omega) (by rw [← inv.head.size]; exact h1)
            simp only [Array.getD_eq_getD_getElem?, Array.getElem?_eq_getElem h1, Option.getD_some] at this
            simp [this, hi]
      have eA : A = putAll (l.take n) vs 0 a := by
        refine act_ext (by rw [putAll_size, inv.size]) (by rw [putAll_defers, inv.defers]) fun s hs => ?_
        have H := putAll_eval A s (l.take n) vs 0 a (by rw [← inv.size]; exact hs) (fun j o hj hd => by
          have hjn : j < n := by
            have := (List.getElem?_eq_some_iff.1 hj).1
            simp at this
            omega
          have : l.toArray[j]? = some o := by simpa [hjn] using hj
          rw [Nat.zero_add]
          exact (inv.ins j hjn o s this (hlf j hjn) hd).symm)
        by_cases he : ∃ o ∈ l.take n, o.dst = some s
        · exact (H.1 he).symm
        · rw [H.2 (fun o h h' => he ⟨o, h, h'⟩)]
          refine inv.out s fun j hj o ho _ hd => he ⟨o, ?_, hd⟩
          rw [List.mem_take_iff_getElem]
          have hjl := (Array.getElem?_eq_some_iff.1 ho)
          obtain ⟨h1, h2⟩ := hjl
          exact ⟨j, by simp at h1; omega, by simpa using h2⟩
      rw [Nat.zero_add]
      have lv : ∀ j, lastB n cons j = true → j < n + m → Live n cons listed j := fun j hj hjm => ⟨by
        rcases Nat.lt_or_ge j n with h | h
        · exact .inr (hlf j h)
        · exact .inl h, fun c hc hcj => by
          have := List.all_eq_true.1 hj c (List.mem_range.2 hc)
          rw [hcj] at this
          cases this⟩
      have := wpAny_of_seq (md := .any) (Q' := Q) (P := P) (ops := l.toArray) (l.drop n) n listed A w' (fun j => by simp [List.getElem?_drop]) (by
        rw [el]
        have : (l.drop n).length = l.toArray.size - n := by simp
        rw [this]
        exact hseq) (by
        rw [eA]
        exact fin vs w' inv.kept inv.virt (fun j hj hl => inv.word j hj (lv j hl hj)) (fun j k hj hk hjk h1 h2 => inv.dis j k hj hk hjk (lv j h1 hj) (lv k h2 hk)) (fun j hj hl => inv.fresh j hj (lv j hl hj)))
      have e2 : (l.drop n).length = l.toArray.size - n := by simp
      rwa [e2] at this
    | succ q ih =>
      intro listed A w' vs inv hc
      rw [show q + 1 + (l.toArray.size - n) = (q + (l.toArray.size - n)) + 1 by omega]
      obtain ⟨i0, hi0, hun0, hprev⟩ := cnt_first n (by rw [hc]; omega)
      have hready0 : i0 ∈ Region.ready .any l.toArray listed := by
        obtain ⟨o, ho, _, hlt, _⟩ := hal i0 hi0
        refine mem_ready.2 ⟨hun0, o, ho, fun e he hb => ?_⟩
        have h1 := hlt e he hb
        have h2 := hprev e.on h1
        have hsz : e.on < listed.size := by rw [inv.head.size]; have := (Array.getElem?_eq_some_iff.1 ho).1; omega
        simpa [hsz] using h2
      refine ⟨fun h => (by rw [h] at hready0; cases hready0), fun i hi => ?_⟩
      obtain ⟨hun, o, ho, hdeps⟩ := mem_ready.1 hi
      have hin : i < n := by
        have hsz := (Array.getElem?_eq_some_iff.1 ho).1
        omega
      obtain ⟨o', ho', hsN, hlt, hother, hrel, hcons⟩ := hal i hin
      have : o' = o := Option.some.inj (ho'.symm.trans ho)
      subst this
      have unl : ∀ j, listed.getD j false = true → j ≠ i := fun j hj e => by subst e; rw [getD_both hun] at hj; cases hj
      have hsz : i < listed.size := by rw [inv.head.size]; exact (Array.getElem?_eq_some_iff.1 ho).1
      have outs : ∀ s', outB l.toArray n i s' = true → A.eval (.tmp s') = a.eval (.tmp s') := fun s' hs' => inv.out s' fun j hj oj hoj hlj hdj => by
          have h1 := List.all_eq_true.1 hs' j (List.mem_range.2 hj)
          have hji := unl j hlj
          rw [hoj] at h1
          simp only [Option.bind_some, hdj] at h1
          simp only [Bool.or_eq_true, beq_iff_eq, bne_self_eq_false, Bool.false_eq_true, false_or] at h1
          rcases h1 with h1 | h1
          · exact hji h1
          · obtain ⟨oj', hoj', e, he, hb, hon⟩ := Region.waitsFor_spec h1
            have : oj' = oj := Option.some.inj (hoj'.symm.trans hoj)
            subst this
            have h2 := inv.head.closed j oj' hoj hlj e he hb
            rw [hon, getD_both hun] at h2
            cases h2
      have wl : ∀ j, Region.waitsFor .any l.toArray i j = true → listed.getD j false = true := fun j hw => by
          obtain ⟨oi, hoi, e, he, hb, hon⟩ := Region.waitsFor_spec hw
          have : oi = o' := Option.some.inj (hoi.symm.trans ho)
          subst this
          rw [← hon]
          exact hdeps e he hb
      have deps : ∀ j s', depB l.toArray n i j s' = true → A.eval (.tmp s') = vs j := fun j s' hs' => by
          simp only [depB, Bool.and_eq_true, decide_eq_true_eq] at hs'
          obtain ⟨⟨hj, hw⟩, hds⟩ := hs'
          have hlj := wl j hw
          cases hoj : l.toArray[j]? with
          | none => rw [hoj] at hds; simp at hds
          | some oj =>
            rw [hoj] at hds
            simp only [Option.bind_some, beq_iff_eq] at hds
            exact inv.ins j hj oj s' hoj hlj hds
      have lst' : ∀ j, j ≠ i → (listed.setIfInBounds i true).getD j false = listed.getD j false := fun j hj => getD_set_ne false (Ne.symm hj)
      -- what waits for i is not listed
      have wait : ∀ c, tw l.toArray n f c i = true → listed.getD c false = false := fun c hc => by
        cases hlc : listed.getD c false with
        | false => rfl
        | true =>
          have := tw_listed inv.head f c i (fun k' hk' => by
            obtain ⟨ok, hok, e, he, hb, hon⟩ := Region.waitsFor_spec hk'
            rw [← hon]
            exact inv.head.closed _ ok hok hlc e he hb) hc
          exact absurd rfl (unl _ this)
      have usable : ∀ j, useB l.toArray n f cons i j = true → Live n cons listed j := fun j hj => by
        simp only [useB, Bool.and_eq_true, Bool.or_eq_true, decide_eq_true_eq] at hj
        refine ⟨?_, fun c hc hcj => ?_⟩
        · rcases hj.1 with h | h
          · exact .inl h
          · exact .inr (tw_listed inv.head f i j wl h)
        · have := List.all_eq_true.1 hj.2 c (List.mem_range.2 hc)
          simp only [hcj, Bool.not_true, Bool.false_or, Bool.or_eq_true, beq_iff_eq] at this
          rcases this with h | h
          · subst h; exact getD_both hun
          · exact wait c h
      have eaten : ∀ j, (cons i).contains j = true → j < n + m ∧ Live n cons listed j := fun j hj => by
        obtain ⟨h1, h2, h3⟩ := hcons j hj
        refine ⟨h1, ?_, fun c hc hcj => ?_⟩
        · rcases h2 with h | h
          · exact .inl h
          · exact .inr (tw_listed inv.head f i j wl h)
        · rw [h3 c hc hcj]; exact getD_both hun
      have next : ∀ v w'', Chg (Eaten Φ rel cons vs i) w' w'' → (Φ i).p v (if rel i = i then v else vs (rel i)) w'' → (∀ b, (Φ i).fp v (if rel i = i then v else vs (rel i)) b → Eaten Φ rel cons vs i b ∨ w'.heap.size ≤ b) → wpAny P .any l.toArray Q (q + (l.toArray.size - n)) (listed.setIfInBounds i true) (A.put o'.dst v) w'' := by
        intro v w'' hch hp hfp
        have hfe : ∀ b, prot b → ¬ Eaten Φ rel cons vs i b := fun b hb ⟨j, hj, hjb⟩ => by
          obtain ⟨h1, h2⟩ := eaten j hj
          exact inv.fresh j h1 h2 b hjb hb
        -- what lives behind the step, other than i
        have old : ∀ j, j < n + m → j ≠ i → Live n cons (listed.setIfInBounds i true) j → Live n cons listed j ∧ (cons i).contains j = false := fun j hjm hji hl => by
          refine ⟨⟨?_, fun c hc hcj => ?_⟩, ?_⟩
          · rcases hl.1 with h | h
            · exact .inl h
            · exact .inr (by rw [lst' j hji] at h; exact h)
          · have := hl.2 c hc hcj
            by_cases hci : c = i
            · subst hci; exact getD_both hun
            · rw [lst' c hci] at this; exact this
          · cases hcj : (cons i).contains j with
            | false => rfl
            | true =>
              have := hl.2 i hin hcj
              simp [hsz] at this
        have rne : ∀ j, j < n + m → j ≠ i → Live n cons listed j → rel j ≠ i := fun j hjm hji hl e => by
          rcases Nat.lt_or_ge j n with h | h
          · obtain ⟨_, _, _, _, _, hr, _⟩ := hal j h
            rcases hr with hr | hr | hr
            · exact hji (hr.symm.trans e)
            · rw [e] at hr
              have := wait j hr
              rcases hl.1 with h2 | h2
              · omega
              · rw [this] at h2; cases h2
            · omega
          · have := hvr j h hjm
            omega
        have hv : ∀ j, j < n + m → j ≠ i → Live n cons listed j → (if j = i then v else vs j) = vs j ∧ (if rel j = i then v else vs (rel j)) = vs (rel j) := fun j hjm hji hl => ⟨if_neg hji, if_neg (rne j hjm hji hl)⟩
        have hvi : (if i = i then v else vs i) = v ∧ (if rel i = i then v else vs (rel i)) = (if rel i = i then v else vs (rel i)) := ⟨if_pos rfl, rfl⟩
        have fi : ∀ k, k < n + m → k ≠ i → Live n cons listed k → (cons i).contains k = false → ∀ b, (Φ i).fp v (if rel i = i then v else vs (rel i)) b → ¬ (Φ k).fp (vs k) (vs (rel k)) b := fun k hk hki hl hck b hb hkb => by
          rcases hfp b hb with ⟨j, hj, hjb⟩ | h
          · obtain ⟨h1, h2⟩ := eaten j hj
            refine inv.dis j k h1 hk (fun e => ?_) h2 hl b hjb hkb
            subst e
            rw [hj] at hck
            cases hck
          · have := (Φ k).lt _ _ _ b (inv.word k hk hl) hkb
            omega
        refine ih _ _ _ (fun k => if k = i then v else vs k) ?_ ?_
        · refine ⟨inv.head.set hi hin, inv.kept.chg hch hfe, by rw [size_put, inv.size], by rw [defers_put, inv.defers], fun s' hs' => ?_, fun j hj oj s' hoj hlj hdj => ?_, fun j hj => ?_, fun j hj hl => ?_, fun j k hj hk hjk h1 h2 b => ?_, fun j hj hl b => ?_⟩
          · rw [Act.eval_put (fun d hd' e => by
              injection e with e
              subst e
              exact hs' i hin o' ho (by simp [hsz]) hd')]
            refine inv.out s' fun j hj oj hoj hlj => hs' j hj oj hoj (getD_set_true hlj)
          · by_cases hji : j = i
            · subst hji
              have : oj = o' := Option.some.inj (hoj.symm.trans ho)
              subst this
              rw [hdj, eval_put_same (by rw [inv.size, hN]; exact hsN s' hdj), if_pos rfl]
            · have hlj' : listed.getD j false = true := by rw [lst' j hji] at hlj; exact hlj
              rw [Act.eval_put (fun d hd' e => by
                injection e with e
                exact hother j hj hji oj hoj d s' hd' hdj e.symm)]
              rw [if_neg hji]
              exact inv.ins j hj oj s' hoj hlj' hdj
          · show (if j = i then v else vs j) = vs0 j
            rw [if_neg (by omega)]
            exact inv.virt j hj
          · by_cases hji : j = i
            · subst hji
              show (Φ j).p (if j = j then v else vs j) (if rel j = j then v else vs (rel j)) w''
              rw [if_pos rfl]
              exact hp
            · obtain ⟨hlo, hnc⟩ := old j hj hji hl
              obtain ⟨e1, e2⟩ := hv j hj hji hlo
              show (Φ j).p (if j = i then v else vs j) (if rel j = i then v else vs (rel j)) w''
              rw [e1, e2]
              refine (Φ j).keep _ _ _ _ (inv.word j hj hlo) (Kept.of_chg hch fun b hb => ?_)
              rcases hb with hb | hb
              · rintro ⟨k, hk, hkb⟩
                obtain ⟨h3, h4⟩ := eaten k hk
                refine inv.dis k j h3 hj (fun e => ?_) h4 hlo b hkb hb
                subst e
                rw [hk] at hnc
                cases hnc
              · exact hfe b hb
          · show (Φ j).fp (if j = i then v else vs j) (if rel j = i then v else vs (rel j)) b → ¬ (Φ k).fp (if k = i then v else vs k) (if rel k = i then v else vs (rel k)) b
            by_cases hji : j = i
            · subst hji
              have hkj : k ≠ j := fun e => hjk e.symm
              obtain ⟨hlo, hnc⟩ := old k hk hkj h2
              obtain ⟨e1, e2⟩ := hv k hk hkj hlo
              rw [if_pos rfl, e1, e2]
              exact fi k hk hkj hlo hnc b
            · obtain ⟨hlo, hnc⟩ := old j hj hji h1
              obtain ⟨e1, e2⟩ := hv j hj hji hlo
              rw [e1, e2]
              by_cases hki : k = i
              · subst hki
                rw [if_pos rfl]
                exact fun x y => fi j hj hji hlo hnc b y x
              · obtain ⟨hlk, _⟩ := old k hk hki h2
                obtain ⟨e3, e4⟩ := hv k hk hki hlk
                rw [e3, e4]
                exact inv.dis j k hj hk hjk hlo hlk b
          · show (Φ j).fp (if j = i then v else vs j) (if rel j = i then v else vs (rel j)) b → ¬ prot b
            by_cases hji : j = i
            · subst hji
              rw [if_pos rfl]
              intro hb hpb
              rcases hfp b hb with h | h
              · exact hfe b hpb h
              · have := hprot b hpb
                have := inv.kept.size
                omega
            · obtain ⟨hlo, _⟩ := old j hj hji hl
              obtain ⟨e1, e2⟩ := hv j hj hji hlo
              rw [e1, e2]
              exact inv.fresh j hj hlo b
        · have := cnt_set hun n
          rw [if_pos hin] at this
          omega
      have hs := step i hin o' (by simpa using ho) A w' vs ⟨inv.kept, outs, deps, inv.virt, fun j hj hu => inv.word j hj (usable j hu), fun j k hj hk hjk h1 h2 => inv.dis j k hj hk hjk (usable j h1) (usable k h2), fun j hj hu => inv.fresh j hj (usable j hu)⟩ (wpAny P .any l.toArray Q (q + (l.toArray.size - n)) (listed.setIfInBounds i true)) next
      unfold wpOp
      rw [ho]
      simp only
      split
      · rename_i hw
        rw [if_pos hw] at hs
        exact .inl hs
      · rename_i hw
        rw [if_neg hw] at hs
        exact hs
  refine wp_region_any hm ?_
  have nl : ∀ j, Live n cons (Array.replicate l.toArray.size false) j → n ≤ j := fun j hj => by
    rcases hj.1 with h | h
    · exact h
    · rw [getD_replicate_false] at h; cases h
  have H := main n (Array.replicate l.toArray.size false) a w.drew vs0 ⟨⟨by simp, fun j oj _ hl => (by rw [getD_replicate_false] at hl; cases hl), fun t _ ht => getD_in (by simpa using ht) (getD_replicate_false _ _)⟩,
    ⟨rfl, rfl, rfl, Nat.le_refl _, fun _ _ _ => rfl⟩, rfl, rfl, fun s _ => rfl, fun j hj o s _ hl => (by rw [getD_replicate_false] at hl; cases hl), fun _ _ => rfl,
    fun j hj hl => by
      have h1 := nl j hl
      have := w0 (j - n) (by omega)
      rw [Nat.add_sub_cancel' h1] at this
      exact (Φ j).keep _ _ _ _ this ⟨rfl, rfl, rfl, Nat.le_refl _, fun _ _ _ => rfl⟩,
    fun j k hj hk hjk h1 h2 => by
      have h3 := nl j h1
      have h4 := nl k h2
      have := d0 (j - n) (k - n) (by omega) (by omega) (by omega)
      rw [Nat.add_sub_cancel' h3, Nat.add_sub_cancel' h4] at this
      exact this,
    fun j hj hl => by
      have h1 := nl j hl
      have := f0 (j - n) (by omega)
      rw [Nat.add_sub_cancel' h1] at this
      exact this⟩ (cnt_init _ n (by omega))
  rw [show n + (l.toArray.size - n) = l.toArray.size by omega] at H
  exact H
end
end Go.Proofs.Ytenaiojddohbkaa

/- What many texts need: numbers of bytes, rows that are appended, addresses, stores into the middle of a block. -/
namespace Go.Proofs.Ytenaiojddohbkaa
open Go.RowKit
set_option linter.unusedVariables false
set_option linter.unusedSimpArgs false
attribute [local go_sem ↓] sliced_cut

attribute [local go_sem] cutA_zero

theorem wanted_ifG {ops : Array Oper} {o : Oper} {tmps : Array Value} {X Y : Prop} (h : Region.wanted o (yielded ops tmps) = true) (hx : X) : if Region.wanted o (yielded ops tmps) = true then X else Y := by
  rw [if_pos h]
  exact hx
theorem whole_ (cs : List Value) : (cs.drop 0).take cs.length = cs := by rw [List.drop_zero]; exact List.take_of_length_le (Nat.le_refl _)
end Go.Proofs.Ytenaiojddohbkaa

/- conns: unlink, link (chapter 31). -/
namespace Go.Proofs.Ytenaiojddohbkaa
open Go.RowKit
set_option linter.unusedVariables false
set_option linter.unusedSimpArgs false
attribute [local go_sem ↓] sliced_cut

attribute [local go_sem] cutA_zero

theorem Chg.set {D : Nat → Prop} (w : World) {p : Addr} (hp : D p.block) (v : Value) : Chg D w (w.setCell p v) := ⟨rfl, rfl, rfl, by simp [World.setCell], fun b _ hd => Below.heap_setCell w p v b (fun e => hd (e ▸ hp))⟩
def cnC (most : Int) (m : Nat) (c2 c3 : Value) : List Value := [.int .i64 most, .map (some m), c2, c3]
/-- a list of uses with an entry taken out of it, or not yet in it -/
structure Mid (w : World) (cb m : Nat) (most : Int) (c2 c3 : Value) (p : List En) (np : Option Nat) (x : En) (xo xn : Option Nat) (s : List En) (os : Option Nat) : Prop where
  blk : Bk w cb 52 (cnC most m c2 c3)
  sp : Seg w none np p
  bx : Bk w x.b 168 (enC x.f x.wd xo xn)
  ss : Seg w os none s
  cx : cb ≠ x.b
  cp : ∀ y ∈ p, y.b ≠ cb ∧ y.b ≠ x.b
  cs : ∀ y ∈ s, y.b ≠ cb ∧ y.b ≠ x.b
  ps : ∀ y ∈ p, ∀ z ∈ s, y.b ≠ z.b
  np_ : (p.map (·.b)).Nodup
  ns_ : (s.map (·.b)).Nodup
section
variable {w : World} {cb m : Nat} {most : Int} {c2 c3 : Value} {p : List En} {np : Option Nat} {x : En} {xo xn : Option Nat} {s : List En} {os : Option Nat}
theorem Mid.c2_ (h : Mid w cb m most c2 c3 p np x xo xn s os) (v : Value) : Mid (w.setCell ⟨cb, 2, none⟩ v) cb m most v c3 p np x xo xn s os :=
  ⟨h.blk.set_ 2 v, Seg.keep p _ h.sp fun y hy => Below.heap_setCell w _ _ _ (h.cp y hy).1, h.bx.far h.cx.symm v, Seg.keep s _ h.ss fun y hy => Below.heap_setCell w _ _ _ (h.cs y hy).1, h.cx, h.cp, h.cs, h.ps, h.np_, h.ns_⟩
theorem Mid.c3_ (h : Mid w cb m most c2 c3 p np x xo xn s os) (v : Value) : Mid (w.setCell ⟨cb, 3, none⟩ v) cb m most c2 v p np x xo xn s os :=
  ⟨h.blk.set_ 3 v, Seg.keep p _ h.sp fun y hy => Below.heap_setCell w _ _ _ (h.cp y hy).1, h.bx.far h.cx.symm v, Seg.keep s _ h.ss fun y hy => Below.heap_setCell w _ _ _ (h.cs y hy).1, h.cx, h.cp, h.cs, h.ps, h.np_, h.ns_⟩
theorem Mid.x10 (h : Mid w cb m most c2 c3 p np x xo xn s os) (o : Option Nat) : Mid (w.setCell ⟨x.b, 10, none⟩ (pp o)) cb m most c2 c3 p np x o xn s os :=
  ⟨h.blk.far h.cx _, Seg.keep p _ h.sp fun y hy => Below.heap_setCell w _ _ _ (h.cp y hy).2, h.bx.set_ 10 (pp o), Seg.keep s _ h.ss fun y hy => Below.heap_setCell w _ _ _ (h.cs y hy).2, h.cx, h.cp, h.cs, h.ps, h.np_, h.ns_⟩
theorem Mid.x11 (h : Mid w cb m most c2 c3 p np x xo xn s os) (o : Option Nat) : Mid (w.setCell ⟨x.b, 11, none⟩ (pp o)) cb m most c2 c3 p np x xo o s os :=
  ⟨h.blk.far h.cx _, Seg.keep p _ h.sp fun y hy => Below.heap_setCell w _ _ _ (h.cp y hy).2, h.bx.set_ 11 (pp o), Seg.keep s _ h.ss fun y hy => Below.heap_setCell w _ _ _ (h.cs y hy).2, h.cx, h.cp, h.cs, h.ps, h.np_, h.ns_⟩
theorem Mid.newer {y : En} (h : Mid w cb m most c2 c3 (p ++ [y]) np x xo xn s os) (n' : Option Nat) {v : Value} (hv : pp n' = v) : Mid (w.setCell ⟨y.b, 11, none⟩ v) cb m most c2 c3 (p ++ [y]) n' x xo xn s os := by
  subst hv
  have hy := h.cp y (by simp)
  have hd : ∀ z ∈ p, z.b ≠ y.b := by
    have := h.np_
    rw [List.map_append, List.nodup_append] at this
    exact fun z hz => this.2.2 z.b (List.mem_map_of_mem hz) y.b (by simp)
  exact ⟨h.blk.far hy.1.symm _, Seg.newer p y none h.sp hd, h.bx.far hy.2.symm _, Seg.keep s _ h.ss fun z hz => Below.heap_setCell w _ _ _ (h.ps y (by simp) z hz).symm, h.cx, h.cp, h.cs, h.ps, h.np_, h.ns_⟩
theorem Mid.older {z : En} (h : Mid w cb m most c2 c3 p np x xo xn (z :: s) os) (o' : Option Nat) {v : Value} (hv : pp o' = v) : Mid (w.setCell ⟨z.b, 10, none⟩ v) cb m most c2 c3 p np x xo xn (z :: s) o' := by
  subst hv
  have hz := h.cs z (by simp)
  have hd : ∀ y ∈ s, y.b ≠ z.b := by
    have := h.ns_
    rw [List.map_cons, List.nodup_cons] at this
    exact fun y hy e => this.1 (e ▸ List.mem_map_of_mem hy)
  exact ⟨h.blk.far hz.1.symm _, Seg.keep p _ h.sp fun y hy => Below.heap_setCell w _ _ _ (h.ps y hy z (by simp)), h.bx.far hz.2.symm _, Seg.older s z h.ss hd, h.cx, h.cp, h.cs, h.ps, h.np_, h.ns_⟩
theorem Mid.last {y : En} (h : Mid w cb m most c2 c3 (p ++ [y]) np x xo xn s os) : Bk w y.b 168 (enC y.f y.wd (lsB none p) np) := ((Seg.app w np p [y] none).1 h.sp).2.1
theorem Mid.first {z : En} (h : Mid w cb m most c2 c3 p np x xo xn (z :: s) os) : Bk w z.b 168 (enC z.f z.wd os (hdB none s)) := h.ss.1
end
theorem Mid.drew {w : World} {cb m : Nat} {most : Int} {c2 c3 : Value} {p : List En} {np : Option Nat} {x : En} {xo xn : Option Nat} {s : List En} {os : Option Nat} (h : Mid w cb m most c2 c3 p np x xo xn s os) : Mid w.drew cb m most c2 c3 p np x xo xn s os :=
  ⟨h.blk.drew, Seg.keep p _ h.sp fun _ _ => rfl, h.bx.drew, Seg.keep s _ h.ss fun _ _ => rfl, h.cx, h.cp, h.cs, h.ps, h.np_, h.ns_⟩
theorem Mid.npn {w : World} {cb m : Nat} {most : Int} {c2 c3 : Value} {np np' : Option Nat} {x : En} {xo xn : Option Nat} {s : List En} {os : Option Nat} (h : Mid w cb m most c2 c3 [] np x xo xn s os) : Mid w cb m most c2 c3 [] np' x xo xn s os :=
  ⟨h.blk, trivial, h.bx, h.ss, h.cx, h.cp, h.cs, h.ps, h.np_, h.ns_⟩
theorem Mid.osn {w : World} {cb m : Nat} {most : Int} {c2 c3 : Value} {p : List En} {np : Option Nat} {x : En} {xo xn : Option Nat} {os os' : Option Nat} (h : Mid w cb m most c2 c3 p np x xo xn [] os) : Mid w cb m most c2 c3 p np x xo xn [] os' :=
  ⟨h.blk, h.sp, h.bx, trivial, h.cx, h.cp, h.cs, h.ps, h.np_, h.ns_⟩
theorem Chg.drew {D : Nat → Prop} {w w' : World} (h : Chg D w w') : Chg D w w'.drew := ⟨h.os, h.tape, h.output, h.size, h.block⟩
/-- the list of uses -/
structure Li (w : World) (cb m : Nat) (most : Int) (l : List En) : Prop where
  blk : Bk w cb 52 (cnC most m (pp (hdB none l)) (pp (lsB none l)))
  seg : Seg w none none l
  nd : (cb :: l.map (·.b)).Nodup
def Dl (cb : Nat) (l : List En) : Nat → Prop := fun b => b = cb ∨ ∃ x ∈ l, x.b = b
theorem Li.mid {w : World} {cb m : Nat} {most : Int} {p s : List En} {x : En} (h : Li w cb m most (p ++ x :: s)) :
    Mid w cb m most (pp (hdB none (p ++ x :: s))) (pp (lsB none (p ++ x :: s))) p (some x.b) x (lsB none p) (hdB none s) s (some x.b) := by
  obtain ⟨h1, h2, h3⟩ := h
  rw [Seg.app] at h2
  have h4 := List.nodup_cons.1 h3
  have h5 := h4.2
  simp only [List.map_append, List.map_cons, List.nodup_append, List.nodup_cons, List.mem_map, List.mem_append, List.mem_cons] at h4 h5
  refine ⟨h1, h2.1, h2.2.1, h2.2.2, fun e => h4.1 (.inr (.inl e)), fun y hy => ⟨fun e => h4.1 (.inl ⟨y, hy, e⟩), h5.2.2 _ ⟨y, hy, rfl⟩ _ (.inl rfl)⟩, fun y hy => ⟨fun e => h4.1 (.inr (.inr ⟨y, hy, e⟩)), fun e => h5.2.1.1 ⟨y, hy, e⟩⟩, fun y hy z hz => h5.2.2 _ ⟨y, hy, rfl⟩ _ (.inr ⟨z, hz, rfl⟩), h5.1, h5.2.1.2⟩
theorem Mid.li {w : World} {cb m : Nat} {most : Int} {p s : List En} {x : En} {xo xn : Option Nat} (h : Mid w cb m most (pp (hdB none (p ++ s))) (pp (lsB none (p ++ s))) p (hdB none s) x xo xn s (lsB none p)) : Li w cb m most (p ++ s) := by
  refine ⟨h.blk, (Seg.app w none p s none).2 ⟨h.sp, h.ss⟩, ?_⟩
  simp only [List.nodup_cons, List.map_append, List.nodup_append, List.mem_map, List.mem_append]
  refine ⟨?_, h.np_, h.ns_, ?_⟩
  · rintro (⟨y, hy, e⟩ | ⟨y, hy, e⟩)
    · exact (h.cp y hy).1 e
    · exact (h.cs y hy).1 e
  · rintro _ ⟨y, hy, rfl⟩ _ ⟨z, hz, rfl⟩
    exact h.ps y hy z hz
theorem Mid.li_app {w : World} {cb m : Nat} {most : Int} {p : List En} {x : En} {os : Option Nat} (h : Mid w cb m most (pp (hdB none (p ++ [x]))) (pp (some x.b)) p (some x.b) x (lsB none p) none [] os) : Li w cb m most (p ++ [x]) := by
  refine ⟨by rw [lsB_snoc]; exact h.blk, (Seg.app w none p [x] none).2 ⟨h.sp, h.bx, trivial⟩, ?_⟩
  simp only [List.nodup_cons, List.map_append, List.nodup_append, List.mem_map, List.mem_append, List.map_cons, List.map_nil, List.mem_cons, List.not_mem_nil, or_false]
  refine ⟨?_, h.np_, ⟨by simp, by simp⟩, ?_⟩
  · rintro (⟨y, hy, e⟩ | e)
    · exact (h.cp y hy).1 e
    · exact h.cx e
  · rintro _ ⟨y, hy, rfl⟩ _ rfl
    exact (h.cp y hy).2
theorem snoc_cases {α : Type} (l : List α) : l = [] ∨ ∃ q y, l = q ++ [y] := by
  rcases List.eq_nil_or_concat l with h | ⟨q, y, h⟩
  · exact .inl h
  · exact .inr ⟨q, y, by rw [h, List.concat_eq_append]⟩
theorem lsB_mid (o : Option Nat) (p s : List En) (x z : En) : lsB o (p ++ x :: z :: s) = lsB o (p ++ z :: s) := by
  rw [lsB_app, lsB_app o p (z :: s)]
  rfl
theorem hdB_any (q q' : Option Nat) (p : List En) (y : En) : hdB q (p ++ [y]) = hdB q' (p ++ [y]) := by cases p <;> rfl
set_option maxHeartbeats 4000000 in
set_option maxRecDepth 100000 in
theorem unlink_mid (w0 W : World) (cb m : Nat) (most : Int) (p s : List En) (x : En) (hM : Mid W cb m most (pp (hdB none (p ++ x :: s))) (pp (lsB none (p ++ x :: s))) p (some x.b) x (lsB none p) (hdB none s) s (some x.b)) (hC : Chg (Dl cb (p ++ x :: s)) w0 W) :
    Calls Try.prog 72 #[.pointer (some ⟨cb, 0, none⟩), .pointer (some ⟨x.b, 0, none⟩)] W fun e w' => e = .returned (.tuple #[]) ∧ Chg (Dl cb (p ++ x :: s)) w0 w' ∧ Li w' cb m most (p ++ s) ∧ Bk w' x.b 168 (enC x.f x.wd none none) := by
  have dcb : (Dl cb (p ++ x :: s)) cb := .inl rfl
  have dx : (Dl cb (p ++ x :: s)) x.b := .inr ⟨x, by simp, rfl⟩
  rcases snoc_cases p with rfl | ⟨p, y, rfl⟩
  · rcases s with _ | ⟨z, s⟩
    · replace hM : Mid W cb m most (pp (hdB none ([] ++ x :: []))) (pp (lsB none ([] ++ x :: []))) [] (some x.b) x (none) (none) [] (some x.b) := by
        have h := hM
        exact h
      have c0 : W.cell? ⟨x.b, 10, none⟩ = some (.pointer none) := hM.bx.cell 10
      have f0 := hM.bx.frozen 10
      have c1 : W.cell? ⟨x.b, 11, none⟩ = some (.pointer none) := hM.bx.cell 11
      have f1 := hM.bx.frozen 11
      have c2 : W.cell? ⟨cb, 2, none⟩ = some (pp (hdB none ([] ++ x :: []))) := hM.blk.cell 2
      have f2 := hM.blk.frozen 2
      have c3 : W.cell? ⟨cb, 3, none⟩ = some (pp (lsB none ([] ++ x :: []))) := hM.blk.cell 3
      have f3 := hM.blk.frozen 3
      go_enter Try.func72, Try.ntmps72
      go_upto_region 3 with (fail)
      clear c0 f0 c1 f1 c2 f2 c3 f3
      replace hC := hC.trans (Chg.set (p := ⟨cb, 2, none⟩) W (show Dl _ _ _ from dcb) (.pointer none))
      replace hM := hM.c2_ (.pointer none)
      generalize W.setCell ⟨cb, 2, none⟩ (.pointer none) = W at *
      have c0 : W.cell? ⟨x.b, 10, none⟩ = some (.pointer none) := hM.bx.cell 10
      have f0 := hM.bx.frozen 10
      have c1 : W.cell? ⟨x.b, 11, none⟩ = some (.pointer none) := hM.bx.cell 11
      have f1 := hM.bx.frozen 11
      have c2 : W.cell? ⟨cb, 2, none⟩ = some (.pointer none) := hM.blk.cell 2
      have f2 := hM.blk.frozen 2
      have c3 : W.cell? ⟨cb, 3, none⟩ = some (pp (lsB none ([] ++ x :: []))) := hM.blk.cell 3
      have f3 := hM.blk.frozen 3
      go_upto_region 6 with (fail)
      clear c0 f0 c1 f1 c2 f2 c3 f3
      replace hC := hC.trans (Chg.set (p := ⟨cb, 3, none⟩) W (show Dl _ _ _ from dcb) (.pointer none))
      replace hM := hM.c3_ (.pointer none)
      generalize W.setCell ⟨cb, 3, none⟩ (.pointer none) = W at *
      have c0 : W.cell? ⟨x.b, 10, none⟩ = some (.pointer none) := hM.bx.cell 10
      have f0 := hM.bx.frozen 10
      have c1 : W.cell? ⟨x.b, 11, none⟩ = some (.pointer none) := hM.bx.cell 11
      have f1 := hM.bx.frozen 11
      go_wp2
      go_end0
      have hM1 := (hM.x10 none).x11 none
      refine ⟨rfl, (hC.trans (Chg.set (p := ⟨x.b, 10, none⟩) W (show Dl _ _ _ from dx) _)).trans (Chg.set (p := ⟨x.b, 11, none⟩) _ (show Dl _ _ _ from dx) _), Mid.li (p := []) (s := []) (x := x) (xo := none) (xn := none) ?_, hM1.bx⟩
      exact hM1.npn.osn
    · have dz : Dl cb ([] ++ x :: (z :: s)) z.b := .inr ⟨z, by simp, rfl⟩
      replace hM : Mid W cb m most (pp (hdB none ([] ++ x :: (z :: s)))) (pp (lsB none ([] ++ (z :: s)))) [] (some x.b) x (none) (some z.b) (z :: s) (some x.b) := by
        have h := hM
        rw [lsB_mid none [] s x z] at h
        exact h
      have c0 : W.cell? ⟨x.b, 10, none⟩ = some (.pointer none) := hM.bx.cell 10
      have f0 := hM.bx.frozen 10
      have c1 : W.cell? ⟨x.b, 11, none⟩ = some (.pointer (some ⟨z.b, 0, none⟩)) := hM.bx.cell 11
      have f1 := hM.bx.frozen 11
      have c2 : W.cell? ⟨cb, 2, none⟩ = some (pp (hdB none ([] ++ x :: (z :: s)))) := hM.blk.cell 2
      have f2 := hM.blk.frozen 2
      have c3 : W.cell? ⟨cb, 3, none⟩ = some (pp (lsB none ([] ++ (z :: s)))) := hM.blk.cell 3
      have f3 := hM.blk.frozen 3
      have c4 : W.cell? ⟨z.b, 10, none⟩ = some (.pointer (some ⟨x.b, 0, none⟩)) := hM.first.cell 10
      have f4 := hM.first.frozen 10
      go_enter Try.func72, Try.ntmps72
      go_upto_region 3 with (fail)
      clear c0 f0 c1 f1 c2 f2 c3 f3 c4 f4
      replace hC := hC.trans (Chg.set (p := ⟨cb, 2, none⟩) W (show Dl _ _ _ from dcb) (.pointer (some ⟨z.b, 0, none⟩)))
      replace hM := hM.c2_ (.pointer (some ⟨z.b, 0, none⟩))
      generalize W.setCell ⟨cb, 2, none⟩ (.pointer (some ⟨z.b, 0, none⟩)) = W at *
      have c0 : W.cell? ⟨x.b, 10, none⟩ = some (.pointer none) := hM.bx.cell 10
      have f0 := hM.bx.frozen 10
      have c1 : W.cell? ⟨x.b, 11, none⟩ = some (.pointer (some ⟨z.b, 0, none⟩)) := hM.bx.cell 11
      have f1 := hM.bx.frozen 11
      have c2 : W.cell? ⟨cb, 2, none⟩ = some (.pointer (some ⟨z.b, 0, none⟩)) := hM.blk.cell 2
      have f2 := hM.blk.frozen 2
      have c3 : W.cell? ⟨cb, 3, none⟩ = some (pp (lsB none ([] ++ (z :: s)))) := hM.blk.cell 3
      have f3 := hM.blk.frozen 3
      have c4 : W.cell? ⟨z.b, 10, none⟩ = some (.pointer (some ⟨x.b, 0, none⟩)) := hM.first.cell 10
      have f4 := hM.first.frozen 10
      go_upto_region 4 with (fail)
      go_wp2
      refine wp_tail 10 (by kernel_rfl) (by kernel_rfl) ?_
      simp only [List.take_succ_cons, List.take_zero, List.drop_succ_cons, List.drop_zero]
      repeat still_step
      refine wpStill_nil ?_
      go_upto_region 6 with (fail)
      clear c0 f0 c1 f1 c2 f2 c3 f3 c4 f4
      replace hC := (hC.trans (Chg.set (p := ⟨z.b, 10, none⟩) W (show Dl _ _ _ from dz) (.pointer none))).drew
      replace hM := (hM.older (none) (v := .pointer none) rfl).drew
      generalize (W.setCell ⟨z.b, 10, none⟩ (.pointer none)).drew = W at *
      have c0 : W.cell? ⟨x.b, 10, none⟩ = some (.pointer none) := hM.bx.cell 10
      have f0 := hM.bx.frozen 10
      have c1 : W.cell? ⟨x.b, 11, none⟩ = some (.pointer (some ⟨z.b, 0, none⟩)) := hM.bx.cell 11
      have f1 := hM.bx.frozen 11
      go_wp2
      go_end0
      have hM1 := (hM.x10 none).x11 none
      refine ⟨rfl, (hC.trans (Chg.set (p := ⟨x.b, 10, none⟩) W (show Dl _ _ _ from dx) _)).trans (Chg.set (p := ⟨x.b, 11, none⟩) _ (show Dl _ _ _ from dx) _), Mid.li (p := []) (s := (z :: s)) (x := x) (xo := none) (xn := none) ?_, hM1.bx⟩
      exact hM1.npn
  · rcases s with _ | ⟨z, s⟩
    · have dy : Dl cb ((p ++ [y]) ++ x :: []) y.b := .inr ⟨y, by simp, rfl⟩
      replace hM : Mid W cb m most (pp (hdB none ((p ++ [y]) ++ []))) (pp (lsB none ((p ++ [y]) ++ x :: []))) (p ++ [y]) (some x.b) x (some y.b) (none) [] (some x.b) := by
        have h := hM
        rw [hdB_app none (p ++ [y]) (x :: []), hdB_any (hdB none (x :: [])) (hdB none []) p y, ← hdB_app] at h
        rw [show lsB none (p ++ [y]) = some y.b from lsB_snoc none p y] at h
        exact h
      have c0 : W.cell? ⟨x.b, 10, none⟩ = some (.pointer (some ⟨y.b, 0, none⟩)) := hM.bx.cell 10
      have f0 := hM.bx.frozen 10
      have c1 : W.cell? ⟨x.b, 11, none⟩ = some (.pointer none) := hM.bx.cell 11
      have f1 := hM.bx.frozen 11
      have c2 : W.cell? ⟨cb, 2, none⟩ = some (pp (hdB none ((p ++ [y]) ++ []))) := hM.blk.cell 2
      have f2 := hM.blk.frozen 2
      have c3 : W.cell? ⟨cb, 3, none⟩ = some (pp (lsB none ((p ++ [y]) ++ x :: []))) := hM.blk.cell 3
      have f3 := hM.blk.frozen 3
      have c4 : W.cell? ⟨y.b, 11, none⟩ = some (.pointer (some ⟨x.b, 0, none⟩)) := hM.last.cell 11
      have f4 := hM.last.frozen 11
      go_enter Try.func72, Try.ntmps72
      go_upto_region 1 with (fail)
      go_wp2
      refine wp_tail 10 (by kernel_rfl) (by kernel_rfl) ?_
      simp only [List.take_succ_cons, List.take_zero, List.drop_succ_cons, List.drop_zero]
      repeat still_step
      refine wpStill_nil ?_
      go_upto_region 3 with (fail)
      clear c0 f0 c1 f1 c2 f2 c3 f3 c4 f4
      replace hC := (hC.trans (Chg.set (p := ⟨y.b, 11, none⟩) W (show Dl _ _ _ from dy) (.pointer none))).drew
      replace hM := (hM.newer (none) (v := .pointer none) rfl).drew
      generalize (W.setCell ⟨y.b, 11, none⟩ (.pointer none)).drew = W at *
      have c0 : W.cell? ⟨x.b, 10, none⟩ = some (.pointer (some ⟨y.b, 0, none⟩)) := hM.bx.cell 10
      have f0 := hM.bx.frozen 10
      have c1 : W.cell? ⟨x.b, 11, none⟩ = some (.pointer none) := hM.bx.cell 11
      have f1 := hM.bx.frozen 11
      have c2 : W.cell? ⟨cb, 2, none⟩ = some (pp (hdB none ((p ++ [y]) ++ []))) := hM.blk.cell 2
      have f2 := hM.blk.frozen 2
      have c3 : W.cell? ⟨cb, 3, none⟩ = some (pp (lsB none ((p ++ [y]) ++ x :: []))) := hM.blk.cell 3
      have f3 := hM.blk.frozen 3
      have c4 : W.cell? ⟨y.b, 11, none⟩ = some (.pointer none) := hM.last.cell 11
      have f4 := hM.last.frozen 11
      go_upto_region 6 with (fail)
      clear c0 f0 c1 f1 c2 f2 c3 f3 c4 f4
      replace hC := hC.trans (Chg.set (p := ⟨cb, 3, none⟩) W (show Dl _ _ _ from dcb) (.pointer (some ⟨y.b, 0, none⟩)))
      replace hM := hM.c3_ (.pointer (some ⟨y.b, 0, none⟩))
      generalize W.setCell ⟨cb, 3, none⟩ (.pointer (some ⟨y.b, 0, none⟩)) = W at *
      have c0 : W.cell? ⟨x.b, 10, none⟩ = some (.pointer (some ⟨y.b, 0, none⟩)) := hM.bx.cell 10
      have f0 := hM.bx.frozen 10
      have c1 : W.cell? ⟨x.b, 11, none⟩ = some (.pointer none) := hM.bx.cell 11
      have f1 := hM.bx.frozen 11
      go_wp2
      go_end0
      have hM1 := (hM.x10 none).x11 none
      refine ⟨rfl, (hC.trans (Chg.set (p := ⟨x.b, 10, none⟩) W (show Dl _ _ _ from dx) _)).trans (Chg.set (p := ⟨x.b, 11, none⟩) _ (show Dl _ _ _ from dx) _), Mid.li (p := (p ++ [y])) (s := []) (x := x) (xo := none) (xn := none) ?_, hM1.bx⟩
      rw [show lsB none (p ++ [y]) = some y.b from lsB_snoc none p y]
      rw [List.append_nil]
      rw [List.append_nil] at hM1
      rw [show lsB none (p ++ [y]) = some y.b from lsB_snoc none p y]
      exact hM1.osn
    · have dy : Dl cb ((p ++ [y]) ++ x :: (z :: s)) y.b := .inr ⟨y, by simp, rfl⟩
      have dz : Dl cb ((p ++ [y]) ++ x :: (z :: s)) z.b := .inr ⟨z, by simp, rfl⟩
      replace hM : Mid W cb m most (pp (hdB none ((p ++ [y]) ++ (z :: s)))) (pp (lsB none ((p ++ [y]) ++ (z :: s)))) (p ++ [y]) (some x.b) x (some y.b) (some z.b) (z :: s) (some x.b) := by
        have h := hM
        rw [hdB_app none (p ++ [y]) (x :: (z :: s)), hdB_any (hdB none (x :: (z :: s))) (hdB none (z :: s)) p y, ← hdB_app] at h
        rw [lsB_mid none (p ++ [y]) s x z] at h
        rw [show lsB none (p ++ [y]) = some y.b from lsB_snoc none p y] at h
        exact h
      have c0 : W.cell? ⟨x.b, 10, none⟩ = some (.pointer (some ⟨y.b, 0, none⟩)) := hM.bx.cell 10
      have f0 := hM.bx.frozen 10
      have c1 : W.cell? ⟨x.b, 11, none⟩ = some (.pointer (some ⟨z.b, 0, none⟩)) := hM.bx.cell 11
      have f1 := hM.bx.frozen 11
      have c2 : W.cell? ⟨cb, 2, none⟩ = some (pp (hdB none ((p ++ [y]) ++ (z :: s)))) := hM.blk.cell 2
      have f2 := hM.blk.frozen 2
      have c3 : W.cell? ⟨cb, 3, none⟩ = some (pp (lsB none ((p ++ [y]) ++ (z :: s)))) := hM.blk.cell 3
      have f3 := hM.blk.frozen 3
      have c4 : W.cell? ⟨y.b, 11, none⟩ = some (.pointer (some ⟨x.b, 0, none⟩)) := hM.last.cell 11
      have f4 := hM.last.frozen 11
      have c5 : W.cell? ⟨z.b, 10, none⟩ = some (.pointer (some ⟨x.b, 0, none⟩)) := hM.first.cell 10
      have f5 := hM.first.frozen 10
      go_enter Try.func72, Try.ntmps72
      go_upto_region 1 with (fail)
      go_wp2
      refine wp_tail 10 (by kernel_rfl) (by kernel_rfl) ?_
      simp only [List.take_succ_cons, List.take_zero, List.drop_succ_cons, List.drop_zero]
      repeat still_step
      refine wpStill_nil ?_
      go_upto_region 3 with (fail)
      clear c0 f0 c1 f1 c2 f2 c3 f3 c4 f4 c5 f5
      replace hC := (hC.trans (Chg.set (p := ⟨y.b, 11, none⟩) W (show Dl _ _ _ from dy) (.pointer (some ⟨z.b, 0, none⟩)))).drew
      replace hM := (hM.newer (some z.b) (v := .pointer (some ⟨z.b, 0, none⟩)) rfl).drew
      generalize (W.setCell ⟨y.b, 11, none⟩ (.pointer (some ⟨z.b, 0, none⟩))).drew = W at *
      have c0 : W.cell? ⟨x.b, 10, none⟩ = some (.pointer (some ⟨y.b, 0, none⟩)) := hM.bx.cell 10
      have f0 := hM.bx.frozen 10
      have c1 : W.cell? ⟨x.b, 11, none⟩ = some (.pointer (some ⟨z.b, 0, none⟩)) := hM.bx.cell 11
      have f1 := hM.bx.frozen 11
      have c2 : W.cell? ⟨cb, 2, none⟩ = some (pp (hdB none ((p ++ [y]) ++ (z :: s)))) := hM.blk.cell 2
      have f2 := hM.blk.frozen 2
      have c3 : W.cell? ⟨cb, 3, none⟩ = some (pp (lsB none ((p ++ [y]) ++ (z :: s)))) := hM.blk.cell 3
      have f3 := hM.blk.frozen 3
      have c4 : W.cell? ⟨y.b, 11, none⟩ = some (.pointer (some ⟨z.b, 0, none⟩)) := hM.last.cell 11
      have f4 := hM.last.frozen 11
      have c5 : W.cell? ⟨z.b, 10, none⟩ = some (.pointer (some ⟨x.b, 0, none⟩)) := hM.first.cell 10
      have f5 := hM.first.frozen 10
      go_upto_region 4 with (fail)
      go_wp2
      refine wp_tail 10 (by kernel_rfl) (by kernel_rfl) ?_
      simp only [List.take_succ_cons, List.take_zero, List.drop_succ_cons, List.drop_zero]
      repeat still_step
      refine wpStill_nil ?_
      go_upto_region 6 with (fail)
      clear c0 f0 c1 f1 c2 f2 c3 f3 c4 f4 c5 f5
      replace hC := (hC.trans (Chg.set (p := ⟨z.b, 10, none⟩) W (show Dl _ _ _ from dz) (.pointer (some ⟨y.b, 0, none⟩)))).drew
      replace hM := (hM.older (some y.b) (v := .pointer (some ⟨y.b, 0, none⟩)) rfl).drew
      generalize (W.setCell ⟨z.b, 10, none⟩ (.pointer (some ⟨y.b, 0, none⟩))).drew = W at *
      have c0 : W.cell? ⟨x.b, 10, none⟩ = some (.pointer (some ⟨y.b, 0, none⟩)) := hM.bx.cell 10
      have f0 := hM.bx.frozen 10
      have c1 : W.cell? ⟨x.b, 11, none⟩ = some (.pointer (some ⟨z.b, 0, none⟩)) := hM.bx.cell 11
      have f1 := hM.bx.frozen 11
      go_wp2
      go_end0
      have hM1 := (hM.x10 none).x11 none
      refine ⟨rfl, (hC.trans (Chg.set (p := ⟨x.b, 10, none⟩) W (show Dl _ _ _ from dx) _)).trans (Chg.set (p := ⟨x.b, 11, none⟩) _ (show Dl _ _ _ from dx) _), Mid.li (p := (p ++ [y])) (s := (z :: s)) (x := x) (xo := none) (xn := none) ?_, hM1.bx⟩
      rw [show lsB none (p ++ [y]) = some y.b from lsB_snoc none p y]
      exact hM1
set_option maxHeartbeats 4000000 in
set_option maxRecDepth 100000 in
theorem unlink_any (w : World) (cb m : Nat) (most : Int) (p s : List En) (x : En) (h : Li w cb m most (p ++ x :: s)) :
    Calls Try.prog 72 #[.pointer (some ⟨cb, 0, none⟩), .pointer (some ⟨x.b, 0, none⟩)] w fun e w' => e = .returned (.tuple #[]) ∧ Chg (Dl cb (p ++ x :: s)) w w' ∧ Li w' cb m most (p ++ s) ∧ Bk w' x.b 168 (enC x.f x.wd none none) :=
  unlink_mid w w cb m most p s x h.mid (Chg.refl w)
theorem Li.midE {w : World} {cb m : Nat} {most : Int} {l : List En} {x : En} {xo xn : Option Nat} (h : Li w cb m most l) (hx : Bk w x.b 168 (enC x.f x.wd xo xn)) (hn : x.b ≠ cb ∧ ∀ y ∈ l, y.b ≠ x.b) :
    Mid w cb m most (pp (hdB none l)) (pp (lsB none l)) l none x xo xn [] none := by
  have h4 := List.nodup_cons.1 h.nd
  exact ⟨h.blk, h.seg, hx, trivial, hn.1.symm, fun y hy => ⟨fun e => h4.1 (e ▸ List.mem_map_of_mem hy), hn.2 y hy⟩, by simp, by simp, h4.2, List.nodup_nil⟩
set_option maxHeartbeats 4000000 in
set_option maxRecDepth 100000 in
theorem link_mid (w0 W : World) (cb m : Nat) (most : Int) (l : List En) (x : En) (xo xn : Option Nat) (hM : Mid W cb m most (pp (hdB none l)) (pp (lsB none l)) l none x xo xn [] none) (hC : Chg (Dl cb (l ++ [x])) w0 W) :
    Calls Try.prog 73 #[.pointer (some ⟨cb, 0, none⟩), .pointer (some ⟨x.b, 0, none⟩)] W fun e w' => e = .returned (.tuple #[]) ∧ Chg (Dl cb (l ++ [x])) w0 w' ∧ Li w' cb m most (l ++ [x]) := by
  have dcb : (Dl cb (l ++ [x])) cb := .inl rfl
  have dx : (Dl cb (l ++ [x])) x.b := .inr ⟨x, by simp, rfl⟩
  rcases snoc_cases l with rfl | ⟨p, y, rfl⟩
  · replace hM : Mid W cb m most (pp none) (pp none) [] none x xo xn [] none := hM
    have c0 : W.cell? ⟨x.b, 10, none⟩ = some (pp xo) := hM.bx.cell 10
    have f0 := hM.bx.frozen 10
    have c1 : W.cell? ⟨x.b, 11, none⟩ = some (pp xn) := hM.bx.cell 11
    have f1 := hM.bx.frozen 11
    have c2 : W.cell? ⟨cb, 2, none⟩ = some (.pointer none) := hM.blk.cell 2
    have f2 := hM.blk.frozen 2
    have c3 : W.cell? ⟨cb, 3, none⟩ = some (.pointer none) := hM.blk.cell 3
    have f3 := hM.blk.frozen 3
    go_enter Try.func73, Try.ntmps73
    go_upto_region 1 with (fail)
    clear c0 f0 c1 f1 c2 f2 c3 f3
    replace hC := (hC.trans (Chg.set (p := ⟨x.b, 10, none⟩) W (show Dl _ _ _ from dx) (.pointer none))).trans (Chg.set (p := ⟨x.b, 11, none⟩) _ (show Dl _ _ _ from dx) (.pointer none))
    replace hM : Mid _ cb m most _ _ _ _ x (none) none [] none := (hM.x10 (none)).x11 none
    change Mid ((W.setCell ⟨x.b, 10, none⟩ (.pointer none)).setCell ⟨x.b, 11, none⟩ (.pointer none)) _ _ _ _ _ _ _ _ _ _ _ _ at hM
    generalize (W.setCell ⟨x.b, 10, none⟩ (.pointer none)).setCell ⟨x.b, 11, none⟩ (.pointer none) = W at *
    have c0 : W.cell? ⟨cb, 2, none⟩ = some (.pointer none) := hM.blk.cell 2
    have f0 := hM.blk.frozen 2
    have c1 : W.cell? ⟨cb, 3, none⟩ = some (.pointer none) := hM.blk.cell 3
    have f1 := hM.blk.frozen 3
    go_upto_region 4 with (fail)
    clear c0 f0 c1 f1
    replace hC := hC.trans (Chg.set (p := ⟨cb, 2, none⟩) W (show Dl _ _ _ from dcb) (.pointer (some ⟨x.b, 0, none⟩)))
    replace hM := hM.c2_ (.pointer (some ⟨x.b, 0, none⟩))
    generalize W.setCell ⟨cb, 2, none⟩ (.pointer (some ⟨x.b, 0, none⟩)) = W at *
    have c0 : W.cell? ⟨cb, 3, none⟩ = some (.pointer none) := hM.blk.cell 3
    have f0 := hM.blk.frozen 3
    go_wp2
    go_end0
    have hM1 := hM.c3_ (pp (some x.b))
    refine ⟨rfl, hC.trans (Chg.set (p := ⟨cb, 3, none⟩) W (show Dl _ _ _ from dcb) _), Mid.li_app (p := []) (os := none) ?_⟩
    exact hM1.npn
  · have dy : Dl cb ((p ++ [y]) ++ [x]) y.b := .inr ⟨y, by simp, rfl⟩
    replace hM : Mid W cb m most (pp (hdB none (p ++ [y]))) (pp (some y.b)) (p ++ [y]) none x xo xn [] none := by
      have h := hM
      rw [show lsB none (p ++ [y]) = some y.b from lsB_snoc none p y] at h
      exact h
    have c0 : W.cell? ⟨x.b, 10, none⟩ = some (pp xo) := hM.bx.cell 10
    have f0 := hM.bx.frozen 10
    have c1 : W.cell? ⟨x.b, 11, none⟩ = some (pp xn) := hM.bx.cell 11
    have f1 := hM.bx.frozen 11
    have c2 : W.cell? ⟨cb, 2, none⟩ = some (pp (hdB none (p ++ [y]))) := hM.blk.cell 2
    have f2 := hM.blk.frozen 2
    have c3 : W.cell? ⟨cb, 3, none⟩ = some (.pointer (some ⟨y.b, 0, none⟩)) := hM.blk.cell 3
    have f3 := hM.blk.frozen 3
    have c4 : W.cell? ⟨y.b, 11, none⟩ = some (.pointer none) := hM.last.cell 11
    have f4 := hM.last.frozen 11
    go_enter Try.func73, Try.ntmps73
    go_upto_region 1 with (fail)
    clear c0 f0 c1 f1 c2 f2 c3 f3 c4 f4
    replace hC := (hC.trans (Chg.set (p := ⟨x.b, 10, none⟩) W (show Dl _ _ _ from dx) (.pointer (some ⟨y.b, 0, none⟩)))).trans (Chg.set (p := ⟨x.b, 11, none⟩) _ (show Dl _ _ _ from dx) (.pointer none))
    replace hM : Mid _ cb m most _ _ _ _ x (some y.b) none [] none := (hM.x10 (some y.b)).x11 none
    change Mid ((W.setCell ⟨x.b, 10, none⟩ (.pointer (some ⟨y.b, 0, none⟩))).setCell ⟨x.b, 11, none⟩ (.pointer none)) _ _ _ _ _ _ _ _ _ _ _ _ at hM
    generalize (W.setCell ⟨x.b, 10, none⟩ (.pointer (some ⟨y.b, 0, none⟩))).setCell ⟨x.b, 11, none⟩ (.pointer none) = W at *
    have c0 : W.cell? ⟨cb, 2, none⟩ = some (pp (hdB none (p ++ [y]))) := hM.blk.cell 2
    have f0 := hM.blk.frozen 2
    have c1 : W.cell? ⟨cb, 3, none⟩ = some (.pointer (some ⟨y.b, 0, none⟩)) := hM.blk.cell 3
    have f1 := hM.blk.frozen 3
    have c2 : W.cell? ⟨y.b, 11, none⟩ = some (.pointer none) := hM.last.cell 11
    have f2 := hM.last.frozen 11
    go_upto_region 4 with (fail)
    clear c0 f0 c1 f1 c2 f2
    replace hC := hC.trans (Chg.set (p := ⟨y.b, 11, none⟩) W (show Dl _ _ _ from dy) (.pointer (some ⟨x.b, 0, none⟩)))
    replace hM := hM.newer (some x.b) (v := .pointer (some ⟨x.b, 0, none⟩)) rfl
    generalize W.setCell ⟨y.b, 11, none⟩ (.pointer (some ⟨x.b, 0, none⟩)) = W at *
    have c0 : W.cell? ⟨cb, 3, none⟩ = some (.pointer (some ⟨y.b, 0, none⟩)) := hM.blk.cell 3
    have f0 := hM.blk.frozen 3
    go_wp2
    go_end0
    have hM1 := hM.c3_ (pp (some x.b))
    refine ⟨rfl, hC.trans (Chg.set (p := ⟨cb, 3, none⟩) W (show Dl _ _ _ from dcb) _), Mid.li_app (p := (p ++ [y])) (os := none) ?_⟩
    rw [show lsB none (p ++ [y]) = some y.b from lsB_snoc none p y, hdB_app, hdB_any (hdB none [x]) none p y]
    exact hM1
theorem link_any (w : World) (cb m : Nat) (most : Int) (l : List En) (x : En) (xo xn : Option Nat) (h : Li w cb m most l) (hx : Bk w x.b 168 (enC x.f x.wd xo xn)) (hn : x.b ≠ cb ∧ ∀ y ∈ l, y.b ≠ x.b) :
    Calls Try.prog 73 #[.pointer (some ⟨cb, 0, none⟩), .pointer (some ⟨x.b, 0, none⟩)] w fun e w' => e = .returned (.tuple #[]) ∧ Chg (Dl cb (l ++ [x])) w w' ∧ Li w' cb m most (l ++ [x]) :=
  link_mid w w cb m most l x xo xn (h.midE hx hn) (Chg.refl w)
end Go.Proofs.Ytenaiojddohbkaa

/- conns: find, Len, Has, Get, Drop (chapter 31). -/
namespace Go.Proofs.Ytenaiojddohbkaa
open Go.RowKit
set_option linter.unusedVariables false
set_option linter.unusedSimpArgs false
attribute [local go_sem ↓] sliced_cut

attribute [local go_sem] cutA_zero

theorem findL_get (f : Fw) : ∀ (L : List (Fw × Value)) (k j : Nat) (v : Value), findL f L k = some (j, v) → ∃ i, j = k + i ∧ L[i]? = some (f, v)
  | [], _, _, _, h => by simp [findL] at h
  | y :: t, k, j, v, h => by
    unfold findL at h
    split at h
    · next e =>
      injection h with h
      injection h with h1 h2
      subst h1 h2
      exact ⟨0, rfl, by rw [e]; rfl⟩
    · obtain ⟨i, h1, h2⟩ := findL_get f t (k + 1) j v h
      exact ⟨i + 1, by omega, h2⟩
theorem findL_none (f : Fw) : ∀ (L : List (Fw × Value)) (k : Nat), findL f L k = none ↔ ∀ y ∈ L, f ≠ y.1
  | [], _ => by simp [findL]
  | y :: t, k => by
    unfold findL
    split
    · next e => simp [e]
    · next e => rw [findL_none f t (k + 1)]; simp [e]
def enP (x : En) : Fw × Value := (x.f, pp (some x.b))
theorem find_hit {L : List (Fw × Value)} {p s : List En} {x : En} (hp : L.Perm ((p ++ x :: s).map enP)) (hn : ((p ++ x :: s).map (·.f)).Nodup) : ∃ i, findL x.f L 0 = some (i, pp (some x.b)) ∧ (L.eraseIdx i).Perm ((p ++ s).map enP) := by
  have hmem : enP x ∈ L := hp.mem_iff.2 (by simp)
  cases hf : findL x.f L 0 with
  | none => exact absurd rfl ((findL_none x.f L 0).1 hf _ hmem)
  | some r =>
    obtain ⟨j, v⟩ := r
    obtain ⟨i, h1, h2⟩ := findL_get _ _ _ _ _ hf
    obtain rfl : j = i := by omega
    have h3 : (x.f, v) ∈ (p ++ x :: s).map enP := hp.mem_iff.1 (List.mem_of_getElem? h2)
    obtain ⟨y, hy, e⟩ := List.mem_map.1 h3
    simp only [enP, Prod.mk.injEq] at e
    have hyx : y = x := by
      simp only [List.map_append, List.map_cons, List.nodup_append, List.nodup_cons, List.mem_map, List.mem_cons] at hn
      rcases List.mem_append.1 hy with h | h
      · exact absurd e.1 (hn.2.2 _ ⟨y, h, rfl⟩ _ (.inl rfl))
      · rcases List.mem_cons.1 h with h | h
        · exact h
        · exact absurd ⟨y, h, e.1⟩ hn.2.1.1
    subst hyx
    refine ⟨j, by rw [e.2], ?_⟩
    have hlt : j < L.length := (List.getElem?_eq_some_iff.1 h2).1
    have h4 : L[j] = enP y := by
      have := (List.getElem?_eq_some_iff.1 h2).2
      rw [this, ← e.2]; rfl
    have h5 : (enP y :: L.eraseIdx j).Perm L := by
      have e1 : L = L.take j ++ enP y :: L.drop (j + 1) := by rw [← h4]; simp
      rw [List.eraseIdx_eq_take_drop_succ]
      refine List.perm_middle.symm.trans ?_
      rw [← e1]
    have h6 : ((p ++ y :: s).map enP).Perm (enP y :: (p ++ s).map enP) := by
      rw [List.map_append, List.map_cons, List.map_append]
      exact List.perm_middle
    exact ((h5.trans hp).trans h6).cons_inv
theorem find_miss {L : List (Fw × Value)} {l : List En} {f : Fw} (hp : L.Perm (l.map enP)) (hn : ∀ x ∈ l, x.f ≠ f) : findL f L 0 = none := by
  rw [findL_none]
  intro y hy e
  obtain ⟨x, hx, rfl⟩ := List.mem_map.1 (hp.mem_iff.1 hy)
  exact hn x hx e.symm
/-- a table of connections -/
structure Co (w : World) (cb m : Nat) (most : Int) (l : List En) : Prop where
  li : Li w cb m most l
  mp : ∃ L, Mp w m L ∧ L.Perm (l.map enP)
  nf : (l.map (·.f)).Nodup
  nm : m ≠ cb ∧ ∀ x ∈ l, x.b ≠ m
theorem Li.later {w w' : World} {cb m : Nat} {most : Int} {l : List En} (h : Li w cb m most l) (hb : Below w.heap.size w w') : Li w' cb m most l :=
  ⟨h.blk.later hb, Seg.keep l _ h.seg fun x hx => hb.block _ (Seg.lt l _ h.seg x hx), h.nd⟩
theorem Co.later {w w' : World} {cb m : Nat} {most : Int} {l : List En} (h : Co w cb m most l) (hb : Below w.heap.size w w') : Co w' cb m most l := by
  obtain ⟨L, h1, h2⟩ := h.mp
  exact ⟨h.li.later hb, ⟨L, h1.later hb, h2⟩, h.nf, h.nm⟩
/-- the blocks that a call may change -/
def Dm (cb m : Nat) (l : List En) : Nat → Prop := fun b => b = cb ∨ b = m ∨ ∃ x ∈ l, x.b = b
theorem Dl.dm {cb m : Nat} {l l' : List En} (hs : ∀ x ∈ l, x ∈ l') : ∀ b, Dl cb l b → Dm cb m l' b := fun b h => h.elim .inl fun ⟨x, hx, e⟩ => .inr (.inr ⟨x, hs x hx, e⟩)
theorem Chg.wider {D D' : Nat → Prop} {w w' : World} (h : Chg D w w') (hd : ∀ b, D b → D' b) : Chg D' w w' := ⟨h.os, h.tape, h.output, h.size, fun b hb hn => h.block b hb (fun hD => hn (hd b hD))⟩
theorem rowFw : ∃ d, Try.prog.underlying 28 = some d ∧ d.isRow = true := ⟨_, Try.underlying28, rfl⟩
theorem wp_look {Q : Exit → Act → World → Prop} {o : Oper} {a : Act} {w : World} {K : Act → World → Prop} (x y : Operand) (hop : o.op = Op.lookup 49 x y false)
    {m : Nat} {L : List (Fw × Value)} (hx : a.eval x = .map (some m)) (f : Fw) (hy : a.eval y = f.v) (h : Mp w m L) {v : Value} (hv : atL f L = v) (hK : K (a.put o.dst v) w) : o.wp Try.prog a w K Q := by
  subst hv
  unfold Oper.wp
  simp [execOp, hop, hx, hy, h.look f, Result.andThen]
  exact hK

set_option maxHeartbeats 4000000 in
set_option maxRecDepth 100000 in
theorem find_at (w : World) (cb m : Nat) (most : Int) (l : List En) (f : Fw) (v : Value) (L : List (Fw × Value)) (h : Li w cb m most l) (hmp : Mp w m L) (hat : atL f L = v) : Calls Try.prog 71 #[.pointer (some ⟨cb, 0, none⟩), .agg f.c.toArray] w (RetV w v) := by
  have hcb := h.blk
  obtain ⟨dv1, v1, v2⟩ := rowFw
  have hf : Bk (w.alloc (.cells (f.c).toArray 28)) w.heap.size 28 (f.c) := Bk.new w 28 (f.c).toArray
  have be : Below w.heap.size w (w.alloc (.cells (f.c).toArray 28)) := Below.allocS (Below.refl _ _) _
  replace hcb := (hcb.alloc (.cells (f.c).toArray 28))
  replace hmp := (hmp.alloc (.cells (f.c).toArray 28))
  have zV : w.heap.size + 1 ≤ (w.alloc (.cells (f.c).toArray 28)).heap.size := by simp
  go_enter Try.func71, Try.ntmps71
  go_upto_region 1 with (fail)
  generalize w.alloc (.cells (f.c).toArray 28) = V at *
  clear h
  go_upto_region 3 with (fail)
  go_wp2
  refine wp_relS 7 13 rfl (by kernel_rfl) (by kernel_rfl) ?_
  apply Steps.one (MP.eq _) 1 rfl
  · intro o ho FA x hO hD K hK
    obtain rfl := Option.some.inj ho.symm
    clear ho
    have e0 := hO 0 (by kernel_rfl)
    simp only [eval_tmp, List.getElem?_toArray, List.getElem?_cons_succ, List.getElem?_cons_zero, Option.getD_some] at e0
    have ev0 := Lib.hid ((eval_tmp FA 0).trans e0)
    clear hO hD
    go_simp
    exact hK.out _ _ (Ex.refl _) rfl
  apply Steps.one (MP.eq _) 2 rfl
  · intro o ho FA x hO hD K hK
    obtain rfl := Option.some.inj ho.symm
    clear ho
    have ev7 : FA.eval (.tmp 7) = _ := hD 0 7 (by kernel_rfl)
    have e7 := (eval_tmp FA 7).symm.trans ev7
    replace ev7 := Lib.hid ev7
    clear hO hD
    go_simp
    exact hK.out _ _ (Ex.refl _) rfl
  apply Steps.one (MP.eq _) 3 rfl
  · intro o ho FA x hO hD K hK
    obtain rfl := Option.some.inj ho.symm
    clear ho
    have ev8 : FA.eval (.tmp 8) = _ := hD 1 8 (by kernel_rfl)
    have e8 := (eval_tmp FA 8).symm.trans ev8
    replace ev8 := Lib.hid ev8
    clear hO hD
    go_simp
    exact hK.out _ _ (Ex.refl _) rfl
  apply Steps.one (MP.eq _) 4 rfl
  · intro o ho FA x hO hD K hK
    obtain rfl := Option.some.inj ho.symm
    clear ho
    have ev9 : FA.eval (.tmp 9) = _ := hD 2 9 (by kernel_rfl)
    have e9 := (eval_tmp FA 9).symm.trans ev9
    replace ev9 := Lib.hid ev9
    clear hO hD
    refine wanted_if rfl ?_
    refine wp_ld1 49 (.tmp 9) rfl ev9.out (hcb.later (below_plus _ _ _)) rfl Try.underlying49 rfl ?_
    exact hK.out _ _ (Ex.refl _) rfl
  apply Steps.one (MP.eq _) 5 rfl
  · intro o ho FA x hO hD K hK
    obtain rfl := Option.some.inj ho.symm
    clear ho
    have e3 := hO 3 (by kernel_rfl)
    simp only [eval_tmp, List.getElem?_toArray, List.getElem?_cons_succ, List.getElem?_cons_zero, Option.getD_some] at e3
    have ev3 := Lib.hid ((eval_tmp FA 3).trans e3)
    clear hO hD
    refine wanted_if rfl ?_
    refine wp_ldA 28 (.tmp 3) rfl (f.c) ev3.out (hf.later (below_plus _ _ _)) (whole_ _) v1 v2 (szFw f) ?_
    exact hK.out _ _ (Ex.refl _) rfl
  apply Steps.one (MP.eq _) 6 rfl
  · intro o ho FA x hO hD K hK
    obtain rfl := Option.some.inj ho.symm
    clear ho
    have ev10 : FA.eval (.tmp 10) = _ := hD 3 10 (by kernel_rfl)
    have e10 := (eval_tmp FA 10).symm.trans ev10
    replace ev10 := Lib.hid ev10
    have ev11 : FA.eval (.tmp 11) = _ := hD 4 11 (by kernel_rfl)
    have e11 := (eval_tmp FA 11).symm.trans ev11
    replace ev11 := Lib.hid ev11
    clear hO hD
    refine wanted_if rfl ?_
    refine wp_look (.tmp 10) (.tmp 11) rfl ev10.out f ev11.out (hmp.later (below_plus _ _ _)) hat ?_
    exact hK.out _ _ (Ex.refl _) rfl
  apply Steps.one (MP.eq _) 7 rfl
  · intro o ho FA x hO hD K hK
    obtain rfl := Option.some.inj ho.symm
    clear ho
    have ev12 : FA.eval (.tmp 12) = _ := hD 5 12 (by kernel_rfl)
    have e12 := (eval_tmp FA 12).symm.trans ev12
    replace ev12 := Lib.hid ev12
    clear hO hD
    go_simp
    exact hK.out _ _ (Ex.refl _) rfl
  refine Steps.fin_ (fun vs x hp => ?_)
  have p0 : vs 0 = _ := hp 0 (by omega)
  have p1 : vs 1 = _ := hp 1 (by omega)
  have p2 : vs 2 = _ := hp 2 (by omega)
  have p3 : vs 3 = _ := hp 3 (by omega)
  have p4 : vs 4 = _ := hp 4 (by omega)
  have p5 : vs 5 = _ := hp 5 (by omega)
  have p6 : vs 6 = _ := hp 6 (by omega)
  clear hp
  simp only [List.take_succ_cons, List.take_zero, List.drop_succ_cons, List.drop_zero, putAll, Nat.zero_add, Nat.reduceAdd, Act.put, List.setIfInBounds_toArray, List.set_cons_zero, List.set_cons_succ, p0, p1, p2, p3, p4, p5, p6]
  clear p0 p1 p2 p3 p4 p5 p6
  clear vs
  go_wp2
  go_ret
  exact RetV.is_ (by simp) (belowP be _ _)
theorem Co.mid {w : World} {cb m : Nat} {most : Int} {l : List En} (h : Co w cb m most l) {x : En} {p s : List En} (e : l = p ++ x :: s) : ∃ L i, Mp w m L ∧ findL x.f L 0 = some (i, pp (some x.b)) ∧ atL x.f L = .pointer (some ⟨x.b, 0, none⟩) ∧ (L.eraseIdx i).Perm ((p ++ s).map enP) ∧ L.Perm (l.map enP) := by
  obtain ⟨L, h1, h2⟩ := h.mp
  subst e
  obtain ⟨i, h3, h4⟩ := find_hit h2 h.nf
  exact ⟨L, i, h1, h3, by unfold atL; rw [h3]; rfl, h4, h2⟩
theorem find_is (w : World) (cb m : Nat) (most : Int) (p s : List En) (x : En) (h : Co w cb m most (p ++ x :: s)) : Calls Try.prog 71 #[.pointer (some ⟨cb, 0, none⟩), .agg x.f.c.toArray] w (RetV w (.pointer (some ⟨x.b, 0, none⟩))) := by
  obtain ⟨L, i, h1, h2, h3, h4, h5⟩ := h.mid rfl
  exact find_at w cb m most _ x.f _ L h.li h1 h3
theorem find_no (w : World) (cb m : Nat) (most : Int) (l : List En) (f : Fw) (h : Co w cb m most l) (hn : ∀ x ∈ l, x.f ≠ f) : Calls Try.prog 71 #[.pointer (some ⟨cb, 0, none⟩), .agg f.c.toArray] w (RetV w (.pointer none)) := by
  obtain ⟨L, h1, h2⟩ := h.mp
  exact find_at w cb m most _ f _ L h.li h1 (by unfold atL; rw [find_miss h2 hn])
set_option maxHeartbeats 4000000 in
set_option maxRecDepth 100000 in
theorem find_nil (w : World) (f : Fw) : Calls Try.prog 71 #[.pointer none, .agg f.c.toArray] w (RetV w (.pointer none)) := by
  obtain ⟨dv1, v1, v2⟩ := rowFw
  have hf : Bk (w.alloc (.cells (f.c).toArray 28)) w.heap.size 28 (f.c) := Bk.new w 28 (f.c).toArray
  have be : Below w.heap.size w (w.alloc (.cells (f.c).toArray 28)) := Below.allocS (Below.refl _ _) _
  have zV : w.heap.size + 1 ≤ (w.alloc (.cells (f.c).toArray 28)).heap.size := by simp
  go_enter Try.func71, Try.ntmps71
  go_upto_region 1 with (fail)
  generalize w.alloc (.cells (f.c).toArray 28) = V at *
  go_wp2
  go_ret
  exact RetV.is_ rfl be
set_option maxHeartbeats 4000000 in
set_option maxRecDepth 100000 in
theorem len_nil (w : World) : Calls Try.prog 20 #[.pointer none] w (RetV w (.int .i64 0)) := by
  go_enter Try.func20, Try.ntmps20
  go_wp2
  go_ret
  exact RetV.is_ rfl (Below.refl _ _)
set_option maxHeartbeats 4000000 in
set_option maxRecDepth 100000 in
theorem len_any (w : World) (cb m : Nat) (most : Int) (l : List En) (h : Co w cb m most l) : Calls Try.prog 20 #[.pointer (some ⟨cb, 0, none⟩)] w (RetV w (.int .i64 (l.length : Int))) := by
  obtain ⟨L, h1, h2⟩ := h.mp
  have hl : L.length = l.length := by rw [h2.length_eq, List.length_map]
  have c1 : w.cell? ⟨cb, 1, none⟩ = some (.map (some m)) := h.li.blk.cell 1
  go_enter Try.func20, Try.ntmps20
  go_wp2_with (refine at_op (.call { callee := Callee.builtin Builtin.len, args := #[.tmp 8], argTypes := #[49] }) rfl ?_; refine wpList_lenM rfl (.tmp 8) rfl (m := m) rfl h1 ?_; rw [hl])
  go_ret
  exact RetV.is_ rfl (Below.refl _ _)
set_option maxHeartbeats 4000000 in
set_option maxRecDepth 100000 in
theorem has_at (w : World) (a v : Value) (r : Bool) (f : Fw) (hc : ∀ V, Below w.heap.size w V → Calls Try.prog 71 #[a, .agg f.c.toArray] V (RetV V v)) (hv : (v = .pointer none ∧ r = false) ∨ ((∃ b, v = .pointer (some ⟨b, 0, none⟩)) ∧ r = true)) :
    Calls Try.prog 21 #[a, .agg f.c.toArray] w (RetV w (.bool r)) := by
  have HC := Lib.hid hc
  clear hc
  obtain ⟨dv1, v1, v2⟩ := rowFw
  have hf : Bk (w.alloc (.cells (f.c).toArray 28)) w.heap.size 28 (f.c) := Bk.new w 28 (f.c).toArray
  have be : Below w.heap.size w (w.alloc (.cells (f.c).toArray 28)) := Below.allocS (Below.refl _ _) _
  have zV : w.heap.size + 1 ≤ (w.alloc (.cells (f.c).toArray 28)).heap.size := by simp
  go_enter Try.func21, Try.ntmps21
  go_upto_region 1 with (fail)
  generalize w.alloc (.cells (f.c).toArray 28) = V at *
  rcases hv with ⟨rfl, rfl⟩ | ⟨⟨b, rfl⟩, rfl⟩
  · go_wp2_with (first
      | (refine at_op (.load 28 (.tmp 3)) rfl ?_; refine wpList_ldA (t := 28) 28 (.tmp 3) rfl rfl (f.c) rfl (hf) (whole_ _) v1 v2 (szFw f) ?_)
      | (go_at_call 71; refine (HC.out _ be).mono ?_; rintro e w1 ⟨bs1, d1, rfl, rfl⟩))
    go_ret
    exact RetV.is_ rfl (belowP be _ _)
  · go_wp2_with (first
      | (refine at_op (.load 28 (.tmp 3)) rfl ?_; refine wpList_ldA (t := 28) 28 (.tmp 3) rfl rfl (f.c) rfl (hf) (whole_ _) v1 v2 (szFw f) ?_)
      | (go_at_call 71; refine (HC.out _ be).mono ?_; rintro e w1 ⟨bs1, d1, rfl, rfl⟩))
    go_ret
    exact RetV.is_ rfl (belowP be _ _)
theorem has_is (w : World) (cb m : Nat) (most : Int) (p s : List En) (x : En) (h : Co w cb m most (p ++ x :: s)) : Calls Try.prog 21 #[.pointer (some ⟨cb, 0, none⟩), .agg x.f.c.toArray] w (RetV w (.bool true)) :=
  has_at w _ _ true x.f (fun V hV => find_is V cb m most p s x (h.later hV)) (.inr ⟨⟨_, rfl⟩, rfl⟩)
theorem has_no (w : World) (cb m : Nat) (most : Int) (l : List En) (f : Fw) (h : Co w cb m most l) (hn : ∀ x ∈ l, x.f ≠ f) : Calls Try.prog 21 #[.pointer (some ⟨cb, 0, none⟩), .agg f.c.toArray] w (RetV w (.bool false)) :=
  has_at w _ _ false f (fun V hV => find_no V cb m most l f (h.later hV) hn) (.inl ⟨rfl, rfl⟩)
theorem has_nil (w : World) (f : Fw) : Calls Try.prog 21 #[.pointer none, .agg f.c.toArray] w (RetV w (.bool false)) :=
  has_at w _ _ false f (fun V hV => find_nil V f) (.inl ⟨rfl, rfl⟩)
theorem Li.mem {w : World} {cb m : Nat} {most : Int} {p s : List En} {x : En} (h : Li w cb m most (p ++ x :: s)) : x.b ≠ cb ∧ ∀ y ∈ p ++ s, y.b ≠ x.b := by
  have hM := h.mid
  refine ⟨hM.cx.symm, fun y hy => ?_⟩
  rcases List.mem_append.1 hy with h1 | h1
  · exact (hM.cp y h1).2
  · exact (hM.cs y h1).2
theorem Li.lastB {w : World} {cb m : Nat} {most : Int} {l : List En} {x : En} (h : Li w cb m most (l ++ [x])) : Bk w x.b 168 (enC x.f x.wd (lsB none l) none) := ((Seg.app w none l [x] none).1 h.seg).2.1
theorem Li.lt {w : World} {cb m : Nat} {most : Int} {l : List En} (h : Li w cb m most l) : ∀ b, Dl cb l b → b < w.heap.size := by
  rintro b (rfl | ⟨x, hx, rfl⟩)
  · exact h.blk.lt
  · exact Seg.lt l _ h.seg x hx
theorem Li.chg {D : Nat → Prop} {w w' : World} {cb m : Nat} {most : Int} {l : List En} (h : Li w cb m most l) (hc : Chg D w w') (hd : ∀ b, Dl cb l b → ¬ D b) : Li w' cb m most l :=
  ⟨h.blk.chg hc (hd cb (.inl rfl)), Seg.keep l _ h.seg fun x hx => hc.block _ (Seg.lt l _ h.seg x hx) (hd _ (.inr ⟨x, hx, rfl⟩)), h.nd⟩
/-- behind unlink and link: the entry stands last -/
theorem Co.turned {w w' : World} {cb m : Nat} {most : Int} {p s : List En} {x x' : En} (h : Co w cb m most (p ++ x :: s)) (hx : x'.f = x.f ∧ x'.b = x.b) (hc : Chg (Dl cb (p ++ x :: s)) w w') (hl : Li w' cb m most (p ++ s ++ [x'])) : Co w' cb m most (p ++ s ++ [x']) := by
  obtain ⟨L, h1, h2⟩ := h.mp
  have hm : ¬ Dl cb (p ++ x :: s) m := by
    rintro (e | ⟨y, hy, e⟩)
    · exact h.nm.1 e
    · exact h.nm.2 y hy e
  have hp : (p ++ x :: s).Perm (p ++ s ++ [x]) := by
    refine List.perm_middle.trans ?_
    have := List.perm_append_comm (l₁ := [x]) (l₂ := p ++ s)
    simpa using this
  have e1 : enP x' = enP x := by simp only [enP, hx.1, hx.2]
  refine ⟨hl, ⟨L, h1.chg hc hm, ?_⟩, ?_, ⟨h.nm.1, fun y hy => ?_⟩⟩
  · have := h2.trans (hp.map enP)
    simpa [e1] using this
  · have := (hp.map (·.f)).nodup_iff.1 h.nf
    simpa [hx.1] using this
  · rcases List.mem_append.1 hy with h3 | h3
    · exact h.nm.2 y (by rcases List.mem_append.1 h3 with h4 | h4 <;> simp [h4])
    · simp only [List.mem_cons, List.not_mem_nil, or_false] at h3
      subst h3
      rw [hx.2]
      exact h.nm.2 x (by simp)
set_option maxHeartbeats 4000000 in
set_option maxRecDepth 100000 in
theorem get_no (w : World) (a : Value) (f : Fw) (hc : ∀ V, Below w.heap.size w V → Calls Try.prog 71 #[a, .agg f.c.toArray] V (RetV V (.pointer none))) : Calls Try.prog 14 #[a, .agg f.c.toArray] w (RetV w (.tuple #[.int .u16 0, .bool false])) := by
  have HC := Lib.hid hc
  clear hc
  obtain ⟨dv1, v1, v2⟩ := rowFw
  have hf : Bk (w.alloc (.cells (f.c).toArray 28)) w.heap.size 28 (f.c) := Bk.new w 28 (f.c).toArray
  have be : Below w.heap.size w (w.alloc (.cells (f.c).toArray 28)) := Below.allocS (Below.refl _ _) _
  have zV : w.heap.size + 1 ≤ (w.alloc (.cells (f.c).toArray 28)).heap.size := by simp
  go_enter Try.func14, Try.ntmps14
  go_upto_region 1 with (fail)
  generalize w.alloc (.cells (f.c).toArray 28) = V at *
  go_wp2_with (first
    | (refine at_op (.load 28 (.tmp 3)) rfl ?_; refine wpList_ldA (t := 28) 28 (.tmp 3) rfl rfl (f.c) rfl (hf) (whole_ _) v1 v2 (szFw f) ?_)
    | (go_at_call 71; refine (HC.out _ be).mono ?_; rintro e w1 ⟨bs1, d1, rfl, rfl⟩))
  go_ret2
  exact RetV.is_ rfl (belowP be _ _)
set_option maxHeartbeats 4000000 in
set_option maxRecDepth 100000 in
theorem get_is (w : World) (cb m : Nat) (most : Int) (p s : List En) (x : En) (h : Co w cb m most (p ++ x :: s)) :
    Calls Try.prog 14 #[.pointer (some ⟨cb, 0, none⟩), .agg x.f.c.toArray] w fun e w' => e = .returned (.tuple #[.int .u16 (x.wd : Int), .bool true]) ∧ Chg (Dm cb m (p ++ x :: s)) w w' ∧ Co w' cb m most (p ++ s ++ [x]) := by
  have HC := Lib.hid (fun V hV => find_is V cb m most p s x (h.later hV))
  obtain ⟨dv1, v1, v2⟩ := rowFw
  have hf : Bk (w.alloc (.cells (x.f.c).toArray 28)) w.heap.size 28 (x.f.c) := Bk.new w 28 (x.f.c).toArray
  have be : Below w.heap.size w (w.alloc (.cells (x.f.c).toArray 28)) := Below.allocS (Below.refl _ _) _
  have zV : w.heap.size + 1 ≤ (w.alloc (.cells (x.f.c).toArray 28)).heap.size := by simp
  go_enter Try.func14, Try.ntmps14
  go_upto_region 1 with (fail)
  generalize w.alloc (.cells (x.f.c).toArray 28) = V at *
  go_upto_region 4 with (first
    | (refine at_op (.load 28 (.tmp 3)) rfl ?_; refine wpList_ldA (t := 28) 28 (.tmp 3) rfl rfl (x.f.c) rfl (hf) (whole_ _) v1 v2 (szFw x.f) ?_)
    | (go_at_call 71; refine (HC.out _ be).mono ?_; rintro e w1 ⟨bs1, d1, rfl, rfl⟩))
  replace be := belowP be bs1 d1
  generalize plus V bs1 d1 = W at *
  have hco := h.later be
  have hmem := hco.li.mem
  go_upto_region 5 with (go_at_call 72; refine (unlink_any _ cb m most p s x hco.li).mono ?_; rintro e w1 ⟨rfl, hc1, hli1, hx1⟩)
  go_upto_region 6 with (go_at_call 73; refine (link_any _ cb m most (p ++ s) x none none hli1 hx1 hmem).mono ?_; rintro e w1 ⟨rfl, hc2, hli2⟩)
  have c9 : w1.cell? ⟨x.b, 9, none⟩ = some (.int .u16 (x.wd : Int)) := hli2.lastB.cell 9
  have hC : Chg (Dm cb m (p ++ x :: s)) w w1 := ((Chg.of_below be).trans (hc1.wider (Dl.dm fun _ h => h))).trans (hc2.wider (Dl.dm fun y hy => by simp only [List.mem_append, List.mem_cons, List.not_mem_nil, or_false] at hy ⊢; rcases hy with (h1 | h1) | h1 <;> simp [h1]))
  have hCo : Co w1 cb m most (p ++ s ++ [x]) := hco.turned ⟨rfl, rfl⟩ (hc1.trans (hc2.wider fun b hb => hb.elim .inl fun ⟨y, hy, e⟩ => .inr ⟨y, by simp only [List.mem_append, List.mem_cons, List.not_mem_nil, or_false] at hy ⊢; rcases hy with (h1 | h1) | h1 <;> simp [h1], e⟩)) hli2
  go_wp2
  go_ret2
  exact ⟨rfl, hC, hCo⟩
set_option maxHeartbeats 4000000 in
set_option maxRecDepth 100000 in
theorem drop_no (w : World) (a : Value) (f : Fw) (hc : ∀ V, Below w.heap.size w V → Calls Try.prog 71 #[a, .agg f.c.toArray] V (RetV V (.pointer none))) : Calls Try.prog 16 #[a, .agg f.c.toArray] w (RetV w (.bool false)) := by
  have HC := Lib.hid hc
  clear hc
  obtain ⟨dv1, v1, v2⟩ := rowFw
  have hf : Bk (w.alloc (.cells (f.c).toArray 28)) w.heap.size 28 (f.c) := Bk.new w 28 (f.c).toArray
  have be : Below w.heap.size w (w.alloc (.cells (f.c).toArray 28)) := Below.allocS (Below.refl _ _) _
  have zV : w.heap.size + 1 ≤ (w.alloc (.cells (f.c).toArray 28)).heap.size := by simp
  go_enter Try.func16, Try.ntmps16
  go_upto_region 1 with (fail)
  generalize w.alloc (.cells (f.c).toArray 28) = V at *
  go_wp2_with (first
    | (refine at_op (.load 28 (.tmp 3)) rfl ?_; refine wpList_ldA (t := 28) 28 (.tmp 3) rfl rfl (f.c) rfl (hf) (whole_ _) v1 v2 (szFw f) ?_)
    | (go_at_call 71; refine (HC.out _ be).mono ?_; rintro e w1 ⟨bs1, d1, rfl, rfl⟩))
  go_ret
  exact RetV.is_ rfl (belowP be _ _)
set_option maxHeartbeats 4000000 in
set_option maxRecDepth 100000 in
theorem drop_is (w : World) (cb m : Nat) (most : Int) (p s : List En) (en : En) (h : Co w cb m most (p ++ en :: s)) :
    Calls Try.prog 16 #[.pointer (some ⟨cb, 0, none⟩), .agg en.f.c.toArray] w fun e w' => e = .returned (.bool true) ∧ Chg (Dm cb m (p ++ en :: s)) w w' ∧ Co w' cb m most (p ++ s) ∧ Bk w' en.b 168 (enC en.f en.wd none none) := by
  have HC := Lib.hid (fun V hV => find_is V cb m most p s en (h.later hV))
  have hlt : ∀ b, Dl cb (p ++ en :: s) b → b < w.heap.size := h.li.lt
  have hmlt : m < w.heap.size := by obtain ⟨L, h1, _⟩ := h.mp; exact h1.lt
  have hmD : ¬ Dl cb (p ++ en :: s) m := by
    rintro (e | ⟨y, hy, e⟩)
    · exact h.nm.1 e
    · exact h.nm.2 y hy e
  obtain ⟨dv1, v1, v2⟩ := rowFw
  have hf : Bk (w.alloc (.cells (en.f.c).toArray 28)) w.heap.size 28 (en.f.c) := Bk.new w 28 (en.f.c).toArray
  have be : Below w.heap.size w (w.alloc (.cells (en.f.c).toArray 28)) := Below.allocS (Below.refl _ _) _
  have zV : w.heap.size + 1 ≤ (w.alloc (.cells (en.f.c).toArray 28)).heap.size := by simp
  go_enter Try.func16, Try.ntmps16
  go_upto_region 1 with (fail)
  generalize w.alloc (.cells (en.f.c).toArray 28) = V at *
  go_upto_region 4 with (first
    | (refine at_op (.load 28 (.tmp 3)) rfl ?_; refine wpList_ldA (t := 28) 28 (.tmp 3) rfl rfl (en.f.c) rfl (hf) (whole_ _) v1 v2 (szFw en.f) ?_)
    | (go_at_call 71; refine (HC.out _ be).mono ?_; rintro e w1 ⟨bs1, d1, rfl, rfl⟩))
  replace be := belowP be bs1 d1
  replace hf := hf.later (below_plus _ bs1 d1)
  generalize plus V bs1 d1 = W at *
  have hco := h.later be
  go_upto_region 5 with (go_at_call 72; refine (unlink_any _ cb m most p s en hco.li).mono ?_; rintro e w1 ⟨rfl, hc1, hli1, hx1⟩)
  obtain ⟨L, i, hmp, hfi, -, her, -⟩ := hco.mid rfl
  replace hmp := hmp.chg hc1 hmD
  replace hf := hf.chg hc1 (fun hd => absurd (hlt _ hd) (Nat.lt_irrefl _))
  have hcb1 := hli1.blk
  have hC : Chg (Dm cb m (p ++ en :: s)) w w1 := (Chg.of_below be).trans (hc1.wider (Dl.dm fun _ h => h))
  have HN := Lib.hid hco
  clear hco hc1
  go_wp2
  refine wp_relS 5 19 rfl (by kernel_rfl) (by kernel_rfl) ?_
  apply Steps.one (MP.eq _) 1 rfl
  · intro o ho FA x hO hD K hK
    obtain rfl := Option.some.inj ho.symm
    clear ho
    have e0 := hO 0 (by kernel_rfl)
    simp only [eval_tmp, List.getElem?_toArray, List.getElem?_cons_succ, List.getElem?_cons_zero, Option.getD_some] at e0
    have ev0 := Lib.hid ((eval_tmp FA 0).trans e0)
    clear hO hD
    go_simp
    exact hK.out _ _ (Ex.refl _) rfl
  apply Steps.one (MP.eq _) 2 rfl
  · intro o ho FA x hO hD K hK
    obtain rfl := Option.some.inj ho.symm
    clear ho
    have ev14 : FA.eval (.tmp 14) = _ := hD 0 14 (by kernel_rfl)
    have e14 := (eval_tmp FA 14).symm.trans ev14
    replace ev14 := Lib.hid ev14
    clear hO hD
    go_simp
    exact hK.out _ _ (Ex.refl _) rfl
  apply Steps.one (MP.eq _) 3 rfl
  · intro o ho FA x hO hD K hK
    obtain rfl := Option.some.inj ho.symm
    clear ho
    have ev15 : FA.eval (.tmp 15) = _ := hD 1 15 (by kernel_rfl)
    have e15 := (eval_tmp FA 15).symm.trans ev15
    replace ev15 := Lib.hid ev15
    clear hO hD
    go_simp
    exact hK.out _ _ (Ex.refl _) rfl
  apply Steps.one (MP.eq _) 4 rfl
  · intro o ho FA x hO hD K hK
    obtain rfl := Option.some.inj ho.symm
    clear ho
    have ev16 : FA.eval (.tmp 16) = _ := hD 2 16 (by kernel_rfl)
    have e16 := (eval_tmp FA 16).symm.trans ev16
    replace ev16 := Lib.hid ev16
    clear hO hD
    refine wanted_if rfl ?_
    refine wp_ld1 49 (.tmp 16) rfl ev16.out (hcb1.later (below_plus _ _ _)) rfl Try.underlying49 rfl ?_
    exact hK.out _ _ (Ex.refl _) rfl
  apply Steps.one (MP.eq _) 5 rfl
  · intro o ho FA x hO hD K hK
    obtain rfl := Option.some.inj ho.symm
    clear ho
    have e3 := hO 3 (by kernel_rfl)
    simp only [eval_tmp, List.getElem?_toArray, List.getElem?_cons_succ, List.getElem?_cons_zero, Option.getD_some] at e3
    have ev3 := Lib.hid ((eval_tmp FA 3).trans e3)
    clear hO hD
    refine wanted_if rfl ?_
    refine wp_ldA 28 (.tmp 3) rfl (en.f.c) ev3.out (hf.later (below_plus _ _ _)) (whole_ _) v1 v2 (szFw en.f) ?_
    exact hK.out _ _ (Ex.refl _) rfl
  refine Steps.fin_ (fun vs x hp => ?_)
  have p0 : vs 0 = _ := hp 0 (by omega)
  have p1 : vs 1 = _ := hp 1 (by omega)
  have p2 : vs 2 = _ := hp 2 (by omega)
  have p3 : vs 3 = _ := hp 3 (by omega)
  have p4 : vs 4 = _ := hp 4 (by omega)
  clear hp
  simp only [List.take_succ_cons, List.take_zero, List.drop_succ_cons, List.drop_zero, putAll, Nat.zero_add, Nat.reduceAdd, Act.put, List.setIfInBounds_toArray, List.set_cons_zero, List.set_cons_succ, p0, p1, p2, p3, p4]
  clear p0 p1 p2 p3 p4
  clear vs
  go_upto_region 6 with (refine at_op (.call { callee := Callee.builtin Builtin.delete, args := #[.tmp 17, .tmp 18], argTypes := #[49, 28] }) rfl ?_; refine wpList_drop rfl (.tmp 17) (.tmp 18) rfl (m := m) rfl en.f rfl (hmp.later (below_plus _ _ _)) hfi ?_; intro w3 hmp3 hg3)
  have hC3 : Chg (Dm cb m (p ++ en :: s)) w w3 := (hC.trans (Chg.of_below (below_plus _ _ _))).trans (Chg.grown hg3 (fun k hk => by injection hk with hk; subst hk; exact .inr (.inl rfl)))
  have hli3 : Li w3 cb m most (p ++ s) := (hli1.later (below_plus _ _ _)).chg (D := fun b => b = m) (Chg.grown hg3 (fun k hk => by injection hk with hk; exact hk.symm)) (fun b hb e => hmD (by subst e; exact hb.elim .inl fun ⟨y, hy, e⟩ => .inr ⟨y, by rcases List.mem_append.1 hy with h1 | h1 <;> simp [h1], e⟩))
  have hx3 := (hx1.later (below_plus w1 x.bs x.d)).chg (D := fun b => b = m) (Chg.grown hg3 (fun k hk => by injection hk with hk; exact hk.symm)) (fun e => hmD (.inr ⟨en, by simp, e⟩))
  go_wp2
  go_ret
  refine ⟨rfl, hC3, ⟨hli3, ⟨_, hmp3, her⟩, ?_, ⟨h.nm.1, fun y hy => h.nm.2 y (by rcases List.mem_append.1 hy with h1 | h1 <;> simp [h1])⟩⟩, hx3⟩
  have := h.nf
  simp only [List.map_append, List.map_cons, List.nodup_append, List.nodup_cons, List.mem_map, List.mem_cons] at this ⊢
  exact ⟨this.1, this.2.1.2, fun a ha b hb => this.2.2 a ha b (.inr hb)⟩
end Go.Proofs.Ytenaiojddohbkaa

