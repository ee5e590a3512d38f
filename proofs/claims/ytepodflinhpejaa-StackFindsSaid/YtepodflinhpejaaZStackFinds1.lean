/- Texts of the law StackFinds, part 1. -/
import Derived.ProofKit
import Derived.OpenShut
import Derived.Below
import Derived.WalkKit
import Derived.WalkSpells
import Derived.Laws.OwnMore
import Derived.Deep.Draws
import Derived.Laws.Rows
import Derived.Lib.Hide
import Derived.Maps.AppendAt
import Derived.Deep.AppendLies
import Derived.Deep.QuietTactic
import Derived.BigQuiet
import Derived.ChangeSlices
import Derived.Deep.Fields
import Derived.Laws.CopyOwn
import Derived.StillTailTactics
import Derived.Deep.MidRow
import Derived.WalkLawsBesides
import Derived.Outline
import Derived.Deep.RegionHeld3
import Derived.Deep.RegionLaw
import Derived.Deep.Upon
import Derived.Deep.AppendSrc
import Derived.Deep.CutBlock
import Derived.Laws.BitsAllLaws
import Derived.Deep.Slices
import Derived.Test.YtepodflinhpejaaRows
/- From a walk to the row of a law: whatever the arguments, the call returns true and changes nothing that was there. -/
namespace Go.Proofs.Ytepodflinhpejaa
open Go.ChangeShapes Go.WideShapes Go.ChangeAt Go.RowKit

/-- All arguments read behind the call as they did before it. -/
theorem trodAll_below {H : Type} {enc : TypeId × Value → H} {P : Program} (hl : laidOutB P = true) {W W' : World} (hb : Below W.heap.size W W') :
    ∀ {ts : List TypeId} {vs : List Value} {ds : List (DataW H)} {ps : List MemPlace}, (ts.all fun t => P.readableRec t && decide (t < P.types.size)) = true →
      DataW.TrodAll enc P W 0 (fun _ => true) true ts vs ds ps → DataW.TrodAll enc P W' 0 (fun b => decide (b < W.heap.size)) true ts vs ds ps
  | [], vs, ds, ps, _, h => by
    obtain ⟨rfl, rfl, rfl⟩ := trodAll_nil h
    exact trodAll_mk0
  | t :: ts, vs, ds, ps, hr, h => by
    obtain ⟨v, vs', d, ds', p, q, rfl, rfl, rfl, h0, hs⟩ := trodAll_cons h
    simp only [List.all_cons, Bool.and_eq_true, decide_eq_true_eq] at hr
    have lt0 : ∀ x ∈ p, x.block < W.heap.size := by
      obtain ⟨m, hm⟩ := h0
      exact DataW.trod_lt m _ _ _ hm
    exact trodAll_cons_mk (Below.trod hl hr.1.1 hr.1.2 h0 hb lt0) (trodAll_below hl hb (by simpa using hr.2) hs)

/-- The lift: the law's walk, for every world and all arguments that can be read, gives what the row asks. -/
theorem lift {C : Checked} {os : Os} {f : FuncId} {fn : Func} {s : ChangeSpec} {H : Type} {enc : TypeId × Value → H} {tb : TypeId} (n : Nat)
    (own : ownKnob C.prog.godebug = none) (started : os.Started) (noInit : C.prog.inits.idxOf? f = none) (hfn : C.prog.funcs[f]? = some fn)
    (witness : ∃ (w : World) (tape : Tape) (i : Input), w.os = os ∧ (w.forCall tape i).Shaped C.prog ∧ i.vars = [] ∧ Input.okWide C.prog (w.forCall tape i) .any w.heap.size f i ∧
      s.pre6 enc C.prog fn [] false (w.forCall tape i).memory i.args ∧ ({} : Assume).holds C.prog (lone (Frame.enter C.prog f i.args .normal) [] (w.forCall tape i)))
    (hl : laidOutB C.prog = true) (hrd : (fn.params.toList.all fun t => C.prog.readableRec t && decide (t < C.prog.types.size)) = true)
    (htb : C.prog.underlying tb = some .bool) (hres : fn.resultTypes = #[tb]) (hn : fn.params.toList.length = n) (hvars : s.vars = [])
    (hspec : ∀ ds : List (DataW H), ds.length = n → (s.fn H ds).results = [.lit (.bool true)] ∧ (s.fn H ds).args = ds ∧ (s.fn H ds).vars = [])
    (walk : ∀ (W : World) (base : Nat) (args : Array Value) (ds : List (DataW H)) (ps : List MemPlace),
      (∀ (j : Nat) t v, fn.params[j]? = some t → args[j]? = some v → Value.okWide C.prog W .any base t v) →
      DataW.TrodAll enc C.prog W 0 (fun _ => true) true fn.params.toList args.toList ds ps →
      Calls C.prog f args W fun e W' => e = .returned (.bool true) ∧ Below W.heap.size W W') :
    ReturnsInHanded {} C os f .any (s.pre6 enc C.prog fn [] false) (s.post enc C.prog fn false true false false) := by
  refine returnsInHanded_of_change (C := C) own started noInit hfn witness ?_
  intro W base args ds gs before hval hW _ _
  have hW' := hW
  obtain ⟨p, q, hA, hV, rfl, _, _⟩ := hW
  rw [hvars] at hV
  obtain ⟨rfl, rfl⟩ := trodVars_none hV
  have hlen : ds.length = n := by
    have aux : ∀ {ts : List TypeId} {vs : List Value} {ds : List (DataW H)} {ps : List MemPlace}, DataW.TrodAll enc C.prog W 0 (fun _ => true) true ts vs ds ps → ds.length = ts.length := by
      intro ts
      induction ts with
      | nil => intro vs ds ps h; obtain ⟨_, rfl, _⟩ := trodAll_nil h; rfl
      | cons t ts ih =>
        intro vs ds ps h
        obtain ⟨v, vs', d, ds', p, q, rfl, rfl, rfl, _, hs⟩ := trodAll_cons h
        simp [ih hs]
    rw [aux hA, hn]
  obtain ⟨r1, r2, r3⟩ := hspec ds hlen
  refine (walk W base args ds p hval hA).mono fun e W' ⟨he, bel⟩ => ?_
  subst he
  refine ⟨_, rfl, ds, [], p ++ [], [], p, [], hW', ?_, ?_, ?_, bel.frame _, fun h => by cases h⟩
  · simp only [List.append_nil, r1, hres]
    exact trodAll_mk1 (shut_bool htb _)
  · simp only [List.append_nil, r2]
    exact trodAll_below hl bel hrd hA
  · simp only [List.append_nil, r3, hvars]
    rfl
end Go.Proofs.Ytepodflinhpejaa

/- Words for memory: a slice that reads as a list of cells; a block that is known whole; bytes. No program in sight. -/
namespace Go.Proofs.Ytepodflinhpejaa
open Go.RowKit Go.ChangeShapes Go.WideShapes
set_option linter.unusedVariables false
set_option linter.unusedSimpArgs false

/-- the cells of bytes -/
def bcs (l : List UInt8) : List Value := l.map fun b => .int .u8 (b.toNat : Int)
theorem bcs_length (l : List UInt8) : (bcs l).length = l.length := by simp [bcs]
theorem bcs_take (l : List UInt8) (n : Nat) : (bcs l).take n = bcs (l.take n) := by simp [bcs, List.map_take]
theorem bcs_drop (l : List UInt8) (n : Nat) : (bcs l).drop n = bcs (l.drop n) := by simp [bcs, List.map_drop]
/-- A slice whose array lies at A reads as the cells cs; its block is below B. -/
def Rd (w : World) (B : Nat) (A : Option Addr) (cs : List Value) : Prop :=
  cs = [] ∨ ∃ b off, A = some ⟨b, off, none⟩ ∧ b < B ∧ ∀ i u, cs[i]? = some u → w.cell? ⟨b, off + i, none⟩ = some u

/-- where a cut lies -/
def cutA (A : Option Addr) (c k s : Nat) : Option Addr := if c = k then A else A.map (·.add (k * s))
theorem sliced_cut (a : Option Addr) (l h m s : Nat) : sliced a l h m s = .slice (cutA a m l s) (h - l) (m - l) := rfl
section
variable {w w' : World} {B B' : Nat} {A : Option Addr} {cs : List Value}
theorem Rd.none_ : Rd w B A [] := .inl rfl
theorem Rd.keep (h : Rd w B A cs) (hk : ∀ p : Addr, p.block < B → w'.cell? p = w.cell? p) : Rd w' B A cs := by
  rcases h with h | ⟨b, off, hA, hb, hc⟩
  · exact .inl h
  · exact .inr ⟨b, off, hA, hb, fun i u hu => (hk _ hb).trans (hc i u hu)⟩
theorem Rd.more (h : Rd w B A cs) (hB : B ≤ B') : Rd w B' A cs := by
  rcases h with h | ⟨b, off, hA, hb, hc⟩
  · exact .inl h
  · exact .inr ⟨b, off, hA, by omega, hc⟩
theorem Rd.below (h : Rd w B A cs) (hb : Below B w w') : Rd w' B A cs := h.keep fun _ hp => hb.cell hp
theorem Rd.drew (h : Rd w B A cs) : Rd w.drew B A cs := h
theorem Rd.drewN (h : Rd w B A cs) (k : Nat) : Rd (w.drewN k) B A cs := h
theorem Rd.alloc (h : Rd w B A cs) (hB : B ≤ w.heap.size) (o : Obj) : Rd (w.alloc o) B A cs := h.keep fun p hp => World.cell?_alloc_lt w o p (by omega)
theorem Rd.setCell (h : Rd w B A cs) {p : Addr} (hB : B ≤ p.block) (u : Value) : Rd (w.setCell p u) B A cs :=
  h.keep fun q hq => World.cell?_setCell_other w p q u (fun e => by subst e; omega)
theorem Rd.grown (h : Rd w B A cs) {row : Option Nat} (hg : w.grownBy w' row) (hB : B ≤ w.heap.size) (hr : ∀ g, row = some g → B ≤ g) : Rd w' B A cs :=
  h.keep fun p hp => World.cell?_of_block (hg.block p.block (by omega) (fun e => by have := hr _ e.symm; omega))
theorem Rd.take (h : Rd w B A cs) (n : Nat) : Rd w B A (cs.take n) := by
  rcases h with h | ⟨b, off, hA, hb, hc⟩
  · exact .inl (by simp [h])
  · refine .inr ⟨b, off, hA, hb, fun i u hu => hc i u ?_⟩
    rw [List.getElem?_take] at hu
    split at hu
    · exact hu
    · cases hu
theorem Rd.cut (h : Rd w B A cs) {c k : Nat} (hc : cs.length ≤ c) : Rd w B (cutA A c k 1) (cs.drop k) := by
  by_cases hk : cs.length ≤ k
  · exact .inl (List.drop_eq_nil_of_le hk)
  rcases h with h | ⟨b, off, hA, hb, hcell⟩
  · exact .inl (by simp [h])
  · refine .inr ⟨b, off + k, ?_, hb, fun i u hu => ?_⟩
    · subst hA
      simp only [cutA, if_neg (show ¬ c = k by omega), Option.map_some, Addr.add, Nat.mul_one]
      split
      · simp_all
      · rfl
    · rw [Nat.add_assoc]
      rw [List.getElem?_drop] at hu
      exact hcell _ _ hu
/-- Where there is an element the address is known. -/
theorem Rd.at_ (h : Rd w B A cs) (hn : 0 < cs.length) : ∃ b off, A = some ⟨b, off, none⟩ ∧ b < B ∧ ∀ i u, cs[i]? = some u → w.cell? ⟨b, off + i, none⟩ = some u := by
  rcases h with h | h
  · subst h; simp at hn
  · exact h
end

theorem add_plain (b off i : Nat) : (⟨b, off, none⟩ : Addr).add i = ⟨b, off + i, none⟩ := by unfold Addr.add; split <;> simp_all
theorem lt_of_cell {w : World} {a : Addr} {v : Value} (h : w.cell? a = some v) : a.block < w.heap.size := by
  rcases Nat.lt_or_ge a.block w.heap.size with h' | h'
  · exact h'
  · simp [World.cell?, Array.getElem?_eq_none h'] at h

/-- The types of bytes: a slice type and its element type. -/
structure BT (P : Program) (ts te : TypeId) : Prop where
  sl : P.underlying ts = some (.slice te)
  el : P.underlying te = some (.int .u8)
  info : (P.info? te).map (fun i => (i.zero, i.size, i.bytes)) = some (some (.int .u8 0), 1, 1)

/-- A slice of bytes reads as l. -/
def Rb (w : World) (A : Option Addr) (n c : Nat) (l : List UInt8) : Prop := l.length = n ∧ n ≤ c ∧ Rd w w.heap.size A (bcs l)
/-- A slice of bytes of the call's own (its block from base on) reads as l. -/
def Ob (w : World) (base : Nat) (A : Option Addr) (n c : Nat) (l : List UInt8) : Prop := l.length = n ∧ w.ownsRow base 5 1 (.slice A n c) n (bcs l)

section
variable {w w' : World} {base : Nat} {A : Option Addr} {n c : Nat} {l : List UInt8}
theorem Rb.len (h : Rb w A n c l) : l.length = n := h.1
theorem Rb.cap (h : Rb w A n c l) : n ≤ c := h.2.1
theorem Rb.nil_ : Rb w none 0 0 [] := ⟨rfl, Nat.le_refl _, .inl rfl⟩
theorem Rb.later (h : Rb w A n c l) (hb : Below w.heap.size w w') : Rb w' A n c l := ⟨h.1, h.2.1, (h.2.2.below hb).more hb.size⟩
theorem Rb.drew (h : Rb w A n c l) : Rb w.drew A n c l := h
theorem Rb.drewN (h : Rb w A n c l) (k : Nat) : Rb (w.drewN k) A n c l := h
theorem Rb.alloc (h : Rb w A n c l) (o : Obj) : Rb (w.alloc o) A n c l := ⟨h.1, h.2.1, (h.2.2.alloc (Nat.le_refl _) o).more (by simp)⟩
theorem Rb.take (h : Rb w A n c l) {k : Nat} (hk : k ≤ n) : Rb w A k c (l.take k) := ⟨by rw [List.length_take, h.1]; omega, Nat.le_trans hk h.2.1, by rw [← bcs_take]; exact h.2.2.take k⟩
theorem Rb.cut (h : Rb w A n c l) {k : Nat} (hk : k ≤ n) : Rb w (cutA A c k 1) (n - k) (c - k) (l.drop k) :=
  ⟨by rw [List.length_drop, h.1], by have := h.2.1; omega, by rw [← bcs_drop]; exact h.2.2.cut (by rw [bcs_length, h.1]; exact h.2.1)⟩
theorem Ob.len (h : Ob w base A n c l) : l.length = n := h.1
theorem Ob.nil_ : Ob w base none 0 0 [] := ⟨rfl, World.ownsRow_nil w base _ 1⟩
theorem Ob.blk (h : Ob w base A n c l) : ∀ k, (Value.slice A n c).ownBlock = some k → base ≤ k ∧ k < w.heap.size := h.2.lt
theorem Ob.grown {row : Option Nat} (h : Ob w base A n c l) (hg : w.grownBy w' row) (hne : ∀ k, (Value.slice A n c).ownBlock = some k → row ≠ some k) : Ob w' base A n c l := by
  refine ⟨h.1, h.2.kept hg ?_⟩
  cases hk : (Value.slice A n c).ownBlock with
  | none => exact .inl rfl
  | some k => exact .inr (fun e => hne k hk e.symm)
theorem grownBy_of_below (h : Below w.heap.size w w') : w.grownBy w' none := ⟨h.os, h.tape, h.output, h.size, fun i hi _ => h.block i hi⟩
theorem Ob.later (h : Ob w base A n c l) (hb : Below w.heap.size w w') : Ob w' base A n c l := h.grown (grownBy_of_below hb) (fun _ _ => by simp)
theorem Ob.mono {base' : Nat} (h : Ob w base A n c l) (hb : base' ≤ base) : Ob w base' A n c l := by
  refine ⟨h.1, h.2.1, ?_⟩
  rcases h.2.2 with h2 | ⟨g, cap, cur, hv, hg, hr⟩
  · exact .inl h2
  · exact .inr ⟨g, cap, cur, hv, by omega, hr⟩
end

/-- new bytes, written out -/
theorem Ob.lit (w : World) {base : Nat} (hb : base ≤ w.heap.size) (cs : Array Value) (l : List UInt8) (n : Nat) (hn : l.length = n) (hm : n ≤ maxLen) (h : cs.toList = bcs l) : Ob (w.alloc (.cells cs 5)) base (some ⟨w.heap.size, 0, none⟩) n n l := by
  have hs : cs.size = n := by rw [← Array.length_toList, h, bcs_length, hn]
  refine ⟨hn, by rw [bcs_length, hn]; omega, .inr ⟨w.heap.size, n, cs, rfl, hb, heap_alloc_new w _, Nat.le_refl _, hm, by omega, ?_⟩⟩
  rw [h, List.take_of_length_le (by rw [bcs_length]; omega)]

theorem below_of_grown {w w' : World} {base : Nat} {row : Option Nat} (hg : w.grownBy w' row) (hb : base ≤ w.heap.size) (hr : ∀ k, row = some k → base ≤ k) : Below base w w' :=
  ⟨hg.os, hg.tape, hg.output, hg.size, fun i hi => hg.block i (by omega) (fun e => by have := hr _ e.symm; omega)⟩

/-- Block g is the cells cs of element type t, none frozen. -/
def Bk (w : World) (g : Nat) (t : TypeId) (cs : List Value) : Prop := w.heap[g]? = some (.cells cs.toArray t (0, 0))
section
variable {w w' : World} {g : Nat} {t : TypeId} {cs : List Value}
theorem Bk.lt (h : Bk w g t cs) : g < w.heap.size := by
  rcases Nat.lt_or_ge g w.heap.size with hlt | hge
  · exact hlt
  · unfold Bk at h; rw [Array.getElem?_eq_none hge] at h; cases h
theorem Bk.cell (h : Bk w g t cs) (i : Nat) : w.cell? ⟨g, i, none⟩ = cs[i]? := by
  unfold Bk at h
  simp [World.cell?, h]
theorem Bk.frozen (h : Bk w g t cs) (i : Nat) : w.frozen? ⟨g, i, none⟩ = false := by
  unfold Bk at h
  simp [World.frozen?, h]
theorem Bk.new (w : World) (t : TypeId) (cs : Array Value) : Bk (w.alloc (.cells cs t)) w.heap.size t cs.toList := heap_alloc_new w _
theorem Bk.alloc (h : Bk w g t cs) (o : Obj) : Bk (w.alloc o) g t cs := (Below.heap_alloc w o g h.lt).trans h
theorem Bk.set_ (h : Bk w g t cs) (i : Nat) (u : Value) : Bk (w.setCell ⟨g, i, none⟩ u) g t (cs.set i u) := by
  unfold Bk at h ⊢
  simp [World.setCell, Array.getElem?_modify, h]
theorem Bk.below {B : Nat} (h : Bk w g t cs) (hb : Below B w w') (hg : g < B) : Bk w' g t cs := (hb.block g hg).trans h
theorem Bk.later (h : Bk w g t cs) (hb : Below w.heap.size w w') : Bk w' g t cs := h.below hb h.lt
theorem Bk.grown {row : Option Nat} (h : Bk w g t cs) (hb : w.grownBy w' row) (hg : row ≠ some g) : Bk w' g t cs := (hb.block g h.lt (fun e => hg e.symm)).trans h
end
theorem grownBy_setCell (w : World) (g i : Nat) (u : Value) : w.grownBy (w.setCell ⟨g, i, none⟩ u) (some g) :=
  ⟨rfl, rfl, rfl, by simp [World.setCell], fun k _ hne => Below.heap_setCell w _ u k (fun e => hne (by rw [e]))⟩
theorem over_nil (cs : List Value) (off : Nat) : splice cs off [] = cs := by simp [splice]
theorem Ob.of_bk {w : World} {g base n : Nat} {l : List UInt8} (h : Bk w g 5 (bcs l)) (hb : base ≤ g) (hn : l.length = n) (hm : n ≤ maxLen) : Ob w base (some ⟨g, 0, none⟩) n n l :=
  ⟨hn, by rw [bcs_length, hn]; omega, .inr ⟨g, n, _, rfl, hb, h, Nat.le_refl _, hm, by simp [bcs_length, hn], by rw [List.take_of_length_le (by simp [bcs_length, hn])]⟩⟩

theorem cutA_zero (A : Option Addr) (c s : Nat) : cutA A c 0 s = A := by
  unfold cutA
  split
  · rfl
  · cases A <;> simp [Addr.add]

theorem Rb.setCell {w : World} {A : Option Addr} {n c : Nat} {l : List UInt8} (h : Rb w A n c l) {p : Addr} (hp : ∀ a, A = some a → a.block ≠ p.block) (u : Value) : Rb (w.setCell p u) A n c l := by
  refine ⟨h.1, h.2.1, ?_⟩
  rcases h.2.2 with h' | ⟨b, off, hA, hb, hc⟩
  · exact .inl h'
  · refine .inr ⟨b, off, hA, by simpa [World.setCell] using hb, fun i u' hu => ?_⟩
    rw [World.cell?_setCell_other w p ⟨b, off + i, none⟩ u (fun e => hp _ hA (by rw [e]))]
    exact hc i u' hu

theorem Ob.setCell {w : World} {base : Nat} {A : Option Addr} {n c : Nat} {l : List UInt8} (h : Ob w base A n c l) {p : Addr} (hp : p.block < base) (u : Value) : Ob (w.setCell p u) base A n c l :=
  ⟨h.1, ownsRow_setCell_below h.2 hp u⟩

/-! ### A world with more blocks behind it: what a callee leaves -/
/-- w with the blocks bs behind its own, and d answers drawn -/
def plus (w : World) (bs : List Obj) (d : Nat) : World := { w with heap := w.heap ++ bs.toArray, drawn := d }
section
variable {w W : World} {bs : List Obj} {d : Nat}
@[go_sem] theorem size_plus (w : World) (bs : List Obj) (d : Nat) : (plus w bs d).heap.size = w.heap.size + bs.length := by simp [plus]
theorem block_plus {n : Nat} (h : n < w.heap.size) : (plus w bs d).heap[n]? = w.heap[n]? := by
  simp [plus, Array.getElem?_append, h]
@[go_sem] theorem cell_plus (w : World) (bs : List Obj) (d : Nat) (n i : Nat) (hn : n < w.heap.size) : (plus w bs d).cell? ⟨n, i, none⟩ = w.cell? ⟨n, i, none⟩ := World.cell?_of_block (block_plus hn)
@[go_sem] theorem frozen_plus (w : World) (bs : List Obj) (d : Nat) (n i : Nat) (hn : n < w.heap.size) : (plus w bs d).frozen? ⟨n, i, none⟩ = w.frozen? ⟨n, i, none⟩ := World.frozen?_of_block (block_plus hn)
@[go_sem] theorem setCell_plus (w : World) (bs : List Obj) (d : Nat) (n i : Nat) (v : Value) (hn : n < w.heap.size) : (plus w bs d).setCell ⟨n, i, none⟩ v = plus (w.setCell ⟨n, i, none⟩ v) bs d := by
  simp only [plus, World.setCell, World.mk.injEq, and_true]
  apply Array.ext
  · simp
  · intro j h1 h2
    simp only [Array.getElem_append, Array.getElem_modify, Array.size_modify] at *
    by_cases hj : j < w.heap.size
    · simp [hj]
    · simp [hj]
      intro e
      omega
@[go_sem] theorem lt_more {n m k : Nat} (h : n < m) : (n < m + k) = True := eq_true (by omega)
@[go_sem] theorem lt_more2 {n m k0 k1 : Nat} (h : n < m) : (n < m + k0 + k1) = True := eq_true (by omega)
@[go_sem] theorem lt_more3 {n m k0 k1 k2 : Nat} (h : n < m) : (n < m + k0 + k1 + k2) = True := eq_true (by omega)
@[go_sem] theorem lt_more4 {n m k0 k1 k2 k3 : Nat} (h : n < m) : (n < m + k0 + k1 + k2 + k3) = True := eq_true (by omega)
@[go_sem] theorem lt_more5 {n m k0 k1 k2 k3 k4 : Nat} (h : n < m) : (n < m + k0 + k1 + k2 + k3 + k4) = True := eq_true (by omega)
@[go_sem] theorem lt_more6 {n m k0 k1 k2 k3 k4 k5 : Nat} (h : n < m) : (n < m + k0 + k1 + k2 + k3 + k4 + k5) = True := eq_true (by omega)
@[go_sem] theorem lt_more7 {n m k0 k1 k2 k3 k4 k5 k6 : Nat} (h : n < m) : (n < m + k0 + k1 + k2 + k3 + k4 + k5 + k6) = True := eq_true (by omega)
@[go_sem] theorem lt_more8 {n m k0 k1 k2 k3 k4 k5 k6 k7 : Nat} (h : n < m) : (n < m + k0 + k1 + k2 + k3 + k4 + k5 + k6 + k7) = True := eq_true (by omega)
@[go_sem] theorem lt_more9 {n m k0 k1 k2 k3 k4 k5 k6 k7 k8 : Nat} (h : n < m) : (n < m + k0 + k1 + k2 + k3 + k4 + k5 + k6 + k7 + k8) = True := eq_true (by omega)
@[go_sem] theorem lt_more10 {n m k0 k1 k2 k3 k4 k5 k6 k7 k8 k9 : Nat} (h : n < m) : (n < m + k0 + k1 + k2 + k3 + k4 + k5 + k6 + k7 + k8 + k9) = True := eq_true (by omega)
@[go_sem] theorem plus_drew (w : World) (bs : List Obj) (d : Nat) : plus w.drew bs d = plus w bs d := rfl
@[go_sem] theorem plus_drewN (w : World) (bs : List Obj) (d n : Nat) : plus (w.drewN n) bs d = plus w bs d := rfl
@[go_sem] theorem drew_plus (w : World) (bs : List Obj) (d : Nat) : (plus w bs d).drew = plus w bs (d + 1) := rfl
@[go_sem] theorem drewN_plus (w : World) (bs : List Obj) (d n : Nat) : (plus w bs d).drewN n = plus w bs (d + n) := rfl
theorem plus_of (h : Below W.heap.size W w) : ∃ bs d, w = plus W bs d := by
  refine ⟨(w.heap.toList.drop W.heap.size), w.drawn, ?_⟩
  have hh : w.heap = W.heap ++ (w.heap.toList.drop W.heap.size).toArray := by
    apply Array.ext_getElem?
    intro j
    rw [Array.getElem?_append]
    split
    · rename_i hj
      exact h.block j hj
    · rename_i hj
      simp only [List.getElem?_toArray, List.getElem?_drop]
      rw [show W.heap.size + (j - W.heap.size) = j from by omega]
      simp
  have h1 := h.os
  have h2 := h.tape
  have h3 := h.output
  cases w
  simp only [plus] at *
  subst h1 h2 h3
  rw [← hh]
theorem below_plus (w : World) (bs : List Obj) (d : Nat) : Below w.heap.size w (plus w bs d) := ⟨rfl, rfl, rfl, by simp [plus], fun _ hk => block_plus hk⟩
theorem toPlus {B : Nat} {a : World} (h : Below B a w) (hB : B ≤ w.heap.size) (bs : List Obj) (d : Nat) : Below B a (plus w bs d) := h.trans ((below_plus w bs d).mono hB)
theorem Rb.plus_ {A : Option Addr} {n c : Nat} {l : List UInt8} (h : Rb w A n c l) (bs : List Obj) (d : Nat) : Rb (plus w bs d) A n c l := h.later (below_plus w bs d)
theorem Ob.plus_ {base : Nat} {A : Option Addr} {n c : Nat} {l : List UInt8} (h : Ob w base A n c l) (bs : List Obj) (d : Nat) : Ob (plus w bs d) base A n c l := h.later (below_plus w bs d)
theorem Ob.alloc {base : Nat} {A : Option Addr} {n c : Nat} {l : List UInt8} (h : Ob w base A n c l) (o : Obj) : Ob (w.alloc o) base A n c l := ⟨h.1, h.2.alloc o⟩
end

/-- The call returns new bytes l, and changes nothing that was there. -/
def RetB (w : World) (l : List UInt8) (e : Ending) (w' : World) : Prop := ∃ A n c bs d, e = .returned (.slice A n c) ∧ w' = plus w bs d ∧ Ob (plus w bs d) w.heap.size A n c l
theorem RetB.mk {w w' : World} {l : List UInt8} {A : Option Addr} {n c : Nat} (ho : Ob w' w.heap.size A n c l) (hb : Below w.heap.size w w') : RetB w l (.returned (.slice A n c)) w' := by
  obtain ⟨bs, d, rfl⟩ := plus_of hb
  exact ⟨A, n, c, bs, d, rfl, rfl, ho⟩
theorem grown_plus {W w' : World} {bs : List Obj} {d r : Nat} (h : (plus W bs d).grownBy w' (some r)) (hr : W.heap.size ≤ r) : ∃ bs' d', w' = plus W bs' d' := by
  refine plus_of ?_
  have h2 : Below W.heap.size (plus W bs d) w' := below_of_grown h (by simp [size_plus]) (fun k hk => by injection hk with hk; omega)
  exact (below_plus W bs d).trans h2
theorem Ob.drew {w : World} {base : Nat} {A : Option Addr} {n c : Nat} {l : List UInt8} (h : Ob w base A n c l) : Ob w.drew base A n c l := h
theorem Bk.drew {w : World} {g : Nat} {t : TypeId} {cs : List Value} (h : Bk w g t cs) : Bk w.drew g t cs := h
/-- The call returns v, and changes nothing that was there. -/
def RetV (w : World) (v : Value) (e : Ending) (w' : World) : Prop := ∃ bs d, e = .returned v ∧ w' = plus w bs d
theorem RetV.mk {w w' : World} {v : Value} (hb : Below w.heap.size w w') : RetV w v (.returned v) w' := by
  obtain ⟨bs, d, rfl⟩ := plus_of hb
  exact ⟨bs, d, rfl, rfl⟩
theorem belowP {a w : World} (h : Below a.heap.size a w) (bs : List Obj) (d : Nat) : Below a.heap.size a (plus w bs d) := toPlus h h.size bs d
/-! ### A region that draws its order, whose operations read what was there and whose calls make memory and hand back plain values -/
theorem plus_plus (w : World) (bs bs' : List Obj) (d d' : Nat) : plus (plus w bs d) bs' d' = plus w (bs ++ bs') d' := by simp [plus, Array.append_assoc]
/-- more blocks, and a count of draws -/
structure Ext where
  bs : List Obj
  d : Nat
instance : Inhabited Ext := ⟨⟨[], 0⟩⟩
end Go.Proofs.Ytepodflinhpejaa

/- Plain: tables and stacks of versions (chapters 14, 15). No program in sight. -/
namespace Go.Proofs.Ytepodflinhpejaa
set_option linter.unusedVariables false
set_option linter.unusedSimpArgs false

abbrev Tab := List (Nat × Bool)
def sgT (s : Nat × Bool) : Int := if s.2 then -(s.1 : Int) else (s.1 : Int)
def refT (t : Tab) : List Int := t.map sgT
structure TabOk (t : Tab) : Prop where
  nd : (t.map (·.1)).Nodup
  rg : ∀ s ∈ t, 1 ≤ s.1 ∧ s.1 ≤ 64
theorem nodup_le : ∀ (k : Nat) (l : List Nat), l.Nodup → (∀ x ∈ l, x < k) → l.length ≤ k
  | 0, l, _, h => by
    cases l with
    | nil => simp
    | cons a t => have := h a (by simp); omega
  | k + 1, l, hn, h => by
    by_cases hk : k ∈ l
    · have h1 := nodup_le k (l.erase k) (hn.erase k) (fun x hx => by
        have := (hn.mem_erase_iff).1 hx
        have := h x this.2
        omega)
      have := List.length_erase_of_mem hk
      omega
    · have := nodup_le k l hn (fun x hx => by
        have := h x hx
        have : x ≠ k := fun e => hk (e ▸ hx)
        omega)
      omega
theorem TabOk.len {t : Tab} (h : TabOk t) : t.length ≤ 64 := by
  have h1 := nodup_le 64 ((t.map (·.1)).map (· - 1)) (by
    rw [List.nodup_iff_pairwise_ne, List.pairwise_map]
    refine List.Pairwise.imp_of_mem ?_ h.nd
    intro a b ha hb hab
    obtain ⟨s, hs, rfl⟩ := List.mem_map.1 ha
    obtain ⟨u, hu, rfl⟩ := List.mem_map.1 hb
    have := h.rg s hs
    have := h.rg u hu
    omega) (fun x hx => by
    obtain ⟨y, hy, rfl⟩ := List.mem_map.1 hx
    obtain ⟨s, hs, rfl⟩ := List.mem_map.1 hy
    have := h.rg s hs
    omega)
  simpa using h1
/-- a number of which no slot is: there is room -/
theorem TabOk.room {t : Tab} (h : TabOk t) {n : Nat} (h1 : 1 ≤ n) (h64 : n ≤ 64) (hn : n ∉ t.map (·.1)) : t.length < 64 := by
  have h2 : TabOk ((n, false) :: t) := ⟨by simp only [List.map_cons, List.nodup_cons]; exact ⟨hn, h.nd⟩, fun s hs => by
    rcases List.mem_cons.1 hs with rfl | hs
    · exact ⟨h1, h64⟩
    · exact h.rg s hs⟩
  have := h2.len
  simp at this
  omega
/-- where a number stands: the first slot, or the length -/
def idxT (t : Tab) (n : Int) : Nat := t.findIdx (fun s => (s.1 : Int) == n)
def next1 (t : Tab) (n : Int) : Tab :=
  if 1 ≤ n ∧ n ≤ 64 then (if idxT t n < t.length then t.set (idxT t n) (n.toNat, false) else t ++ [(n.toNat, false)]) else t
def awayT (t : Tab) : Tab := t.map fun s => (s.1, true)
def tNext (t : Tab) (l : List Int) : Tab := l.foldl next1 (awayT t)
theorem tNext_snoc (t : Tab) (l : List Int) (n : Int) : tNext t (l ++ [n]) = next1 (tNext t l) n := by simp [tNext]
/-- the reference's members -/
def mem1 (out : List Int) (n : Int) : List Int := if 0 < n ∧ n < 65 ∧ n ∉ out then out ++ [n] else out
def memR (l : List Int) : List Int := l.foldl mem1 []
theorem memR_snoc (l : List Int) (n : Int) : memR (l ++ [n]) = mem1 (memR l) n := by simp [memR]
/-- the closed form -/
def clT (t : Tab) (all : List Int) : Tab := (t.map fun s => (s.1, !decide ((s.1 : Int) ∈ all))) ++ (all.filter fun x => decide (x.toNat ∉ t.map (·.1))).map fun x => (x.toNat, false)
theorem idxT_lt {t : Tab} {n : Nat} : idxT t n < t.length ↔ n ∈ t.map (·.1) := by
  unfold idxT
  rw [List.findIdx_lt_length]
  constructor
  · rintro ⟨s, hs, h⟩
    have : s.1 = n := by simpa [Int.ofNat_inj] using h
    exact List.mem_map.2 ⟨s, hs, this⟩
  · intro h
    obtain ⟨s, hs, h⟩ := List.mem_map.1 h
    exact ⟨s, hs, by simp [h]⟩
theorem memR_rg (l : List Int) : ∀ x ∈ memR l, 0 < x ∧ x < 65 := by
  suffices ∀ out, (∀ x ∈ out, 0 < x ∧ x < 65) → ∀ x ∈ l.foldl mem1 out, 0 < x ∧ x < 65 from this [] (by simp)
  induction l with
  | nil => intro out h; exact h
  | cons a t ih =>
    intro out h
    refine ih _ ?_
    intro x hx
    unfold mem1 at hx
    split at hx
    · rename_i hc
      rcases List.mem_append.1 hx with hx | hx
      · exact h x hx
      · simp at hx; subst hx; exact ⟨hc.1, hc.2.1⟩
    · exact h x hx
theorem owners_cl (t : Tab) (all : List Int) : (clT t all).map (·.1) = t.map (·.1) ++ (all.filter fun x => decide (x.toNat ∉ t.map (·.1))).map Int.toNat := by
  simp [clT, List.map_append, Function.comp_def]
theorem mem_owners_cl (t : Tab) (all : List Int) (h : ∀ x ∈ all, 0 < x ∧ x < 65) (n : Nat) : n ∈ (clT t all).map (·.1) ↔ n ∈ t.map (·.1) ∨ (n : Int) ∈ all := by
  rw [owners_cl, List.mem_append]
  constructor
  · rintro (h1 | h1)
    · exact .inl h1
    · obtain ⟨x, hx, rfl⟩ := List.mem_map.1 h1
      have hx := (List.mem_filter.1 hx).1
      have := h x hx
      exact .inr (by rwa [Int.toNat_of_nonneg (by omega)])
  · rintro (h1 | h1)
    · exact .inl h1
    · by_cases hn : n ∈ t.map (·.1)
      · exact .inl hn
      · exact .inr (List.mem_map.2 ⟨(n : Int), List.mem_filter.2 ⟨h1, by simpa using hn⟩, rfl⟩)
theorem clT_ok {t : Tab} (ht : TabOk t) {all : List Int} (h : ∀ x ∈ all, 0 < x ∧ x < 65) (hn : all.Nodup) : TabOk (clT t all) := by
  constructor
  · rw [owners_cl, List.nodup_append]
    refine ⟨ht.nd, ?_, ?_⟩
    · rw [List.nodup_iff_pairwise_ne, List.pairwise_map]
      refine List.Pairwise.imp_of_mem ?_ (hn.filter _)
      intro a b ha hb hab
      have h1 := h a (List.mem_filter.1 ha).1
      have h2 := h b (List.mem_filter.1 hb).1
      omega
    · intro a ha b hb e
      subst e
      obtain ⟨x, hx, rfl⟩ := List.mem_map.1 hb
      have := (List.mem_filter.1 hx).2
      simp only [decide_eq_true_eq] at this
      exact this ha
  · intro s hs
    have h1 : s.1 ∈ (clT t all).map (·.1) := List.mem_map.2 ⟨s, hs, rfl⟩
    rcases (mem_owners_cl t all h s.1).1 h1 with h2 | h2
    · obtain ⟨u, hu, he⟩ := List.mem_map.1 h2
      have := ht.rg u hu
      omega
    · have := h _ h2
      omega
theorem memR_nodup (l : List Int) : (memR l).Nodup := by
  suffices ∀ out : List Int, out.Nodup → (l.foldl mem1 out).Nodup from this [] (by simp)
  induction l with
  | nil => intro out h; exact h
  | cons a t ih =>
    intro out h
    refine ih _ ?_
    unfold mem1
    split
    · rename_i hc
      rw [List.nodup_append]
      refine ⟨h, by simp, ?_⟩
      intro x hx b hb e
      simp at hb
      subst hb e
      exact hc.2.2 hx
    · exact h
/-- an owner's slot, by its place -/
theorem idx_at {t : Tab} {n : Nat} (h : idxT t n < t.length) : t[idxT t n].1 = n := by
  have := List.findIdx_getElem (p := fun s : Nat × Bool => ((s.1 : Int) == (n : Int))) (xs := t) (w := h)
  have h2 : ((t[idxT t n].1 : Int) == (n : Int)) = true := this
  simpa [Int.ofNat_inj] using h2
theorem tNext_cl (t : Tab) (ht : TabOk t) (l : List Int) : tNext t l = clT t (memR l) := by
  suffices ∀ k, k ≤ l.length → tNext t (l.take k) = clT t (memR (l.take k)) by simpa using this l.length (Nat.le_refl _)
  intro k
  induction k with
  | zero => intro _; simp [tNext, memR, clT, awayT]
  | succ k ih =>
    intro hk
    have e : l.take (k + 1) = l.take k ++ [l[k]] := by rw [List.take_succ_eq_append_getElem (by omega)]
    rw [e, tNext_snoc, memR_snoc, ih (by omega)]
    have hrg := memR_rg (l.take k)
    have hnd := memR_nodup (l.take k)
    generalize memR (l.take k) = all at *
    generalize l[k] = n
    have hok := clT_ok ht hrg hnd
    unfold next1
    by_cases h1 : 1 ≤ n ∧ n ≤ 64
    · obtain ⟨m, rfl⟩ : ∃ m : Nat, n = m := ⟨n.toNat, by omega⟩
      rw [if_pos h1]
      by_cases hin : (m : Int) ∈ all
      · have hm1 : mem1 all (m : Int) = all := by unfold mem1; exact if_neg (fun h => h.2.2 hin)
        rw [hm1]
        have hlt : idxT (clT t all) m < (clT t all).length := idxT_lt.2 ((mem_owners_cl t all hrg m).2 (.inr hin))
        rw [if_pos hlt]
        have hat := idx_at hlt
        generalize idxT (clT t all) m = i at *
        apply List.ext_getElem
        · simp
        · intro j h2 h3
          rw [List.getElem_set]
          split
          · rename_i hij
            subst hij
            refine Prod.ext ?_ ?_
            · simp [hat]
            · show false = _
              by_cases hi : i < t.length
              · simp only [clT] at hat ⊢
                rw [List.getElem_append_left (by simpa using hi)] at hat ⊢
                simp at hat
                simp [hat, hin]
              · simp only [clT]
                rw [List.getElem_append_right (by simpa using hi)]
                simp
          · rfl
      · have hm1 : mem1 all (m : Int) = all ++ [(m : Int)] := by unfold mem1; exact if_pos ⟨by omega, by omega, hin⟩
        rw [hm1]
        by_cases hmt : m ∈ t.map (·.1)
        · have hlt : idxT (clT t all) m < (clT t all).length := idxT_lt.2 ((mem_owners_cl t all hrg m).2 (.inl hmt))
          rw [if_pos hlt]
          have hat := idx_at hlt
          have hi : idxT (clT t all) m < t.length := by
            have h5 : idxT (clT t all) m ≤ idxT (t.map fun s => (s.1, !decide ((s.1 : Int) ∈ all))) m := by
              unfold idxT clT
              rw [List.findIdx_append]
              have : (t.map fun s => (s.1, !decide ((s.1 : Int) ∈ all))).findIdx (fun s => (s.1 : Int) == (m : Int)) < (t.map fun s => (s.1, !decide ((s.1 : Int) ∈ all))).length := by
                have := (idxT_lt (t := t.map fun s => (s.1, !decide ((s.1 : Int) ∈ all))) (n := m)).2 (by simpa using hmt)
                exact this
              rw [if_pos this]
              exact Nat.le_refl _
            have h6 := (idxT_lt (t := t.map fun s => (s.1, !decide ((s.1 : Int) ∈ all))) (n := m)).2 (by simpa using hmt)
            simp only [List.length_map] at h6
            omega
          generalize hgi : idxT (clT t all) m = i at *
          have hti : t[i].1 = m := by
            simp only [clT] at hat
            rw [List.getElem_append_left (by simpa using hi)] at hat
            simpa using hat
          have hf : ((all ++ [(m : Int)]).filter fun x => decide (x.toNat ∉ t.map (·.1))) = all.filter fun x => decide (x.toNat ∉ t.map (·.1)) := by
            rw [List.filter_append]
            have : ([(m : Int)].filter fun x => decide (x.toNat ∉ t.map (·.1))) = [] := by
              simp only [List.filter_cons, Int.toNat_natCast, hmt, not_true_eq_false, decide_false, Bool.false_eq_true, if_false, List.filter_nil]
            rw [this, List.append_nil]
          unfold clT
          rw [hf, List.set_append_left _ _ (by simpa using hi)]
          congr 1
          apply List.ext_getElem
          · simp
          · intro j h2 h3
            rw [List.getElem_set]
            simp only [List.getElem_map]
            have hj : j < t.length := by simpa using h3
            split
            · rename_i hij
              subst hij
              simp [hti]
            · rename_i hij
              have hne : t[j].1 ≠ m := by
                intro e
                have h7 := ht.nd
                have h8 := (List.getElem_inj (i := i) (j := j) (h₀ := by simpa using hi) (h₁ := by simpa using hj) h7).1 (by simp [hti, e])
                exact hij h8
              have hne' : ¬ (t[j].1 : Int) = m := by omega
              simp [List.mem_append, hne']
        · have hlt : ¬ idxT (clT t all) m < (clT t all).length := by
            rw [idxT_lt, mem_owners_cl t all hrg]
            exact fun h => h.elim hmt hin
          rw [if_neg hlt]
          unfold clT
          have hg : ([(m : Int)].filter fun x => decide (x.toNat ∉ t.map (·.1))) = [(m : Int)] := by
            simp only [List.filter_cons, Int.toNat_natCast, hmt, not_false_eq_true, decide_true, if_true, List.filter_nil]
          rw [List.filter_append, hg, List.map_append, List.append_assoc]
          congr 1
          apply List.map_congr_left
          intro s hs
          have hne' : ¬ (s.1 : Int) = m := by
            intro e
            have : s.1 = m := by omega
            exact hmt (List.mem_map.2 ⟨s, hs, this⟩)
          simp [List.mem_append, hne']
    · have hm1 : mem1 all n = all := by unfold mem1; exact if_neg (fun h => h1 ⟨by omega, by omega⟩)
      rw [hm1, if_neg h1]

/-! ### the reference's Next -/
def ab (x : Int) : Int := if x < 0 then 0 - x else x
def ph1 (r : List Int) (all : List Int) : List Int := r.map fun x => if ab x ∈ all then ab x else 0 - ab x
def ph2 (r : List Int) (all : List Int) (i : Nat) : List Int := (all.take i).foldl (fun out x => if x ∈ out then out else out ++ [x]) (ph1 r all)
theorem ph2_succ (r all : List Int) (i : Nat) (h : i < all.length) : ph2 r all (i + 1) = if all[i] ∈ ph2 r all i then ph2 r all i else ph2 r all i ++ [all[i]] := by
  unfold ph2
  rw [List.take_succ_eq_append_getElem h, List.foldl_append]
  rfl
theorem ab_sg {s : Nat × Bool} : ab (sgT s) = (s.1 : Int) := by
  unfold ab sgT
  cases s.2
  · simp only [Bool.false_eq_true, if_false]
    split <;> omega
  · simp only [if_true]
    split <;> omega
theorem ph1_ref (t : Tab) (all : List Int) : ph1 (refT t) all = refT (t.map fun s => (s.1, !decide ((s.1 : Int) ∈ all))) := by
  simp only [ph1, refT, List.map_map]
  apply List.map_congr_left
  intro s _
  simp only [Function.comp, ab_sg]
  by_cases h : (s.1 : Int) ∈ all <;> simp [h, sgT]
theorem ph2_cl (t : Tab) (ht : TabOk t) (all : List Int) (hr : ∀ x ∈ all, 0 < x ∧ x < 65) (hn : all.Nodup) : ∀ i, i ≤ all.length → ph2 (refT t) all i = refT (t.map fun s => (s.1, !decide ((s.1 : Int) ∈ all))) ++ (all.take i).filter fun x => decide (x.toNat ∉ t.map (·.1))
  | 0, _ => by simp [ph2, ph1_ref]
  | i + 1, hi => by
    have ih := ph2_cl t ht all hr hn i (by omega)
    rw [ph2_succ _ _ _ (by omega), ih, List.take_succ_eq_append_getElem (by omega), List.filter_append]
    have hx := hr all[i] (List.getElem_mem _)
    have hxm : all[i] ∈ all := List.getElem_mem _
    have hxi : all[i] ∉ all.take i := by
      intro hm
      obtain ⟨j, hj, he⟩ := List.getElem_of_mem hm
      simp only [List.getElem_take] at he
      have hj' : j < i ∧ j < all.length := by
        have := hj
        simp only [List.length_take] at this
        omega
      have := (List.getElem_inj (i := j) (j := i) (h₀ := by omega) (h₁ := by omega) hn).1 he
      omega
    generalize all[i] = x at *
    obtain ⟨m, rfl⟩ : ∃ m : Nat, x = m := ⟨x.toNat, by omega⟩
    have hf : ∀ p : Int → Bool, [(m : Int)].filter p = if p m then [(m : Int)] else [] := fun p => by simp [List.filter_cons]
    rw [hf]
    by_cases hm : m ∈ t.map (·.1)
    · have h1 : (m : Int) ∈ refT (t.map fun s => (s.1, !decide ((s.1 : Int) ∈ all))) := by
        obtain ⟨s, hs, rfl⟩ := List.mem_map.1 hm
        refine List.mem_map.2 ⟨(s.1, !decide ((s.1 : Int) ∈ all)), List.mem_map.2 ⟨s, hs, rfl⟩, ?_⟩
        simp [sgT, hxm]
      rw [if_pos (List.mem_append_left _ h1)]
      simp only [Int.toNat_natCast, hm, not_true_eq_false, decide_false, Bool.false_eq_true, if_false, List.append_nil]
    · have h1 : ¬ (m : Int) ∈ refT (t.map fun s => (s.1, !decide ((s.1 : Int) ∈ all))) ++ (all.take i).filter fun x => decide (x.toNat ∉ t.map (·.1)) := by
        intro h
        rcases List.mem_append.1 h with h | h
        · obtain ⟨u, hu, he⟩ := List.mem_map.1 h
          obtain ⟨s, hs, rfl⟩ := List.mem_map.1 hu
          have hs1 := ht.rg s hs
          have : s.1 ≠ m := fun e => hm (e ▸ List.mem_map.2 ⟨s, hs, rfl⟩)
          unfold sgT at he
          split at he <;> simp at he <;> omega
        · exact hxi (List.mem_filter.1 h).1
      rw [if_neg h1]
      simp only [Int.toNat_natCast, hm, not_false_eq_true, decide_true, if_true, List.append_assoc]
/-- the two Next agree -/
theorem next_ref (t : Tab) (ht : TabOk t) (l : List Int) : refT (tNext t l) = ph2 (refT t) (memR l) (memR l).length := by
  rw [tNext_cl t ht, ph2_cl t ht _ (memR_rg l) (memR_nodup l) _ (Nat.le_refl _), List.take_length]
  unfold clT
  simp only [refT, List.map_append]
  congr 1
  simp only [List.map_map]
  have : ∀ x ∈ (memR l).filter (fun x => decide (x.toNat ∉ t.map (·.1))), (sgT ∘ fun x : Int => (x.toNat, false)) x = x := by
    intro x hx
    have := memR_rg l x (List.mem_filter.1 hx).1
    simp [sgT]
    omega
  rw [List.map_congr_left this, List.map_id']
theorem tNext_ok (t : Tab) (ht : TabOk t) (l : List Int) : TabOk (tNext t l) := by
  rw [tNext_cl t ht]
  exact clT_ok ht (memR_rg l) (memR_nodup l)
/-! ### stacks -/
structure Stk where
  lv : List (Nat × Tab)
  ev : Nat
  bz : Nat
structure StkOk (S : Stk) : Prop where
  nd : (S.lv.map (·.1)).Nodup
  rg : ∀ e ∈ S.lv, e.1 < 8 ∧ TabOk e.2
  ev : S.ev < 18446744073709551616
  bz : S.bz < 256
  bl : ∀ e ∈ S.lv, S.bz.testBit e.1 = false
theorem StkOk.len {S : Stk} (h : StkOk S) : S.lv.length ≤ 8 := by
  have := nodup_le 8 (S.lv.map (·.1)) h.nd (fun x hx => by
    obtain ⟨e, he, rfl⟩ := List.mem_map.1 hx
    exact (h.rg e he).1)
  simpa using this
def idxS (S : Stk) (v : Int) : Nat := S.lv.findIdx (fun e => (e.1 : Int) == v)
theorem idxS_le (S : Stk) (v : Int) : idxS S v ≤ S.lv.length := List.findIdx_le_length
theorem idxS_lt {S : Stk} {n : Nat} : idxS S n < S.lv.length ↔ n ∈ S.lv.map (·.1) := by
  unfold idxS
  rw [List.findIdx_lt_length]
  constructor
  · rintro ⟨s, hs, h⟩
    have : s.1 = n := by simpa [Int.ofNat_inj] using h
    exact List.mem_map.2 ⟨s, hs, this⟩
  · intro h
    obtain ⟨s, hs, h⟩ := List.mem_map.1 h
    exact ⟨s, hs, by simp [h]⟩
theorem idxS_at {S : Stk} {v : Int} (h : idxS S v < S.lv.length) : (S.lv[idxS S v].1 : Int) = v := by
  have := List.findIdx_getElem (p := fun s : Nat × Tab => ((s.1 : Int) == v)) (xs := S.lv) (w := h)
  have h2 : ((S.lv[idxS S v].1 : Int) == v) = true := this
  simpa using h2
/-- is a version taken? -/
def takenS (S : Stk) (v : Nat) : Bool := S.bz.testBit v || decide (idxS S v < S.lv.length)
/-- the smallest free version; 8: none -/
def freeS (S : Stk) : Nat := (List.range 8).findIdx (fun v => !takenS S v)
theorem freeS_spec (S : Stk) (v : Nat) (hv : v ≤ freeS S) (h8 : v < 8) : takenS S v = true ∧ v < freeS S ∨ takenS S v = false ∧ v = freeS S := by
  unfold freeS at *
  rcases Nat.lt_or_ge v ((List.range 8).findIdx (fun v => !takenS S v)) with h | h
  · have := List.not_of_lt_findIdx h
    simp at this
    exact .inl ⟨this, h⟩
  · have e : v = (List.range 8).findIdx (fun v => !takenS S v) := by omega
    have := List.findIdx_getElem (p := fun v => !takenS S v) (xs := List.range 8) (w := by rw [← e]; simpa using h8)
    simp only [List.getElem_range, ← e] at this
    exact .inr ⟨by simpa using this, e⟩
theorem freeS_le (S : Stk) : freeS S ≤ 8 := by
  have := List.findIdx_le_length (p := fun v => !takenS S v) (xs := List.range 8)
  simpa [freeS] using this
def pushS (S : Stk) (t : Tab) : Stk := if freeS S < 8 then { S with lv := S.lv ++ [(freeS S, t)] } else S
def pushV (S : Stk) : Nat := if freeS S < 8 then freeS S else 0
def pushE (S : Stk) : Nat := if freeS S < 8 then 0 else 23
def retS (S : Stk) (v : Int) : Stk := if idxS S v + 1 < S.lv.length then { S with lv := S.lv.eraseIdx (idxS S v), bz := S.bz ||| 2 ^ v.toNat } else S
def retE (S : Stk) (v : Int) : Nat := if idxS S v + 1 < S.lv.length then 0 else if idxS S v + 1 = S.lv.length then 1 else 24
/-- a member of a set of bits from first on -/
def hasB (x : Nat) (n : Int) (first most : Nat) : Bool := decide ((first : Int) ≤ n) && decide (n < (first : Int) + most) && x.testBit (n - first).toNat
def clrB (x k : Nat) : Nat := x &&& (18446744073709551615 - 2 ^ k)
def rlsS (S : Stk) (v : Int) : Stk := if hasB S.bz v 0 8 then { S with bz := clrB S.bz v.toNat } else S
def rlsE (S : Stk) (v : Int) : Nat := if hasB S.bz v 0 8 then 0 else 6
def numB (n : Int) : Bool := decide (1 ≤ n) && decide (n ≤ 64)
def deadS (S : Stk) (n : Int) : Bool := hasB S.ev n 1 64
def eviS (S : Stk) (n : Int) : Stk := if numB n && !deadS S n then { S with ev := S.ev ||| 2 ^ (n.toNat - 1) } else S
def eviE (S : Stk) (n : Int) : Nat := if numB n then (if deadS S n then 7 else 0) else 1
def admS (S : Stk) (n : Int) : Stk := if deadS S n then { S with ev := clrB S.ev (n.toNat - 1) } else S
def admE (S : Stk) (n : Int) : Nat := if deadS S n then 0 else 6
def atT (t : Tab) (slot : Int) : Nat := if 0 ≤ slot ∧ slot < t.length then (match t[slot.toNat]? with | some (o, false) => o | _ => 0) else 0
def findS (S : Stk) (v slot : Int) : Nat := match S.lv[idxS S v]? with | none => 0 | some e => if atT e.2 slot = 0 then 0 else if deadS S (atT e.2 slot) then 0 else atT e.2 slot
def findE (S : Stk) (v slot : Int) : Nat := match S.lv[idxS S v]? with | none => 24 | some e => if atT e.2 slot = 0 then 25 else if deadS S (atT e.2 slot) then 28 else 0
/-! bits -/
theorem testBit_clr (x k j : Nat) (hx : x < 18446744073709551616) (hk : k < 64) : (clrB x k).testBit j = (x.testBit j && decide (j ≠ k)) := by
  unfold clrB
  rw [Nat.testBit_and]
  by_cases hj : j < 64
  · have e : 18446744073709551615 - 2 ^ k = 2 ^ 64 - (2 ^ k + 1) := by omega
    rw [e, Nat.testBit_two_pow_sub_succ (Nat.pow_lt_pow_right (by decide) hk), Nat.testBit_two_pow]
    by_cases h : k = j
    · subst h; simp
    · have h' : ¬ j = k := fun e => h e.symm
      simp [hj, h, h']
  · have : x.testBit j = false := Nat.testBit_lt_two_pow (Nat.lt_of_lt_of_le hx (by
      have : 2 ^ 64 ≤ 2 ^ j := Nat.pow_le_pow_right (by decide) (by omega)
      omega))
    simp [this]
theorem testBit_or2 (x k j : Nat) : (x ||| 2 ^ k).testBit j = (x.testBit j || decide (j = k)) := by
  rw [Nat.testBit_or, Nat.testBit_two_pow]
  by_cases h : k = j
  · subst h; simp
  · have h' : ¬ j = k := fun e => h e.symm
    simp [h, h']
theorem clr_le (x k : Nat) : clrB x k ≤ x := Nat.and_le_left
theorem or2_lt (x k m : Nat) (hx : x < 2 ^ m) (hk : k < m) : x ||| 2 ^ k < 2 ^ m := Nat.or_lt_two_pow hx (Nat.pow_lt_pow_right (by decide) hk)
/-! each step keeps a stack right -/
theorem StkOk.empty : StkOk ⟨[], 0, 0⟩ := ⟨by simp, by simp, by decide, by decide, by simp⟩
theorem StkOk.push {S : Stk} (h : StkOk S) {t : Tab} (ht : TabOk t) : StkOk (pushS S t) := by
  unfold pushS
  split
  · rename_i hf
    rcases freeS_spec S (freeS S) (Nat.le_refl _) hf with ⟨_, h2⟩ | ⟨h1, _⟩
    · omega
    · unfold takenS at h1
      simp only [Bool.or_eq_false_iff, decide_eq_false_iff_not] at h1
      have hn : freeS S ∉ S.lv.map (·.1) := fun hm => h1.2 (idxS_lt.2 hm)
      refine ⟨?_, ?_, h.ev, h.bz, ?_⟩
      · rw [List.map_append, List.nodup_append]
        refine ⟨h.nd, by simp, ?_⟩
        intro a ha b hb e
        simp at hb
        subst hb e
        exact hn ha
      · intro e he
        rcases List.mem_append.1 he with he | he
        · exact h.rg e he
        · simp at he; subst he; exact ⟨hf, ht⟩
      · intro e he
        rcases List.mem_append.1 he with he | he
        · exact h.bl e he
        · simp at he; subst he; exact h1.1
  · exact h
theorem StkOk.ret {S : Stk} (h : StkOk S) (v : Int) : StkOk (retS S v) := by
  unfold retS
  split
  · rename_i hi
    have hlt : idxS S v < S.lv.length := by omega
    have hat := idxS_at hlt
    have h8 := (h.rg _ (List.getElem_mem hlt)).1
    have hv : v.toNat = (S.lv[idxS S v]).1 := by omega
    have hsub : (S.lv.eraseIdx (idxS S v)).Sublist S.lv := List.eraseIdx_sublist _ _
    refine ⟨?_, fun e he => h.rg e (hsub.subset he), h.ev, ?_, ?_⟩
    · exact (hsub.map (·.1)).nodup h.nd
    · have := or2_lt S.bz v.toNat 8 (by have := h.bz; omega) (by omega)
      simpa using this
    · intro e he
      show (S.bz ||| 2 ^ v.toNat).testBit e.1 = false
      rw [testBit_or2, h.bl e (hsub.subset he), Bool.false_or, decide_eq_false_iff_not]
      intro hev
      -- e.1 = v.toNat, but e is not at idx
      obtain ⟨j, hj, hje⟩ := List.mem_iff_getElem.1 he
      rw [List.getElem_eraseIdx] at hje
      split at hje
      · rename_i hji
        have := (List.getElem_inj (h₀ := by simpa using (show j < S.lv.length by omega)) (h₁ := by simpa using hlt) h.nd (i := j) (j := idxS S v)).1 (by simp [hje, hev, hv])
        omega
      · rename_i hji
        have hl : j + 1 < S.lv.length := by rw [List.length_eraseIdx_of_lt hlt] at hj; omega
        have := (List.getElem_inj (h₀ := by simpa using hl) (h₁ := by simpa using hlt) h.nd (i := j + 1) (j := idxS S v)).1 (by simp [hje, hev, hv])
        omega
  · exact h
theorem hasB_rg {x : Nat} {n : Int} {f m : Nat} (h : hasB x n f m = true) : (f : Int) ≤ n ∧ n < (f : Int) + m ∧ x.testBit (n - f).toNat = true := by
  unfold hasB at h
  simp only [Bool.and_eq_true, decide_eq_true_eq] at h
  exact ⟨h.1.1, h.1.2, h.2⟩
theorem StkOk.rls {S : Stk} (h : StkOk S) (v : Int) : StkOk (rlsS S v) := by
  unfold rlsS
  split
  · rename_i hb
    have hr := hasB_rg hb
    refine ⟨h.nd, h.rg, h.ev, Nat.lt_of_le_of_lt (clr_le _ _) h.bz, fun e he => ?_⟩
    show (clrB S.bz v.toNat).testBit e.1 = false
    rw [testBit_clr _ _ _ (by have := h.bz; omega) (by omega), h.bl e he]
    rfl
  · exact h
theorem StkOk.evi {S : Stk} (h : StkOk S) (n : Int) : StkOk (eviS S n) := by
  unfold eviS
  split
  · rename_i hb
    simp only [numB, Bool.and_eq_true, decide_eq_true_eq] at hb
    refine ⟨h.nd, h.rg, ?_, h.bz, h.bl⟩
    have := or2_lt S.ev (n.toNat - 1) 64 (by have := h.ev; omega) (by omega)
    simpa using this
  · exact h
theorem StkOk.adm {S : Stk} (h : StkOk S) (n : Int) : StkOk (admS S n) := by
  unfold admS
  split
  · exact ⟨h.nd, h.rg, Nat.lt_of_le_of_lt (clr_le _ _) h.ev, h.bz, h.bl⟩
  · exact h
/-! the reference's sets -/
def refEv (S : Stk) : List Bool := (List.range 65).map fun i : Nat => deadS S (i : Int)
def refBz (S : Stk) : List Bool := (List.range 8).map fun v => S.bz.testBit v
theorem deadS_evi {S : Stk} {n : Int} (h : (numB n && !deadS S n) = true) (i : Nat) : deadS (eviS S n) i = (deadS S i || decide ((i : Int) = n)) := by
  have e : (eviS S n).ev = S.ev ||| 2 ^ (n.toNat - 1) := by unfold eviS; rw [if_pos h]
  simp only [numB, Bool.and_eq_true, decide_eq_true_eq] at h
  unfold deadS hasB
  rw [e, testBit_or2]
  by_cases h1 : 1 ≤ i ∧ i < 65
  · have a1 : ((1 : Nat) : Int) ≤ (i : Int) := by omega
    have a2 : (i : Int) < ((1 : Nat) : Int) + (64 : Nat) := by omega
    have a3 : decide (((i : Int) - ((1 : Nat) : Int)).toNat = n.toNat - 1) = decide ((i : Int) = n) := by
      by_cases hh : (i : Int) = n
      · rw [decide_eq_true hh, decide_eq_true (by omega)]
      · rw [decide_eq_false hh, decide_eq_false (by omega)]
    simp only [a1, a2, decide_true, Bool.true_and, a3]
  · have h2 : ¬ (i : Int) = n := by omega
    have h3 : ((decide (((1 : Nat) : Int) ≤ (i : Int)) && decide ((i : Int) < ((1 : Nat) : Int) + (64 : Nat)))) = false := by
      simp only [Bool.and_eq_false_iff, decide_eq_false_iff_not]; omega
    simp only [h3, Bool.false_and, h2, decide_false, Bool.or_false]
theorem deadS_adm {S : Stk} {n : Int} (hx : S.ev < 18446744073709551616) (h : deadS S n = true) (i : Nat) : deadS (admS S n) i = (deadS S i && decide ((i : Int) ≠ n)) := by
  have e : (admS S n).ev = clrB S.ev (n.toNat - 1) := by unfold admS; rw [if_pos h]
  have hr := hasB_rg h
  unfold deadS hasB
  rw [e, testBit_clr _ _ _ hx (by omega)]
  by_cases h1 : 1 ≤ i ∧ i < 65
  · have a1 : ((1 : Nat) : Int) ≤ (i : Int) := by omega
    have a2 : (i : Int) < ((1 : Nat) : Int) + (64 : Nat) := by omega
    have a3 : decide (((i : Int) - ((1 : Nat) : Int)).toNat ≠ n.toNat - 1) = decide ((i : Int) ≠ n) := by
      by_cases hh : (i : Int) = n
      · rw [decide_eq_false (by omega), decide_eq_false (by omega)]
      · rw [decide_eq_true (by omega), decide_eq_true hh]
    simp only [a1, a2, decide_true, Bool.true_and, a3]
  · have h3 : ((decide (((1 : Nat) : Int) ≤ (i : Int)) && decide ((i : Int) < ((1 : Nat) : Int) + (64 : Nat)))) = false := by
      simp only [Bool.and_eq_false_iff, decide_eq_false_iff_not]; omega
    simp only [h3, Bool.false_and]
theorem map_range_set (f g : Nat → Bool) (m n : Nat) (b : Bool) (_hn : n < m) (h1 : ∀ i, i < m → i ≠ n → g i = f i) (h2 : g n = b) : (List.range m).map g = ((List.range m).map f).set n b := by
  apply List.ext_getElem
  · simp
  · intro i h3 h4
    rw [List.getElem_set]
    simp only [List.getElem_map, List.getElem_range]
    have hi : i < m := by simpa using h3
    split
    · rename_i e; subst e; exact h2
    · rename_i e; exact h1 i hi (fun e' => e e'.symm)
theorem refEv_evi {S : Stk} {n : Int} (h : (numB n && !deadS S n) = true) : refEv (eviS S n) = (refEv S).set n.toNat true := by
  have h' := h
  simp only [numB, Bool.and_eq_true, decide_eq_true_eq] at h'
  refine map_range_set _ _ _ _ _ ?_ (fun i hi hne => ?_) ?_
  · omega
  · rw [deadS_evi h, decide_eq_false (by omega), Bool.or_false]
  · rw [deadS_evi h, decide_eq_true (by omega), Bool.or_true]
theorem refEv_adm {S : Stk} {n : Int} (hx : S.ev < 18446744073709551616) (h : deadS S n = true) : refEv (admS S n) = (refEv S).set n.toNat false := by
  have hr := hasB_rg h
  refine map_range_set _ _ _ _ _ ?_ (fun i hi hne => ?_) ?_
  · omega
  · rw [deadS_adm hx h, decide_eq_true (by omega), Bool.and_true]
  · rw [deadS_adm hx h, decide_eq_false (by omega), Bool.and_false]
theorem refBz_ret {S : Stk} {v : Int} (h : idxS S v + 1 < S.lv.length) (ho : StkOk S) : refBz (retS S v) = (refBz S).set v.toNat true := by
  have e : (retS S v).bz = S.bz ||| 2 ^ v.toNat := by unfold retS; rw [if_pos h]
  have hlt : idxS S v < S.lv.length := by omega
  have hat := idxS_at hlt
  have h8 := (ho.rg _ (List.getElem_mem hlt)).1
  unfold refBz
  rw [e]
  refine map_range_set _ _ _ _ _ ?_ (fun i hi hne => ?_) ?_
  · omega
  · rw [testBit_or2, decide_eq_false hne, Bool.or_false]
  · rw [testBit_or2]; simp
theorem refBz_rel {S : Stk} {v : Int} (h : hasB S.bz v 0 8 = true) (ho : StkOk S) : refBz (rlsS S v) = (refBz S).set v.toNat false := by
  have e : (rlsS S v).bz = clrB S.bz v.toNat := by unfold rlsS; rw [if_pos h]
  have hr := hasB_rg h
  unfold refBz
  rw [e]
  refine map_range_set _ _ _ _ _ ?_ (fun i hi hne => ?_) ?_
  · omega
  · rw [testBit_clr _ _ _ (by have := ho.bz; omega) (by omega), decide_eq_true hne, Bool.and_true]
  · rw [testBit_clr _ _ _ (by have := ho.bz; omega) (by omega)]; simp
end Go.Proofs.Ytepodflinhpejaa

/- Contracts of bytes.Clone, slices.Clone and of the package octet. -/
namespace Go.Proofs.Ytepodflinhpejaa
open Go.RowKit
set_option linter.unusedVariables false
attribute [local go_sem ↓] sliced_cut

attribute [local go_sem] cutA_zero

theorem bt : BT Try.prog 29 5 := ⟨Try.underlying29, Try.underlying5, by kernel_rfl⟩

/-- The block r is a Reader of the bytes l. -/
def Rdr (w : World) (r : Nat) (l : List UInt8) (bad : Bool) : Prop := ∃ A n c, Bk w r 140 [.slice A n c, .bool bad] ∧ l.length = n ∧ n ≤ c ∧ Rd w r A (bcs l)
theorem Rdr.lt {w : World} {r : Nat} {l : List UInt8} {bad : Bool} (h : Rdr w r l bad) : r < w.heap.size := by
  obtain ⟨A, n, c, h, _⟩ := h
  exact h.lt
theorem Rdr.later {w w' : World} {r : Nat} {l : List UInt8} {bad : Bool} (h : Rdr w r l bad) (hb : Below w.heap.size w w') : Rdr w' r l bad := by
  have hlt := h.lt
  obtain ⟨A, n, c, h1, h2, h3, h4⟩ := h
  exact ⟨A, n, c, h1.later hb, h2, h3, h4.below ⟨hb.os, hb.tape, hb.output, hb.size, fun k hk => hb.block k (by omega)⟩⟩

/-- what a reader's call leaves: the reader moved on, nothing else changed -/
def RetP (W : World) (bs : List Obj) (d r : Nat) (l : List UInt8) (bad : Bool) (v : Value) (e : Ending) (w' : World) : Prop :=
  ∃ bs' d', e = .returned v ∧ w' = plus W bs' d' ∧ Rdr (plus W bs' d') r l bad ∧ (plus W bs d).grownBy (plus W bs' d') (some r)
theorem RetP.mk {W : World} {bs : List Obj} {d r : Nat} {l : List UInt8} {bad : Bool} {v : Value} {e : Ending} {w' : World} (hr : W.heap.size ≤ r) (he : e = .returned v) (h1 : Rdr w' r l bad) (h2 : (plus W bs d).grownBy w' (some r)) : RetP W bs d r l bad v e w' := by
  obtain ⟨bs', d', rfl⟩ := grown_plus h2 hr
  exact ⟨bs', d', he, rfl, h1, h2⟩
end Go.Proofs.Ytepodflinhpejaa

/- A region that draws its order, by what each operation's value is good for: every operation reads, or makes memory, and changes nothing that was there; a tail may follow in its order. -/
namespace Go.Proofs.Ytepodflinhpejaa
open Go.RowKit Go.ChangeShapes Go.WideShapes
set_option linter.unusedVariables false

/-- w' is w with more blocks -/
def Ex (w w' : World) : Prop := ∃ x : Ext, w' = plus w x.bs x.d
theorem Ex.refl (w : World) : Ex w w := ⟨⟨[], w.drawn⟩, by simp [plus]⟩
theorem Ex.trans {a b c : World} (h : Ex a b) (h' : Ex b c) : Ex a c := by
  obtain ⟨x, rfl⟩ := h
  obtain ⟨y, rfl⟩ := h'
  exact ⟨⟨x.bs ++ y.bs, y.d⟩, plus_plus _ _ _ _ _⟩
theorem Ex.of {w w' : World} (h : Below w.heap.size w w') : Ex w w' := by
  obtain ⟨bs, d, rfl⟩ := plus_of h
  exact ⟨⟨bs, d⟩, rfl⟩
theorem Ex.below {w w' : World} (h : Ex w w') : Below w.heap.size w w' := by
  obtain ⟨x, rfl⟩ := h
  exact below_plus _ _ _
theorem Ex.alloc (w : World) (o : Obj) : Ex w (w.alloc o) := Ex.of ((Below.refl _ _).alloc (Nat.le_refl _) o)
theorem Ex.plus_ (w : World) (bs : List Obj) (d : Nat) : Ex w (plus w bs d) := ⟨⟨bs, d⟩, rfl⟩

/-- what a value is good for; it stays so -/
structure MP where
  p : Value → World → Prop
  mono : ∀ v w w', p v w → Ex w w' → p v w'
def MP.any : MP := ⟨fun _ _ => True, fun _ _ _ _ _ => trivial⟩
def MP.eq (c : Value) : MP := ⟨fun v _ => v = c, fun _ _ _ h _ => h⟩
def MP.ob (base : Nat) (l : List UInt8) : MP := ⟨fun v w => ∃ A n c, v = .slice A n c ∧ Ob w base A n c l, fun _ _ _ ⟨A, n, c, h1, h2⟩ h => ⟨A, n, c, h1, h2.later h.below⟩⟩

section
variable {P : Program} {ops : Array Oper} {Q : Exit → Act → World → Prop}

def cnt (listed : Array Bool) : Nat → Nat
  | 0 => 0
  | n + 1 => cnt listed n + (if listed.getD n true then 0 else 1)
theorem cnt_set {listed : Array Bool} {i : Nat} (hi : listed.getD i true = false) : ∀ n, cnt (listed.setIfInBounds i true) n + (if i < n then 1 else 0) = cnt listed n
  | 0 => by simp [cnt]
  | n + 1 => by
    have ih := cnt_set hi n
    have hs : i < listed.size := by
      rcases Nat.lt_or_ge i listed.size with h | h
      · exact h
      · simp [Array.getElem?_eq_none h] at hi
    simp only [cnt]
    by_cases hn : i = n
    · subst hn
      have e : (listed.setIfInBounds i true).getD i true = true := by simp [hs]
      rw [e, hi]
      simp at ih ⊢
      omega
    · rw [getD_set_ne true hn]
      have e2 : (if i < n + 1 then 1 else 0) = (if i < n then 1 else 0) := by split <;> split <;> omega
      omega
theorem cnt_zero {listed : Array Bool} : ∀ n, cnt listed n = 0 → ∀ i, i < n → listed.getD i true = true
  | 0, _, i, h => by omega
  | n + 1, h, i, hi => by
    simp only [cnt] at h
    by_cases hn : i = n
    · subst hn
      cases hg : listed.getD i true with
      | true => rfl
      | false => rw [hg] at h; simp at h
    · exact cnt_zero n (by omega) i (by omega)
theorem cnt_first {listed : Array Bool} : ∀ n, cnt listed n ≠ 0 → ∃ i, i < n ∧ listed.getD i true = false ∧ ∀ j, j < i → listed.getD j true = true
  | 0, h => by simp [cnt] at h
  | n + 1, h => by
    by_cases h0 : cnt listed n = 0
    · refine ⟨n, by omega, ?_, fun j hj => cnt_zero n h0 j hj⟩
      simp only [cnt, h0] at h
      cases hg : listed.getD n true with
      | true => rw [hg] at h; simp at h
      | false => rfl
    · obtain ⟨i, h1, h2, h3⟩ := cnt_first n h0
      exact ⟨i, by omega, h2, h3⟩
theorem cnt_init (m : Nat) : ∀ n, n ≤ m → cnt (Array.replicate m false) n = n
  | 0, _ => rfl
  | n + 1, h => by
    simp only [cnt, cnt_init m n (by omega)]
    have : (Array.replicate m false).getD n true = false := by simp [show n < m by omega]
    rw [this]
    simp

/-- may the region be walked so: n operations ahead of the tail, N slots -/
def relB (ops : Array Oper) (n N : Nat) : Bool :=
  decide (n ≤ ops.size) && (decide (n = ops.size) || (Region.sinkB .any ops n && Region.chainB .any ops n)) &&
  Region.seqB .any ops (ops.size - n) n ((List.range ops.size).map fun i => decide (i < n)).toArray &&
  (List.range n).all fun i => match ops[i]? with
    | none => false
    | some o => (match o.dst with | some s => decide (s < N) | none => false) && (o.after.all fun e => !Region.binds .any e || decide (e.on < i)) &&
      (List.range n).all fun j => j == i || (match (ops[j]?).bind (·.dst) with | some s => o.dst != some s | none => false)
/-- what operation i sees in slot s is what lay there ahead of the region -/
def outB (ops : Array Oper) (n i s : Nat) : Bool := (List.range n).all fun j => j == i || (match (ops[j]?).bind (·.dst) with | some d => d != s || Region.waitsFor .any ops j i | none => true)
/-- operation i waits for operation j, which writes slot s -/
def depB (ops : Array Oper) (n i j s : Nat) : Bool := decide (j < n) && Region.waitsFor .any ops i j && ((ops[j]?).bind (·.dst) == some s)

def putAll : List Oper → (Nat → Value) → Nat → Act → Act
  | [], _, _, a => a
  | o :: r, vs, k, a => putAll r vs (k + 1) (a.put o.dst (vs k))

theorem eval_put_same {a : Act} {s : Nat} {v : Value} (h : s < a.tmps.size) : (a.put (some s) v).eval (.tmp s) = v := by simp [Act.put, Act.eval, h]
theorem size_put (a : Act) (d : Option Tmp) (v : Value) : (a.put d v).tmps.size = a.tmps.size := by cases d <;> simp [Act.put]
theorem defers_put (a : Act) (d : Option Tmp) (v : Value) : (a.put d v).defers = a.defers := by cases d <;> rfl
theorem putAll_size : ∀ (l : List Oper) (vs : Nat → Value) (k : Nat) (a : Act), (putAll l vs k a).tmps.size = a.tmps.size
  | [], _, _, _ => rfl
  | o :: r, vs, k, a => by rw [putAll, putAll_size r, size_put]
theorem putAll_defers : ∀ (l : List Oper) (vs : Nat → Value) (k : Nat) (a : Act), (putAll l vs k a).defers = a.defers
  | [], _, _, _ => rfl
  | o :: r, vs, k, a => by rw [putAll, putAll_defers r, defers_put]
theorem putAll_eval (A : Act) (s : Nat) : ∀ (l : List Oper) (vs : Nat → Value) (k : Nat) (a : Act), s < a.tmps.size → (∀ j o, l[j]? = some o → o.dst = some s → vs (k + j) = A.eval (.tmp s)) →
    ((∃ o ∈ l, o.dst = some s) → (putAll l vs k a).eval (.tmp s) = A.eval (.tmp s)) ∧ ((∀ o ∈ l, o.dst ≠ some s) → (putAll l vs k a).eval (.tmp s) = a.eval (.tmp s))
  | [], _, _, _, _, _ => ⟨fun ⟨o, h, _⟩ => (by cases h), fun _ => rfl⟩
  | o :: r, vs, k, a, hs, hv => by
    have ih := putAll_eval A s r vs (k + 1) (a.put o.dst (vs k)) (by rw [size_put]; exact hs) (fun j o' hj hd => by
      have := hv (j + 1) o' (by simpa using hj) hd
      rw [← this]
      congr 1
      omega)
    rw [putAll]
    constructor
    · rintro ⟨o', ho', hd⟩
      by_cases hr : ∃ o'' ∈ r, o''.dst = some s
      · exact ih.1 hr
      · rcases List.mem_cons.1 ho' with rfl | h
        · rw [ih.2 (fun o'' h h' => hr ⟨o'', h, h'⟩), hd, eval_put_same hs]
          exact hv 0 _ rfl hd
        · exact absurd ⟨o', h, hd⟩ hr
    · intro hn
      rw [ih.2 (fun o' h => hn o' (List.mem_cons_of_mem _ h)), Act.eval_put (fun d hd e => hn o (List.mem_cons_self) (by rw [hd]; injection e with e; rw [e]))]
theorem act_ext {a b : Act} (h1 : a.tmps.size = b.tmps.size) (h2 : a.defers = b.defers) (h3 : ∀ s, s < a.tmps.size → a.eval (.tmp s) = b.eval (.tmp s)) : a = b := by
  cases a with | mk ta da =>
  cases b with | mk tb db =>
  simp only at h1 h2 h3
  subst h2
  congr 1
  refine Array.ext h1 fun i hi hj => ?_
  have := h3 i hi
  simpa [Act.eval, hi, hj] using this

structure RInv (ops : Array Oper) (n : Nat) (a0 : Act) (w0 : World) (Φ : Nat → MP) (listed : Array Bool) (A : Act) (w : World) : Prop where
  head : HeadInv .any ops n listed
  ex : Ex w0 w
  size : A.tmps.size = a0.tmps.size
  defers : A.defers = a0.defers
  out : ∀ s, (∀ j, j < n → ∀ o, ops[j]? = some o → listed.getD j false = true → o.dst ≠ some s) → A.eval (.tmp s) = a0.eval (.tmp s)
  ins : ∀ j, j < n → ∀ o s, ops[j]? = some o → listed.getD j false = true → o.dst = some s → (Φ j).p (A.eval (.tmp s)) w

theorem wanted_if {o : Oper} {tmps : Array Value} {X Y : Prop} (h : o.guard = none) (hx : X) : if Region.wanted o (yielded ops tmps) = true then X else Y := by
  rw [if_pos (by simp [Region.wanted, h])]
  exact hx
theorem wp_rel {id : Nat} {a : Act} {w : World} {l : List Oper} (n N : Nat) (hN : a.tmps.size = N) (hm : P.follows .mixedOrders = true) (hB : relB l.toArray n N = true) (Φ : Nat → MP)
    (step : ∀ i, i < n → ∀ o, l[i]? = some o → ∀ (A : Act) (x : Ext), (∀ s, outB l.toArray n i s = true → A.eval (.tmp s) = a.eval (.tmp s)) → (∀ j s, depB l.toArray n i j s = true → (Φ j).p (A.eval (.tmp s)) (plus w x.bs x.d)) →
      ∀ K : Act → World → Prop, Shut (∀ v w', Ex (plus w x.bs x.d) w' → (Φ i).p v w' → K (A.put o.dst v) w') → if Region.wanted o (yielded l.toArray A.tmps) = true then o.wp P A (plus w x.bs x.d) K Q else K (A.put o.dst undef) (plus w x.bs x.d))
    (fin : ∀ (vs : Nat → Value) (x : Ext), (∀ i, i < n → (Φ i).p (vs i) (plus w x.bs x.d)) → wpList P l.toArray Q (l.drop n) (putAll (l.take n) vs 0 a) (plus w x.bs x.d)) : (Code.region id l.toArray true).wp P Q a w := by
  unfold relB at hB
  simp only [Bool.and_eq_true, decide_eq_true_eq] at hB
  obtain ⟨⟨⟨hn, htail⟩, hseq⟩, hall⟩ := hB
  have hal : ∀ i, i < n → ∃ o s, l.toArray[i]? = some o ∧ o.dst = some s ∧ s < N ∧ (∀ e ∈ o.after, Region.binds .any e = true → e.on < i) ∧ ∀ j, j < n → j ≠ i → ∃ oj sj, l.toArray[j]? = some oj ∧ oj.dst = some sj ∧ sj ≠ s := by
    intro i hi
    have h1 := List.all_eq_true.1 hall i (List.mem_range.2 hi)
    cases ho : l.toArray[i]? with
    | none => rw [ho] at h1; cases h1
    | some o =>
      rw [ho] at h1
      simp only [Bool.and_eq_true] at h1
      obtain ⟨⟨h2, h3⟩, h4⟩ := h1
      cases hd : o.dst with
      | none => rw [hd] at h2; cases h2
      | some s =>
        rw [hd] at h2 h4
        refine ⟨o, s, rfl, hd, by simpa using h2, fun e he hb => ?_, fun j hj hji => ?_⟩
        · have := (Array.all_eq_true_iff_forall_mem.1 h3) e he
          rw [hb] at this
          simpa using this
        · have h5 := List.all_eq_true.1 h4 j (List.mem_range.2 hj)
          cases hoj : l.toArray[j]? with
          | none => rw [hoj] at h5; simp [hji] at h5
          | some oj =>
            rw [hoj] at h5
            cases hdj : oj.dst with
            | none => simp [hdj, hji] at h5
            | some sj =>
              simp [hdj, hji] at h5
              exact ⟨oj, sj, rfl, hdj, fun e => h5 e.symm⟩
  have main : ∀ (f : Nat) (listed : Array Bool) (A : Act) (w' : World), RInv l.toArray n a w Φ listed A w' → cnt listed n = f → wpAny P .any l.toArray Q (f + (l.toArray.size - n)) listed A w' := by
    intro f
    induction f with
    | zero =>
      intro listed A w' inv hc
      have hl : ∀ i, i < n → listed.getD i true = true := cnt_zero n hc
      have el : listed = ((List.range l.toArray.size).map fun i => decide (i < n)).toArray := by
        apply Array.ext
        · simp [inv.head.size]
        · intro i h1 h2
          by_cases hi : i < n
          · have := hl i hi
            simp only [Array.getD_eq_getD_getElem?, Array.getElem?_eq_getElem h1, Option.getD_some] at this
            simp [this, hi]
          · have := inv.head.tail i (by omega) (by rw [← inv.head.size]; exact h1)
            simp only [Array.getD_eq_getD_getElem?, Array.getElem?_eq_getElem h1, Option.getD_some] at this
            simp [this, hi]
      have eA : A = putAll (l.take n) (fun j => ((l.toArray[j]?).bind (·.dst)).elim undef (fun s => A.eval (.tmp s))) 0 a := by
        refine act_ext (by rw [putAll_size, inv.size]) (by rw [putAll_defers, inv.defers]) fun s hs => ?_
        have H := putAll_eval A s (l.take n) (fun j => ((l.toArray[j]?).bind (·.dst)).elim undef (fun s => A.eval (.tmp s))) 0 a (by rw [← inv.size]; exact hs) (fun j o hj hd => by
          have hjn : j < n := by
            have := (List.getElem?_eq_some_iff.1 hj).1
            simp at this
            omega
          have : l.toArray[j]? = some o := by simpa [hjn] using hj
          simp [this, hd])
        by_cases he : ∃ o ∈ l.take n, o.dst = some s
        · exact (H.1 he).symm
        · rw [H.2 (fun o h h' => he ⟨o, h, h'⟩)]
          refine inv.out s fun j hj o ho _ hd => he ⟨o, ?_, hd⟩
          rw [List.mem_take_iff_getElem]
          have hjl := (Array.getElem?_eq_some_iff.1 ho)
          obtain ⟨h1, h2⟩ := hjl
          exact ⟨j, by simp at h1; omega, by simpa using h2⟩
      rw [Nat.zero_add]
      obtain ⟨x, rfl⟩ := inv.ex
      have := wpAny_of_seq (md := .any) (Q' := Q) (P := P) (ops := l.toArray) (l.drop n) n listed A (plus w x.bs x.d) (fun j => by simp [List.getElem?_drop]) (by
        rw [el]
        have : (l.drop n).length = l.toArray.size - n := by simp
        rw [this]
        exact hseq) (by
        rw [eA]
        refine fin _ x fun i hi => ?_
        obtain ⟨o, s, ho, hd, _⟩ := hal i hi
        have hli : listed.getD i false = true := by
          have := hl i hi
          have hsz : i < listed.size := by rw [inv.head.size]; exact (Array.getElem?_eq_some_iff.1 ho).1
          simpa [hsz] using this
        have := inv.ins i hi o s ho hli hd
        simpa [ho, hd] using this)
      have e2 : (l.drop n).length = l.toArray.size - n := by simp
      rwa [e2] at this
    | succ f ih =>
      intro listed A w' inv hc
      rw [show f + 1 + (l.toArray.size - n) = (f + (l.toArray.size - n)) + 1 by omega]
      obtain ⟨i0, hi0, hun0, hprev⟩ := cnt_first n (by rw [hc]; omega)
      have hready0 : i0 ∈ Region.ready .any l.toArray listed := by
        obtain ⟨o, s, ho, hd, _, hlt, _⟩ := hal i0 hi0
        refine mem_ready.2 ⟨hun0, o, ho, fun e he hb => ?_⟩
        have h1 := hlt e he hb
        have h2 := hprev e.on h1
        have hsz : e.on < listed.size := by rw [inv.head.size]; have := (Array.getElem?_eq_some_iff.1 ho).1; omega
        simpa [hsz] using h2
      refine ⟨fun h => (by rw [h] at hready0; cases hready0), fun i hi => ?_⟩
      obtain ⟨hun, o, ho, hdeps⟩ := mem_ready.1 hi
      have hin : i < n := by
        rcases Nat.lt_or_ge i n with h | h
        · exact h
        · have hsz := (Array.getElem?_eq_some_iff.1 ho).1
          simp only [Bool.or_eq_true, decide_eq_true_eq, Bool.and_eq_true] at htail
          rcases htail with ht | ht
          · omega
          · exact absurd hi (tail_waits ht.1 ht.2 (by omega) inv.head _ i0 rfl hi0 hun0 i h)
      obtain ⟨o', s, ho', hd, hsN, hlt, hother⟩ := hal i hin
      have : o' = o := Option.some.inj (ho'.symm.trans ho)
      subst this
      obtain ⟨x, rfl⟩ := inv.ex
      have unl : ∀ j, listed.getD j false = true → j ≠ i := fun j hj e => by subst e; rw [getD_both hun] at hj; cases hj
      have hstep := step i hin o' (by simpa using ho) A x (fun s' hs' => inv.out s' fun j hj oj hoj hlj hdj => by
          have h1 := List.all_eq_true.1 hs' j (List.mem_range.2 hj)
          have hji := unl j hlj
          rw [hoj] at h1
          simp only [Option.bind_some, hdj] at h1
          simp only [Bool.or_eq_true, beq_iff_eq, bne_self_eq_false, Bool.false_eq_true, false_or] at h1
          rcases h1 with h1 | h1
          · exact hji h1
          · obtain ⟨oj', hoj', e, he, hb, hon⟩ := Region.waitsFor_spec h1
            have : oj' = oj := Option.some.inj (hoj'.symm.trans hoj)
            subst this
            have h2 := inv.head.closed j oj' hoj hlj e he hb
            rw [hon, getD_both hun] at h2
            cases h2)
        (fun j s' hs' => by
          simp only [depB, Bool.and_eq_true, decide_eq_true_eq] at hs'
          obtain ⟨⟨hj, hw⟩, hds⟩ := hs'
          obtain ⟨oi, hoi, e, he, hb, hon⟩ := Region.waitsFor_spec hw
          have : oi = o' := Option.some.inj (hoi.symm.trans ho)
          subst this
          have hlj := hdeps e he hb
          rw [hon] at hlj
          cases hoj : l.toArray[j]? with
          | none => rw [hoj] at hds; simp at hds
          | some oj =>
            rw [hoj] at hds
            simp only [Option.bind_some, beq_iff_eq] at hds
            exact inv.ins j hj oj s' hoj hlj hds)
      have next : ∀ v w'', Ex (plus w x.bs x.d) w'' → (Φ i).p v w'' → wpAny P .any l.toArray Q (f + (l.toArray.size - n)) (listed.setIfInBounds i true) (A.put o'.dst v) w'' := by
        intro v w'' hex hp
        refine ih _ _ _ ?_ ?_
        · refine ⟨inv.head.set hi hin, (Ex.plus_ w x.bs x.d).trans hex, by rw [size_put, inv.size], by rw [defers_put, inv.defers], fun s' hs' => ?_, fun j hj oj s' hoj hlj hdj => ?_⟩
          · have hne : s ≠ s' := fun e => by
              subst e
              refine hs' i hin o' ho ?_ hd
              have hsz : i < listed.size := by rw [inv.head.size]; exact (Array.getElem?_eq_some_iff.1 ho).1
              simp [hsz]
            rw [Act.eval_put (fun d hd' e => by rw [hd] at hd'; injection hd' with hd'; injection e with e; exact hne (hd'.trans e.symm))]
            refine inv.out s' fun j hj oj hoj hlj => hs' j hj oj hoj (getD_set_true hlj)
          · by_cases hji : j = i
            · subst hji
              have : oj = o' := Option.some.inj (hoj.symm.trans ho)
              subst this
              rw [hd] at hdj
              injection hdj with hdj
              subst hdj
              rw [hd, eval_put_same (by rw [inv.size, hN]; exact hsN)]
              exact hp
            · have hlj' : listed.getD j false = true := by rw [getD_set_ne false (Ne.symm hji)] at hlj; exact hlj
              obtain ⟨oj', sj, hoj', hdj', hne⟩ := hother j hj hji
              have : oj' = oj := Option.some.inj (hoj'.symm.trans hoj)
              subst this
              rw [hdj] at hdj'
              injection hdj' with hdj'
              subst hdj'
              rw [Act.eval_put (fun d hd' e => by rw [hd] at hd'; injection hd' with hd'; injection e with e; exact hne (e.trans hd'.symm))]
              exact (Φ j).mono _ _ _ (inv.ins j hj oj' s' hoj hlj' hdj) hex
        · have := cnt_set hun n
          rw [if_pos hin] at this
          omega
      have hs := hstep _ next
      unfold wpOp
      rw [ho]
      simp only
      split
      · rename_i hw
        rw [if_pos hw] at hs
        exact .inl hs
      · rename_i hw
        rw [if_neg hw] at hs
        exact hs
  refine wp_region_any hm ?_
  have h0 : ({ w with drawn := w.drawn + 1 } : World) = w.drew := rfl
  have H := main n (Array.replicate l.toArray.size false) a w.drew ⟨⟨by simp, fun j oj _ hl => (by rw [getD_replicate_false] at hl; cases hl), fun t _ ht => getD_in (by simpa using ht) (getD_replicate_false _ _)⟩,
    ⟨⟨[], w.drawn + 1⟩, by show ({ w with drawn := w.drawn + 1 } : World) = _; simp [plus]⟩, rfl, rfl, fun s _ => rfl, fun j hj o s _ hl => (by rw [getD_replicate_false] at hl; cases hl)⟩ (cnt_init _ n hn)
  rw [show n + (l.toArray.size - n) = l.toArray.size by omega] at H
  exact H
/-! ### The same, with operations that hold no memory taken as soon as they may be: they may stand behind the tail's first -/
def sinkE (ops : Array Oper) (n : Nat) (pu : List Nat) : Bool :=
  (List.range n).all fun i => pu.contains i || (List.range (n + 1)).any fun j => decide (i < j) && (j == n || !pu.contains j) && Region.waitsFor .any ops j i
theorem tail_waitsE {n : Nat} {pu : List Nat} {listed : Array Bool} (hs : sinkE ops n pu = true) (hc : Region.chainB .any ops n = true) (inv : HeadInv .any ops n listed) :
    ∀ (d i : Nat), n - i = d → i < n → pu.contains i = false → listed.getD i true = false → ∀ t, n ≤ t → t ∉ Region.ready .any ops listed := by
  intro d
  induction d using Nat.strongRecOn with
  | _ d ih =>
    intro i hd hi hpu hun t ht hr
    obtain ⟨_, ot, hot, hall⟩ := mem_ready.1 hr
    have htlt : t < ops.size := (Array.getElem?_eq_some_iff.1 hot).1
    by_cases htn : t = n
    · subst htn
      have h1 := List.all_eq_true.1 hs i (List.mem_range.2 hi)
      rw [hpu, Bool.false_or] at h1
      obtain ⟨j, hj, hj2⟩ := List.any_eq_true.1 h1
      simp only [Bool.and_eq_true, decide_eq_true_eq] at hj2
      obtain ⟨⟨hij, hjp⟩, hw⟩ := hj2
      obtain ⟨oj, hoj, e, he, hb, hon⟩ := Region.waitsFor_spec hw
      have hjle : j ≤ t := by have := List.mem_range.1 hj; omega
      by_cases hjt : j = t
      · subst hjt
        have : oj = ot := Option.some.inj (hoj.symm.trans hot)
        subst this
        have h2 := hall e he hb
        rw [hon, getD_both hun] at h2
        cases h2
      · cases hl : listed.getD j false with
        | true =>
          have h2 := inv.closed j oj hoj hl e he hb
          rw [hon, getD_both hun] at h2
          cases h2
        | false =>
          have hjs : j < listed.size := by rw [inv.size]; omega
          have hpj : pu.contains j = false := by
            simp only [Bool.or_eq_true, beq_iff_eq, hjt, false_or, Bool.not_eq_true'] at hjp
            exact hjp
          exact ih (t - j) (by omega) j rfl (by omega) hpj (getD_in hjs hl) t (Nat.le_refl _) hr
    · have h1 := List.all_eq_true.1 hc t (List.mem_range.2 htlt)
      simp only [Bool.or_eq_true, decide_eq_true_eq] at h1
      rcases h1 with h1 | h1
      · omega
      · obtain ⟨o', ho', e, he, hb, hon⟩ := Region.waitsFor_spec h1
        have : o' = ot := Option.some.inj (ho'.symm.trans hot)
        subst this
        have h2 := hall e he hb
        rw [hon, getD_both (inv.tail (t - 1) (by omega) (by omega))] at h2
        cases h2
def relE (ops : Array Oper) (n N : Nat) (pu : List Nat) : Bool :=
  decide (n ≤ ops.size) && Region.noSelect ops && sinkE ops n pu && Region.chainB .any ops n &&
  Region.seqB .any ops (ops.size - n) n ((List.range ops.size).map fun i => decide (i < n)).toArray &&
  ((List.range n).all fun i => match ops[i]? with
    | none => false
    | some o => (match o.dst with | some s => decide (s < N) | none => false) && (o.after.all fun e => !Region.binds .any e || decide (e.on < i)) &&
      (List.range n).all fun j => j == i || (match (ops[j]?).bind (·.dst) with | some s => o.dst != some s | none => false)) &&
  pu.all fun i => match ops[i]? with
    | none => false
    | some oi => (List.range ops.size).all fun j => j == i || (match ops[j]? with | some oj => Region.waitsFor .any ops j i || Region.waitsFor .any ops i j || oi.apart ops oj | none => true)

theorem wp_relE {id : Nat} {a : Act} {w : World} {l : List Oper} (n N : Nat) (pu : List Nat) (hN : a.tmps.size = N) (hm : P.follows .mixedOrders = true) (hB : relE l.toArray n N pu = true) (Φ : Nat → MP)
    (step : ∀ i, i < n → ∀ o, l[i]? = some o → ∀ (A : Act) (x : Ext), (∀ s, outB l.toArray n i s = true → A.eval (.tmp s) = a.eval (.tmp s)) → (∀ j s, depB l.toArray n i j s = true → (Φ j).p (A.eval (.tmp s)) (plus w x.bs x.d)) →
      if pu.contains i = true then ∃ v, Yields P l.toArray o v A ∧ (Φ i).p v (plus w x.bs x.d) else
      ∀ K : Act → World → Prop, Shut (∀ v w', Ex (plus w x.bs x.d) w' → (Φ i).p v w' → K (A.put o.dst v) w') → if Region.wanted o (yielded l.toArray A.tmps) = true then o.wp P A (plus w x.bs x.d) K (NoPanic Q) else K (A.put o.dst undef) (plus w x.bs x.d))
    (fin : ∀ (vs : Nat → Value) (x : Ext), (∀ i, i < n → (Φ i).p (vs i) (plus w x.bs x.d)) → wpList P l.toArray (NoPanic Q) (l.drop n) (putAll (l.take n) vs 0 a) (plus w x.bs x.d)) : (Code.region id l.toArray true).wp P Q a w := by
  unfold relE at hB
  simp only [Bool.and_eq_true, decide_eq_true_eq] at hB
  obtain ⟨⟨⟨⟨⟨⟨hn, hsel⟩, hsink⟩, hchain⟩, hseq⟩, hall⟩, hpure⟩ := hB
  have hal : ∀ i, i < n → ∃ o s, l.toArray[i]? = some o ∧ o.dst = some s ∧ s < N ∧ (∀ e ∈ o.after, Region.binds .any e = true → e.on < i) ∧ ∀ j, j < n → j ≠ i → ∃ oj sj, l.toArray[j]? = some oj ∧ oj.dst = some sj ∧ sj ≠ s := by
    intro i hi
    have h1 := List.all_eq_true.1 hall i (List.mem_range.2 hi)
    cases ho : l.toArray[i]? with
    | none => rw [ho] at h1; cases h1
    | some o =>
      rw [ho] at h1
      simp only [Bool.and_eq_true] at h1
      obtain ⟨⟨h2, h3⟩, h4⟩ := h1
      cases hd : o.dst with
      | none => rw [hd] at h2; cases h2
      | some s =>
        rw [hd] at h2 h4
        refine ⟨o, s, rfl, hd, by simpa using h2, fun e he hb => ?_, fun j hj hji => ?_⟩
        · have := (Array.all_eq_true_iff_forall_mem.1 h3) e he
          rw [hb] at this
          simpa using this
        · have h5 := List.all_eq_true.1 h4 j (List.mem_range.2 hj)
          cases hoj : l.toArray[j]? with
          | none => rw [hoj] at h5; simp [hji] at h5
          | some oj =>
            rw [hoj] at h5
            cases hdj : oj.dst with
            | none => simp [hdj, hji] at h5
            | some sj =>
              simp [hdj, hji] at h5
              exact ⟨oj, sj, rfl, hdj, fun e => h5 e.symm⟩
  refine wp_region_noPanic ?_
  have main : ∀ (f : Nat) (listed : Array Bool) (A : Act) (w' : World), RInv l.toArray n a w Φ listed A w' → cnt listed n = f → wpAny P .any l.toArray (NoPanic Q) (f + (l.toArray.size - n)) listed A w' := by
    intro f
    induction f with
    | zero =>
      intro listed A w' inv hc
      have hl : ∀ i, i < n → listed.getD i true = true := cnt_zero n hc
      have el : listed = ((List.range l.toArray.size).map fun i => decide (i < n)).toArray := by
        apply Array.ext
        · simp [inv.head.size]
        · intro i h1 h2
          by_cases hi : i < n
          · have := hl i hi
            simp only [Array.getD_eq_getD_getElem?, Array.getElem?_eq_getElem h1, Option.getD_some] at this
            simp [this, hi]
          · have := inv.head.tail i (by omega) (by rw [← inv.head.size]; exact h1)
            simp only [Array.getD_eq_getD_getElem?, Array.getElem?_eq_getElem h1, Option.getD_some] at this
            simp [this, hi]
      have eA : A = putAll (l.take n) (fun j => ((l.toArray[j]?).bind (·.dst)).elim undef (fun s => A.eval (.tmp s))) 0 a := by
        refine act_ext (by rw [putAll_size, inv.size]) (by rw [putAll_defers, inv.defers]) fun s hs => ?_
        have H := putAll_eval A s (l.take n) (fun j => ((l.toArray[j]?).bind (·.dst)).elim undef (fun s => A.eval (.tmp s))) 0 a (by rw [← inv.size]; exact hs) (fun j o hj hd => by
          have hjn : j < n := by
            have := (List.getElem?_eq_some_iff.1 hj).1
            simp at this
            omega
          have : l.toArray[j]? = some o := by simpa [hjn] using hj
          simp [this, hd])
        by_cases he : ∃ o ∈ l.take n, o.dst = some s
        · exact (H.1 he).symm
        · rw [H.2 (fun o h h' => he ⟨o, h, h'⟩)]
          refine inv.out s fun j hj o ho _ hd => he ⟨o, ?_, hd⟩
          rw [List.mem_take_iff_getElem]
          have hjl := (Array.getElem?_eq_some_iff.1 ho)
          obtain ⟨h1, h2⟩ := hjl
          exact ⟨j, by simp at h1; omega, by simpa using h2⟩
      rw [Nat.zero_add]
      obtain ⟨x, rfl⟩ := inv.ex
      have := wpAny_of_seq (md := .any) (Q' := NoPanic Q) (P := P) (ops := l.toArray) (l.drop n) n listed A (plus w x.bs x.d) (fun j => by simp [List.getElem?_drop]) (by
        rw [el]
        have : (l.drop n).length = l.toArray.size - n := by simp
        rw [this]
        exact hseq) (by
        rw [eA]
        refine fin _ x fun i hi => ?_
        obtain ⟨o, s, ho, hd, _⟩ := hal i hi
        have hli : listed.getD i false = true := by
          have := hl i hi
          have hsz : i < listed.size := by rw [inv.head.size]; exact (Array.getElem?_eq_some_iff.1 ho).1
          simpa [hsz] using this
        have := inv.ins i hi o s ho hli hd
        simpa [ho, hd] using this)
      have e2 : (l.drop n).length = l.toArray.size - n := by simp
      rwa [e2] at this
    | succ f ih =>
      intro listed A w' inv hc
      rw [show f + 1 + (l.toArray.size - n) = (f + (l.toArray.size - n)) + 1 by omega]
      obtain ⟨i0, hi0, hun0, hprev⟩ := cnt_first n (by rw [hc]; omega)
      have hready0 : i0 ∈ Region.ready .any l.toArray listed := by
        obtain ⟨o, s, ho, hd, _, hlt, _⟩ := hal i0 hi0
        refine mem_ready.2 ⟨hun0, o, ho, fun e he hb => ?_⟩
        have h1 := hlt e he hb
        have h2 := hprev e.on h1
        have hsz : e.on < listed.size := by rw [inv.head.size]; have := (Array.getElem?_eq_some_iff.1 ho).1; omega
        simpa [hsz] using h2
      obtain ⟨x, rfl⟩ := inv.ex
      -- what an operation's step says, at a state that is reached
      have facts : ∀ i, i < n → i ∈ Region.ready .any l.toArray listed → ∃ o s, l.toArray[i]? = some o ∧ l[i]? = some o ∧ o.dst = some s ∧ listed.getD i true = false ∧
          (∀ s', outB l.toArray n i s' = true → A.eval (.tmp s') = a.eval (.tmp s')) ∧ (∀ j s', depB l.toArray n i j s' = true → (Φ j).p (A.eval (.tmp s')) (plus w x.bs x.d)) ∧
          ∀ v w'', Ex (plus w x.bs x.d) w'' → (Φ i).p v w'' → wpAny P .any l.toArray (NoPanic Q) (f + (l.toArray.size - n)) (listed.setIfInBounds i true) (A.put o.dst v) w'' := by
        intro i hin hi
        obtain ⟨hun, o', ho, hdeps⟩ := mem_ready.1 hi
        obtain ⟨o2, s, ho', hd, hsN, hlt, hother⟩ := hal i hin
        have : o2 = o' := Option.some.inj (ho'.symm.trans ho)
        subst this
        have unl : ∀ j, listed.getD j false = true → j ≠ i := fun j hj e => by subst e; rw [getD_both hun] at hj; cases hj
        refine ⟨o2, s, ho, by simpa using ho, hd, hun, fun s' hs' => inv.out s' fun j hj oj hoj hlj hdj => ?_, fun j s' hs' => ?_, ?_⟩
        · have h1 := List.all_eq_true.1 hs' j (List.mem_range.2 hj)
          have hji := unl j hlj
          rw [hoj] at h1
          simp only [Option.bind_some, hdj] at h1
          simp only [Bool.or_eq_true, beq_iff_eq, bne_self_eq_false, Bool.false_eq_true, false_or] at h1
          rcases h1 with h1 | h1
          · exact hji h1
          · obtain ⟨oj', hoj', e, he, hb, hon⟩ := Region.waitsFor_spec h1
            have : oj' = oj := Option.some.inj (hoj'.symm.trans hoj)
            subst this
            have h2 := inv.head.closed j oj' hoj hlj e he hb
            rw [hon, getD_both hun] at h2
            cases h2
        · simp only [depB, Bool.and_eq_true, decide_eq_true_eq] at hs'
          obtain ⟨⟨hj, hw⟩, hds⟩ := hs'
          obtain ⟨oi, hoi, e, he, hb, hon⟩ := Region.waitsFor_spec hw
          have : oi = o2 := Option.some.inj (hoi.symm.trans ho)
          subst this
          have hlj := hdeps e he hb
          rw [hon] at hlj
          cases hoj : l.toArray[j]? with
          | none => rw [hoj] at hds; simp at hds
          | some oj =>
            rw [hoj] at hds
            simp only [Option.bind_some, beq_iff_eq] at hds
            exact inv.ins j hj oj s' hoj hlj hds
        · intro v w'' hex hp
          refine ih _ _ _ ?_ ?_
          · refine ⟨inv.head.set hi hin, (Ex.plus_ w x.bs x.d).trans hex, by rw [size_put, inv.size], by rw [defers_put, inv.defers], fun s' hs' => ?_, fun j hj oj s' hoj hlj hdj => ?_⟩
            · have hne : s ≠ s' := fun e => by
                subst e
                refine hs' i hin o2 ho ?_ hd
                have hsz : i < listed.size := by rw [inv.head.size]; exact (Array.getElem?_eq_some_iff.1 ho).1
                simp [hsz]
              rw [Act.eval_put (fun d hd' e => by rw [hd] at hd'; injection hd' with hd'; injection e with e; exact hne (hd'.trans e.symm))]
              refine inv.out s' fun j hj oj hoj hlj => hs' j hj oj hoj (getD_set_true hlj)
            · by_cases hji : j = i
              · subst hji
                have : oj = o2 := Option.some.inj (hoj.symm.trans ho)
                subst this
                rw [hd] at hdj
                injection hdj with hdj
                subst hdj
                rw [hd, eval_put_same (by rw [inv.size, hN]; exact hsN)]
                exact hp
              · have hlj' : listed.getD j false = true := by rw [getD_set_ne false (Ne.symm hji)] at hlj; exact hlj
                obtain ⟨oj', sj, hoj', hdj', hne⟩ := hother j hj hji
                have : oj' = oj := Option.some.inj (hoj'.symm.trans hoj)
                subst this
                rw [hdj] at hdj'
                injection hdj' with hdj'
                subst hdj'
                rw [Act.eval_put (fun d hd' e => by rw [hd] at hd'; injection hd' with hd'; injection e with e; exact hne (e.trans hd'.symm))]
                exact (Φ j).mono _ _ _ (inv.ins j hj oj' s' hoj hlj' hdj) hex
          · have := cnt_set hun n
            rw [if_pos hin] at this
            omega
      by_cases hp0 : pu.contains i0 = true
      · obtain ⟨o, s, ho, hol, hd, hun, h1, h2, next⟩ := facts i0 hi0 hready0
        have hst := step i0 hi0 o hol A x h1 h2
        rw [if_pos hp0] at hst
        obtain ⟨v, hy, hv⟩ := hst
        refine wpAny_first ho (Region.noSelect_spec hsel) (fun c a' w'' h => ?_) _ listed A _ (fun j oj hoj hji hunj hno => ?_) hready0 hy (next v _ (Ex.refl _) hv)
        · exact h
        · have hpi := List.all_eq_true.1 hpure i0 (by simpa using hp0)
          rw [ho] at hpi
          have h3 := List.all_eq_true.1 hpi j (List.mem_range.2 (Array.getElem?_eq_some_iff.1 hoj).1)
          rw [hoj] at h3
          simp only [Bool.or_eq_true, beq_iff_eq, hji, false_or] at h3
          rcases h3 with (h3 | h3) | h3
          · obtain ⟨oj', hoj', e, he, hb, hon⟩ := Region.waitsFor_spec h3
            have : oj' = oj := Option.some.inj (hoj'.symm.trans hoj)
            subst this
            exact absurd hon (hno e he hb)
          · obtain ⟨oi', hoi', e, he, hb, hon⟩ := Region.waitsFor_spec h3
            have : oi' = o := Option.some.inj (hoi'.symm.trans ho)
            subst this
            have h4 := (mem_ready.1 hready0).2
            obtain ⟨o9, ho9, hdeps⟩ := h4
            have : o9 = oi' := Option.some.inj (ho9.symm.trans ho)
            subst this
            have h5 := hdeps e he hb
            rw [hon, getD_both hunj] at h5
            cases h5
          · exact h3
      · have hp0' : pu.contains i0 = false := by simpa using hp0
        refine ⟨fun h => (by rw [h] at hready0; cases hready0), fun i hi => ?_⟩
        have hin : i < n := by
          rcases Nat.lt_or_ge i n with h | h
          · exact h
          · exact absurd hi (tail_waitsE hsink hchain inv.head _ i0 rfl hi0 hp0' hun0 i h)
        obtain ⟨o, s, ho, hol, hd, hun, h1, h2, next⟩ := facts i hin hi
        have hst := step i hin o hol A x h1 h2
        by_cases hpi : pu.contains i = true
        · rw [if_pos hpi] at hst
          obtain ⟨v, hy, hv⟩ := hst
          exact hy.wpOp ho (next v _ (Ex.refl _) hv)
        · rw [if_neg hpi] at hst
          have hs := hst _ next
          unfold wpOp
          rw [ho]
          simp only
          split
          · rename_i hw
            rw [if_pos hw] at hs
            exact .inl hs
          · rename_i hw
            rw [if_neg hw] at hs
            exact hs
  refine wp_region_any hm ?_
  have H := main n (Array.replicate l.toArray.size false) a w.drew ⟨⟨by simp, fun j oj _ hl => (by rw [getD_replicate_false] at hl; cases hl), fun t _ ht => getD_in (by simpa using ht) (getD_replicate_false _ _)⟩,
    ⟨⟨[], w.drawn + 1⟩, by show ({ w with drawn := w.drawn + 1 } : World) = _; simp [plus]⟩, rfl, rfl, fun s _ => rfl, fun j hj o s _ hl => (by rw [getD_replicate_false] at hl; cases hl)⟩ (cnt_init _ n hn)
  rw [show n + (l.toArray.size - n) = l.toArray.size by omega] at H
  exact H
end
/-- the slot of a guard -/
theorem slot_of {x : Option Value} {b : Bool} (h : x.getD undef = .bool b) : x = some (.bool b) := by
  cases x with
  | none => simp [undef] at h
  | some v => simp at h; rw [h]
theorem slot_un {x : Option Value} (h : x.getD undef = undef) : x = none ∨ x = some undef := by
  cases x with
  | none => exact .inl rfl
  | some v => simp at h; exact .inr (by rw [h])
end Go.Proofs.Ytepodflinhpejaa

/- Whole arrays and structs out of and into blocks; results in memory. -/
namespace Go.Proofs.Ytepodflinhpejaa
open Go.RowKit
set_option linter.unusedVariables false
set_option linter.unusedSimpArgs false

theorem Bk.range {w : World} {g : Nat} {t : TypeId} {cs : List Value} (h : Bk w g t cs) : w.rangeAt g 0 cs := fun j v hv => by rw [Nat.zero_add, h.cell]; exact hv
/-- a result that is a whole array or struct, in a block -/
theorem bodyPost_agg {P : Program} {fn : Func} {R : Ending → World → Prop} {a : Act} {w : World} {slot ty g : Nat} {d : TypeDesc} {cs : List Value} (hfr : fn.results = #[.cell slot ty]) (hs : a.tmps.getD slot undef = .pointer (some ⟨g, 0, none⟩))
    (hb : w.rangeAt g 0 cs) (hu : P.underlying ty = some d) (hd : d.isRow = true) (hi : (P.info? ty).map (·.size) = some cs.length) (hdf : a.defers = []) (hR : R (.returned (.agg cs.toArray)) w) : bodyPost P fn R .ret a w := by
  refine bodyPost_ret (v := .agg cs.toArray) ?_ hdf hR
  have h1 := run_loadVar_mid (P := P) w g 0 ty cs d hb hu hd hi
  have hs' : a.tmps[slot]?.getD undef = .pointer (some ⟨g, 0, none⟩) := by simpa using hs
  simp [results, hfr, hs', asAddr, h1]
theorem bodyPost_agg2 {P : Program} {fn : Func} {R : Ending → World → Prop} {a : Act} {w : World} {slot slot2 ty g : Nat} {d : TypeDesc} {cs : List Value} {u : Value} (hfr : fn.results = #[.cell slot ty, .tmp slot2]) (hs : a.tmps.getD slot undef = .pointer (some ⟨g, 0, none⟩)) (hs2 : a.tmps.getD slot2 undef = u)
    (hb : w.rangeAt g 0 cs) (hu : P.underlying ty = some d) (hd : d.isRow = true) (hi : (P.info? ty).map (·.size) = some cs.length) (hdf : a.defers = []) (hR : R (.returned (.tuple #[.agg cs.toArray, u])) w) : bodyPost P fn R .ret a w := by
  refine bodyPost_ret (v := .tuple #[.agg cs.toArray, u]) ?_ hdf hR
  have h1 := run_loadVar_mid (P := P) w g 0 ty cs d hb hu hd hi
  have hs' : a.tmps[slot]?.getD undef = .pointer (some ⟨g, 0, none⟩) := by simpa using hs
  have hs2' : a.tmps[slot2]?.getD undef = u := by simpa using hs2
  simp [results, hfr, hs', hs2', asAddr, h1]
/-- a block's cells, all stored anew -/
theorem Bk.setCells {w : World} {g : Nat} {t : TypeId} : ∀ (new old : List Value) (o : Nat), Bk w g t old → o + new.length = old.length → Bk (w.setCells g o new) g t (old.take o ++ new) := by
  intro new
  induction new generalizing w with
  | nil => intro old o h hl; simp only [List.length_nil, Nat.add_zero] at hl; simp only [World.setCells, List.append_nil, List.take_of_length_le (Nat.le_of_eq hl.symm)]; exact h
  | cons v r ih =>
    intro old o h hl
    rw [World.setCells]
    have h1 := ih (old.set o v) (o + 1) (h.set_ o v) (by simp only [List.length_set, List.length_cons] at *; omega)
    have e : (old.set o v).take (o + 1) ++ r = old.take o ++ v :: r := by
      rw [List.take_succ_eq_append_getElem (by simp only [List.length_set, List.length_cons] at *; omega)]
      simp [List.take_set_of_le]
    rw [e] at h1
    exact h1
theorem Below.setCells {B : Nat} {a : World} {g : Nat} (hg : B ≤ g) : ∀ (new : List Value) (o : Nat) (w : World), Below B a w → Below B a (w.setCells g o new)
  | [], _, _, h => h
  | v :: r, o, w, h => Below.setCells hg r (o + 1) _ (h.setCell hg v)
/-- is it this operation? -/
theorem at_op {P : Program} {w : World} {ops : Array Oper} {rest : List Oper} {o : Oper} {a : Act} {Q : Exit → Act → World → Prop} (op : Op) (h : o.op = op) (x : wpList P ops Q (o :: rest) a w) : wpList P ops Q (o :: rest) a w := x
/-- a part of a block that is known whole, as an aggregate -/
theorem wpList_ldA {P : Program} {w : World} {ops : Array Oper} {rest : List Oper} {o : Oper} {a : Act} {Q : Exit → Act → World → Prop} (ty : TypeId) (x : Operand) (ho : o.op = .load ty x) (hgd : o.guard = none)
    {g off : Nat} {t : TypeId} {cs : List Value} {d : TypeDesc} (part : List Value) (hx : a.eval x = .pointer (some ⟨g, off, none⟩)) (hb : Bk w g t cs) (hp : (cs.drop off).take part.length = part)
    (hu : P.underlying ty = some d) (hd : d.isRow = true) (hi : (P.info? ty).map (·.size) = some part.length) (h : wpList P ops Q rest (a.put o.dst (.agg part.toArray)) w) : wpList P ops Q (o :: rest) a w := by
  refine wpList_load_mid hgd ty x ho g off hx part d (fun j v hv => ?_) hu hd hi h
  rw [hb.cell]
  rw [← hp, List.getElem?_take] at hv
  split at hv
  · rw [List.getElem?_drop] at hv; exact hv
  · cases hv
/-- a guarded operation that is wanted: a part of a block, as an aggregate -/
theorem wpList_ldG {P : Program} {w : World} {ops : Array Oper} {rest : List Oper} {o : Oper} {a : Act} {Q : Exit → Act → World → Prop} (ty : TypeId) (x : Operand) (ho : o.op = .load ty x) (hw : Region.wanted o (yielded ops a.tmps) = true)
    {g off : Nat} {t : TypeId} {cs : List Value} {d : TypeDesc} (part : List Value) (hx : a.eval x = .pointer (some ⟨g, off, none⟩)) (hb : Bk w g t cs) (hp : (cs.drop off).take part.length = part)
    (hu : P.underlying ty = some d) (hd : d.isRow = true) (hi : (P.info? ty).map (·.size) = some part.length) (h : wpList P ops Q rest (a.put o.dst (.agg part.toArray)) w) : wpList P ops Q (o :: rest) a w := by
  unfold wpList
  rw [if_pos hw]
  refine .inl (wp_load_mid ty x ho g off hx part d (fun j v hv => ?_) hu hd hi h)
  rw [hb.cell]
  rw [← hp, List.getElem?_take] at hv
  split at hv
  · rw [List.getElem?_drop] at hv; exact hv
  · cases hv
/-- an aggregate stored over a whole block -/
theorem wpList_stA {P : Program} {w : World} {ops : Array Oper} {rest : List Oper} {o : Oper} {a : Act} {Q : Exit → Act → World → Prop} (ty : TypeId) (x y : Operand) (ho : o.op = .store ty x y) (hgd : o.guard = none)
    {g : Nat} {t : TypeId} (new old : List Value) (hl : new.length = old.length) (h1 : ∀ u ∈ new, u.oneCell' = true) (hx : a.eval x = .pointer (some ⟨g, 0, none⟩)) (hy : a.eval y = .agg new.toArray) (hb : Bk w g t old)
    (hi : (P.info? ty).map (·.size) = some new.length) (h : ∀ w', Bk w' g t new → w.grownBy w' (some g) → wpList P ops Q rest (a.put o.dst undef) w') : wpList P ops Q (o :: rest) a w := by
  refine wpList_store_mid hgd ty x y ho g 0 new.toArray hx hy (fun j hj => ?_) (by simpa using hi) (all_oneCell_toArray h1) (h _ ?_ ?_)
  · rw [Nat.zero_add]
    have hj' : j < old.length := by rw [← hl]; simpa using hj
    exact ⟨by rw [hb.cell, List.getElem?_eq_getElem hj']; rfl, hb.frozen j⟩
  · have := Bk.setCells new old 0 hb (by omega)
    simpa using this
  · generalize 0 = k
    clear hi h hb hy hl
    induction new generalizing w k with
    | nil => exact World.grownBy.refl _ _
    | cons v r ih => exact (grownBy_setCell _ _ _ _).trans (ih (fun u hu => h1 u (List.mem_cons_of_mem _ hu)) _)
/-- an operation whose value is known -/
theorem wpList_build {P : Program} {w : World} {ops : Array Oper} {rest : List Oper} {o : Oper} {a : Act} {Q : Exit → Act → World → Prop} (ty : TypeId) (ps : List (Nat × Operand)) (ho : o.op = .build ty ps.toArray) (hgd : o.guard = none) (v : Value)
    (hv : (Instr.build ty (ps.map fun p => (p.1, a.eval p.2)).toArray).run P w = .ok v w) (h : wpList P ops Q rest (a.put o.dst v) w) : wpList P ops Q (o :: rest) a w := by
  refine wpList_plain hgd fun _ hK => ?_
  unfold Oper.wp execOp
  simp only [ho, Sem.run_bind, List.map_toArray, hv, Result.andThen_ok, Sem.run_pure]
  exact hK _ _ h
theorem below_grown {w w1 w2 : World} {g : Nat} (h : Below w.heap.size w w1) (hg : w1.grownBy w2 (some g)) (hl : w.heap.size ≤ g) : Below w.heap.size w w2 :=
  h.trans (below_of_grown hg h.size (fun k hk => by injection hk with hk; omega))
theorem Bk.newK {W : World} {k : Nat} (t : TypeId) (cs : Array Value) (l : List Value) (hk : k = W.heap.size) (hl : cs.toList = l) : Bk (W.alloc (.cells cs t)) k t l := by
  subst hk
  subst hl
  exact Bk.new W t cs
theorem Below.allocS {a w : World} (h : Below a.heap.size a w) (o : Obj) : Below a.heap.size a (w.alloc o) := h.alloc h.size o
def MP.blk (base : Nat) (t : TypeId) (cs : List Value) : MP := ⟨fun v w => ∃ g, v = .pointer (some ⟨g, 0, none⟩) ∧ base ≤ g ∧ Bk w g t cs, fun _ _ _ ⟨g, h1, h2, h3⟩ h => ⟨g, h1, h2, h3.later h.below⟩⟩
end Go.Proofs.Ytepodflinhpejaa

/- octet.Put without room; addr.Bytes, addr.Key. -/
namespace Go.Proofs.Ytepodflinhpejaa
open Go.RowKit
set_option linter.unusedVariables false
set_option linter.unusedSimpArgs false
attribute [local go_sem ↓] sliced_cut

attribute [local go_sem] cutA_zero

/-- The call returns new bytes l without room, and changes nothing that was there. -/
def RetF (w : World) (l : List UInt8) (e : Ending) (w' : World) : Prop := ∃ A n bs d, e = .returned (.slice A n n) ∧ w' = plus w bs d ∧ Ob (plus w bs d) w.heap.size A n n l
theorem RetF.mk {w w' : World} {l : List UInt8} {A : Option Addr} {n : Nat} (ho : Ob w' w.heap.size A n n l) (hb : Below w.heap.size w w') : RetF w l (.returned (.slice A n n)) w' := by
  obtain ⟨bs, d, rfl⟩ := plus_of hb
  exact ⟨A, n, bs, d, rfl, rfl, ho⟩
theorem RetV.is_ {w w' : World} {v v' : Value} (hv : v' = v) (hb : Below w.heap.size w w') : RetV w v (.returned v') w' := by
  subst hv
  exact RetV.mk hb
/-- new bytes without room, in a block from base on -/
def MP.of (base : Nat) (l : List UInt8) : MP := ⟨fun v w => ∃ A n, v = .slice A n n ∧ Ob w base A n n l, fun _ _ _ ⟨A, n, h1, h2⟩ h => ⟨A, n, h1, h2.later h.below⟩⟩

end Go.Proofs.Ytepodflinhpejaa

/- A region that draws its order and builds structs or rows in new blocks: stores into the new blocks may stand anywhere among the other operations. -/
namespace Go.Proofs.Ytepodflinhpejaa
open Go.RowKit
set_option linter.unusedVariables false
set_option linter.unusedSimpArgs false

/-- what a value v is good for, beside the value u of another operation; it stays so as memory grows, and as blocks of the types S are written -/
structure MW (base : Nat) (S : TypeId → Bool) where
  p : Value → Value → World → Prop
  ex : ∀ v u w w', p v u w → Ex w w' → p v u w'
  st : ∀ v u w b t cs k x, p v u w → Bk w b t cs → S t = true → base ≤ b → p v u (w.setCell ⟨b, k, none⟩ x)
section
variable {base : Nat} {S : TypeId → Bool}
def MW.any : MW base S := ⟨fun _ _ _ => True, fun _ _ _ _ _ _ => trivial, fun _ _ _ _ _ _ _ _ _ _ _ _ => trivial⟩
def MW.eq (c : Value) : MW base S := ⟨fun v _ _ => v = c, fun _ _ _ _ h _ => h, fun _ _ _ _ _ _ _ _ h _ _ _ => h⟩
/-- a slice over the other's block -/
def MW.sl (n : Nat) : MW base S := ⟨fun v u _ => ∃ b, u = .pointer (some ⟨b, 0, none⟩) ∧ v = .slice (some ⟨b, 0, none⟩) n n, fun _ _ _ _ h _ => h, fun _ _ _ _ _ _ _ _ h _ _ _ => h⟩
/-- no more than that it is a word that holds of the value alone -/
def MW.of (q : Value → Prop) : MW base S := ⟨fun v _ _ => q v, fun _ _ _ _ h _ => h, fun _ _ _ _ _ _ _ _ h _ _ _ => h⟩
theorem Ob.setB {w : World} {A : Option Addr} {n c : Nat} {l : List UInt8} {b : Nat} {t : TypeId} {cs : List Value} {k : Nat} {x : Value} (h : Ob w base A n c l) (hb : Bk w b t cs) (ht : t ≠ 5) : Ob (w.setCell ⟨b, k, none⟩ x) base A n c l := by
  refine h.grown (grownBy_setCell w b k x) fun j hj e => ?_
  injection e with e
  subst e
  rcases h.2.2 with ⟨hv, _⟩ | ⟨g, cap, cur, hv, _, hg, _⟩
  · rw [hv] at hj
    simp [Value.ownBlock] at hj
  · rw [hv] at hj
    simp [Value.ownBlock] at hj
    subst hj
    rw [Bk] at hb
    rw [hb] at hg
    injection hg with hg
    injection hg with _ h2
    exact ht h2
theorem S_ne {t : TypeId} (hS : S 5 = false) (ht : S t = true) : t ≠ 5 := fun e => by subst e; rw [hS] at ht; cases ht
/-- new bytes -/
def MW.ob (hS : S 5 = false) (l : List UInt8) : MW base S := ⟨fun v _ w => ∃ A n c, v = .slice A n c ∧ Ob w base A n c l, fun _ _ _ _ ⟨A, n, c, h1, h2⟩ h => ⟨A, n, c, h1, h2.later h.below⟩,
  fun _ _ _ _ _ _ _ _ ⟨A, n, c, h1, h2⟩ hb hs _ => ⟨A, n, c, h1, h2.setB hb (S_ne hS hs)⟩⟩
end

/-- where a stored value comes from: another operation of the region, or it is known -/
inductive BSrc | op (j : Nat) | val (v : Value)
def BSrc.get (vs : Nat → Value) : BSrc → Value | .op j => vs j | .val v => v
/-- a block that is built: the operation that makes it, its cells' type, its cells as they are made, the stores into it: operation, cell, value -/
structure Bld where
  a : Nat
  t : TypeId
  cs : List Value
  sts : List (Nat × Nat × BSrc)
def Bld.at_ (B : Bld) (done : Nat → Bool) (vs : Nat → Value) (k : Nat) : Value :=
  match B.sts.find? (fun e => e.2.1 == k) with
  | some e => if done e.1 then e.2.2.get vs else B.cs.getD k undef
  | none => B.cs.getD k undef
def Bld.cells (B : Bld) (done : Nat → Bool) (vs : Nat → Value) : List Value := (List.range B.cs.length).map (B.at_ done vs)
def nodupB : List Nat → Bool
  | [] => true
  | x :: r => !r.contains x && nodupB r
theorem nodup_of : ∀ {l : List Nat}, nodupB l = true → l.Nodup
  | [], _ => List.nodup_nil
  | x :: r, h => by
    simp only [nodupB, Bool.and_eq_true, Bool.not_eq_true'] at h
    refine List.nodup_cons.2 ⟨fun hm => ?_, nodup_of h.2⟩
    have : r.contains x = true := by simpa using hm
    rw [this] at h
    exact absurd h.1 (by simp)

section
variable {P : Program} {Q : Exit → Act → World → Prop}
/-- operation i waits for operation j, over at most f others -/
def tw (ops : Array Oper) (n : Nat) : Nat → Nat → Nat → Bool
  | 0, i, j => Region.waitsFor .any ops i j
  | f + 1, i, j => Region.waitsFor .any ops i j || (List.range n).any fun k => Region.waitsFor .any ops i k && tw ops n f k j
theorem tw_listed {ops : Array Oper} {n : Nat} {listed : Array Bool} (inv : HeadInv .any ops n listed) : ∀ (f i j : Nat), (∀ k, Region.waitsFor .any ops i k = true → listed.getD k false = true) → tw ops n f i j = true → listed.getD j false = true
  | 0, i, j, h, ht => h j ht
  | f + 1, i, j, h, ht => by
    simp only [tw, Bool.or_eq_true] at ht
    rcases ht with ht | ht
    · exact h j ht
    · obtain ⟨k, _, hk⟩ := List.any_eq_true.1 ht
      simp only [Bool.and_eq_true] at hk
      refine tw_listed inv f k j (fun k' hk' => ?_) hk.2
      obtain ⟨ok, hok, e, he, hb, hon⟩ := Region.waitsFor_spec hk'
      rw [← hon]
      exact inv.closed k ok hok (h k hk.1) e he hb
end
end Go.Proofs.Ytepodflinhpejaa

/- A region that draws its order, some of whose operations change known blocks, one behind the other (calls on a reader): the others read, or make memory. -/
namespace Go.Proofs.Ytepodflinhpejaa
open Go.RowKit
set_option linter.unusedVariables false
set_option linter.unusedSimpArgs false

/-- w' is w with other cells in the blocks D, and more blocks -/
structure Chg (D : Nat → Prop) (w w' : World) : Prop where
  os : w'.os = w.os
  tape : w'.tape = w.tape
  output : w'.output = w.output
  size : w.heap.size ≤ w'.heap.size
  block : ∀ b, b < w.heap.size → ¬ D b → w'.heap[b]? = w.heap[b]?
section
variable {D : Nat → Prop} {w w' w'' : World}
theorem Chg.refl (w : World) : Chg D w w := ⟨rfl, rfl, rfl, Nat.le_refl _, fun _ _ _ => rfl⟩
theorem Chg.trans (h : Chg D w w') (h' : Chg D w' w'') : Chg D w w'' := ⟨h'.os.trans h.os, h'.tape.trans h.tape, h'.output.trans h.output, Nat.le_trans h.size h'.size, fun b hb hd => (h'.block b (Nat.lt_of_lt_of_le hb h.size) hd).trans (h.block b hb hd)⟩
theorem Chg.below {B : Nat} (h : Chg D w w') (hD : ∀ b, D b → B ≤ b) (hB : B ≤ w.heap.size) : Below B w w' := ⟨h.os, h.tape, h.output, h.size, fun b hb => h.block b (by omega) (fun hd => by have := hD b hd; omega)⟩
theorem Chg.of_below (h : Below w.heap.size w w') : Chg D w w' := ⟨h.os, h.tape, h.output, h.size, fun b hb _ => h.block b hb⟩
theorem Chg.ex (h : Ex w w') : Chg D w w' := .of_below h.below
theorem Chg.grown {row : Option Nat} (h : w.grownBy w' row) (hr : ∀ k, row = some k → D k) : Chg D w w' := ⟨h.os, h.tape, h.output, h.size, fun b hb hd => h.block b hb (fun e => hd (hr b e.symm))⟩
theorem Bk.chg {g : Nat} {t : TypeId} {cs : List Value} (h : Bk w g t cs) (hc : Chg D w w') (hd : ¬ D g) : Bk w' g t cs := (hc.block g h.lt hd).trans h
theorem Rb.chg {A : Option Addr} {n c : Nat} {l : List UInt8} (h : Rb w A n c l) (hc : Chg D w w') (hd : ∀ a, A = some a → ¬ D a.block) : Rb w' A n c l := by
  refine ⟨h.1, h.2.1, ?_⟩
  rcases h.2.2 with h' | ⟨b, off, hA, hb, hcell⟩
  · exact .inl h'
  · exact .inr ⟨b, off, hA, Nat.lt_of_lt_of_le hb hc.size, fun i u hu => (World.cell?_of_block (hc.block b hb (hd _ hA))).trans (hcell i u hu)⟩
theorem Ob.chg {base : Nat} {A : Option Addr} {n c : Nat} {l : List UInt8} (h : Ob w base A n c l) (hc : Chg D w w') (hd : ∀ b, D b → b < base) : Ob w' base A n c l := by
  refine ⟨h.1, h.2.1, ?_⟩
  rcases h.2.2 with h' | ⟨g, cap, cur, hv, hg, hh, hr⟩
  · exact .inl h'
  · refine .inr ⟨g, cap, cur, hv, hg, ?_, hr⟩
    rw [hc.block g (by rcases Nat.lt_or_ge g w.heap.size with h1 | h1; exact h1; rw [Array.getElem?_eq_none h1] at hh; cases hh) (fun hd' => by have := hd g hd'; omega)]
    exact hh
end
/-- what a value is good for, whatever happens in the blocks D -/
structure MC (D : Nat → Prop) where
  p : Value → World → Prop
  mono : ∀ v w w', p v w → Chg D w w' → p v w'
def MC.any {D : Nat → Prop} : MC D := ⟨fun _ _ => True, fun _ _ _ _ _ => trivial⟩
def MC.eq {D : Nat → Prop} (c : Value) : MC D := ⟨fun v _ => v = c, fun _ _ _ h _ => h⟩
def MC.ob {D : Nat → Prop} (base : Nat) (hd : ∀ b, D b → b < base) (l : List UInt8) : MC D := ⟨fun v w => ∃ A n c, v = .slice A n c ∧ Ob w base A n c l, fun _ _ _ ⟨A, n, c, h1, h2⟩ h => ⟨A, n, c, h1, h2.chg h hd⟩⟩
def MC.blk {D : Nat → Prop} (base : Nat) (hd : ∀ b, D b → b < base) (t : TypeId) (cs : List Value) : MC D := ⟨fun v w => ∃ g, v = .pointer (some ⟨g, 0, none⟩) ∧ base ≤ g ∧ Bk w g t cs, fun _ _ _ ⟨g, h1, h2, h3⟩ h => ⟨g, h1, h2, h3.chg h (fun hg => by have := hd g hg; omega)⟩⟩

section
variable {P : Program} {Q : Exit → Act → World → Prop}
structure SInv (ops : Array Oper) (n : Nat) (a0 : Act) (w0 : World) {D : Nat → Prop} (Φ : Nat → MC D) (cs : List Nat) (St : Nat → World → Prop) (listed : Array Bool) (A : Act) (w : World) : Prop where
  head : HeadInv .any ops n listed
  chg : Chg D w0 w
  size : A.tmps.size = a0.tmps.size
  defers : A.defers = a0.defers
  out : ∀ s, (∀ j, j < n → ∀ o, ops[j]? = some o → listed.getD j false = true → o.dst ≠ some s) → A.eval (.tmp s) = a0.eval (.tmp s)
  ins : ∀ j, j < n → ∀ o s, ops[j]? = some o → listed.getD j false = true → o.dst = some s → (Φ j).p (A.eval (.tmp s)) w
  st : St (cs.filter fun j => listed.getD j false).length w

theorem filter_first {p : Nat → Bool} : ∀ (cs : List Nat) (k : Nat), k ≤ cs.length → (∀ j, j < k → p (cs.getD j 0) = true) → (∀ j, k ≤ j → j < cs.length → p (cs.getD j 0) = false) → (cs.filter p).length = k
  | [], k, h, _, _ => by simp at h ⊢; omega
  | x :: r, 0, _, _, h2 => by
    have h0 := h2 0 (by omega) (by simp)
    simp only [List.getD_cons_zero] at h0
    rw [List.filter_cons, h0]
    exact filter_first r 0 (by omega) (by omega) (fun j h3 h4 => by have := h2 (j + 1) (by omega) (by simp; omega); simpa using this)
  | x :: r, k + 1, h, h1, h2 => by
    have h0 := h1 0 (by omega)
    simp only [List.getD_cons_zero] at h0
    rw [List.filter_cons, h0]
    simp only [if_true, List.length_cons]
    rw [filter_first r k (by simp at h; omega) (fun j h3 => by have := h1 (j + 1) (by omega); simpa using this) (fun j h3 h4 => by have := h2 (j + 1) (by omega) (by simp; omega); simpa using this)]

end
end Go.Proofs.Ytepodflinhpejaa

/- A region that draws its order, some of whose operations change known blocks, one behind the other; these may be stores (no slot). -/
namespace Go.Proofs.Ytepodflinhpejaa
open Go.RowKit
set_option linter.unusedVariables false
set_option linter.unusedSimpArgs false

/-- an aggregate stored over a whole block, as one operation -/
theorem wp_stA {P : Program} {w : World} {o : Oper} {a : Act} {K : Act → World → Prop} {Q : Exit → Act → World → Prop} (ty : TypeId) (x y : Operand) (ho : o.op = .store ty x y)
    {g : Nat} {t : TypeId} (new old : List Value) (hl : new.length = old.length) (h1 : ∀ u ∈ new, u.oneCell' = true) (hx : a.eval x = .pointer (some ⟨g, 0, none⟩)) (hy : a.eval y = .agg new.toArray) (hb : Bk w g t old)
    (hi : (P.info? ty).map (·.size) = some new.length) (h : ∀ w', Bk w' g t new → w.grownBy w' (some g) → K (a.put o.dst undef) w') : o.wp P a w K Q := by
  refine wp_store_mid ty x y ho g 0 new.toArray hx hy (fun j hj => ?_) (by simpa using hi) (all_oneCell_toArray h1) (h _ ?_ ?_)
  · rw [Nat.zero_add]
    have hj' : j < old.length := by rw [← hl]; simpa using hj
    exact ⟨by rw [hb.cell, List.getElem?_eq_getElem hj']; rfl, hb.frozen j⟩
  · have := Bk.setCells new old 0 hb (by omega)
    simpa using this
  · generalize 0 = k
    clear hi h hb hy hl
    induction new generalizing w k with
    | nil => exact World.grownBy.refl _ _
    | cons v r ih => exact (grownBy_setCell _ _ _ _).trans (ih (fun u hu => h1 u (List.mem_cons_of_mem _ hu)) _)
theorem Chg.one {D : Nat → Prop} {w w' : World} {g : Nat} (h : w.grownBy w' (some g)) (hg : D g) : Chg D w w' := Chg.grown h (fun k hk => by injection hk with hk; subst hk; exact hg)
section
variable {P : Program} {Q : Exit → Act → World → Prop}
def suB (ops : Array Oper) (n N : Nat) (cs : List Nat) (f : Nat) : Bool :=
  decide (n ≤ ops.size) && (decide (n = ops.size) || (Region.sinkB .any ops n && Region.chainB .any ops n)) &&
  Region.seqB .any ops (ops.size - n) n ((List.range ops.size).map fun i => decide (i < n)).toArray &&
  ((List.range n).all fun i => match ops[i]? with
    | none => false
    | some o => (match o.dst with | some s => decide (s < N) | none => true) && (o.after.all fun e => !Region.binds .any e || decide (e.on < i)) &&
      (List.range n).all fun j => j == i || (match o.dst, (ops[j]?).bind (·.dst) with | some s, some s' => s != s' | _, _ => true)) &&
  (cs.all fun i => decide (i < n)) && ((List.range cs.length).all fun k => (List.range k).all fun j => tw ops n f (cs.getD k 0) (cs.getD j 0)) && nodupB cs

theorem wp_su {id : Nat} {a : Act} {w : World} {l : List Oper} (D : Nat → Prop) (n N f : Nat) (cs : List Nat) (hN : a.tmps.size = N) (hm : P.follows .mixedOrders = true) (hB : suB l.toArray n N cs f = true) (Φ : Nat → MC D)
    (St : Nat → World → Prop) (hSt : ∀ k w w', St k w → Ex w w' → St k w') (h0 : St 0 w)
    (step : ∀ i, i < n → ∀ o, l[i]? = some o → cs.contains i = false → ∀ (A : Act) (w' : World), Chg D w w' → (∀ s, outB l.toArray n i s = true → A.eval (.tmp s) = a.eval (.tmp s)) → (∀ j s, depB l.toArray n i j s = true → (Φ j).p (A.eval (.tmp s)) w') →
      ∀ K : Act → World → Prop, Shut (∀ v w'', Ex w' w'' → (Φ i).p v w'' → K (A.put o.dst v) w'') → if Region.wanted o (yielded l.toArray A.tmps) = true then o.wp P A w' K Q else K (A.put o.dst undef) w')
    (move : ∀ k i, cs[k]? = some i → ∀ o, l[i]? = some o → ∀ (A : Act) (w' : World), Chg D w w' → St k w' → (∀ s, outB l.toArray n i s = true → A.eval (.tmp s) = a.eval (.tmp s)) → (∀ j s, depB l.toArray n i j s = true → (Φ j).p (A.eval (.tmp s)) w') →
      ∀ K : Act → World → Prop, Shut (∀ v w'', Chg D w' w'' → St (k + 1) w'' → (Φ i).p v w'' → K (A.put o.dst v) w'') → if Region.wanted o (yielded l.toArray A.tmps) = true then o.wp P A w' K Q else False)
    (fin : ∀ (vs : Nat → Value) (w' : World), Chg D w w' → St cs.length w' → (∀ i, i < n → ((l[i]?).bind (·.dst)).isSome = true → (Φ i).p (vs i) w') → wpList P l.toArray Q (l.drop n) (putAll (l.take n) vs 0 a) w') : (Code.region id l.toArray true).wp P Q a w := by
  unfold suB at hB
  simp only [Bool.and_eq_true, decide_eq_true_eq] at hB
  obtain ⟨⟨⟨⟨⟨⟨hn, htail⟩, hseq⟩, hall⟩, hcn⟩, hcc⟩, hcd⟩ := hB
  have hal : ∀ i, i < n → ∃ o, l.toArray[i]? = some o ∧ (∀ s, o.dst = some s → s < N) ∧ (∀ e ∈ o.after, Region.binds .any e = true → e.on < i) ∧ ∀ j, j < n → j ≠ i → ∀ oj, l.toArray[j]? = some oj → ∀ s s', o.dst = some s → oj.dst = some s' → s ≠ s' := by
    intro i hi
    have h1 := List.all_eq_true.1 hall i (List.mem_range.2 hi)
    cases ho : l.toArray[i]? with
    | none => rw [ho] at h1; cases h1
    | some o =>
      rw [ho] at h1
      simp only [Bool.and_eq_true] at h1
      obtain ⟨⟨h2, h3⟩, h4⟩ := h1
      refine ⟨o, rfl, fun s hs => ?_, fun e he hb => ?_, fun j hj hji oj hoj s s' hs hs' => ?_⟩
      · rw [hs] at h2; simpa using h2
      · have := (Array.all_eq_true_iff_forall_mem.1 h3) e he
        rw [hb] at this
        simpa using this
      · have h6 := List.all_eq_true.1 h4 j (List.mem_range.2 hj)
        rw [hoj, hs] at h6
        simp [hs', hji] at h6
        exact h6
  have main : ∀ (q : Nat) (listed : Array Bool) (A : Act) (w' : World), SInv l.toArray n a w Φ cs St listed A w' → cnt listed n = q → wpAny P .any l.toArray Q (q + (l.toArray.size - n)) listed A w' := by
    intro q
    induction q with
    | zero =>
      intro listed A w' inv hc
      have hl : ∀ i, i < n → listed.getD i true = true := cnt_zero n hc
      have hlf : ∀ i, i < n → listed.getD i false = true := fun i hi => by
        have := hl i hi
        have hsz : i < listed.size := by rw [inv.head.size]; omega
        simpa [hsz] using this
      have el : listed = ((List.range l.toArray.size).map fun i => decide (i < n)).toArray := by
        apply Array.ext
        · simp [inv.head.size]
        · intro i h1 h2
          by_cases hi : i < n
          · have := hl i hi
            simp only [Array.getD_eq_getD_getElem?, Array.getElem?_eq_getElem h1, Option.getD_some] at this
            simp [this, hi]
          · have := inv.head.tail i (by omega) (by rw [← inv.head.size]; exact h1)
            simp only [Array.getD_eq_getD_getElem?, Array.getElem?_eq_getElem h1, Option.getD_some] at this
            simp [this, hi]
      have eA : A = putAll (l.take n) (fun j => ((l.toArray[j]?).bind (·.dst)).elim undef (fun s => A.eval (.tmp s))) 0 a := by
        refine act_ext (by rw [putAll_size, inv.size]) (by rw [putAll_defers, inv.defers]) fun s hs => ?_
        have H := putAll_eval A s (l.take n) (fun j => ((l.toArray[j]?).bind (·.dst)).elim undef (fun s => A.eval (.tmp s))) 0 a (by rw [← inv.size]; exact hs) (fun j o hj hd => by
          have hjn : j < n := by
            have := (List.getElem?_eq_some_iff.1 hj).1
            simp at this
            omega
          have : l.toArray[j]? = some o := by simpa [hjn] using hj
          simp [this, hd])
        by_cases he : ∃ o ∈ l.take n, o.dst = some s
        · exact (H.1 he).symm
        · rw [H.2 (fun o h h' => he ⟨o, h, h'⟩)]
          refine inv.out s fun j hj o ho _ hd => he ⟨o, ?_, hd⟩
          rw [List.mem_take_iff_getElem]
          have hjl := (Array.getElem?_eq_some_iff.1 ho)
          obtain ⟨h1, h2⟩ := hjl
          exact ⟨j, by simp at h1; omega, by simpa using h2⟩
      rw [Nat.zero_add]
      have hst := inv.st
      rw [List.filter_eq_self.2 (fun j hj => hlf j (by simpa using List.all_eq_true.1 hcn j hj))] at hst
      have := wpAny_of_seq (md := .any) (Q' := Q) (P := P) (ops := l.toArray) (l.drop n) n listed A w' (fun j => by simp [List.getElem?_drop]) (by
        rw [el]
        have : (l.drop n).length = l.toArray.size - n := by simp
        rw [this]
        exact hseq) (by
        rw [eA]
        refine fin _ w' inv.chg hst fun i hi his => ?_
        obtain ⟨o, ho, _⟩ := hal i hi
        have hol : l[i]? = some o := by simpa using ho
        rw [hol] at his
        obtain ⟨s, hd⟩ := Option.isSome_iff_exists.1 his
        have hd' : o.dst = some s := hd
        have := inv.ins i hi o s ho (hlf i hi) hd'
        simpa [ho, hd'] using this)
      have e2 : (l.drop n).length = l.toArray.size - n := by simp
      rwa [e2] at this
    | succ q ih =>
      intro listed A w' inv hc
      rw [show q + 1 + (l.toArray.size - n) = (q + (l.toArray.size - n)) + 1 by omega]
      obtain ⟨i0, hi0, hun0, hprev⟩ := cnt_first n (by rw [hc]; omega)
      have hready0 : i0 ∈ Region.ready .any l.toArray listed := by
        obtain ⟨o, ho, _, hlt, _⟩ := hal i0 hi0
        refine mem_ready.2 ⟨hun0, o, ho, fun e he hb => ?_⟩
        have h1 := hlt e he hb
        have h2 := hprev e.on h1
        have hsz : e.on < listed.size := by rw [inv.head.size]; have := (Array.getElem?_eq_some_iff.1 ho).1; omega
        simpa [hsz] using h2
      refine ⟨fun h => (by rw [h] at hready0; cases hready0), fun i hi => ?_⟩
      obtain ⟨hun, o, ho, hdeps⟩ := mem_ready.1 hi
      have hin : i < n := by
        rcases Nat.lt_or_ge i n with h | h
        · exact h
        · have hsz := (Array.getElem?_eq_some_iff.1 ho).1
          simp only [Bool.or_eq_true, decide_eq_true_eq, Bool.and_eq_true] at htail
          rcases htail with ht | ht
          · omega
          · exact absurd hi (tail_waits ht.1 ht.2 (by omega) inv.head _ i0 rfl hi0 hun0 i h)
      obtain ⟨o', ho', hsN, hlt, hother⟩ := hal i hin
      have : o' = o := Option.some.inj (ho'.symm.trans ho)
      subst this
      have unl : ∀ j, listed.getD j false = true → j ≠ i := fun j hj e => by subst e; rw [getD_both hun] at hj; cases hj
      have hsz : i < listed.size := by rw [inv.head.size]; exact (Array.getElem?_eq_some_iff.1 ho).1
      have outs : ∀ s', outB l.toArray n i s' = true → A.eval (.tmp s') = a.eval (.tmp s') := fun s' hs' => inv.out s' fun j hj oj hoj hlj hdj => by
          have h1 := List.all_eq_true.1 hs' j (List.mem_range.2 hj)
          have hji := unl j hlj
          rw [hoj] at h1
          simp only [Option.bind_some, hdj] at h1
          simp only [Bool.or_eq_true, beq_iff_eq, bne_self_eq_false, Bool.false_eq_true, false_or] at h1
          rcases h1 with h1 | h1
          · exact hji h1
          · obtain ⟨oj', hoj', e, he, hb, hon⟩ := Region.waitsFor_spec h1
            have : oj' = oj := Option.some.inj (hoj'.symm.trans hoj)
            subst this
            have h2 := inv.head.closed j oj' hoj hlj e he hb
            rw [hon, getD_both hun] at h2
            cases h2
      have wl : ∀ j, Region.waitsFor .any l.toArray i j = true → listed.getD j false = true := fun j hw => by
          obtain ⟨oi, hoi, e, he, hb, hon⟩ := Region.waitsFor_spec hw
          have : oi = o' := Option.some.inj (hoi.symm.trans ho)
          subst this
          rw [← hon]
          exact hdeps e he hb
      have deps : ∀ j s', depB l.toArray n i j s' = true → (Φ j).p (A.eval (.tmp s')) w' := fun j s' hs' => by
          simp only [depB, Bool.and_eq_true, decide_eq_true_eq] at hs'
          obtain ⟨⟨hj, hw⟩, hds⟩ := hs'
          have hlj := wl j hw
          cases hoj : l.toArray[j]? with
          | none => rw [hoj] at hds; simp at hds
          | some oj =>
            rw [hoj] at hds
            simp only [Option.bind_some, beq_iff_eq] at hds
            exact inv.ins j hj oj s' hoj hlj hds
      have lst' : ∀ j, j ≠ i → (listed.setIfInBounds i true).getD j false = listed.getD j false := fun j hj => getD_set_ne false (Ne.symm hj)
      have next : ∀ v w'', Chg D w' w'' → St (cs.filter fun j => (listed.setIfInBounds i true).getD j false).length w'' → (Φ i).p v w'' → wpAny P .any l.toArray Q (q + (l.toArray.size - n)) (listed.setIfInBounds i true) (A.put o'.dst v) w'' := by
        intro v w'' hex hst hp
        refine ih _ _ _ ?_ ?_
        · refine ⟨inv.head.set hi hin, inv.chg.trans hex, by rw [size_put, inv.size], by rw [defers_put, inv.defers], fun s' hs' => ?_, fun j hj oj s' hoj hlj hdj => ?_, hst⟩
          · rw [Act.eval_put (fun d hd' e => by
              injection e with e
              subst e
              exact hs' i hin o' ho (by simp [hsz]) hd')]
            refine inv.out s' fun j hj oj hoj hlj => hs' j hj oj hoj (getD_set_true hlj)
          · by_cases hji : j = i
            · subst hji
              have : oj = o' := Option.some.inj (hoj.symm.trans ho)
              subst this
              rw [hdj, eval_put_same (by rw [inv.size, hN]; exact hsN s' hdj)]
              exact hp
            · have hlj' : listed.getD j false = true := by rw [lst' j hji] at hlj; exact hlj
              rw [Act.eval_put (fun d hd' e => by
                injection e with e
                exact hother j hj hji oj hoj d s' hd' hdj e.symm)]
              exact (Φ j).mono _ _ _ (inv.ins j hj oj s' hoj hlj' hdj) hex
        · have := cnt_set hun n
          rw [if_pos hin] at this
          omega
      cases hci : cs.contains i with
      | false =>
        have hsame : (cs.filter fun j => (listed.setIfInBounds i true).getD j false) = cs.filter fun j => listed.getD j false := by
          refine List.filter_congr fun j hj => lst' j (fun e => ?_)
          subst e
          have : cs.contains j = true := by simpa using hj
          rw [this] at hci
          cases hci
        have hs := step i hin o' (by simpa using ho) hci A w' inv.chg outs deps (wpAny P .any l.toArray Q (q + (l.toArray.size - n)) (listed.setIfInBounds i true)) (fun v w'' hex hp => next v w'' (Chg.ex hex) (by rw [hsame]; exact hSt _ _ _ inv.st hex) hp)
        unfold wpOp
        rw [ho]
        simp only
        split
        · rename_i hw
          rw [if_pos hw] at hs
          exact .inl hs
        · rename_i hw
          rw [if_neg hw] at hs
          exact hs
      | true =>
        have hmem : i ∈ cs := by simpa using hci
        obtain ⟨k, hk, hki⟩ := List.getElem_of_mem hmem
        have hki' : cs[k]? = some i := by rw [List.getElem?_eq_getElem hk, hki]
        have hkg : cs.getD k 0 = i := by simp [hki']
        have before : ∀ j, j < k → listed.getD (cs.getD j 0) false = true := fun j hj => by
          have h1 := List.all_eq_true.1 hcc k (List.mem_range.2 hk)
          have h2 := List.all_eq_true.1 h1 j (List.mem_range.2 hj)
          rw [hkg] at h2
          exact tw_listed inv.head f i _ wl h2
        have behind : ∀ j, k < j → j < cs.length → listed.getD (cs.getD j 0) false = false := fun j hj hjl => by
          cases hlj : listed.getD (cs.getD j 0) false with
          | false => rfl
          | true =>
            have h1 := List.all_eq_true.1 hcc j (List.mem_range.2 hjl)
            have h2 := List.all_eq_true.1 h1 k (List.mem_range.2 hj)
            rw [hkg] at h2
            have := tw_listed inv.head f _ i (fun k' hk' => by
              obtain ⟨ok, hok, e, he, hb, hon⟩ := Region.waitsFor_spec hk'
              rw [← hon]
              exact inv.head.closed _ ok hok hlj e he hb) h2
            exact absurd rfl (unl _ this)
        have cnow : (cs.filter fun j => listed.getD j false).length = k := filter_first cs k (by omega) before (fun j h1 h2 => by
          rcases Nat.eq_or_lt_of_le h1 with h3 | h3
          · subst h3
            rw [hkg]
            exact getD_both hun
          · exact behind j h3 h2)
        have nod := nodup_of hcd
        have cthen : (cs.filter fun j => (listed.setIfInBounds i true).getD j false).length = k + 1 := filter_first cs (k + 1) (by omega) (fun j hj => by
          by_cases hjk : j = k
          · subst hjk
            rw [hkg]
            simp [hsz]
          · exact getD_set_true (before j (by omega))) (fun j h1 h2 => by
          have hne : cs.getD j 0 ≠ i := fun e => by
            have e1 : cs[j]'h2 = cs[k]'hk := by rw [hki, ← e]; simp [h2]
            have := (List.getElem_inj nod).1 e1
            omega
          rw [lst' _ hne]
          exact behind j (by omega) h2)
        have hst := inv.st
        rw [cnow] at hst
        have hs := move k i hki' o' (by simpa using ho) A w' inv.chg hst outs deps (wpAny P .any l.toArray Q (q + (l.toArray.size - n)) (listed.setIfInBounds i true)) (fun v w'' hex hs' hp => next v w'' hex (by rw [cthen]; exact hs') hp)
        unfold wpOp
        rw [ho]
        simp only
        split
        · rename_i hw
          rw [if_pos hw] at hs
          exact .inl hs
        · rename_i hw
          rw [if_neg hw] at hs
          exact hs.elim
  refine wp_region_any hm ?_
  have H := main n (Array.replicate l.toArray.size false) a w.drew ⟨⟨by simp, fun j oj _ hl => (by rw [getD_replicate_false] at hl; cases hl), fun t _ ht => getD_in (by simpa using ht) (getD_replicate_false _ _)⟩,
    Chg.of_below ((Below.refl _ _).drew), rfl, rfl, fun s _ => rfl, fun j hj o s _ hl => (by rw [getD_replicate_false] at hl; cases hl), by
      rw [List.filter_eq_nil_iff.2 (fun j _ => by rw [getD_replicate_false]; simp)]
      exact hSt 0 w w.drew h0 (Ex.of ((Below.refl _ _).drew))⟩ (cnt_init _ n hn)
  rw [show n + (l.toArray.size - n) = l.toArray.size by omega] at H
  exact H
end
end Go.Proofs.Ytepodflinhpejaa

/- A region that draws its order: each operation's value has a word and owns blocks; an operation may change the blocks of the words that it consumes. -/
namespace Go.Proofs.Ytepodflinhpejaa
open Go.RowKit
set_option linter.unusedVariables false
set_option linter.unusedSimpArgs false

/-- the blocks F of w are as they were -/
structure Kept (F : Nat → Prop) (w w' : World) : Prop where
  os : w'.os = w.os
  tape : w'.tape = w.tape
  output : w'.output = w.output
  size : w.heap.size ≤ w'.heap.size
  block : ∀ b, b < w.heap.size → F b → w'.heap[b]? = w.heap[b]?
theorem Kept.refl (F : Nat → Prop) (w : World) : Kept F w w := ⟨rfl, rfl, rfl, Nat.le_refl _, fun _ _ _ => rfl⟩
theorem Kept.chg {F D : Nat → Prop} {w w' w'' : World} (h : Kept F w w') (h' : Chg D w' w'') (hd : ∀ b, F b → ¬ D b) : Kept F w w'' :=
  ⟨h'.os.trans h.os, h'.tape.trans h.tape, h'.output.trans h.output, Nat.le_trans h.size h'.size, fun b hb hf => (h'.block b (Nat.lt_of_lt_of_le hb h.size) (hd b hf)).trans (h.block b hb hf)⟩
theorem Kept.below {F : Nat → Prop} {w w' : World} {B : Nat} (h : Kept F w w') (hB : B ≤ w.heap.size) (hf : ∀ b, b < B → F b) : Below B w w' := ⟨h.os, h.tape, h.output, h.size, fun b hb => h.block b (by omega) (hf b hb)⟩
theorem Bk.kept {F : Nat → Prop} {w w' : World} {g : Nat} {t : TypeId} {cs : List Value} (h : Bk w g t cs) (hk : Kept F w w') (hf : F g) : Bk w' g t cs := (hk.block g h.lt hf).trans h
theorem Rb.kept {F : Nat → Prop} {w w' : World} {A : Option Addr} {n c : Nat} {l : List UInt8} (h : Rb w A n c l) (hk : Kept F w w') (hf : ∀ a, A = some a → a.block < w.heap.size → F a.block) : Rb w' A n c l := by
  refine ⟨h.1, h.2.1, ?_⟩
  rcases h.2.2 with h' | ⟨b, off, hA, hb, hc⟩
  · exact .inl h'
  · exact .inr ⟨b, off, hA, Nat.lt_of_lt_of_le hb hk.size, fun i u hu => (World.cell?_of_block (hk.block b hb (hf _ hA hb))).trans (hc i u hu)⟩
/-- a word of a value v, beside the value u of another operation, and the blocks that it owns -/
structure Own (prot : Nat → Prop) where
  p : Value → Value → World → Prop
  fp : Value → Value → Nat → Prop
  lt : ∀ v u w b, p v u w → fp v u b → b < w.heap.size
  keep : ∀ v u w w', p v u w → Kept (fun b => fp v u b ∨ prot b) w w' → p v u w'
section
variable {prot : Nat → Prop}
def Own.any : Own prot := ⟨fun _ _ _ => True, fun _ _ _ => False, fun _ _ _ _ _ h => h.elim, fun _ _ _ _ _ _ => trivial⟩
def Own.eq (c : Value) : Own prot := ⟨fun v _ _ => v = c, fun _ _ _ => False, fun _ _ _ _ _ h => h.elim, fun _ _ _ _ h _ => h⟩
/-- a block -/
def Own.blk (t : TypeId) (cs : List Value) : Own prot := ⟨fun v _ w => ∃ g, v = .pointer (some ⟨g, 0, none⟩) ∧ Bk w g t cs, fun v _ b => v = .pointer (some ⟨b, 0, none⟩),
  fun v u w b ⟨g, h1, h2⟩ h3 => (by rw [h1] at h3; injection h3 with h3; injection h3 with h3; injection h3 with h3; subst h3; exact h2.lt),
  fun v u w w' ⟨g, h1, h2⟩ hk => ⟨g, h1, h2.kept hk (.inl h1)⟩⟩
/-- own bytes, from base on -/
def Own.ob (base : Nat) (l : List UInt8) : Own prot := ⟨fun v _ w => ∃ A n c, v = .slice A n c ∧ Ob w base A n c l, fun v _ b => v.ownBlock = some b,
  fun v u w b ⟨A, n, c, h1, h2⟩ h3 => (by subst h1; exact (h2.blk b h3).2),
  fun v u w w' ⟨A, n, c, h1, h2⟩ hk => ⟨A, n, c, h1, by
    refine ⟨h2.1, h2.2.1, ?_⟩
    have hlt := h2.blk
    rcases h2.2.2 with h' | ⟨g, cap, cur, hv, hg, hh, hr⟩
    · exact .inl h'
    · have ho : (Value.slice A n c).ownBlock = some g := by rw [hv]; rfl
      refine .inr ⟨g, cap, cur, hv, hg, ?_, hr⟩
      rw [hk.block g (hlt g ho).2 (.inl (by subst h1; exact ho))]
      exact hh⟩⟩
/-- own bytes without room -/
def Own.of (base : Nat) (l : List UInt8) : Own prot := ⟨fun v _ w => ∃ A n, v = .slice A n n ∧ Ob w base A n n l, fun v _ b => v.ownBlock = some b,
  fun v u w b ⟨A, n, h1, h2⟩ h3 => (by subst h1; exact (h2.blk b h3).2),
  fun v u w w' ⟨A, n, h1, h2⟩ hk => ⟨A, n, h1, by
    obtain ⟨A', n', c', e1, e2⟩ := (Own.ob (prot := prot) base l).keep v u w w' ⟨A, n, n, h1, h2⟩ hk
    rw [h1] at e1
    injection e1 with x y z
    subst x y z
    exact e2⟩⟩
end
/-- a value that is made of another operation's value -/
def Own.fn {prot : Nat → Prop} (g : Value → Value) : Own prot := ⟨fun v u _ => v = g u, fun _ _ _ => False, fun _ _ _ _ _ h => h.elim, fun _ _ _ _ h _ => h⟩
theorem own_ptr {g b : Nat} (h : Value.pointer (some ⟨g, 0, none⟩) = .pointer (some ⟨b, 0, none⟩)) : g = b := by
  injection h with h
  injection h with h
  injection h with h
/-- a pointer's block, one of whose cells is a slice of own bytes without room (v) -/
def Own.holds {prot : Nat → Prop} (base : Nat) (t : TypeId) (cs : Value → List Value) (l : List UInt8) : Own prot := ⟨fun v u w => ∃ g A n, u = .pointer (some ⟨g, 0, none⟩) ∧ v = .slice A n n ∧ Bk w g t (cs v) ∧ Ob w base A n n l,
  fun v u b => u = .pointer (some ⟨b, 0, none⟩) ∨ v.ownBlock = some b,
  fun v u w b ⟨g, A, n, h1, h2, h3, h4⟩ h => (by
    rcases h with h | h
    · rw [h1] at h; rw [← own_ptr h]; exact h3.lt
    · subst h2; exact (h4.blk b h).2),
  fun v u w w' ⟨g, A, n, h1, h2, h3, h4⟩ hk => by
    refine ⟨g, A, n, h1, h2, h3.kept hk (.inl (.inl h1)), ?_⟩
    obtain ⟨A', n', e1, e2⟩ := (Own.of (prot := prot) base l).keep v u w w' ⟨A, n, h2, h4⟩ ⟨hk.os, hk.tape, hk.output, hk.size, fun b hb h => hk.block b hb (by rcases h with h | h; exact .inl (.inr h); exact .inr h)⟩
    rw [h2] at e1
    injection e1 with x y z
    subst x y
    exact e2⟩
section
variable {P : Program} {Q : Exit → Act → World → Prop}
end
end Go.Proofs.Ytepodflinhpejaa

/- What many texts need: numbers of bytes, rows that are appended, addresses, stores into the middle of a block. -/
namespace Go.Proofs.Ytepodflinhpejaa
open Go.RowKit
set_option linter.unusedVariables false
set_option linter.unusedSimpArgs false
attribute [local go_sem ↓] sliced_cut

attribute [local go_sem] cutA_zero

theorem wanted_ifG {ops : Array Oper} {o : Oper} {tmps : Array Value} {X Y : Prop} (h : Region.wanted o (yielded ops tmps) = true) (hx : X) : if Region.wanted o (yielded ops tmps) = true then X else Y := by
  rw [if_pos h]
  exact hx
theorem whole_ (cs : List Value) : (cs.drop 0).take cs.length = cs := by rw [List.drop_zero]; exact List.take_of_length_le (Nat.le_refl _)
theorem take_set_succ {α : Type} (l : List α) (o : Nat) (v : α) (h : o < l.length) : (l.set o v).take (o + 1) = l.take o ++ [v] := by
  rw [List.take_succ_eq_append_getElem (by simpa using h), List.take_set_of_le (Nat.le_refl _)]
  simp
theorem Bk.setMid {w : World} {g : Nat} {t : TypeId} : ∀ (new old : List Value) (o : Nat), Bk w g t old → o + new.length ≤ old.length → Bk (w.setCells g o new) g t (splice old o new) := by
  intro new
  induction new generalizing w with
  | nil => intro old o h hl; simp only [World.setCells, over_nil]; exact h
  | cons v r ih =>
    intro old o h hl
    simp only [List.length_cons] at hl
    have := ih (old.set o v) (o + 1) (h.set_ o v) (by simp; omega)
    have e : splice (old.set o v) (o + 1) r = splice old o (v :: r) := by
      unfold splice
      rw [take_set_succ old o v (by omega), List.drop_set_of_lt (by omega)]
      simp [Nat.add_assoc, Nat.add_comm 1]
    rw [e] at this
    exact this
/-- an aggregate stored into the middle of a block -/
theorem wpList_stM {P : Program} {w : World} {ops : Array Oper} {rest : List Oper} {o : Oper} {a : Act} {Q : Exit → Act → World → Prop} (ty : TypeId) (x y : Operand) (ho : o.op = .store ty x y) (hgd : o.guard = none)
    {g off : Nat} {t : TypeId} (new old : List Value) (hl : off + new.length ≤ old.length) (h1 : ∀ u ∈ new, u.oneCell' = true) (hx : a.eval x = .pointer (some ⟨g, off, none⟩)) (hy : a.eval y = .agg new.toArray) (hb : Bk w g t old)
    (hi : (P.info? ty).map (·.size) = some new.length) (h : ∀ w', Bk w' g t (splice old off new) → w.grownBy w' (some g) → wpList P ops Q rest (a.put o.dst undef) w') : wpList P ops Q (o :: rest) a w := by
  refine wpList_store_mid hgd ty x y ho g off new.toArray hx hy (fun j hj => ?_) (by simpa using hi) (all_oneCell_toArray h1) (h _ (Bk.setMid new old off hb hl) ?_)
  · have hj' : off + j < old.length := by simp at hj; omega
    exact ⟨by rw [hb.cell, List.getElem?_eq_getElem hj']; rfl, hb.frozen _⟩
  · generalize off = k
    clear hi h hb hy hl hx
    induction new generalizing w k with
    | nil => exact World.grownBy.refl _ _
    | cons v r ih => exact (grownBy_setCell _ _ _ _).trans (ih (fun u hu => h1 u (List.mem_cons_of_mem _ hu)) _)
end Go.Proofs.Ytepodflinhpejaa

/- Slices whose elements have s cells each (structs, ints): read, cut, owned, appended to. No program in sight. -/
namespace Go.Proofs.Ytepodflinhpejaa
open Go.RowKit Go.ChangeShapes Go.WideShapes
set_option linter.unusedVariables false
set_option linter.unusedSimpArgs false

/-- a slice type, its element type, the element's zero value, its cells and bytes -/
structure ET (P : Program) (ts e : TypeId) (z : Value) (s by_ : Nat) : Prop where
  sl : P.underlying ts = some (.slice e)
  info : (P.info? e).map (fun i => (i.zero, i.size, i.bytes)) = some (some z, s, by_)
  zs : z.cells.size = s
  pos : 0 < s
  small : by_ ≤ 64
/-- a slice reads as the cells cs -/
def Rs (s : Nat) (w : World) (A : Option Addr) (n c : Nat) (cs : List Value) : Prop := cs.length = n * s ∧ n ≤ c ∧ Rd w w.heap.size A cs
/-- a slice of the call's own (its block from base on) reads as cs -/
def Os (e : TypeId) (s : Nat) (w : World) (base : Nat) (A : Option Addr) (n c : Nat) (cs : List Value) : Prop := w.ownsRow base e s (.slice A n c) n cs

theorem Rd.cutS {w : World} {B : Nat} {A : Option Addr} {cs : List Value} (h : Rd w B A cs) {s c k : Nat} (hc : cs.length ≤ c * s) : Rd w B (cutA A c k s) (cs.drop (k * s)) := by
  by_cases hk : cs.length ≤ k * s
  · exact .inl (List.drop_eq_nil_of_le hk)
  rcases h with h | ⟨b, off, hA, hb, hcell⟩
  · exact .inl (by simp [h])
  · have hck : ¬ c = k := fun e => by subst e; exact hk hc
    refine .inr ⟨b, off + k * s, ?_, hb, fun i u hu => ?_⟩
    · subst hA
      simp only [cutA, if_neg hck, Option.map_some, Addr.add]
      split
      · simp_all
      · rfl
    · rw [Nat.add_assoc]
      rw [List.getElem?_drop] at hu
      exact hcell _ _ hu
theorem Rd.of_ownS {w : World} {A : Option Addr} {cs : List Value} {base : Nat} {e : TypeId} {s n c : Nat} (h : w.ownsRow base e s (.slice A n c) n cs) : Rd w w.heap.size A cs := by
  rcases Nat.eq_zero_or_pos n with h0 | h0
  · subst h0
    exact .inl (List.eq_nil_of_length_eq_zero (by simpa using h.1))
  · obtain ⟨g, cap, hv, _, hlt⟩ := h.form h0
    have hA : A = some ⟨g, 0, none⟩ := by injection hv
    subst hA
    refine .inr ⟨g, 0, rfl, hlt, fun i u hu => ?_⟩
    have := h.cells (g := g) rfl i u hu
    have hplain : (⟨g, 0, none⟩ : Addr).add i = ⟨g, 0 + i, none⟩ := by unfold Addr.add; split <;> simp_all
    rwa [hplain] at this
section
variable {s : Nat} {w w' : World} {base : Nat} {e : TypeId} {A : Option Addr} {n c : Nat} {cs : List Value}
theorem Rs.nil_ : Rs s w none 0 0 [] := ⟨by simp, Nat.le_refl _, .inl rfl⟩
theorem Rs.later (h : Rs s w A n c cs) (hb : Below w.heap.size w w') : Rs s w' A n c cs := ⟨h.1, h.2.1, (h.2.2.below hb).more hb.size⟩
theorem Rs.drew (h : Rs s w A n c cs) : Rs s w.drew A n c cs := h
theorem Rs.alloc (h : Rs s w A n c cs) (o : Obj) : Rs s (w.alloc o) A n c cs := ⟨h.1, h.2.1, (h.2.2.alloc (Nat.le_refl _) o).more (by simp)⟩
theorem Rs.plus_ (h : Rs s w A n c cs) (bs : List Obj) (d : Nat) : Rs s (plus w bs d) A n c cs := h.later (below_plus w bs d)
theorem Rs.take (h : Rs s w A n c cs) {k : Nat} (hk : k ≤ n) : Rs s w A k c (cs.take (k * s)) := ⟨by rw [List.length_take, h.1]; exact Nat.min_eq_left (Nat.mul_le_mul_right _ hk), Nat.le_trans hk h.2.1, h.2.2.take _⟩
theorem Rs.cut (h : Rs s w A n c cs) {k : Nat} (hk : k ≤ n) : Rs s w (cutA A c k s) (n - k) (c - k) (cs.drop (k * s)) :=
  ⟨by rw [List.length_drop, h.1, Nat.sub_mul], by have := h.2.1; omega, h.2.2.cutS (by rw [h.1]; exact Nat.mul_le_mul_right _ h.2.1)⟩
theorem Rs.grown (h : Rs s w A n c cs) {row : Option Nat} (hg : w.grownBy w' row) (hr : ∀ a, A = some a → some a.block ≠ row) : Rs s w' A n c cs := by
  refine ⟨h.1, h.2.1, ?_⟩
  rcases h.2.2 with h' | ⟨b, off, hA, hbl, hc⟩
  · exact .inl h'
  · exact .inr ⟨b, off, hA, Nat.lt_of_lt_of_le hbl hg.size, fun i u hu => (World.cell?_of_block (hg.block b hbl (hr _ hA))).trans (hc i u hu)⟩
/-- the i-th element's cells -/
theorem Rs.at_ (h : Rs s w A n c cs) (hn : 0 < n) (hs : 0 < s) : ∃ b off, A = some ⟨b, off, none⟩ ∧ b < w.heap.size ∧ ∀ i u, cs[i]? = some u → w.cell? ⟨b, off + i, none⟩ = some u :=
  h.2.2.at_ (by rw [h.1]; exact Nat.mul_pos hn hs)
theorem Os.rs (h : Os e s w base A n c cs) : Rs s w A n c cs := by
  refine ⟨h.1, ?_, Rd.of_ownS h⟩
  rcases h.2 with ⟨hv, h0⟩ | ⟨g, cap, cur, hv, _, _, hnc, _⟩
  · omega
  · injection hv with _ _ h3
    omega
theorem Os.nil_ : Os e s w base none 0 0 [] := World.ownsRow_nil w base _ s
theorem Os.blk (h : Os e s w base A n c cs) : ∀ k, (Value.slice A n c).ownBlock = some k → base ≤ k ∧ k < w.heap.size := h.lt
theorem Os.grown {row : Option Nat} (h : Os e s w base A n c cs) (hg : w.grownBy w' row) (hne : ∀ k, (Value.slice A n c).ownBlock = some k → row ≠ some k) : Os e s w' base A n c cs := by
  refine h.kept hg ?_
  cases hk : (Value.slice A n c).ownBlock with
  | none => exact .inl rfl
  | some k => exact .inr (fun e => hne k hk e.symm)
theorem Os.later (h : Os e s w base A n c cs) (hb : Below w.heap.size w w') : Os e s w' base A n c cs := h.grown (grownBy_of_below hb) (fun _ _ => by simp)
theorem Os.plus_ (h : Os e s w base A n c cs) (bs : List Obj) (d : Nat) : Os e s (plus w bs d) base A n c cs := h.later (below_plus w bs d)
theorem Os.mono {base' : Nat} (h : Os e s w base A n c cs) (hb : base' ≤ base) : Os e s w base' A n c cs := by
  refine ⟨h.1, ?_⟩
  rcases h.2 with h2 | ⟨g, cap, cur, hv, hg, hr⟩
  · exact .inl h2
  · exact .inr ⟨g, cap, cur, hv, by omega, hr⟩
end
/-- new elements, written out -/
theorem Os.lit (w : World) {base s : Nat} {e : TypeId} (hb : base ≤ w.heap.size) (cs : Array Value) (n : Nat) (hn : cs.size = n * s) (hm : n ≤ maxLen) : Os e s (w.alloc (.cells cs e)) base (some ⟨w.heap.size, 0, none⟩) n n cs.toList :=
  ⟨by simpa using hn, .inr ⟨w.heap.size, n, cs, rfl, hb, heap_alloc_new w _, Nat.le_refl _, hm, hn, List.take_of_length_le (by simp [hn])⟩⟩
/-- a block whose cells are the elements (whatever its type) -/
theorem Rs.of_bk {w : World} {g s n c : Nat} {t : TypeId} {cs : List Value} (h : Bk w g t cs) (hn : cs.length = n * s) (hc : n ≤ c) : Rs s w (some ⟨g, 0, none⟩) n c cs :=
  ⟨hn, hc, .inr ⟨g, 0, rfl, h.lt, fun i u hu => by rw [Nat.zero_add]; exact (h.cell i).trans hu⟩⟩

/-- append onto a row of the call's own, whatever the source -/
theorem run_appS {P : Program} (w : World) {ts ty e : TypeId} {z : Value} {s by_ : Nat} (et : ET P ts e z s by_) {base : Nat} {A : Option Addr} {n c : Nat} {l : List Value} (hown : Os e s w base A n c l)
    {A2 : Option Addr} {n2 c2 : Nat} {l2 : List Value} (hr : Rs s w A2 n2 c2 l2) (h1 : ∀ u ∈ l2, u.oneCell' = true) (hm : n + n2 ≤ 1099511627776) (hbase : base ≤ w.heap.size) :
    ∃ A' n' c' w', (Builtin.append_ #[ts, ts] ty #[.slice A n c, .slice A2 n2 c2]).run P w = .ok (.slice A' n' c') w' ∧ n' = n + n2 ∧ Os e s w' base A' n' c' (l ++ l2) ∧ Below base w w' ∧ w.grownBy w' (Value.slice A n c).ownBlock := by
  obtain ⟨i, hi, hz0, hz1, hz2⟩ := info_parts et.info
  have hbel : ∀ {w'}, w.grownBy w' (Value.slice A n c).ownBlock → Below base w w' := fun hg => below_of_grown hg hbase fun k hk => (hown.blk k hk).1
  have fin : ∀ v' w', w'.ownsRow base e s v' (n + n2) (l ++ l2) → ∃ A' n' c', v' = .slice A' n' c' ∧ n' = n + n2 ∧ Os e s w' base A' n' c' (l ++ l2) := by
    intro v' w' h
    have h2 := h.2
    rcases h2 with ⟨hv, h0⟩ | ⟨g, cap, cur, hv, _⟩
    · refine ⟨none, 0, 0, hv, h0.symm, ?_⟩
      rw [hv, h0] at h
      exact h
    · refine ⟨_, _, _, hv, rfl, ?_⟩
      rw [hv] at h
      exact h
  cases A2 with
  | none =>
    have hl2 : l2 = [] := by
      rcases hr.2.2 with h | ⟨b, off, h, _⟩
      · exact h
      · cases h
    have hn2 : n2 = 0 := by
      have h3 := hr.1
      rw [hl2] at h3
      rcases Nat.eq_zero_or_pos n2 with h | h
      · exact h
      · have := Nat.mul_pos h et.pos
        simp at h3
        omega
    subst hn2
    subst hl2
    refine ⟨A, n, c, w, ?_, rfl, by simpa using hown, Below.refl _ _, World.grownBy.refl w _⟩
    rcases hown.2 with ⟨hv, h0⟩ | ⟨g, cap, cur, hv, _, _, hnc, _⟩
    · injection hv with h1 h2 h3
      subst h1 h2 h3
      simp [Builtin.append_, run_underlying et.sl, sizeOf, typeInfo, hi, Builtin.lenOf, Builtin.firstCells]
    · injection hv with h1 h2 h3
      subst h1 h3
      simp [Builtin.append_, run_underlying et.sl, sizeOf, typeInfo, hi, Builtin.lenOf, Builtin.firstCells, hnc, storeCells]
  | some ad =>
    have hcells : ∀ j u, l2[j]? = some u → w.cell? (ad.add j) = some u := by
      intro j u hu
      rcases hr.2.2 with h | ⟨b, off, h, _, hc⟩
      · rw [h] at hu; simp at hu
      · injection h with h
        subst h
        rw [add_plain]
        exact hc j u hu
    have hby : (n + n2) * by_ ≤ 140737488355328 := Nat.le_trans (Nat.mul_le_mul hm et.small) (by decide)
    obtain ⟨v', w', hrun, h2, h3, _, _⟩ := run_append_own_at (P := P) w base ts ty e i z s by_ et.sl hi hz0 hz1 hz2 et.zs et.pos (.slice A n c) n l hown ad n2 c2 l2
      hr.1 hcells h1 (by simp only [maxLen]; omega) hby hbase
    obtain ⟨A', n', c', rfl, hn', hob⟩ := fin v' w' h2
    exact ⟨A', n', c', w', hrun, hn', hob, hbel h3, h3⟩

theorem wpList_appS {P : Program} {w : World} {ops : Array Oper} {rest : List Oper} {o : Oper} {a : Act} {Q : Exit → Act → World → Prop} {ts e : TypeId} {z : Value} {sz by_ : Nat} (et : ET P ts e z sz by_) (hgd : o.guard = none) (s x : Operand)
    (ho : o.op = .call { callee := .builtin .append, args := #[s, x], argTypes := #[ts, ts] })
    {base : Nat} {A : Option Addr} {n c : Nat} {l : List Value} (hs : a.eval s = .slice A n c) (hown : Os e sz w base A n c l)
    {A2 : Option Addr} {n2 c2 : Nat} {l2 : List Value} (hx : a.eval x = .slice A2 n2 c2) (hr : Rs sz w A2 n2 c2 l2) (h1 : ∀ u ∈ l2, u.oneCell' = true) (hm : n + n2 ≤ 1099511627776) (hbase : base ≤ w.heap.size)
    (h : ∀ A' n' c' w', n' = n + n2 → Os e sz w' base A' n' c' (l ++ l2) → Below base w w' → w.grownBy w' (Value.slice A n c).ownBlock → wpList P ops Q rest (a.put o.dst (.slice A' n' c')) w') : wpList P ops Q (o :: rest) a w := by
  refine wpList_plain hgd fun _ hK => ?_
  obtain ⟨A', n', c', w', hrun, h0, h2, h3, h4⟩ := run_appS (P := P) w (ty := o.type) et hown hr h1 hm hbase
  unfold Oper.wp execOp
  simp only [ho, resolve, invoke, builtin, Sem.run_bind, Sem.run_pure, Result.andThen_ok, List.map_toArray, List.map_cons, List.map_nil, hs, hx, hrun]
  exact hK _ _ (h A' n' c' w' h0 h2 h3 h4)

end Go.Proofs.Ytepodflinhpejaa

/- A region that draws its order, by words that are chosen one by one (wp_rel, wp_relE, step for step). -/
namespace Go.Proofs.Ytepodflinhpejaa
open Go.RowKit
set_option linter.unusedVariables false

/-- the words so far, and one more for operation k -/
def upd (k : Nat) (p : MP) (f : Nat → MP) : Nat → MP := fun j => bif Nat.beq j k then p else f j
theorem upd_same (k : Nat) (p : MP) (f : Nat → MP) : upd k p f k = p := by simp [upd]
theorem upd_ne {j k : Nat} (h : j ≠ k) (p : MP) (f : Nat → MP) : upd k p f j = f j := by
  have : Nat.beq j k = false := by
    cases hb : Nat.beq j k with
    | false => rfl
    | true => exact absurd (Nat.eq_of_beq_eq_true hb) h
  simp [upd, this]
theorem eval_tmp (a : Act) (s : Nat) : a.eval (.tmp s) = a.tmps[s]?.getD undef := by simp [Act.eval]
section
variable {P : Program} {Q : Exit → Act → World → Prop}
/-- operation i does what its word says, whenever its turn comes -/
def StepOk (body : Nat → Oper → Act → World → MP → Prop) (l : List Oper) (n : Nat) (a : Act) (w : World) (φs : Nat → MP) (i : Nat) (φ : MP) : Prop :=
  ∀ o, l[i]? = some o → ∀ (A : Act) (x : Ext), (∀ s, outB l.toArray n i s = true → A.eval (.tmp s) = a.eval (.tmp s)) → (∀ j s, depB l.toArray n i j s = true → (φs j).p (A.eval (.tmp s)) (plus w x.bs x.d)) → body i o A (plus w x.bs x.d) φ
def Steps (fin : (Nat → MP) → Prop) (body : Nat → Oper → Act → World → MP → Prop) (l : List Oper) (n : Nat) (a : Act) (w : World) : Nat → Nat → (Nat → MP) → Prop
  | 0, _, φs => fin φs
  | r + 1, i, φs => ∃ φ, StepOk body l n a w φs i φ ∧ Steps fin body l n a w r (i + 1) (upd i φ φs)
variable {fin : (Nat → MP) → Prop} {body : Nat → Oper → Act → World → MP → Prop}
theorem Steps.all {l : List Oper} {n : Nat} {a : Act} {w : World} (hdep : ∀ i, i < n → ∀ j s, depB l.toArray n i j s = true → j < i) : ∀ (r i : Nat) (φs : Nat → MP), i + r = n → Steps fin body l n a w r i φs → (∀ j, j < i → StepOk body l n a w φs j (φs j)) →
    ∃ Φ : Nat → MP, (∀ i, i < n → StepOk body l n a w Φ i (Φ i)) ∧ fin Φ
  | 0, i, φs, hi, hs, hd => ⟨φs, fun j hj => hd j (by omega), hs⟩
  | r + 1, i, φs, hi, hs, hd => by
    obtain ⟨φ, h1, h2⟩ := hs
    refine Steps.all hdep r (i + 1) (upd i φ φs) (by omega) h2 fun j hj => ?_
    have conv : ∀ k (ψ : MP), k ≤ i → k < n → StepOk body l n a w φs k ψ → StepOk body l n a w (upd i φ φs) k ψ := by
      intro k ψ hk hkn h o ho A x hO hD
      refine h o ho A x hO (fun j' s hj' => ?_)
      have hlt := hdep k hkn j' s hj'
      have := hD j' s hj'
      rwa [upd_ne (by omega)] at this
    by_cases hji : j = i
    · subst hji
      rw [upd_same]
      exact conv j φ (Nat.le_refl _) (by omega) h1
    · rw [upd_ne hji]
      exact conv j (φs j) (by omega) (by omega) (hd j (by omega))
theorem all_dep {ops : Array Oper} {n : Nat} {g : Nat → Oper → Bool} (hall : ((List.range n).all fun i => match ops[i]? with
    | none => false
    | some o => (match o.dst with | some s => g s o | none => false) && (o.after.all fun e => !Region.binds .any e || decide (e.on < i)) &&
      (List.range n).all fun j => j == i || (match (ops[j]?).bind (·.dst) with | some s => o.dst != some s | none => false)) = true) : ∀ i, i < n → ∀ j s, depB ops n i j s = true → j < i := by
  intro i hi j s hd
  have h1 := List.all_eq_true.1 hall i (List.mem_range.2 hi)
  simp only [depB, Bool.and_eq_true, decide_eq_true_eq] at hd
  obtain ⟨o, ho, e, he, hb, hon⟩ := Region.waitsFor_spec hd.1.2
  rw [ho] at h1
  simp only [Bool.and_eq_true] at h1
  have h3 := (Array.all_eq_true_iff_forall_mem.1 h1.1.2) e he
  rw [hb] at h3
  have : e.on < i := by simpa using h3
  omega
def bodyS (P : Program) (Q : Exit → Act → World → Prop) (l : List Oper) (i : Nat) (o : Oper) (A : Act) (w : World) (φ : MP) : Prop :=
  ∀ K : Act → World → Prop, Shut (∀ v w', Ex w w' → φ.p v w' → K (A.put o.dst v) w') → if Region.wanted o (yielded l.toArray A.tmps) = true then o.wp P A w K Q else K (A.put o.dst undef) w
def bodyE (P : Program) (Q : Exit → Act → World → Prop) (l : List Oper) (pu : List Nat) (i : Nat) (o : Oper) (A : Act) (w : World) (φ : MP) : Prop :=
  if pu.contains i = true then ∃ v, Yields P l.toArray o v A ∧ φ.p v w else bodyS P (NoPanic Q) l i o A w φ
def finS (P : Program) (Q : Exit → Act → World → Prop) (l : List Oper) (n : Nat) (a : Act) (w : World) (φs : Nat → MP) : Prop :=
  ∀ (vs : Nat → Value) (x : Ext), (∀ i, i < n → (φs i).p (vs i) (plus w x.bs x.d)) → wpList P l.toArray Q (l.drop n) (putAll (l.take n) vs 0 a) (plus w x.bs x.d)
theorem wp_relS {id : Nat} {a : Act} {w : World} {l : List Oper} (n N : Nat) (hN : a.tmps.size = N) (hm : P.follows .mixedOrders = true) (hB : relB l.toArray n N = true)
    (h : Steps (finS P Q l n a w) (bodyS P Q l) l n a w n 0 (fun _ => MP.any)) : (Code.region id l.toArray true).wp P Q a w := by
  have hdep : ∀ i, i < n → ∀ j s, depB l.toArray n i j s = true → j < i := by
    have hB' := hB
    unfold relB at hB'
    simp only [Bool.and_eq_true] at hB'
    exact all_dep (g := fun s _ => decide (s < N)) (by exact hB'.2)
  obtain ⟨Φ, h1, h2⟩ := Steps.all hdep n 0 _ (by omega) h (fun j hj => absurd hj (by omega))
  exact wp_rel n N hN hm hB Φ (fun i hi o ho A x hO hD K hK => h1 i hi o ho A x hO hD K hK) h2
theorem wp_relES {id : Nat} {a : Act} {w : World} {l : List Oper} (n N : Nat) (pu : List Nat) (hN : a.tmps.size = N) (hm : P.follows .mixedOrders = true) (hB : relE l.toArray n N pu = true)
    (h : Steps (finS P (NoPanic Q) l n a w) (bodyE P Q l pu) l n a w n 0 (fun _ => MP.any)) : (Code.region id l.toArray true).wp P Q a w := by
  have hdep : ∀ i, i < n → ∀ j s, depB l.toArray n i j s = true → j < i := by
    have hB' := hB
    unfold relE at hB'
    simp only [Bool.and_eq_true] at hB'
    exact all_dep (g := fun s _ => decide (s < N)) (by exact hB'.1.2)
  obtain ⟨Φ, h1, h2⟩ := Steps.all hdep n 0 _ (by omega) h (fun j hj => absurd hj (by omega))
  exact wp_relE n N pu hN hm hB Φ (fun i hi o ho A x hO hD => h1 i hi o ho A x hO hD) h2
/-- one operation more; its word is found by the proof -/
theorem Steps.one (φ : MP) {l : List Oper} {n : Nat} {a : Act} {w : World} {r i : Nat} {φs : Nat → MP} (i' : Nat) (hi : i + 1 = i')
    (h : ∀ o, l[i]? = some o → ∀ (A : Act) (x : Ext), (∀ s, outB l.toArray n i s = true → A.eval (.tmp s) = a.eval (.tmp s)) → (∀ j s, depB l.toArray n i j s = true → (φs j).p (A.eval (.tmp s)) (plus w x.bs x.d)) →
      ∀ K : Act → World → Prop, Shut (∀ v w', Ex (plus w x.bs x.d) w' → φ.p v w' → K (A.put o.dst v) w') → if Region.wanted o (yielded l.toArray A.tmps) = true then o.wp P A (plus w x.bs x.d) K Q else K (A.put o.dst undef) (plus w x.bs x.d))
    (h' : Steps fin (bodyS P Q l) l n a w r i' (upd i φ φs)) : Steps fin (bodyS P Q l) l n a w (r + 1) i φs := by
  subst hi
  exact ⟨φ, fun o ho A x hO hD => h o ho A x hO hD, h'⟩
theorem Steps.oneE (φ : MP) {l : List Oper} {n : Nat} {a : Act} {w : World} {r i : Nat} {φs : Nat → MP} {pu : List Nat} (i' : Nat) (hi : i + 1 = i') (hp : pu.contains i = false)
    (h : ∀ o, l[i]? = some o → ∀ (A : Act) (x : Ext), (∀ s, outB l.toArray n i s = true → A.eval (.tmp s) = a.eval (.tmp s)) → (∀ j s, depB l.toArray n i j s = true → (φs j).p (A.eval (.tmp s)) (plus w x.bs x.d)) →
      ∀ K : Act → World → Prop, Shut (∀ v w', Ex (plus w x.bs x.d) w' → φ.p v w' → K (A.put o.dst v) w') → if Region.wanted o (yielded l.toArray A.tmps) = true then o.wp P A (plus w x.bs x.d) K (NoPanic Q) else K (A.put o.dst undef) (plus w x.bs x.d))
    (h' : Steps fin (bodyE P Q l pu) l n a w r i' (upd i φ φs)) : Steps fin (bodyE P Q l pu) l n a w (r + 1) i φs := by
  subst hi
  refine ⟨φ, fun o ho A x hO hD => ?_, h'⟩
  unfold bodyE
  rw [if_neg (by rw [hp]; decide)]
  exact h o ho A x hO hD
theorem Steps.oneP (v : Value) {l : List Oper} {n : Nat} {a : Act} {w : World} {r i : Nat} {φs : Nat → MP} {pu : List Nat} (i' : Nat) (hi : i + 1 = i') (hp : pu.contains i = true)
    (h : ∀ o, l[i]? = some o → ∀ (A : Act) (x : Ext), (∀ s, outB l.toArray n i s = true → A.eval (.tmp s) = a.eval (.tmp s)) → (∀ j s, depB l.toArray n i j s = true → (φs j).p (A.eval (.tmp s)) (plus w x.bs x.d)) → Yields P l.toArray o v A)
    (h' : Steps fin (bodyE P Q l pu) l n a w r i' (upd i (MP.eq v) φs)) : Steps fin (bodyE P Q l pu) l n a w (r + 1) i φs := by
  subst hi
  refine ⟨MP.eq v, fun o ho A x hO hD => ?_, h'⟩
  unfold bodyE
  rw [if_pos hp]
  exact ⟨v, h o ho A x hO hD, rfl⟩
theorem Steps.fin_ {l : List Oper} {n : Nat} {a : Act} {w : World} {i : Nat} {φs : Nat → MP} (h : ∀ (vs : Nat → Value) (x : Ext), (∀ i, i < n → (φs i).p (vs i) (plus w x.bs x.d)) → wpList P l.toArray Q (l.drop n) (putAll (l.take n) vs 0 a) (plus w x.bs x.d)) : Steps (finS P Q l n a w) body l n a w 0 i φs := h
end
/-! ### loads of one cell -/
theorem run_loadAt_one {P : Program} (w : World) (b o : Nat) (ty : TypeId) (v : Value) (d : TypeDesc) (hc : w.cell? ⟨b, o, none⟩ = some v) (hu : P.underlying ty = some d) (hd : d.isRow = false) :
    (Instr.loadAt ty (.pointer (some ⟨b, o, none⟩))).run P w = .ok v w := by
  have hagg : (isAgg ty).run P w = .ok false w := by
    unfold isAgg
    rw [Sem.run_bind, run_underlying hu w]
    cases d <;> simp_all
  simp [Instr.loadAt, Instr.sureAddr, loadVar, Sem.run_bind, hagg, run_load, hc]
theorem wp_ld1 {P : Program} {Q : Exit → Act → World → Prop} {o : Oper} {a : Act} {w : World} {K : Act → World → Prop} (ty : TypeId) (x : Operand) (ho : o.op = .load ty x) {g off : Nat} {t : TypeId} {cs : List Value} {v : Value} {d : TypeDesc}
    (hx : a.eval x = .pointer (some ⟨g, off, none⟩)) (hb : Bk w g t cs) (hv : cs[off]? = some v) (hu : P.underlying ty = some d) (hd : d.isRow = false) (h : K (a.put o.dst v) w) : o.wp P a w K Q := by
  unfold Oper.wp execOp
  simp only [ho, hx, Sem.run_bind, run_loadAt_one w g off ty v d ((hb.cell off).trans hv) hu hd, Result.andThen_ok]
  exact h
theorem wp_ldA {P : Program} {Q : Exit → Act → World → Prop} {o : Oper} {a : Act} {w : World} {K : Act → World → Prop} (ty : TypeId) (x : Operand) (ho : o.op = .load ty x) {g off : Nat} {t : TypeId} {cs : List Value} {d : TypeDesc} (part : List Value)
    (hx : a.eval x = .pointer (some ⟨g, off, none⟩)) (hb : Bk w g t cs) (hp : (cs.drop off).take part.length = part) (hu : P.underlying ty = some d) (hd : d.isRow = true) (hi : (P.info? ty).map (·.size) = some part.length) (h : K (a.put o.dst (.agg part.toArray)) w) : o.wp P a w K Q := by
  refine wp_load_mid ty x ho g off hx part d (fun j v hv => ?_) hu hd hi h
  rw [hb.cell]
  rw [← hp, List.getElem?_take] at hv
  split at hv
  · rw [List.getElem?_drop] at hv; exact hv
  · cases hv
theorem wpList_ld1 {P : Program} {w : World} {ops : Array Oper} {rest : List Oper} {o : Oper} {a : Act} {Q : Exit → Act → World → Prop} (ty : TypeId) (x : Operand) (ho : o.op = .load ty x) (hw : Region.wanted o (yielded ops a.tmps) = true) {g off : Nat} {t : TypeId} {cs : List Value} {v : Value} {d : TypeDesc}
    (hx : a.eval x = .pointer (some ⟨g, off, none⟩)) (hb : Bk w g t cs) (hv : cs[off]? = some v) (hu : P.underlying ty = some d) (hd : d.isRow = false) (h : wpList P ops Q rest (a.put o.dst v) w) : wpList P ops Q (o :: rest) a w := by
  unfold wpList
  rw [if_pos hw]
  exact .inl (wp_ld1 ty x ho hx hb hv hu hd h)
/-! ### stores of one cell -/
theorem run_storeAt_one {P : Program} (w : World) (ty : TypeId) (v : Value) {g off : Nat} {t : TypeId} {cs : List Value} (hb : Bk w g t cs) (hl : off < cs.length) (h1 : v.oneCell' = true) (hi : (P.info? ty).map (·.size) = some 1) :
    (Instr.storeAt ty (.pointer (some ⟨g, off, none⟩)) v).run P w = .ok () (w.setCell ⟨g, off, none⟩ v) := by
  have hv : v.cells = #[v] := by cases v <;> first | rfl | (simp [Value.oneCell'] at h1)
  have hst := run_store P w ((⟨g, off, none⟩ : Addr).add 0) v .plain h1
  rw [add_plain, Nat.add_zero, hb.cell, hb.frozen, List.getElem?_eq_getElem hl] at hst
  cases hq : P.info? ty with
  | none => simp [hq] at hi
  | some i =>
    have hs : i.size = 1 := by simpa [hq] using hi
    simp [Instr.storeAt, Instr.sureAddr, storeVar, sizeOf, typeInfo, hq, hv, hs, storeCells, add_plain, hst]
theorem wp_st1 {P : Program} {Q : Exit → Act → World → Prop} {o : Oper} {a : Act} {w : World} {K : Act → World → Prop} (ty : TypeId) (x y : Operand) (ho : o.op = .store ty x y) {g off : Nat} {t : TypeId} {cs : List Value} {v : Value}
    (hx : a.eval x = .pointer (some ⟨g, off, none⟩)) (hy : a.eval y = v) (hb : Bk w g t cs) (hl : off < cs.length) (h1 : v.oneCell' = true) (hi : (P.info? ty).map (·.size) = some 1)
    (h : ∀ w', Bk w' g t (cs.set off v) → w.grownBy w' (some g) → K (a.put o.dst undef) w') : o.wp P a w K Q := by
  unfold Oper.wp execOp
  simp only [ho, hx, hy, Sem.run_bind, run_storeAt_one w ty v hb hl h1 hi, Result.andThen_ok]
  exact h _ (hb.set_ off v) (grownBy_setCell _ _ _ _)
theorem wpList_st1 {P : Program} {w : World} {ops : Array Oper} {rest : List Oper} {o : Oper} {a : Act} {Q : Exit → Act → World → Prop} (ty : TypeId) (x y : Operand) (ho : o.op = .store ty x y) (hgd : o.guard = none) {g off : Nat} {t : TypeId} {cs : List Value} {v : Value}
    (hx : a.eval x = .pointer (some ⟨g, off, none⟩)) (hy : a.eval y = v) (hb : Bk w g t cs) (hl : off < cs.length) (h1 : v.oneCell' = true) (hi : (P.info? ty).map (·.size) = some 1)
    (h : ∀ w', Bk w' g t (cs.set off v) → w.grownBy w' (some g) → wpList P ops Q rest (a.put o.dst undef) w') : wpList P ops Q (o :: rest) a w :=
  wpList_plain hgd fun _ hK => wp_st1 ty x y ho hx hy hb hl h1 hi fun w' h2 h3 => hK _ _ (h w' h2 h3)
end Go.Proofs.Ytepodflinhpejaa

/- Rows of structs as words of a region's values; calls that hand back such a row. -/
namespace Go.Proofs.Ytepodflinhpejaa
open Go.RowKit
set_option linter.unusedVariables false

/-- a slice of elements of s cells -/
def MP.rs (s : Nat) (cs : List Value) : MP := ⟨fun v w => ∃ A n c, v = .slice A n c ∧ Rs s w A n c cs, fun _ _ _ ⟨A, n, c, h1, h2⟩ h => ⟨A, n, c, h1, h2.later h.below⟩⟩
/-- a call hands back a new or old slice that reads as cs, and changes nothing that was there -/
def RetRs (s : Nat) (w : World) (cs : List Value) (e : Ending) (w' : World) : Prop := ∃ A n c bs d, e = .returned (.slice A n c) ∧ w' = plus w bs d ∧ Rs s (plus w bs d) A n c cs
theorem RetRs.mk {s : Nat} {w w' : World} {cs : List Value} {A : Option Addr} {n c : Nat} (h : Rs s w' A n c cs) (hb : Below w.heap.size w w') : RetRs s w cs (.returned (.slice A n c)) w' := by
  obtain ⟨bs, d, rfl⟩ := plus_of hb
  exact ⟨A, n, c, bs, d, rfl, rfl, h⟩
/-- a slice of the call's own, without room -/
def MP.ofs (e : TypeId) (s base : Nat) (cs : List Value) : MP := ⟨fun v w => ∃ A n, v = .slice A n n ∧ Os e s w base A n n cs, fun _ _ _ ⟨A, n, h1, h2⟩ h => ⟨A, n, h1, h2.later h.below⟩⟩
/-- a slice of the call's own -/
def MP.os (e : TypeId) (s base : Nat) (cs : List Value) : MP := ⟨fun v w => ∃ A n c, v = .slice A n c ∧ Os e s w base A n c cs, fun _ _ _ ⟨A, n, c, h1, h2⟩ h => ⟨A, n, c, h1, h2.later h.below⟩⟩
/-- append onto a slice without room: new memory, or nothing -/
theorem run_appFS {P : Program} (w : World) {ts ty e : TypeId} {z : Value} {s by_ : Nat} (et : ET P ts e z s by_) {base : Nat} {A : Option Addr} {n : Nat} {l : List Value} (hown : Os e s w base A n n l)
    {A2 : Option Addr} {n2 c2 : Nat} {l2 : List Value} (hr2 : Rs s w A2 n2 c2 l2) (h1 : ∀ u ∈ l2, u.oneCell' = true) (hm : n + n2 ≤ 1099511627776) (hbase : base ≤ w.heap.size) :
    ∃ A' n' c' w', (Builtin.append_ #[ts, ts] ty #[.slice A n n, .slice A2 n2 c2]).run P w = .ok (.slice A' n' c') w' ∧ n' = n + n2 ∧ Os e s w' base A' n' c' (l ++ l2) ∧ Ex w w' := by
  obtain ⟨i, hi, hz0, hz1, hz2⟩ := info_parts et.info
  have hr := hown.rs
  have hl0 : ∀ {A : Option Addr} {n c : Nat} {l : List Value}, Rs s w A n c l → A = none → l = [] := by
    intro A n c l h e
    rcases h.2.2 with h' | ⟨b, off, h', _⟩
    · exact h'
    · rw [e] at h'; cases h'
  have hn0 : ∀ {A : Option Addr} {n c : Nat} {l : List Value}, Rs s w A n c l → l = [] → n = 0 := by
    intro A n c l h e
    have h3 := h.1
    rw [e] at h3
    rcases Nat.eq_zero_or_pos n with h | h
    · exact h
    · have := Nat.mul_pos h et.pos
      simp at h3
      omega
  have hsrc : Src P i.size ts (.slice A2 n2 c2) n2 l2 w := by
    rw [hz1]
    cases A2 with
    | none =>
      have hl2 := hl0 hr2 rfl
      obtain rfl := hn0 hr2 hl2
      subst hl2
      exact Src.ofNil w et.sl c2
    | some ad =>
      refine Src.ofSlice w et.sl ad n2 c2 l2 hr2.1 (fun j u hu => ?_) h1
      rcases hr2.2.2 with h | ⟨b, off, h, _, hc⟩
      · rw [h] at hu; simp at hu
      · injection h with h
        subst h
        rw [add_plain]
        exact hc j u hu
  by_cases h0 : n2 = 0
  · subst h0
    obtain rfl : l2 = [] := List.eq_nil_of_length_eq_zero (by simpa using hr2.1)
    exact ⟨A, n, n, w, run_append_nothing w ts ts ty e i et.sl hi A n n (Nat.le_refl _) _ hsrc, rfl, by simpa using hown, Ex.refl _⟩
  · have hold : (Builtin.firstCells i.size n (.slice A n n)).run P w.drew = .ok l.toArray w.drew := by
      rw [hz1]
      cases A with
      | none =>
        have hl := hl0 hr rfl
        subst hl
        exact run_firstCells_none w.drew s n n n
      | some ad =>
        refine run_firstCells_some w.drew s n ad n n l hr.1 (fun j u hu => ?_)
        rcases hr.2.2 with h | ⟨b, off, h, _, hc⟩
        · rw [h] at hu; simp at hu
        · injection h with h
          subst h
          rw [add_plain]
          exact hc j u hu
    have hby : (n + n2) * by_ ≤ 140737488355328 := Nat.le_trans (Nat.mul_le_mul hm et.small) (by decide)
    have H := run_append_grow_src (P := P) w ts ts ty e i z et.sl hi hz0 A n n l hold _ n2 l2 hsrc (by omega) (by omega) (growslice_fits (by omega) (by rw [hz2]; exact hby))
    have hlen : (l ++ l2).length = (n + n2) * s := by rw [List.length_append, hr.1, hr2.1, Nat.add_mul]
    have hge := grownCap_ge w (n + n2) n e
    refine ⟨_, _, _, _, H, rfl, ⟨hlen, .inr ⟨w.heap.size, _, _, rfl, hbase, heap_alloc_new w.drew _, hge, grownCap_le_maxLen w (n + n2) n e (by simp only [maxLen]; omega), ?_, ?_⟩⟩, Ex.of ((Below.refl _ _).drew.alloc (Nat.le_refl _) _)⟩
    · simp only [Array.size_append, List.size_toArray, size_zeroCells, et.zs, hlen, ← Nat.add_mul]
      congr 1
      omega
    · simp only [Array.toList_append]
      rw [← hlen]
      exact List.take_left
/-- the same, as an operation of a region that draws its order -/
theorem wp_appFS {P : Program} {Q : Exit → Act → World → Prop} {w : World} {o : Oper} {a : Act} {K : Act → World → Prop} {ts e : TypeId} {z : Value} {s by_ : Nat} (et : ET P ts e z s by_) (sl x : Operand)
    (ho : o.op = .call { callee := .builtin .append, args := #[sl, x], argTypes := #[ts, ts] }) {base : Nat} {A : Option Addr} {n : Nat} {l : List Value} (hs : a.eval sl = .slice A n n) (hown : Os e s w base A n n l)
    {A2 : Option Addr} {n2 c2 : Nat} {l2 : List Value} (hx : a.eval x = .slice A2 n2 c2) (hr2 : Rs s w A2 n2 c2 l2) (h1 : ∀ u ∈ l2, u.oneCell' = true) (hm : n + n2 ≤ 1099511627776) (hbase : base ≤ w.heap.size)
    (h : ∀ A' n' c' w', n' = n + n2 → Os e s w' base A' n' c' (l ++ l2) → Ex w w' → K (a.put o.dst (.slice A' n' c')) w') : o.wp P a w K Q := by
  obtain ⟨A', n', c', w', hrun, h0, h2, h3⟩ := run_appFS (P := P) w (ty := o.type) et hown hr2 h1 hm hbase
  unfold Oper.wp execOp
  simp only [ho, resolve, invoke, builtin, Sem.run_bind, Sem.run_pure, Result.andThen_ok, List.map_toArray, List.map_cons, List.map_nil, hs, hx, hrun]
  exact h A' n' c' w' h0 h2 h3
end Go.Proofs.Ytepodflinhpejaa

/- Rows of structs: append, with what becomes of the row's block; rows of encoded elements; rows that stay while other blocks change. -/
namespace Go.Proofs.Ytepodflinhpejaa
open Go.RowKit
set_option linter.unusedVariables false

theorem Rs.chg {D : Nat → Prop} {s : Nat} {w w' : World} {A : Option Addr} {n c : Nat} {cs : List Value} (h : Rs s w A n c cs) (hc : Chg D w w') (hd : ∀ a, A = some a → ¬ D a.block) : Rs s w' A n c cs := by
  refine ⟨h.1, h.2.1, ?_⟩
  rcases h.2.2 with h' | ⟨b, off, hA, hb, hcell⟩
  · exact .inl h'
  · refine .inr ⟨b, off, hA, Nat.lt_of_lt_of_le hb hc.size, fun i u hu => ?_⟩
    rw [World.cell?_of_block (w := w) (hc.block b hb (hd _ hA))]
    exact hcell i u hu
theorem Os.chg {D : Nat → Prop} {e : TypeId} {s base : Nat} {w w' : World} {A : Option Addr} {n c : Nat} {cs : List Value} (h : Os e s w base A n c cs) (hc : Chg D w w') (hd : ∀ k, (Value.slice A n c).ownBlock = some k → ¬ D k) : Os e s w' base A n c cs := by
  refine ⟨h.1, ?_⟩
  rcases h.2 with h' | ⟨g, cap, cur, hv, hb, hg, hr⟩
  · exact .inl h'
  · have hk : (Value.slice A n c).ownBlock = some g := by rw [hv]; rfl
    exact .inr ⟨g, cap, cur, hv, hb, (hc.block g (h.blk g hk).2 (hd g hk)).trans hg, hr⟩
/-- a row of encoded elements -/
theorem flat_at {X : Type} (enc : X → List Value) (s : Nat) (hs : ∀ x, (enc x).length = s) : ∀ (L : List X) (j : Nat) (hj : j < L.length) (i : Nat) (u : Value), (enc L[j])[i]? = some u → (L.flatMap enc)[j * s + i]? = some u
  | x :: t, 0, _, i, u, h => by
    have hi : i < (enc x).length := (List.getElem?_eq_some_iff.1 h).1
    simp only [List.flatMap_cons, Nat.zero_mul, Nat.zero_add]
    rw [List.getElem?_append_left hi]
    exact h
  | x :: t, j + 1, hj, i, u, h => by
    have h2 := flat_at enc s hs t j (by simpa using hj) i u h
    simp only [List.flatMap_cons]
    rw [List.getElem?_append_right (by rw [hs, Nat.add_mul]; omega), hs, show (j + 1) * s + i - s = j * s + i by rw [Nat.add_mul]; omega]
    exact h2
theorem flat_len {X : Type} (enc : X → List Value) (s : Nat) (hs : ∀ x, (enc x).length = s) : ∀ L : List X, (L.flatMap enc).length = L.length * s
  | [] => by simp
  | x :: t => by simp [hs, flat_len enc s hs t, Nat.add_mul, Nat.add_comm]
theorem flat_take {X : Type} (enc : X → List Value) (s : Nat) (hs : ∀ x, (enc x).length = s) : ∀ (L : List X) (k : Nat), (L.flatMap enc).take (k * s) = (L.take k).flatMap enc
  | [], k => by simp
  | x :: t, 0 => by simp
  | x :: t, k + 1 => by
    simp only [List.flatMap_cons, List.take_succ_cons]
    rw [List.take_append, hs, List.take_of_length_le (by rw [hs, Nat.add_mul]; omega), show (k + 1) * s - s = k * s by rw [Nat.add_mul]; omega, flat_take enc s hs t k]
theorem flat_drop {X : Type} (enc : X → List Value) (s : Nat) (hs : ∀ x, (enc x).length = s) : ∀ (L : List X) (k : Nat), (L.flatMap enc).drop (k * s) = (L.drop k).flatMap enc
  | [], k => by simp
  | x :: t, 0 => by simp
  | x :: t, k + 1 => by
    simp only [List.flatMap_cons, List.drop_succ_cons]
    rw [List.drop_append, hs, List.drop_of_length_le (by rw [hs, Nat.add_mul]; omega), show (k + 1) * s - s = k * s by rw [Nat.add_mul]; omega, flat_drop enc s hs t k, List.nil_append]
theorem flat_one {X : Type} (enc : X → List Value) (h1 : ∀ x, ∀ u ∈ enc x, u.oneCell' = true) (L : List X) : ∀ u ∈ L.flatMap enc, u.oneCell' = true := by
  intro u hu
  obtain ⟨x, _, hx⟩ := List.mem_flatMap.1 hu
  exact h1 x u hx
/-- an element's cells -/
theorem Rs.rangeE {X : Type} {enc : X → List Value} {s : Nat} (hs : ∀ x, (enc x).length = s) {w : World} {b off n c : Nat} {L : List X} (h : Rs s w (some ⟨b, off, none⟩) n c (L.flatMap enc)) (j : Nat) (hj : j < L.length) :
    w.rangeAt b (off + j * s) (enc L[j]) := by
  intro i u hu
  have hp := flat_at enc s hs L j hj i u hu
  rcases h.2.2 with h0 | ⟨b', off', hA, hb, hc⟩
  · rw [h0] at hp; simp at hp
  · injection hA with hA
    injection hA with e1 e2
    subst e1 e2
    rw [Nat.add_assoc]
    exact hc _ _ hp
end Go.Proofs.Ytepodflinhpejaa

/- A region that draws its order and stores, by words that are chosen one by one (wp_su, step for step). -/
namespace Go.Proofs.Ytepodflinhpejaa
open Go.RowKit
set_option linter.unusedVariables false

section
variable {P : Program} {Q : Exit → Act → World → Prop} {D : Nat → Prop}
def updC (k : Nat) (p : MC D) (f : Nat → MC D) : Nat → MC D := fun j => bif Nat.beq j k then p else f j
theorem updC_same (k : Nat) (p : MC D) (f : Nat → MC D) : updC k p f k = p := by simp [updC]
theorem updC_ne {j k : Nat} (h : j ≠ k) (p : MC D) (f : Nat → MC D) : updC k p f j = f j := by
  have : Nat.beq j k = false := by
    cases hb : Nat.beq j k with
    | false => rfl
    | true => exact absurd (Nat.eq_of_beq_eq_true hb) h
  simp [updC, this]
def StepC (body : Nat → Oper → Act → World → MC D → Prop) (l : List Oper) (n : Nat) (a : Act) (w : World) (φs : Nat → MC D) (i : Nat) (φ : MC D) : Prop :=
  ∀ o, l[i]? = some o → ∀ (A : Act) (w' : World), Chg D w w' → (∀ s, outB l.toArray n i s = true → A.eval (.tmp s) = a.eval (.tmp s)) → (∀ j s, depB l.toArray n i j s = true → (φs j).p (A.eval (.tmp s)) w') → body i o A w' φ
def StepsC (fin : (Nat → MC D) → Prop) (body : Nat → Oper → Act → World → MC D → Prop) (l : List Oper) (n : Nat) (a : Act) (w : World) : Nat → Nat → (Nat → MC D) → Prop
  | 0, _, φs => fin φs
  | r + 1, i, φs => ∃ φ, StepC body l n a w φs i φ ∧ StepsC fin body l n a w r (i + 1) (updC i φ φs)
variable {fin : (Nat → MC D) → Prop} {body : Nat → Oper → Act → World → MC D → Prop}
theorem StepsC.all {l : List Oper} {n : Nat} {a : Act} {w : World} (hdep : ∀ i, i < n → ∀ j s, depB l.toArray n i j s = true → j < i) : ∀ (r i : Nat) (φs : Nat → MC D), i + r = n → StepsC fin body l n a w r i φs → (∀ j, j < i → StepC body l n a w φs j (φs j)) →
    ∃ Φ : Nat → MC D, (∀ i, i < n → StepC body l n a w Φ i (Φ i)) ∧ fin Φ
  | 0, i, φs, hi, hs, hd => ⟨φs, fun j hj => hd j (by omega), hs⟩
  | r + 1, i, φs, hi, hs, hd => by
    obtain ⟨φ, h1, h2⟩ := hs
    refine StepsC.all hdep r (i + 1) (updC i φ φs) (by omega) h2 fun j hj => ?_
    have conv : ∀ k (ψ : MC D), k ≤ i → k < n → StepC body l n a w φs k ψ → StepC body l n a w (updC i φ φs) k ψ := by
      intro k ψ hk hkn h o ho A w' hC hO hD
      refine h o ho A w' hC hO (fun j' s hj' => ?_)
      have hlt := hdep k hkn j' s hj'
      have := hD j' s hj'
      rwa [updC_ne (by omega)] at this
    by_cases hji : j = i
    · subst hji
      rw [updC_same]
      exact conv j φ (Nat.le_refl _) (by omega) h1
    · rw [updC_ne hji]
      exact conv j (φs j) (by omega) (by omega) (hd j (by omega))
def bodyC (P : Program) (Q : Exit → Act → World → Prop) (l : List Oper) (cs : List Nat) (St : Nat → World → Prop) (i : Nat) (o : Oper) (A : Act) (w' : World) (φ : MC D) : Prop :=
  if cs.contains i = true then ∀ k, cs[k]? = some i → St k w' → ∀ K : Act → World → Prop, Shut (∀ v w'', Chg D w' w'' → St (k + 1) w'' → φ.p v w'' → K (A.put o.dst v) w'') → if Region.wanted o (yielded l.toArray A.tmps) = true then o.wp P A w' K Q else False
  else ∀ K : Act → World → Prop, Shut (∀ v w'', Ex w' w'' → φ.p v w'' → K (A.put o.dst v) w'') → if Region.wanted o (yielded l.toArray A.tmps) = true then o.wp P A w' K Q else K (A.put o.dst undef) w'
def finC (P : Program) (Q : Exit → Act → World → Prop) (l : List Oper) (n : Nat) (a : Act) (w : World) (cs : List Nat) (St : Nat → World → Prop) (φs : Nat → MC D) : Prop :=
  ∀ (vs : Nat → Value) (w' : World), Chg D w w' → St cs.length w' → (∀ i, i < n → ((l[i]?).bind (·.dst)).isSome = true → (φs i).p (vs i) w') → wpList P l.toArray Q (l.drop n) (putAll (l.take n) vs 0 a) w'
theorem wp_suS {id : Nat} {a : Act} {w : World} {l : List Oper} (D : Nat → Prop) (n N f : Nat) (cs : List Nat) (hN : a.tmps.size = N) (hm : P.follows .mixedOrders = true) (hB : suB l.toArray n N cs f = true)
    (St : Nat → World → Prop) (hSt : ∀ k w w', St k w → Ex w w' → St k w') (h0 : St 0 w)
    (h : StepsC (D := D) (finC P Q l n a w cs St) (bodyC P Q l cs St) l n a w n 0 (fun _ => MC.any)) : (Code.region id l.toArray true).wp P Q a w := by
  have hdep : ∀ i, i < n → ∀ j s, depB l.toArray n i j s = true → j < i := by
    have hB' := hB
    unfold suB at hB'
    simp only [Bool.and_eq_true, decide_eq_true_eq] at hB'
    obtain ⟨⟨⟨⟨_, hall⟩, _⟩, _⟩, _⟩ := hB'
    intro i hi j s hd
    have h1 := List.all_eq_true.1 hall i (List.mem_range.2 hi)
    simp only [depB, Bool.and_eq_true, decide_eq_true_eq] at hd
    obtain ⟨o, ho, e, he, hb, hon⟩ := Region.waitsFor_spec hd.1.2
    rw [ho] at h1
    simp only [Bool.and_eq_true] at h1
    have h3 := (Array.all_eq_true_iff_forall_mem.1 h1.1.2) e he
    rw [hb] at h3
    have : e.on < i := by simpa using h3
    omega
  obtain ⟨Φ, h1, h2⟩ := StepsC.all hdep n 0 _ (by omega) h (fun j hj => absurd hj (by omega))
  refine wp_su D n N f cs hN hm hB Φ St hSt h0 (fun i hi o ho hq A w' hC hO hD K hK => ?_) (fun k i hk o ho A w' hC hS hO hD K hK => ?_) h2
  · have := h1 i hi o ho A w' hC hO hD
    unfold bodyC at this
    rw [if_neg (by rw [hq]; decide)] at this
    exact this K hK
  · have hB' := hB
    unfold suB at hB'
    simp only [Bool.and_eq_true, decide_eq_true_eq] at hB'
    have hin : i < n := by
      have hm := List.mem_of_getElem? hk
      simpa using List.all_eq_true.1 hB'.1.1.2 i hm
    have := h1 i hin o ho A w' hC hO hD
    unfold bodyC at this
    rw [if_pos (by simpa using List.mem_of_getElem? hk)] at this
    exact this k hk hS K hK
theorem StepsC.one (φ : MC D) {l : List Oper} {n : Nat} {a : Act} {w : World} {r i : Nat} {φs : Nat → MC D} {cs : List Nat} {St : Nat → World → Prop} (i' : Nat) (hi : i + 1 = i') (hc : cs.contains i = false)
    (h : ∀ o, l[i]? = some o → ∀ (A : Act) (w' : World), Chg D w w' → (∀ s, outB l.toArray n i s = true → A.eval (.tmp s) = a.eval (.tmp s)) → (∀ j s, depB l.toArray n i j s = true → (φs j).p (A.eval (.tmp s)) w') →
      ∀ K : Act → World → Prop, Shut (∀ v w'', Ex w' w'' → φ.p v w'' → K (A.put o.dst v) w'') → if Region.wanted o (yielded l.toArray A.tmps) = true then o.wp P A w' K Q else K (A.put o.dst undef) w')
    (h' : StepsC fin (bodyC P Q l cs St) l n a w r i' (updC i φ φs)) : StepsC fin (bodyC P Q l cs St) l n a w (r + 1) i φs := by
  subst hi
  refine ⟨φ, fun o ho A w' hC hO hD => ?_, h'⟩
  unfold bodyC
  rw [if_neg (by rw [hc]; decide)]
  exact h o ho A w' hC hO hD
/-- the k-th operation that changes the blocks D -/
theorem StepsC.mov (φ : MC D) {l : List Oper} {n : Nat} {a : Act} {w : World} {r i : Nat} {φs : Nat → MC D} {cs : List Nat} {St : Nat → World → Prop} (i' k : Nat) (hi : i + 1 = i') (hk : cs[k]? = some i) (hu : nodupB cs = true)
    (h : ∀ o, l[i]? = some o → ∀ (A : Act) (w' : World), Chg D w w' → (∀ s, outB l.toArray n i s = true → A.eval (.tmp s) = a.eval (.tmp s)) → (∀ j s, depB l.toArray n i j s = true → (φs j).p (A.eval (.tmp s)) w') → St k w' →
      ∀ K : Act → World → Prop, Shut (∀ v w'', Chg D w' w'' → St (k + 1) w'' → φ.p v w'' → K (A.put o.dst v) w'') → if Region.wanted o (yielded l.toArray A.tmps) = true then o.wp P A w' K Q else False)
    (h' : StepsC fin (bodyC P Q l cs St) l n a w r i' (updC i φ φs)) : StepsC fin (bodyC P Q l cs St) l n a w (r + 1) i φs := by
  subst hi
  refine ⟨φ, fun o ho A w' hC hO hD => ?_, h'⟩
  unfold bodyC
  rw [if_pos (by simpa using List.mem_of_getElem? hk)]
  intro k2 hk2 hS
  have hn := nodup_of hu
  obtain ⟨hl1, e1⟩ := List.getElem?_eq_some_iff.1 hk
  obtain ⟨hl2, e2⟩ := List.getElem?_eq_some_iff.1 hk2
  obtain rfl : k2 = k := (List.getElem_inj hn).1 (e2.trans e1.symm)
  exact h o ho A w' hC hO hD hS
theorem StepsC.fin_ {l : List Oper} {n : Nat} {a : Act} {w : World} {i : Nat} {φs : Nat → MC D} {cs : List Nat} {St : Nat → World → Prop} (h : ∀ (vs : Nat → Value) (w' : World), Chg D w w' → St cs.length w' → (∀ i, i < n → ((l[i]?).bind (·.dst)).isSome = true → (φs i).p (vs i) w') → wpList P l.toArray Q (l.drop n) (putAll (l.take n) vs 0 a) w') : StepsC (finC P Q l n a w cs St) body l n a w 0 i φs := h
end
end Go.Proofs.Ytepodflinhpejaa

/- A table's and a stack's cells; small functions (chapters 14, 15). -/
namespace Go.Proofs.Ytepodflinhpejaa
open Go.RowKit
set_option linter.unusedVariables false
set_option linter.unusedSimpArgs false
attribute [local go_sem ↓] sliced_cut

attribute [local go_sem] cutA_zero

def slC (x : Nat × Bool) : List Value := [.int .u8 (x.1 : Int), .bool x.2]
theorem slC_len (x : Nat × Bool) : (slC x).length = 2 := rfl
theorem slC_one (x : Nat × Bool) : ∀ u ∈ slC x, u.oneCell' = true := by simp [slC, Value.oneCell']
/-- the slots of a table, and nobody's behind them -/
def slots (t : Tab) : List (Nat × Bool) := (t ++ List.replicate (64 - t.length) (0, false)).take 64
theorem slots_len0 (t : Tab) : (slots t).length = 64 := by simp [slots]; omega
theorem slots_len (t : Tab) (h : t.length ≤ 64) : (slots t).length = 64 := slots_len0 t
theorem slots_at (t : Tab) (i : Nat) (h : i < t.length) (h64 : i < 64) : (slots t)[i]? = some t[i] := by simp [slots, List.getElem?_take, h64, List.getElem?_append_left h]
def tabC (t : Tab) : List Value := .int .i64 (t.length : Int) :: (slots t).flatMap slC
theorem tabC_len0 (t : Tab) : (tabC t).length = 129 := by
  simp only [tabC, List.length_cons, flat_len slC 2 slC_len, slots_len0 t]
theorem tabC_len (t : Tab) (h : t.length ≤ 64) : (tabC t).length = 129 := by
  simp only [tabC, List.length_cons, flat_len slC 2 slC_len, slots_len t h]
theorem tabC_one (t : Tab) : ∀ u ∈ tabC t, u.oneCell' = true := by
  intro u hu
  rcases List.mem_cons.1 hu with rfl | hu
  · rfl
  · exact flat_one slC slC_one _ u hu
theorem szTab (t : Tab) (h : t.length ≤ 64) : (Try.prog.info? 54).map (·.size) = some (tabC t).length := by rw [tabC_len t h]; kernel_rfl
theorem rowTab : ∃ d, Try.prog.underlying 54 = some d ∧ d.isRow = true := ⟨_, Try.underlying54, rfl⟩
theorem tabC_own (t : Tab) (i : Nat) (h : i < t.length) (h64 : i < 64) : (tabC t)[1 + i * 2]? = some (.int .u8 (t[i].1 : Int)) := by
  have hs : i < (slots t).length := by rw [slots_len0]; exact h64
  have e : (slots t)[i] = t[i] := by have := slots_at t i h h64; rw [List.getElem?_eq_getElem hs] at this; injection this
  have := flat_at slC 2 slC_len (slots t) i hs 0 (.int .u8 (t[i].1 : Int)) (by rw [e]; rfl)
  rw [tabC, Nat.add_comm, List.getElem?_cons_succ]
  exact this
theorem tabC_away (t : Tab) (i : Nat) (h : i < t.length) (h64 : i < 64) : (tabC t)[1 + i * 2 + 1]? = some (.bool t[i].2) := by
  have hs : i < (slots t).length := by rw [slots_len0]; exact h64
  have e : (slots t)[i] = t[i] := by have := slots_at t i h h64; rw [List.getElem?_eq_getElem hs] at this; injection this
  have := flat_at slC 2 slC_len (slots t) i hs 1 (.bool t[i].2) (by rw [e]; rfl)
  rw [tabC, show 1 + i * 2 + 1 = (i * 2 + 1) + 1 by omega, List.getElem?_cons_succ]
  exact this
/-- where a number stands; -1: nowhere -/
def fdT (t : Tab) (n : Int) : Int := if idxT t n < t.length then (idxT t n : Int) else -1
theorem idxT_pred (t : Tab) (n : Int) (h : idxT t n < t.length) : (t[idxT t n].1 : Int) = n := by
  have := List.findIdx_getElem (p := fun s : Nat × Bool => ((s.1 : Int) == n)) (xs := t) (w := h)
  have h2 : ((t[idxT t n].1 : Int) == n) = true := this
  simpa using h2
theorem idxT_step (t : Tab) (n : Int) (i : Nat) (hi : i ≤ idxT t n) (h : i < t.length) : ((t[i].1 : Int) = n → idxT t n = i) ∧ (¬ (t[i].1 : Int) = n → i + 1 ≤ idxT t n) := by
  constructor
  · intro he
    rcases Nat.lt_or_ge i (idxT t n) with h1 | h1
    · have := List.not_of_lt_findIdx h1
      simp [he] at this
    · omega
  · intro he
    rcases Nat.lt_or_ge i (idxT t n) with h1 | h1
    · exact h1
    · have e : idxT t n = i := by omega
      have := idxT_pred t n (by omega)
      simp only [e] at this
      exact absurd this he
theorem number_any (n : Int) (w : World) : Calls Try.prog 89 #[.int .i64 n] w fun e w' => e = .returned (.bool (numB n)) ∧ w = w' := by
  unfold numB
  by_cases h1 : 1 ≤ n
  · by_cases h2 : n ≤ 64
    · have d1 : decide (1 ≤ n) = true := decide_eq_true h1
      have d2 : decide (n ≤ 64) = true := decide_eq_true h2
      rw [d1, d2]
      go_enter Try.func89, Try.ntmps89
      go_wp2
      go_ret
      simp
    · have d1 : decide (1 ≤ n) = true := decide_eq_true h1
      have d2 : decide (n ≤ 64) = false := decide_eq_false h2
      rw [d1, d2]
      go_enter Try.func89, Try.ntmps89
      go_wp2
      go_ret
      simp
  · have d1 : decide (1 ≤ n) = false := decide_eq_false h1
    rw [d1]
    go_enter Try.func89, Try.ntmps89
    go_wp2
    go_ret
    simp
set_option maxHeartbeats 4000000 in
set_option maxRecDepth 100000 in
theorem find_any (t : Tab) (hok : TabOk t) (n : Int) (w : World) : Calls Try.prog 90 #[.agg (tabC t).toArray, .int .i64 n] w (RetV w (.int .i64 (fdT t n))) := by
  have ht := hok.len
  obtain ⟨dvt1, vt1, vt2⟩ := rowTab
  have b1 : Bk (w.alloc (.cells (tabC t).toArray 54)) w.heap.size 54 (tabC t) := Bk.new w 54 (tabC t).toArray
  have be : Below w.heap.size w (w.alloc (.cells (tabC t).toArray 54)) := Below.allocS (Below.refl _ _) _
  have zV : w.heap.size + 1 ≤ (w.alloc (.cells (tabC t).toArray 54)).heap.size := by simp
  go_enter Try.func90, Try.ntmps90
  go_upto_region 1 with (fail)
  generalize w.alloc (.cells (tabC t).toArray 54) = V at *
  have q0 : V.cell? ⟨w.heap.size, 0, none⟩ = some (.int .i64 (t.length : Int)) := b1.cell 0
  go_upto_region 2 with (fail)
  have hle : idxT t n ≤ t.length := List.findIdx_le_length
  go_loop [8] (fun I => ∃ i : Nat, I = .int .i64 (i : Int) ∧ i ≤ idxT t n) (fun I => t.length - (intOf I).toNat)
  case atStart => exact ⟨0, rfl, Nat.zero_le _⟩
  case round =>
    obtain ⟨i, rfl, hi⟩ := hrel
    by_cases hlt : i < t.length
    · have q1 : V.cell? ⟨w.heap.size, 1 + i * 2, none⟩ = some (.int .u8 (t[i].1 : Int)) := (b1.cell _).trans (tabC_own t i hlt (by omega))
      have ii : (i : Int) < (t.length : Int) := by omega
      have i64 : (i : Int) < 64 := by omega
      have hst := idxT_step t n i hi hlt
      have hsr := (hok.rg t[i] (List.getElem_mem hlt)).2
      generalize t[i] = s at *
      have hw : IntKind.i64.wrap (s.1 : Int) = (s.1 : Int) := IntWalk.i64_in _ (by omega)
      by_cases hs : (s.1 : Int) = n
      · obtain ⟨he, -⟩ := hst
        have hii := he hs
        subst hs
        have hif := Lib.hid (show fdT t (s.1 : Int) = (i : Int) by unfold fdT; rw [hii, if_pos hlt])
        clear he hii hle hi
        go_wp2
        go_ret
        exact RetV.is_ (by rw [hif.out]; rfl) be
      · obtain ⟨-, he⟩ := hst
        have hii := he hs
        have hsb : ((s.1 : Int) == n) = false := by simpa using hs
        clear he
        go_wp2
        exact ⟨⟨i + 1, by go_num, hii⟩, by simp [intOf]; omega⟩
    · have hif := Lib.hid (show fdT t n = -1 from if_neg (by omega))
      have ii : ¬ (i : Int) < (t.length : Int) := by omega
      clear hle hi
      go_wp2
      go_ret
      exact RetV.is_ (by rw [hif.out]; rfl) be
theorem szSl (x : Nat × Bool) : (Try.prog.info? 51).map (·.size) = some (slC x).length := by kernel_rfl
theorem rowSl : ∃ d, Try.prog.underlying 51 = some d ∧ d.isRow = true := ⟨_, Try.underlying51, rfl⟩
theorem tabC_part (t : Tab) (i : Nat) (h : i < t.length) (h64 : i < 64) : ((tabC t).drop (1 + i * 2)).take (slC t[i]).length = slC t[i] := by
  have h1 := tabC_own t i h h64
  have h2 := tabC_away t i h h64
  have hl := (List.getElem?_eq_some_iff.1 h2).1
  have e1 := (List.getElem?_eq_some_iff.1 h1).2
  have e2 := (List.getElem?_eq_some_iff.1 h2).2
  rw [List.drop_eq_getElem_cons (by omega), e1, List.drop_eq_getElem_cons (by omega), e2]
  rfl
set_option maxHeartbeats 4000000 in
set_option maxRecDepth 100000 in
theorem get_yes (t : Tab) (ht : t.length ≤ 64) (i : Nat) (h : i < t.length) (w : World) : Calls Try.prog 95 #[.agg (tabC t).toArray, .int .i64 (i : Int)] w (RetV w (.tuple #[.agg (slC t[i]).toArray, .bool true])) := by
  have hp := tabC_part t i h (by omega)
  generalize t[i] = s at *
  obtain ⟨ow, aw⟩ := s
  have i0 : ¬ (i : Int) < 0 := by omega
  have i1 : ¬ (t.length : Int) ≤ (i : Int) := by omega
  have i64 : (i : Int) < 64 := by omega
  obtain ⟨dvt1, vt1, vt2⟩ := rowTab
  obtain ⟨dvs1, vs1, vs2⟩ := rowSl
  have b1 : Bk ((w.alloc (.cells (tabC t).toArray 54)).alloc (.cells #[.int .u8 0, .bool false] 51)) w.heap.size 54 (tabC t) := (Bk.new w 54 (tabC t).toArray).alloc _
  have b2 : Bk ((w.alloc (.cells (tabC t).toArray 54)).alloc (.cells #[.int .u8 0, .bool false] 51)) (w.heap.size + 1) 51 (slC (0, false)) := Bk.newK _ _ _ (by simp) rfl
  have be : Below w.heap.size w ((w.alloc (.cells (tabC t).toArray 54)).alloc (.cells #[.int .u8 0, .bool false] 51)) := Below.allocS (Below.allocS (Below.refl _ _) _) _
  have zV : w.heap.size + 2 ≤ ((w.alloc (.cells (tabC t).toArray 54)).alloc (.cells #[.int .u8 0, .bool false] 51)).heap.size := by simp
  go_enter Try.func95, Try.ntmps95
  go_upto_region 1 with (fail)
  generalize (w.alloc (.cells (tabC t).toArray 54)).alloc (.cells #[.int .u8 0, .bool false] 51) = V at *
  have q0 : V.cell? ⟨w.heap.size, 0, none⟩ = some (.int .i64 (t.length : Int)) := b1.cell 0
  go_upto_region 3 with (fail)
  refine wp_region_lit ?_
  iterate 3 (refine wpList_plain rfl (fun K hK => ?_); go_simp; with_reducible refine hK _ _ ?_; clear hK K)
  refine wpList_ldA (t := 54) (off := 1 + i * 2) 51 (.tmp 17) rfl rfl (slC (ow, aw)) rfl b1 hp vs1 vs2 (szSl _) ?_
  simp only [Act.put, List.setIfInBounds_toArray, List.set_cons_zero, List.set_cons_succ]
  refine wpList_stA (t := 51) 51 (.tmp 4) (.tmp 18) rfl rfl (slC (ow, aw)) (slC (0, false)) rfl (slC_one _) rfl rfl (b2) (szSl _) ?_
  intro W4 h4 g4
  refine wpList_plain rfl (fun K hK => ?_); go_simp; with_reducible refine hK _ _ ?_; clear hK K
  go_wp2
  refine bodyPost_agg2 Try.results95 rfl rfl h4.range vs1 vs2 (szSl _) rfl (RetV.mk ?_)
  exact below_grown be g4 (by omega)
set_option maxHeartbeats 4000000 in
set_option maxRecDepth 100000 in
theorem get_no (t : Tab) (ht : t.length ≤ 64) (i : Int) (h : i < 0 ∨ t.length ≤ i) (w : World) : Calls Try.prog 95 #[.agg (tabC t).toArray, .int .i64 i] w (RetV w (.tuple #[.agg (slC (0, false)).toArray, .bool false])) := by
  obtain ⟨dvt1, vt1, vt2⟩ := rowTab
  obtain ⟨dvs1, vs1, vs2⟩ := rowSl
  have b1 : Bk ((w.alloc (.cells (tabC t).toArray 54)).alloc (.cells #[.int .u8 0, .bool false] 51)) w.heap.size 54 (tabC t) := (Bk.new w 54 (tabC t).toArray).alloc _
  have b2 : Bk ((w.alloc (.cells (tabC t).toArray 54)).alloc (.cells #[.int .u8 0, .bool false] 51)) (w.heap.size + 1) 51 (slC (0, false)) := Bk.newK _ _ _ (by simp) rfl
  have be : Below w.heap.size w ((w.alloc (.cells (tabC t).toArray 54)).alloc (.cells #[.int .u8 0, .bool false] 51)) := Below.allocS (Below.allocS (Below.refl _ _) _) _
  have zV : w.heap.size + 2 ≤ ((w.alloc (.cells (tabC t).toArray 54)).alloc (.cells #[.int .u8 0, .bool false] 51)).heap.size := by simp
  go_enter Try.func95, Try.ntmps95
  go_upto_region 1 with (fail)
  generalize (w.alloc (.cells (tabC t).toArray 54)).alloc (.cells #[.int .u8 0, .bool false] 51) = V at *
  have q0 : V.cell? ⟨w.heap.size, 0, none⟩ = some (.int .i64 (t.length : Int)) := b1.cell 0
  by_cases i0 : i < 0
  · clear h
    go_upto_region 2 with (fail)
    refine wp_region_lit ?_
    refine wpList_plain rfl (fun K hK => ?_); go_simp; with_reducible refine hK _ _ ?_; clear hK K
    refine wpList_stA (t := 51) 51 (.tmp 4) (.tmp 14) rfl rfl (slC (0, false)) (slC (0, false)) rfl (slC_one _) rfl rfl (b2) (szSl _) ?_
    intro W4 h4 g4
    refine wpList_plain rfl (fun K hK => ?_); go_simp; with_reducible refine hK _ _ ?_; clear hK K
    go_wp2
    refine bodyPost_agg2 Try.results95 rfl rfl h4.range vs1 vs2 (szSl _) rfl (RetV.mk ?_)
    exact below_grown be g4 (by omega)
  · have i1 : (t.length : Int) ≤ i := by omega
    clear h
    go_upto_region 2 with (fail)
    refine wp_region_lit ?_
    refine wpList_plain rfl (fun K hK => ?_); go_simp; with_reducible refine hK _ _ ?_; clear hK K
    refine wpList_stA (t := 51) 51 (.tmp 4) (.tmp 14) rfl rfl (slC (0, false)) (slC (0, false)) rfl (slC_one _) rfl rfl (b2) (szSl _) ?_
    intro W4 h4 g4
    refine wpList_plain rfl (fun K hK => ?_); go_simp; with_reducible refine hK _ _ ?_; clear hK K
    go_wp2
    refine bodyPost_agg2 Try.results95 rfl rfl h4.range vs1 vs2 (szSl _) rfl (RetV.mk ?_)
    exact below_grown be g4 (by omega)
/-- what get gives -/
def getT (t : Tab) (i : Int) : (Nat × Bool) × Bool := if h : 0 ≤ i ∧ i < t.length then (t[i.toNat]'(by omega), true) else ((0, false), false)
theorem get_any (t : Tab) (ht : t.length ≤ 64) (i : Int) (w : World) : Calls Try.prog 95 #[.agg (tabC t).toArray, .int .i64 i] w (RetV w (.tuple #[.agg (slC (getT t i).1).toArray, .bool (getT t i).2])) := by
  unfold getT
  split
  · rename_i h
    obtain ⟨n, rfl⟩ : ∃ n : Nat, i = n := ⟨i.toNat, by omega⟩
    exact get_yes t ht n (by omega) w
  · exact get_no t ht i (by omega) w
theorem atT_get (t : Tab) (i : Int) : atT t i = if (getT t i).2 = true ∧ (getT t i).1.2 = false then (getT t i).1.1 else 0 := by
  unfold atT getT
  by_cases h : 0 ≤ i ∧ i < t.length
  · rw [if_pos h, dif_pos h, List.getElem?_eq_getElem (by omega)]
    rcases t[i.toNat]'(by omega) with ⟨o, b⟩
    cases b <;> simp
  · rw [if_neg h, dif_neg h]; simp
theorem getT_rg (t : Tab) (ht : TabOk t) (i : Int) : (getT t i).1.1 ≤ 64 := by
  unfold getT
  split
  · exact (ht.rg _ (List.getElem_mem _)).2
  · exact Nat.zero_le _
set_option maxHeartbeats 4000000 in
set_option maxRecDepth 100000 in
theorem at_any (t : Tab) (ht : TabOk t) (i : Int) (w : World) : Calls Try.prog 65 #[.agg (tabC t).toArray, .int .i64 i] w (RetV w (.int .i64 (atT t i : Nat))) := by
  have hat := Lib.hid (atT_get t i)
  have HG := Lib.hid (fun w => get_any t ht.len i w)
  have hrg := getT_rg t ht i
  generalize atT t i = X at *
  generalize getT t i = G at *
  obtain ⟨⟨ow, aw⟩, ok⟩ := G
  simp only [] at hat HG hrg
  have hw : IntKind.i64.wrap (ow : Int) = (ow : Int) := IntWalk.i64_in _ (by omega)
  have ht := ht.len
  obtain ⟨dvt1, vt1, vt2⟩ := rowTab
  have b1 : Bk (w.alloc (.cells (tabC t).toArray 54)) w.heap.size 54 (tabC t) := Bk.new w 54 (tabC t).toArray
  have be : Below w.heap.size w (w.alloc (.cells (tabC t).toArray 54)) := Below.allocS (Below.refl _ _) _
  have zV : w.heap.size + 1 ≤ (w.alloc (.cells (tabC t).toArray 54)).heap.size := by simp
  go_enter Try.func65, Try.ntmps65
  go_upto_region 1 with (fail)
  generalize w.alloc (.cells (tabC t).toArray 54) = V at *
  go_upto_region 1 with (fail)
  refine wp_region_lit ?_
  refine wpList_ldA (t := 54) 54 (.tmp 2) rfl rfl (tabC t) rfl (b1) (whole_ _) vt1 vt2 (szTab t ht) ?_
  refine wpList_plain rfl (fun K hK => ?_); go_simp; with_reducible refine hK _ _ ?_; clear hK K
  refine wpList_plain rfl (fun K hK => ?_)
  go_simp
  refine (HG.out _).mono ?_
  rintro e w1 ⟨bs1, d1, rfl, rfl⟩
  with_reducible refine hK _ _ ?_
  clear hK K
  replace be := belowP be bs1 d1
  generalize plus V bs1 d1 = V1 at *
  iterate 4 (refine wpList_plain rfl (fun K hK => ?_); go_simp; with_reducible refine hK _ _ ?_; clear hK K)
  refine wpList_stA (t := 51) 51 (.tmp 5) (.tmp 11) rfl rfl (slC (ow, aw)) (slC (0, false)) rfl (slC_one _) rfl rfl (Bk.new _ _ _) (szSl _) ?_
  intro W4 h4 g4
  refine wpList_plain rfl (fun K hK => ?_); go_simp; with_reducible refine hK _ _ ?_; clear hK K
  have b2 : Bk W4 V1.heap.size 51 (slC (ow, aw)) := h4
  have q1 : W4.cell? ⟨V1.heap.size, 0, none⟩ = some (.int .u8 (ow : Int)) := b2.cell 0
  have q2 : W4.cell? ⟨V1.heap.size, 1, none⟩ = some (.bool aw) := b2.cell 1
  replace be := below_grown (be.alloc be.size _) g4 be.size
  clear h4 g4 b2
  generalize V1.heap.size = g1 at *
  cases ok
  · have hx : Hid (X = 0) := Lib.hid (by rw [hat.out]; rfl)
    go_wp2
    go_ret
    exact RetV.is_ (by rw [hx.out]; rfl) be
  · cases aw
    · have hx : Hid (X = ow) := Lib.hid (by rw [hat.out]; rfl)
      go_wp2
      go_ret
      exact RetV.is_ (by rw [hx.out]; rfl) be
    · have hx : Hid (X = 0) := Lib.hid (by rw [hat.out]; rfl)
      go_wp2
      go_ret
      exact RetV.is_ (by rw [hx.out]; rfl) be
end Go.Proofs.Ytepodflinhpejaa

/- table.Next (chapter 14). -/
namespace Go.Proofs.Ytepodflinhpejaa
open Go.RowKit
set_option linter.unusedVariables false
set_option linter.unusedSimpArgs false
attribute [local go_sem ↓] sliced_cut

attribute [local go_sem] cutA_zero

/-- the cells of ints -/
def itK (l : List Int) : List Value := l.map (Value.int .i64)
theorem itK_len (l : List Int) : (itK l).length = l.length := by simp [itK]
theorem itK_at (l : List Int) (i : Nat) (h : i < l.length) : (itK l)[i]? = some (.int .i64 l[i]) := by simp [itK, h]
theorem itK_append (a b : List Int) : itK (a ++ b) = itK a ++ itK b := by simp [itK]
theorem Rs.int_ {w : World} {A : Option Addr} {n c : Nat} {l : List Int} (h : Rs 1 w A n c (itK l)) (i : Nat) (hi : i < l.length) : ∃ b o, A = some ⟨b, o, none⟩ ∧ w.cell? ⟨b, o + i, none⟩ = some (.int .i64 l[i]) := by
  obtain ⟨b, o, hA, _, hc⟩ := h.at_ (by have := h.1; rw [itK_len] at this; omega) (by decide)
  exact ⟨b, o, hA, hc i _ (itK_at l i hi)⟩
/-- a cell of an element, set -/
theorem flat_set {X : Type} (enc : X → List Value) (s : Nat) (hs : ∀ x, (enc x).length = s) : ∀ (L : List X) (j : Nat) (hj : j < L.length) (x : X) (k : Nat) (u : Value), k < s → (enc L[j]).set k u = enc x → (L.flatMap enc).set (j * s + k) u = (L.set j x).flatMap enc
  | y :: t, 0, _, x, k, u, hk, h => by
    simp only [List.getElem_cons_zero] at h
    simp only [List.flatMap_cons, Nat.zero_mul, Nat.zero_add, List.set_cons_zero, ← h]
    rw [List.set_append_left _ _ (by rw [hs]; exact hk)]
  | y :: t, j + 1, hj, x, k, u, hk, h => by
    have ih := flat_set enc s hs t j (by simpa using hj) x k u hk (by simpa using h)
    simp only [List.flatMap_cons, List.set_cons_succ]
    rw [List.set_append_right _ _ (by rw [hs, Nat.add_mul]; omega), hs, show (j + 1) * s + k - s = j * s + k by rw [Nat.add_mul]; omega, ih]
theorem flat_splice {X : Type} (enc : X → List Value) (s : Nat) (hs : ∀ x, (enc x).length = s) (L : List X) (j : Nat) (hj : j < L.length) (x : X) : splice (L.flatMap enc) (j * s) (enc x) = (L.set j x).flatMap enc := by
  have e : L.set j x = L.take j ++ x :: L.drop (j + 1) := List.set_eq_take_append_cons_drop .. |>.trans (if_pos hj)
  unfold splice
  rw [e, List.flatMap_append, List.flatMap_cons, flat_take enc s hs, hs, show j * s + s = (j + 1) * s by rw [Nat.add_mul]; omega, flat_drop enc s hs]
theorem splice_cons (v : Value) (L new : List Value) (o : Nat) : splice (v :: L) (1 + o) new = v :: splice L o new := by
  unfold splice
  rw [Nat.add_comm 1 o, show o + 1 + new.length = (o + new.length) + 1 by omega]
  simp
theorem slots_set (t : Tab) (i : Nat) (h : i < t.length) (s : Nat × Bool) : slots (t.set i s) = (slots t).set i s := by
  unfold slots
  rw [List.length_set, ← List.set_append_left _ _ h, List.take_set]
theorem slots_snoc (t : Tab) (h : t.length < 64) (s : Nat × Bool) : slots (t ++ [s]) = (slots t).set t.length s := by
  unfold slots
  rw [← List.take_set, List.set_append_right _ _ (Nat.le_refl _), Nat.sub_self, List.append_assoc, List.length_append]
  congr 2
  rw [show 64 - t.length = (64 - (t.length + [s].length)) + 1 by simp; omega, List.replicate_succ]
  rfl
theorem tabC_setAway (t : Tab) (i : Nat) (h : i < t.length) (h64 : i < 64) : (tabC t).set (1 + i * 2 + 1) (.bool true) = tabC (t.set i (t[i].1, true)) := by
  have hs : i < (slots t).length := by rw [slots_len0]; exact h64
  have e : (slots t)[i] = t[i] := by have := slots_at t i h h64; rw [List.getElem?_eq_getElem hs] at this; injection this
  unfold tabC
  rw [show 1 + i * 2 + 1 = (i * 2 + 1) + 1 by omega, List.set_cons_succ, slots_set t i h, List.length_set,
    flat_set slC 2 slC_len (slots t) i hs (t[i].1, true) 1 (.bool true) (by decide) (by rw [e]; rfl)]
theorem tabC_setSlot (t : Tab) (i : Nat) (h : i < t.length) (h64 : i < 64) (s : Nat × Bool) : splice (tabC t) (1 + i * 2) (slC s) = tabC (t.set i s) := by
  have hs : i < (slots t).length := by rw [slots_len0]; exact h64
  unfold tabC
  rw [splice_cons, flat_splice slC 2 slC_len _ _ hs, slots_set t i h, List.length_set]
theorem tabC_snoc (t : Tab) (h : t.length < 64) (s : Nat × Bool) : splice ((tabC t).set 0 (.int .i64 ((t.length : Int) + 1))) (1 + t.length * 2) (slC s) = tabC (t ++ [s]) := by
  have hs : t.length < (slots t).length := by rw [slots_len0]; exact h
  unfold tabC
  rw [List.set_cons_zero, splice_cons, flat_splice slC 2 slC_len _ _ hs, slots_snoc t h]
  simp
/-- the first i slots away -/
def awI (t : Tab) (i : Nat) : Tab := awayT (t.take i) ++ t.drop i
theorem awI_len (t : Tab) (i : Nat) : (awI t i).length = t.length := by simp [awI, awayT]; omega
theorem awI_succ (t : Tab) (i : Nat) (h : i < t.length) : (awI t i).set i (((awI t i)[i]'(by rw [awI_len]; exact h)).1, true) = awI t (i + 1) := by
  have hl : (awayT (t.take i)).length = i := by simp [awayT]; omega
  have e : (awI t i)[i]'(by rw [awI_len]; exact h) = t[i] := by
    simp only [awI]
    rw [List.getElem_append_right (by omega)]
    simp [hl]
  rw [e]
  unfold awI
  rw [List.set_append_right _ _ (by omega), hl, Nat.sub_self, List.drop_eq_getElem_cons h, List.set_cons_zero, List.take_succ_eq_append_getElem h]
  simp only [awayT, List.map_append, List.map_cons, List.map_nil, List.append_assoc, List.cons_append, List.nil_append]
theorem awI_all (t : Tab) : awI t t.length = awayT t := by simp [awI]
set_option maxHeartbeats 4000000 in
set_option maxRecDepth 100000 in
theorem tabNext_any (t : Tab) (hok : TabOk t) (l : List Int) (A : Option Addr) (n c : Nat) (w : World) (hr : Rs 1 w A n c (itK l)) (hn : n ≤ 1000000) : Calls Try.prog 61 #[.agg (tabC t).toArray, .slice A n c] w (RetV w (.agg (tabC (tNext t l)).toArray)) := by
  have ht := hok.len
  have hln : l.length = n := by have := hr.1; rw [itK_len] at this; omega
  obtain ⟨dvt1, vt1, vt2⟩ := rowTab
  have b1 : Bk ((w.alloc (.cells (tabC t).toArray 54)).alloc (.cells (tabC []).toArray 54)) w.heap.size 54 (tabC t) := (Bk.new w 54 (tabC t).toArray).alloc _
  have b2 : Bk ((w.alloc (.cells (tabC t).toArray 54)).alloc (.cells (tabC []).toArray 54)) (w.heap.size + 1) 54 (tabC []) := Bk.newK _ _ _ (by simp) rfl
  have be : Below w.heap.size w ((w.alloc (.cells (tabC t).toArray 54)).alloc (.cells (tabC []).toArray 54)) := Below.allocS (Below.allocS (Below.refl _ _) _) _
  have zV : w.heap.size + 2 ≤ ((w.alloc (.cells (tabC t).toArray 54)).alloc (.cells (tabC []).toArray 54)).heap.size := by simp
  have hzv : ∀ w, (zeroValue 54).run Try.prog w = .ok (.agg (tabC []).toArray) w := fun _ => by kernel_rfl
  go_enter Try.func61, Try.ntmps61
  go_upto_region 1 with (fail)
  generalize (w.alloc (.cells (tabC t).toArray 54)).alloc (.cells (tabC []).toArray 54) = V at *
  have q0 : V.cell? ⟨w.heap.size, 0, none⟩ = some (.int .i64 (t.length : Int)) := b1.cell 0
  go_upto_region 2 with (fail)
  clear q0 hzv
  have hb0 : Bk V w.heap.size 54 (tabC (awI t 0)) := by rw [show awI t 0 = t by simp [awI, awayT]]; exact b1
  go_loopw [11] (fun I wr => ∃ i : Nat, I = .int .i64 (i : Int) ∧ i ≤ t.length ∧ Bk wr w.heap.size 54 (tabC (awI t i)) ∧ Bk wr (w.heap.size + 1) 54 (tabC []) ∧ Below w.heap.size w wr) (fun I _ => t.length - (intOf I).toNat)
  case atStart => exact ⟨0, rfl, Nat.zero_le _, hb0, b2, be⟩
  case round =>
    clear b1 b2 be hb0 zV
    obtain ⟨i, rfl, hi, b1, b2, be⟩ := hrel
    have zV := b2.lt
    by_cases hlt : i < t.length
    · have ii : (i : Int) < (t.length : Int) := by omega
      have i64 : (i : Int) < 64 := by omega
      have hal : (awI t i).length ≤ 64 := by rw [awI_len]; exact ht
      have hset := tabC_setAway (awI t i) i (by rw [awI_len]; exact hlt) (by omega)
      rw [awI_succ t i hlt] at hset
      go_upto_region 4 with (fail)
      refine wp_region_lit ?_
      iterate 4 (refine wpList_plain rfl (fun K hK => ?_); go_simp; with_reducible refine hK _ _ ?_; clear hK K)
      refine wpList_st1 4 (.tmp 17) (.const (.bool true)) rfl rfl rfl rfl b1 (by rw [tabC_len _ hal]; omega) rfl (by kernel_rfl) ?_
      intro W5 h5 g5
      simp only [Act.put, List.setIfInBounds_toArray, List.set_cons_zero, List.set_cons_succ]
      have b2' := b2.grown g5 (fun e => by injection e with e; omega)
      have be' := below_grown be g5 (Nat.le_refl _)
      have h5' : Bk W5 w.heap.size 54 (tabC (awI t (i + 1))) := by rw [← hset]; exact h5
      clear h5 g5 b1 b2 be hset
      go_wp2
      exact ⟨⟨i + 1, by go_num, by omega, h5', b2', be'⟩, by simp [intOf]; omega⟩
    · obtain rfl : i = t.length := by omega
      have ii : ¬ (t.length : Int) < (t.length : Int) := by omega
      have hb0 : Bk wr w.heap.size 54 (tabC (tNext t (l.take 0))) := by rw [awI_all] at b1; exact b1
      go_upto_region 7 with (fail)
      clear b1 ii hi hlt
      go_loopw [21] (fun I wr => ∃ j : Nat, I = .int .i64 (j : Int) ∧ j ≤ n ∧ Bk wr w.heap.size 54 (tabC (tNext t (l.take j))) ∧ Bk wr (w.heap.size + 1) 54 (tabC []) ∧ Below w.heap.size w wr) (fun I _ => n - (intOf I).toNat)
      case atStart => exact ⟨0, rfl, Nat.zero_le _, hb0, b2, be⟩
      case round =>
        clear b2 be hb0 zV
        obtain ⟨j, rfl, hj, b1, b2, be⟩ := hrel
        have zV := b2.lt
        by_cases hlt : j < n
        · have ii : (j : Int) < (n : Int) := by omega
          have hjL : j < l.length := by omega
          have HS := Lib.hid (show tNext t (l.take (j + 1)) = next1 (tNext t (l.take j)) l[j] by rw [List.take_succ_eq_append_getElem hjL, tNext_snoc])
          obtain ⟨b, o, rfl, -, hc⟩ := (hr.2.2.below be).at_ (by rw [itK_len]; omega)
          have hcj : wr.cell? ⟨b, o + j, none⟩ = some (.int .i64 l[j]) := hc j _ (itK_at l j hjL)
          clear hc
          have hTok := tNext_ok t hok (l.take j)
          generalize tNext t (l.take j) = T at *
          generalize l[j] = x at *
          have hTl := hTok.len
          cases hx : numB x
          · have hs := Lib.hid (show tNext t (l.take (j + 1)) = T by rw [HS.out]; unfold next1; rw [if_neg (by intro h; simp [numB] at hx; omega)])
            clear HS
            go_upto_region 9 with (fail)
            go_wp2_with (go_at_call 89; refine (number_any x _).mono ?_; rintro e w1 ⟨rfl, rfl⟩; rw [hx])
            exact ⟨⟨j + 1, by go_num, by omega, by rw [hs.out]; exact b1, b2, be⟩, by simp [intOf]; omega⟩
          · have hx2 : 1 ≤ x ∧ x ≤ 64 := by simpa [numB] using hx
            obtain ⟨m, rfl⟩ : ∃ m : Nat, x = m := ⟨x.toNat, by omega⟩
            have HF := Lib.hid (fun w => find_any T hTok (m : Int) w)
            have hw8 : IntKind.u8.wrap (m : Int) = (m : Int) := IntWalk.u8_in _ (by omega)
            have HB := Lib.hid hw8
            clear hw8
            by_cases hf : idxT T (m : Int) < T.length
            · have hs := Lib.hid (show tNext t (l.take (j + 1)) = T.set (idxT T (m : Int)) (m, false) by rw [HS.out]; unfold next1; rw [if_pos hx2, if_pos hf]; rfl)
              have hfd : fdT T (m : Int) = (idxT T (m : Int) : Int) := if_pos hf
              rw [hfd] at HF
              have hset := tabC_setSlot T (idxT T (m : Int)) hf (by omega) (m, false)
              rw [← hs.out] at hset
              have hlen := tabC_len T hTl
              generalize idxT T (m : Int) = k at *
              have ik : ¬ (k : Int) < 0 := by omega
              have ik64 : (k : Int) < 64 := by omega
              clear hs HS hfd
              go_upto_region 10 with (go_at_call 89; refine (number_any _ _).mono ?_; rintro e w1 ⟨rfl, rfl⟩; rw [hx])
              refine wp_region_lit ?_
              refine wpList_ldA (t := 54) 54 (.tmp 2) rfl rfl (tabC T) rfl (b1) (whole_ _) vt1 vt2 (szTab T hTl) ?_
              refine wpList_plain rfl (fun K hK => ?_); go_simp; with_reducible refine hK _ _ ?_; clear hK K
              refine wpList_plain rfl (fun K hK => ?_)
              go_simp
              refine (HF.out _).mono ?_
              rintro e w1 ⟨bs1, d1, rfl, rfl⟩
              with_reducible refine hK _ _ ?_
              clear hK K
              refine wpList_plain rfl (fun K hK => ?_); go_simp; with_reducible refine hK _ _ ?_; clear hK K
              replace b1 := b1.later (below_plus wr bs1 d1)
              replace b2 := b2.later (below_plus wr bs1 d1)
              replace be := belowP be bs1 d1
              clear hcj HF
              generalize plus wr bs1 d1 = W1 at *
              have hw8 := HB.out
              go_upto_region 14 with (fail)
              refine wp_region_lit ?_
              iterate 6 (refine wpList_plain rfl (fun K hK => ?_); go_simp; with_reducible refine hK _ _ ?_; clear hK K)
              refine wpList_stM (off := 1 + k * 2) 51 (.tmp 44) (.tmp 42) rfl rfl (slC (m, false)) (tabC T) (by rw [hlen]; simp [slC]; omega) (slC_one _) rfl rfl b1 (szSl _) ?_
              intro W5 h5 g5
              simp only [Act.put, List.setIfInBounds_toArray, List.set_cons_zero, List.set_cons_succ]
              have b2' := b2.grown g5 (fun e => by injection e with e; omega)
              have be' := below_grown be g5 (Nat.le_refl _)
              have h5' : Bk W5 w.heap.size 54 (tabC (tNext t (l.take (j + 1)))) := by rw [← hset]; exact h5
              clear h5 g5 b1 b2 be hset
              go_wp2
              exact ⟨⟨j + 1, by go_num, by omega, h5', b2', be'⟩, by simp [intOf]; omega⟩
            · have hs := Lib.hid (show tNext t (l.take (j + 1)) = T ++ [(m, false)] by rw [HS.out]; unfold next1; rw [if_pos hx2, if_neg hf]; rfl)
              have hfd : fdT T (m : Int) = -1 := if_neg hf
              rw [hfd] at HF
              have h64 : T.length < 64 := hTok.room (n := m) (by omega) (by omega) (fun h => hf (idxT_lt.2 h))
              have hset := tabC_snoc T h64 (m, false)
              rw [← hs.out] at hset
              have hlen := tabC_len T hTl
              have q0 : wr.cell? ⟨w.heap.size, 0, none⟩ = some (.int .i64 (T.length : Int)) := b1.cell 0
              have ik64 : (T.length : Int) < 64 := by omega
              have ik : ¬ (T.length : Int) < 0 := by omega
              have hwT : IntKind.i64.wrap ((T.length : Int) + 1) = (T.length : Int) + 1 := IntWalk.i64_in _ (by omega)
              clear hs HS hfd
              go_upto_region 10 with (go_at_call 89; refine (number_any _ _).mono ?_; rintro e w1 ⟨rfl, rfl⟩; rw [hx])
              refine wp_region_lit ?_
              refine wpList_ldA (t := 54) 54 (.tmp 2) rfl rfl (tabC T) rfl (b1) (whole_ _) vt1 vt2 (szTab T hTl) ?_
              refine wpList_plain rfl (fun K hK => ?_); go_simp; with_reducible refine hK _ _ ?_; clear hK K
              refine wpList_plain rfl (fun K hK => ?_)
              go_simp
              refine (HF.out _).mono ?_
              rintro e w1 ⟨bs1, d1, rfl, rfl⟩
              with_reducible refine hK _ _ ?_
              clear hK K
              refine wpList_plain rfl (fun K hK => ?_); go_simp; with_reducible refine hK _ _ ?_; clear hK K
              replace b1 := b1.later (below_plus wr bs1 d1)
              replace b2 := b2.later (below_plus wr bs1 d1)
              replace be := belowP be bs1 d1
              clear hcj HF q0
              generalize plus wr bs1 d1 = W1 at *
              have hw8 := HB.out
              go_upto_region 12 with (fail)
              refine wp_region_lit ?_
              refine wpList_plain rfl (fun K hK => ?_); go_simp; with_reducible refine hK _ _ ?_; clear hK K
              refine wpList_ld1 (t := 54) (cs := tabC T) 3 (.tmp 33) rfl (by rfl) rfl (b1) rfl Try.underlying3 rfl ?_
              refine wpList_plain rfl (fun K hK => ?_); go_simp; with_reducible refine hK _ _ ?_; clear hK K
              go_upto_region 13 with (fail)
              refine wp_region_lit ?_
              refine wpList_plain rfl (fun K hK => ?_); go_simp; with_reducible refine hK _ _ ?_; clear hK K
              refine wpList_ld1 (t := 54) (cs := tabC T) 3 (.tmp 35) rfl (by rfl) rfl (b1) rfl Try.underlying3 rfl ?_
              iterate 2 (refine wpList_plain rfl (fun K hK => ?_); go_simp; with_reducible refine hK _ _ ?_; clear hK K)
              refine wpList_st1 3 (.tmp 38) (.tmp 37) rfl rfl rfl rfl b1 (by rw [tabC_len _ hTl]; omega) rfl (by kernel_rfl) ?_
              intro W4 h4 g4
              simp only [Act.put, List.setIfInBounds_toArray, List.set_cons_zero, List.set_cons_succ]
              have b2' := b2.grown g4 (fun e => by injection e with e; omega)
              have be' := below_grown be g4 (Nat.le_refl _)
              replace b1 : Bk W4 w.heap.size 54 ((tabC T).set 0 (.int .i64 ((T.length : Int) + 1))) := h4
              replace b2 := b2'
              replace be := be'
              clear h4 g4
              generalize T.length = k at *
              go_upto_region 14 with (fail)
              refine wp_region_lit ?_
              iterate 6 (refine wpList_plain rfl (fun K hK => ?_); go_simp; with_reducible refine hK _ _ ?_; clear hK K)
              refine wpList_stM (off := 1 + k * 2) 51 (.tmp 44) (.tmp 42) rfl rfl (slC (m, false)) ((tabC T).set 0 (.int .i64 ((k : Int) + 1))) (by rw [List.length_set, hlen]; simp [slC]; omega) (slC_one _) rfl rfl b1 (szSl _) ?_
              intro W5 h5 g5
              simp only [Act.put, List.setIfInBounds_toArray, List.set_cons_zero, List.set_cons_succ]
              have b2' := b2.grown g5 (fun e => by injection e with e; omega)
              have be' := below_grown be g5 (Nat.le_refl _)
              have h5' : Bk W5 w.heap.size 54 (tabC (tNext t (l.take (j + 1)))) := by rw [← hset]; exact h5
              clear h5 g5 b1 b2 be hset
              go_wp2
              exact ⟨⟨j + 1, by go_num, by omega, h5', b2', be'⟩, by simp [intOf]; omega⟩
        · obtain rfl : j = n := by omega
          have ii : ¬ (j : Int) < (j : Int) := by omega
          rw [List.take_of_length_le (by omega)] at b1
          have hTl := (tNext_ok t hok l).len
          clear hj hlt
          go_upto_region 16 with (fail)
          refine wp_region_lit ?_
          refine wpList_ldA (t := 54) 54 (.tmp 2) rfl rfl (tabC (tNext t l)) rfl (b1) (whole_ _) vt1 vt2 (szTab _ hTl) ?_
          simp only [Act.put, List.setIfInBounds_toArray, List.set_cons_zero, List.set_cons_succ]
          refine wpList_stA (t := 54) 54 (.tmp 4) (.tmp 46) rfl rfl (tabC (tNext t l)) (tabC []) (by rw [tabC_len _ hTl]; rfl) (tabC_one _) rfl rfl b2 (szTab _ hTl) ?_
          intro W6 h6 g6
          simp only [Act.put, List.setIfInBounds_toArray, List.set_cons_zero, List.set_cons_succ]
          go_wp2
          refine bodyPost_agg Try.results61 rfl h6.range vt1 vt2 (szTab _ hTl) rfl (RetV.mk ?_)
          exact below_grown be g6 (by omega)
end Go.Proofs.Ytepodflinhpejaa

/- Rows of structs as words that own blocks (wp_own). -/
namespace Go.Proofs.Ytepodflinhpejaa
open Go.RowKit
set_option linter.unusedVariables false

theorem Rs.kept {F : Nat → Prop} {s : Nat} {w w' : World} {A : Option Addr} {n c : Nat} {cs : List Value} (h : Rs s w A n c cs) (hk : Kept F w w') (hf : ∀ a, A = some a → a.block < w.heap.size → F a.block) : Rs s w' A n c cs := by
  refine ⟨h.1, h.2.1, ?_⟩
  rcases h.2.2 with h' | ⟨b, off, hA, hb, hc⟩
  · exact .inl h'
  · exact .inr ⟨b, off, hA, Nat.lt_of_lt_of_le hb hk.size, fun i u hu => (World.cell?_of_block (hk.block b hb (hf _ hA hb))).trans (hc i u hu)⟩
theorem Os.kept {F : Nat → Prop} {e : TypeId} {s base : Nat} {w w' : World} {A : Option Addr} {n c : Nat} {cs : List Value} (h : Os e s w base A n c cs) (hk : Kept F w w') (hf : ∀ b, (Value.slice A n c).ownBlock = some b → F b) : Os e s w' base A n c cs := by
  refine ⟨h.1, ?_⟩
  rcases h.2 with h' | ⟨g, cap, cur, hv, hb, hg, hr⟩
  · exact .inl h'
  · have ho : (Value.slice A n c).ownBlock = some g := by rw [hv]; rfl
    exact .inr ⟨g, cap, cur, hv, hb, (hk.block g (h.blk g ho).2 (hf g ho)).trans hg, hr⟩
/-- a call hands back a new row -/
def RetOs (e : TypeId) (s : Nat) (w : World) (cs : List Value) (en : Ending) (w' : World) : Prop := ∃ A n c bs d, en = .returned (.slice A n c) ∧ w' = plus w bs d ∧ Os e s (plus w bs d) w.heap.size A n c cs
theorem RetOs.mk {e : TypeId} {s : Nat} {w w' : World} {cs : List Value} {A : Option Addr} {n c : Nat} (h : Os e s w' w.heap.size A n c cs) (hb : Below w.heap.size w w') : RetOs e s w cs (.returned (.slice A n c)) w' := by
  obtain ⟨bs, d, rfl⟩ := plus_of hb
  exact ⟨A, n, c, bs, d, rfl, rfl, h⟩
end Go.Proofs.Ytepodflinhpejaa

/- The reference's tables (chapter 14). -/
namespace Go.Proofs.Ytepodflinhpejaa
open Go.RowKit
set_option linter.unusedVariables false
set_option linter.unusedSimpArgs false
attribute [local go_sem ↓] sliced_cut

attribute [local go_sem] cutA_zero

theorem etI : ET Try.prog 65 3 (.int .i64 0) 1 8 := ⟨Try.underlying65, by kernel_rfl, rfl, by decide, by decide⟩
/-- where a number stands first; -1: nowhere -/
def ixR (l : List Int) (n : Int) : Int := if l.findIdx (· == n) < l.length then (l.findIdx (· == n) : Int) else -1
theorem ixR_neg (l : List Int) (n : Int) : ixR l n < 0 ↔ n ∉ l := by
  unfold ixR
  have hp : l.findIdx (· == n) < l.length ↔ ∃ x ∈ l, (x == n) = true := List.findIdx_lt_length
  by_cases h : l.findIdx (· == n) < l.length
  · rw [if_pos h]
    obtain ⟨x, hx, he⟩ := hp.1 h
    have : x = n := by simpa using he
    subst this
    constructor
    · intro h; omega
    · intro h; exact absurd hx h
  · rw [if_neg h]
    constructor
    · intro _ hn; exact h (hp.2 ⟨n, hn, by simp⟩)
    · intro _; omega
theorem ixR_step (l : List Int) (n : Int) (i : Nat) (hi : i ≤ l.findIdx (· == n)) (h : i < l.length) : (l[i] = n → ixR l n = i) ∧ (¬ l[i] = n → i + 1 ≤ l.findIdx (· == n)) := by
  constructor
  · intro he
    have e : l.findIdx (· == n) = i := by
      rcases Nat.lt_or_ge i (l.findIdx (· == n)) with h1 | h1
      · have := List.not_of_lt_findIdx h1
        simp [he] at this
      · omega
    unfold ixR
    rw [e, if_pos h]
  · intro he
    rcases Nat.lt_or_ge i (l.findIdx (· == n)) with h1 | h1
    · exact h1
    · have e : l.findIdx (· == n) = i := by omega
      have := List.findIdx_getElem (p := (· == n)) (xs := l) (w := by omega)
      simp only [e] at this
      exact absurd (by simpa using this) he
set_option maxHeartbeats 4000000 in
set_option maxRecDepth 100000 in
theorem refIndex_any (l : List Int) (n : Int) (A : Option Addr) (m c : Nat) (w : World) (hr : Rs 1 w A m c (itK l)) (hm : m ≤ 4000000) : Calls Try.prog 94 #[.slice A m c, .int .i64 n] w fun e w' => e = .returned (.int .i64 (ixR l n)) ∧ w = w' := by
  have hlm : l.length = m := by have := hr.1; rw [itK_len] at this; omega
  obtain ⟨X, hX⟩ : ∃ X, ixR l n = X := ⟨_, rfl⟩
  rw [hX]
  have HX := Lib.hid hX
  clear hX
  have hle : l.findIdx (· == n) ≤ l.length := List.findIdx_le_length
  go_enter Try.func94, Try.ntmps94
  go_upto_region 2 with (fail)
  go_loop [5] (fun I => ∃ i : Nat, I = .int .i64 (i : Int) ∧ i ≤ l.findIdx (· == n)) (fun I => m - (intOf I).toNat)
  case atStart => exact ⟨0, rfl, Nat.zero_le _⟩
  case round =>
    obtain ⟨i, rfl, hi⟩ := hrel
    by_cases hlt : i < m
    · have hil : i < l.length := by omega
      have ii : (i : Int) < (m : Int) := by omega
      obtain ⟨b, o, rfl, hci⟩ := hr.int_ i hil
      have hst := ixR_step l n i hi hil
      generalize l[i] = x at *
      by_cases hx : x = n
      · have hfin := Lib.hid (HX.out.symm.trans (hst.1 hx))
        subst hx
        clear hst hi hle
        go_wp2
        go_ret
        exact ⟨by rw [hfin.out]; rfl, rfl⟩
      · have hii := hst.2 hx
        have hxb : (x == n) = false := by simpa using hx
        clear hst hi
        go_wp2
        exact ⟨⟨i + 1, by go_num, hii⟩, by simp [intOf]; omega⟩
    · have hfin := Lib.hid (show X = -1 by rw [← HX.out]; unfold ixR; exact if_neg (by omega))
      have ii : ¬ (i : Int) < (m : Int) := by omega
      clear hi hle
      go_wp2
      go_ret
      exact ⟨by rw [hfin.out]; rfl, rfl⟩
set_option maxHeartbeats 4000000 in
set_option maxRecDepth 100000 in
theorem refOwner_any (l : List Int) (i : Nat) (A : Option Addr) (m c : Nat) (w : World) (hr : Rs 1 w A m c (itK l)) (hm : m ≤ 1000000) (hil : i < l.length) (hb : -1000 ≤ l[i] ∧ l[i] ≤ 1000) : Calls Try.prog 93 #[.slice A m c, .int .i64 (i : Int)] w fun e w' => e = .returned (.int .i64 (ab l[i])) ∧ w = w' := by
  have hlm : l.length = m := by have := hr.1; rw [itK_len] at this; omega
  obtain ⟨b, o, rfl, hci⟩ := hr.int_ i hil
  have i0 : ¬ (i : Int) < 0 := by omega
  have i1 : ¬ (m : Int) ≤ (i : Int) := by omega
  have i2 : (i : Int) < (m : Int) := by omega
  generalize l[i] = x at *
  by_cases hx : x < 0
  · have e := Lib.hid (show ab x = 0 - x from if_pos hx)
    go_enter Try.func93, Try.ntmps93
    go_wp2
    go_ret
    exact ⟨by rw [e.out]; simp, rfl⟩
  · have e := Lib.hid (show ab x = x from if_neg hx)
    go_enter Try.func93, Try.ntmps93
    go_wp2
    go_ret
    exact ⟨by rw [e.out]; rfl, rfl⟩
theorem memR_len (l : List Int) : (memR l).length ≤ l.length := by
  suffices ∀ out : List Int, (l.foldl mem1 out).length ≤ out.length + l.length by simpa [memR] using this []
  induction l with
  | nil => intro out; simp
  | cons a t ih =>
    intro out
    refine Nat.le_trans (ih _) ?_
    unfold mem1
    split <;> simp <;> omega
set_option maxHeartbeats 4000000 in
set_option maxRecDepth 100000 in
theorem refMembers_ints (l : List Int) (A : Option Addr) (m c : Nat) (w : World) (hr : Rs 1 w A m c (itK l)) (hm : m ≤ 1000000) : Calls Try.prog 92 #[.slice A m c] w (RetOs 3 1 w (itK (memR l))) := by
  have hlm : l.length = m := by have := hr.1; rw [itK_len] at this; omega
  have hO0 : Os 3 1 w w.heap.size none 0 0 (itK (memR (l.take 0))) := Os.nil_
  have be := Below.refl w.heap.size w
  go_enter Try.func92, Try.ntmps92
  go_upto_region 3 with (fail)
  go_loopw [3, 4] (fun OUT I wr => ∃ (i : Nat) (B : Option Addr) (k d : Nat), I = .int .i64 (i : Int) ∧ OUT = .slice B k d ∧ i ≤ m ∧ Os 3 1 wr w.heap.size B k d (itK (memR (l.take i))) ∧ Below w.heap.size w wr) (fun _ I _ => m - (intOf I).toNat)
  case atStart => exact ⟨0, none, 0, 0, rfl, rfl, Nat.zero_le _, hO0, be⟩
  case round =>
    clear hO0 be
    obtain ⟨i, B, k, d, rfl, rfl, hi, hO, be⟩ := hrel
    by_cases hlt : i < m
    · have hil : i < l.length := by omega
      have ii : (i : Int) < (m : Int) := by omega
      obtain ⟨b, o, rfl, -, hc⟩ := (hr.2.2.below be).at_ (by rw [itK_len]; omega)
      have hci : wr.cell? ⟨b, o + i, none⟩ = some (.int .i64 l[i]) := hc i _ (itK_at l i hil)
      clear hc
      have HS := Lib.hid (show memR (l.take (i + 1)) = mem1 (memR (l.take i)) l[i] by rw [List.take_succ_eq_append_getElem hil, memR_snoc])
      have hk := hO.1
      rw [itK_len] at hk
      have hmlen : (memR (l.take i)).length ≤ i := Nat.le_trans (memR_len (l.take i)) (by simp; omega)
      have HI := Lib.hid (fun w h => refIndex_any (memR (l.take i)) l[i] B k d w h (by omega))
      have hneg := ixR_neg (memR (l.take i)) l[i]
      generalize l[i] = x at *
      obtain ⟨M, hM⟩ : ∃ M, memR (l.take i) = M := ⟨_, rfl⟩
      rw [hM] at HI hneg HS hO hmlen hk
      clear hM
      generalize ixR M x = ix at *
      by_cases h1 : 0 < x
      · by_cases h2 : x < 65
        · by_cases h3 : ix < 0
          · have hs := Lib.hid (show memR (l.take (i + 1)) = M ++ [x] by rw [HS.out]; unfold mem1; exact if_pos ⟨h1, h2, hneg.1 h3⟩)
            clear HS hneg
            go_upto_region 6 with (go_at_call 94; refine (HI.out _ hO.rs).mono ?_; rintro e w1 ⟨rfl, rfl⟩)
            go_wp2_with (at_builtin; refine wpList_appS etI rfl (.tmp 32) (.tmp 37) rfl rfl (hO.later (Below.allocS (Below.refl _ _) _)) rfl (Rs.of_bk (n := 1) (c := 1) (Bk.new wr _ _) rfl (Nat.le_refl _)) (by simp [Value.oneCell']) (by omega) (by have := be.size; simp; omega) ?_; intro A2 n2 c2 w4 hn2 hO4 hb4 hg4; subst hn2)
            have he2 : Os 3 1 w4 w.heap.size A2 (k + 1) c2 (itK (memR (l.take (i + 1)))) := by rw [hs.out, itK_append]; exact hO4
            exact ⟨⟨i + 1, A2, _, c2, by go_num, rfl, by omega, he2, (Below.allocS be _).trans hb4⟩, by simp [intOf]; omega⟩
          · have hs := Lib.hid (show memR (l.take (i + 1)) = M by rw [HS.out]; unfold mem1; exact if_neg (fun h => h3 (hneg.2 h.2.2)))
            clear HS hneg
            go_wp2_with (go_at_call 94; refine (HI.out _ hO.rs).mono ?_; rintro e w1 ⟨rfl, rfl⟩)
            exact ⟨⟨i + 1, B, k, d, by go_num, rfl, by omega, by rw [hs.out]; exact hO, be⟩, by simp [intOf]; omega⟩
        · have hs := Lib.hid (show memR (l.take (i + 1)) = M by rw [HS.out]; unfold mem1; exact if_neg (fun h => h2 h.2.1))
          clear HS hneg HI
          go_wp2
          exact ⟨⟨i + 1, B, k, d, by go_num, rfl, by omega, by rw [hs.out]; exact hO, be⟩, by simp [intOf]; omega⟩
      · have hs := Lib.hid (show memR (l.take (i + 1)) = M by rw [HS.out]; unfold mem1; exact if_neg (fun h => h1 h.1))
        clear HS hneg HI
        go_wp2
        exact ⟨⟨i + 1, B, k, d, by go_num, rfl, by omega, by rw [hs.out]; exact hO, be⟩, by simp [intOf]; omega⟩
    · have ii : ¬ (i : Int) < (m : Int) := by omega
      rw [List.take_of_length_le (by omega)] at hO
      clear hi
      go_wp2
      go_ret
      exact RetOs.mk hO be
set_option maxHeartbeats 4000000 in
set_option maxRecDepth 100000 in
theorem refNext_any (r l : List Int) (A : Option Addr) (m c : Nat) (B : Option Addr) (n d : Nat) (w : World) (hr : Rs 1 w A m c (itK r)) (hl : Rs 1 w B n d (itK l)) (hm : m ≤ 1000000) (hn : n ≤ 1000000) (hb : ∀ x ∈ r, -1000 ≤ x ∧ x ≤ 1000) : Calls Try.prog 63 #[.slice A m c, .slice B n d] w (RetOs 3 1 w (itK (ph2 r (memR l) (memR l).length))) := by
  have hrm : r.length = m := by have := hr.1; rw [itK_len] at this; omega
  have hln : l.length = n := by have := hl.1; rw [itK_len] at this; omega
  have hml := memR_len l
  have HM := Lib.hid (refMembers_ints l B n d w hl hn)
  obtain ⟨M, hM⟩ : ∃ M, memR l = M := ⟨_, rfl⟩
  rw [hM] at HM hml ⊢
  clear hM
  go_enter Try.func63, Try.ntmps63
  go_upto_region 2 with (go_at_call 92; refine HM.out.mono ?_; rintro e w1 ⟨A1, n1, c1, bs1, d1, rfl, rfl, hO1⟩)
  have be := below_plus w bs1 d1
  have hr1 := hO1.rs
  clear HM hl hO1
  generalize plus w bs1 d1 = V at *
  have hn1 : M.length = n1 := by have := hr1.1; rw [itK_len] at this; omega
  have hO0 : Os 3 1 V V.heap.size none 0 0 (itK (ph1 (r.take 0) M)) := Os.nil_
  have bv := Below.refl V.heap.size V
  go_upto_region 4 with (fail)
  go_loopw [6, 7] (fun OUT I wr => ∃ (i : Nat) (C : Option Addr) (k e : Nat), I = .int .i64 (i : Int) ∧ OUT = .slice C k e ∧ i ≤ m ∧ Os 3 1 wr V.heap.size C k e (itK (ph1 (r.take i) M)) ∧ Below V.heap.size V wr) (fun _ I _ => m - (intOf I).toNat)
  case atStart => exact ⟨0, none, 0, 0, rfl, rfl, Nat.zero_le _, hO0, bv⟩
  case round =>
    clear hO0 bv
    obtain ⟨i, C, k, e, rfl, rfl, hi, hO, bv⟩ := hrel
    have be2 := be.trans (bv.mono be.size)
    have hkl : k ≤ i := by
      have hk := hO.1
      rw [itK_len, show (ph1 (r.take i) M).length = i by simp [ph1]; omega] at hk
      omega
    by_cases hlt : i < m
    · have hil : i < r.length := by omega
      have ii : (i : Int) < (m : Int) := by omega
      have hrw : Rs 1 wr A m c (itK r) := ⟨hr.1, hr.2.1, (hr.2.2.below be2).more be2.size⟩
      have HS := Lib.hid (show ph1 (r.take (i + 1)) M = ph1 (r.take i) M ++ [if ab r[i] ∈ M then ab r[i] else 0 - ab r[i]] by rw [List.take_succ_eq_append_getElem hil]; simp only [ph1, List.map_append, List.map_cons, List.map_nil])
      have hbi := hb r[i] (List.getElem_mem hil)
      have HOW := Lib.hid (refOwner_any r i A m c wr hrw hm hil hbi)
      have hab : -1000 ≤ ab r[i] ∧ ab r[i] ≤ 1000 := by unfold ab; split <;> omega
      have HI := Lib.hid (fun w h => refIndex_any M (ab r[i]) A1 n1 c1 w h (by omega))
      have hneg := ixR_neg M (ab r[i])
      generalize ab r[i] = x at *
      generalize ixR M x = ix at *
      have hr1w := hr1.later bv
      by_cases h3 : ix < 0
      · have hs := Lib.hid (show ph1 (r.take (i + 1)) M = ph1 (r.take i) M ++ [0 - x] by rw [HS.out, if_neg (hneg.1 h3)])
        generalize ph1 (r.take i) M = T at *
        clear HS hneg
        have wx : IntKind.i64.wrap (0 - x) = 0 - x := IntWalk.i64_in _ (by omega)
        go_upto_region 9 with (first
          | (go_at_call 93; refine HOW.out.mono ?_; rintro e w1 ⟨rfl, rfl⟩)
          | (go_at_call 94; refine (HI.out _ hr1w).mono ?_; rintro e w1 ⟨rfl, rfl⟩))
        go_wp2_with (at_builtin; refine wpList_appS etI rfl (.tmp 27) (.tmp 29) rfl rfl (hO.later (Below.allocS (Below.refl _ _) _)) rfl (Rs.of_bk (n := 1) (c := 1) (Bk.new wr _ _) rfl (Nat.le_refl _)) (by simp [Value.oneCell']) (by omega) (by have := bv.size; simp; omega) ?_; intro A2 n2 c2 w4 hn2 hO4 hb4 hg4; subst hn2)
        have he2 : Os 3 1 w4 V.heap.size A2 (k + 1) c2 (itK (ph1 (r.take (i + 1)) M)) := by rw [hs.out, itK_append]; simpa [itK] using hO4
        exact ⟨⟨i + 1, A2, _, c2, by go_num, rfl, by omega, he2, (Below.allocS bv _).trans hb4⟩, by simp [intOf]; omega⟩
      · have hs := Lib.hid (show ph1 (r.take (i + 1)) M = ph1 (r.take i) M ++ [x] by rw [HS.out, if_pos (Decidable.not_not.1 (fun h => h3 (hneg.2 h)))])
        generalize ph1 (r.take i) M = T at *
        clear HS hneg
        go_upto_region 9 with (first
          | (go_at_call 93; refine HOW.out.mono ?_; rintro e w1 ⟨rfl, rfl⟩)
          | (go_at_call 94; refine (HI.out _ hr1w).mono ?_; rintro e w1 ⟨rfl, rfl⟩))
        go_wp2_with (at_builtin; refine wpList_appS etI rfl (.tmp 27) (.tmp 29) rfl rfl (hO.later (Below.allocS (Below.refl _ _) _)) rfl (Rs.of_bk (n := 1) (c := 1) (Bk.new wr _ _) rfl (Nat.le_refl _)) (by simp [Value.oneCell']) (by omega) (by have := bv.size; simp; omega) ?_; intro A2 n2 c2 w4 hn2 hO4 hb4 hg4; subst hn2)
        have he2 : Os 3 1 w4 V.heap.size A2 (k + 1) c2 (itK (ph1 (r.take (i + 1)) M)) := by rw [hs.out, itK_append]; simpa [itK] using hO4
        exact ⟨⟨i + 1, A2, _, c2, by go_num, rfl, by omega, he2, (Below.allocS bv _).trans hb4⟩, by simp [intOf]; omega⟩
    · have ii : ¬ (i : Int) < (m : Int) := by omega
      rw [List.take_of_length_le (by omega)] at hO
      have hO0 : Os 3 1 wr V.heap.size C k e (itK (ph2 r M 0)) := hO
      have HK := Lib.hid (show k ≤ m by omega)
      clear hi hO hkl
      go_upto_region 11 with (fail)
      go_loopw [6, 9] (fun OUT I wr => ∃ (i : Nat) (C : Option Addr) (k e : Nat), I = .int .i64 (i : Int) ∧ OUT = .slice C k e ∧ i ≤ n1 ∧ k ≤ m + i ∧ Os 3 1 wr V.heap.size C k e (itK (ph2 r M i)) ∧ Below V.heap.size V wr) (fun _ I _ => n1 - (intOf I).toNat)
      case atStart => exact ⟨0, C, k, e, rfl, rfl, Nat.zero_le _, by have := HK.out; omega, hO0, bv⟩
      case round =>
        clear hO0 bv be2 HK
        obtain ⟨i, C, k, e, rfl, rfl, hi, hkm, hO, bv⟩ := hrel
        have be2 := be.trans (bv.mono be.size)
        by_cases hlt : i < n1
        · have hil : i < M.length := by omega
          have ii : (i : Int) < (n1 : Int) := by omega
          have hr1w := hr1.later bv
          have HS := Lib.hid (ph2_succ r M i hil)
          obtain ⟨b, o, rfl, hci⟩ := hr1w.int_ i hil
          have HI := Lib.hid (fun w h => refIndex_any (ph2 r M i) M[i] C k e w h (by omega))
          have hneg := ixR_neg (ph2 r M i) M[i]
          generalize M[i] = x at *
          generalize ixR (ph2 r M i) x = ix at *
          by_cases h3 : ix < 0
          · have hs := Lib.hid (show ph2 r M (i + 1) = ph2 r M i ++ [x] by rw [HS.out, if_neg (hneg.1 h3)])
            generalize ph2 r M i = T at *
            clear HS hneg
            go_upto_region 14 with (go_at_call 94; refine (HI.out _ hO.rs).mono ?_; rintro e w1 ⟨rfl, rfl⟩)
            go_wp2_with (at_builtin; refine wpList_appS etI rfl (.tmp 44) (.tmp 49) rfl rfl (hO.later (Below.allocS (Below.refl _ _) _)) rfl (Rs.of_bk (n := 1) (c := 1) (Bk.new wr _ _) rfl (Nat.le_refl _)) (by simp [Value.oneCell']) (by omega) (by have := bv.size; simp; omega) ?_; intro A2 n2 c2 w4 hn2 hO4 hb4 hg4; subst hn2)
            have he2 : Os 3 1 w4 V.heap.size A2 (k + 1) c2 (itK (ph2 r M (i + 1))) := by rw [hs.out, itK_append]; simpa [itK] using hO4
            exact ⟨⟨i + 1, A2, _, c2, by go_num, rfl, by omega, by omega, he2, (Below.allocS bv _).trans hb4⟩, by simp [intOf]; omega⟩
          · have hs := Lib.hid (show ph2 r M (i + 1) = ph2 r M i by rw [HS.out, if_pos (Decidable.not_not.1 (fun h => h3 (hneg.2 h)))])
            generalize ph2 r M i = T at *
            clear HS hneg
            go_wp2_with (go_at_call 94; refine (HI.out _ hO.rs).mono ?_; rintro e w1 ⟨rfl, rfl⟩)
            exact ⟨⟨i + 1, C, k, e, by go_num, rfl, by omega, by omega, by rw [hs.out]; exact hO, bv⟩, by simp [intOf]; omega⟩
        · have ii : ¬ (i : Int) < (n1 : Int) := by omega
          rw [show i = n1 by omega] at hO
          clear hi hlt
          go_wp2
          go_ret
          exact RetOs.mk (hO.mono be.size) be2
/-- who stands at a place, the reference's way -/
def atL (l : List Int) (s : Int) : Int := if 0 ≤ s ∧ s < l.length then max (l[s.toNat]?.getD 0) 0 else 0
theorem atL_ref (t : Tab) (s : Int) : atL (refT t) s = (atT t s : Nat) := by
  unfold atL atT
  have hl : (refT t).length = t.length := by simp [refT]
  rw [hl]
  by_cases h : 0 ≤ s ∧ s < t.length
  · rw [if_pos h, if_pos h]
    have hs : s.toNat < t.length := by omega
    rw [List.getElem?_eq_getElem hs, List.getElem?_eq_getElem (by rw [hl]; exact hs)]
    simp only [refT, List.getElem_map, Option.getD_some]
    rcases t[s.toNat] with ⟨o, a⟩
    cases a <;> simp [sgT] <;> omega
  · rw [if_neg h, if_neg h]; rfl
set_option maxHeartbeats 4000000 in
set_option maxRecDepth 100000 in
theorem refTabAt_any (l : List Int) (s : Int) (A : Option Addr) (m c : Nat) (w : World) (hr : Rs 1 w A m c (itK l)) (hm : m ≤ 1000000) : Calls Try.prog 68 #[.slice A m c, .int .i64 s] w fun e w' => e = .returned (.int .i64 (atL l s)) ∧ w = w' := by
  have hlm : l.length = m := by have := hr.1; rw [itK_len] at this; omega
  obtain ⟨X, hX⟩ : ∃ X, atL l s = X := ⟨_, rfl⟩
  rw [hX]
  have HX := Lib.hid hX
  clear hX
  by_cases h0 : 0 ≤ s
  · obtain ⟨i, rfl⟩ : ∃ i : Nat, s = i := ⟨s.toNat, by omega⟩
    by_cases hlt : i < m
    · have ii : (i : Int) < (m : Int) := by omega
      have i0 : (0 : Int) ≤ (i : Int) := by omega
      obtain ⟨b, o, rfl, hci⟩ := hr.int_ i (by omega)
      have hx : Hid (X = max (l[i]'(by omega)) 0) := Lib.hid (by
        rw [← HX.out]; unfold atL
        rw [if_pos (by omega), List.getElem?_eq_getElem (by omega)]
        simp)
      generalize l[i]'(by omega) = x at *
      by_cases hx0 : x < 0
      · have hx2 : Hid (X = 0) := Lib.hid (by rw [hx.out]; omega)
        go_enter Try.func68, Try.ntmps68
        go_wp2
        go_ret
        exact ⟨by rw [hx2.out]; rfl, rfl⟩
      · have hx2 : Hid (X = x) := Lib.hid (by rw [hx.out]; omega)
        go_enter Try.func68, Try.ntmps68
        go_wp2
        go_ret
        exact ⟨by rw [hx2.out]; rfl, rfl⟩
    · have ii : ¬ (i : Int) < (m : Int) := by omega
      have hx : Hid (X = 0) := Lib.hid (by rw [← HX.out]; unfold atL; rw [if_neg (by omega)])
      go_enter Try.func68, Try.ntmps68
      go_wp2
      go_ret
      exact ⟨by rw [hx.out]; rfl, rfl⟩
  · have hx : Hid (X = 0) := Lib.hid (by rw [← HX.out]; unfold atL; rw [if_neg (by omega)])
    go_enter Try.func68, Try.ntmps68
    go_wp2
    go_ret
    exact ⟨by rw [hx.out]; rfl, rfl⟩
end Go.Proofs.Ytepodflinhpejaa

