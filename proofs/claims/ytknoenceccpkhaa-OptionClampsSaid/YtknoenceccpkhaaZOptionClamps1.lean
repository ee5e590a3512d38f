/- Texts of the law OptionClamps, part 1. -/
import Derived.ProofKit
import Derived.OpenShut
import Derived.Below
import Derived.WalkKit
import Derived.WalkSpells
import Derived.Laws.OwnMore
import Derived.Deep.Draws
import Derived.Laws.Rows
import Derived.Lib.Hide
import Derived.Maps.AppendAt
import Derived.Deep.AppendLies
import Derived.Deep.QuietTactic
import Derived.BigQuiet
import Derived.ChangeSlices
import Derived.Deep.Fields
import Derived.Laws.CopyOwn
import Derived.StillTailTactics
import Derived.Deep.MidRow
import Derived.Deep.RegionHeld3
import Derived.Deep.Upon
import Derived.Deep.AppendSrc
import Derived.RangeFuncNested
import Derived.RangeFuncBound
import Derived.RangeFuncCalls
import Derived.RangeFuncLeaves
import Derived.WalkLawsBesides
import Derived.Outline
import Derived.Deep.RegionLaw
import Derived.Deep.CutBlock
import Derived.Shelf.RegionOpen
import Derived.OwnWalkIn
import Derived.TacticsInMore
import Derived.Deep.DeepCutAuto
import Derived.Deep.RegionWith
import Derived.Test.YtknoenceccpkhaaRows
/- From a walk to the row of a law: whatever the arguments, the call returns true and changes nothing that was there. -/
namespace Go.Proofs.Ytknoenceccpkhaa
open Go.ChangeShapes Go.WideShapes Go.ChangeAt Go.RowKit

/-- All arguments read behind the call as they did before it. -/
theorem trodAll_below {H : Type} {enc : TypeId × Value → H} {P : Program} (hl : laidOutB P = true) {W W' : World} (hb : Below W.heap.size W W') :
    ∀ {ts : List TypeId} {vs : List Value} {ds : List (DataW H)} {ps : List MemPlace}, (ts.all fun t => P.readableRec t && decide (t < P.types.size)) = true →
      DataW.TrodAll enc P W 0 (fun _ => true) true ts vs ds ps → DataW.TrodAll enc P W' 0 (fun b => decide (b < W.heap.size)) true ts vs ds ps
  | [], vs, ds, ps, _, h => by
    obtain ⟨rfl, rfl, rfl⟩ := trodAll_nil h
    exact trodAll_mk0
  | t :: ts, vs, ds, ps, hr, h => by
    obtain ⟨v, vs', d, ds', p, q, rfl, rfl, rfl, h0, hs⟩ := trodAll_cons h
    simp only [List.all_cons, Bool.and_eq_true, decide_eq_true_eq] at hr
    have lt0 : ∀ x ∈ p, x.block < W.heap.size := by
      obtain ⟨m, hm⟩ := h0
      exact DataW.trod_lt m _ _ _ hm
    exact trodAll_cons_mk (Below.trod hl hr.1.1 hr.1.2 h0 hb lt0) (trodAll_below hl hb (by simpa using hr.2) hs)

/-- The lift: the law's walk, for every world and all arguments that can be read, gives what the row asks. -/
theorem lift {C : Checked} {os : Os} {f : FuncId} {fn : Func} {s : ChangeSpec} {H : Type} {enc : TypeId × Value → H} {tb : TypeId} (n : Nat)
    (own : ownKnob C.prog.godebug = none) (started : os.Started) (noInit : C.prog.inits.idxOf? f = none) (hfn : C.prog.funcs[f]? = some fn)
    (witness : ∃ (w : World) (tape : Tape) (i : Input), w.os = os ∧ (w.forCall tape i).Shaped C.prog ∧ i.vars = [] ∧ Input.okWide C.prog (w.forCall tape i) .any w.heap.size f i ∧
      s.pre6 enc C.prog fn [] false (w.forCall tape i).memory i.args ∧ ({} : Assume).holds C.prog (lone (Frame.enter C.prog f i.args .normal) [] (w.forCall tape i)))
    (hl : laidOutB C.prog = true) (hrd : (fn.params.toList.all fun t => C.prog.readableRec t && decide (t < C.prog.types.size)) = true)
    (htb : C.prog.underlying tb = some .bool) (hres : fn.resultTypes = #[tb]) (hn : fn.params.toList.length = n) (hvars : s.vars = [])
    (hspec : ∀ ds : List (DataW H), ds.length = n → (s.fn H ds).results = [.lit (.bool true)] ∧ (s.fn H ds).args = ds ∧ (s.fn H ds).vars = [])
    (walk : ∀ (W : World) (base : Nat) (args : Array Value) (ds : List (DataW H)) (ps : List MemPlace),
      (∀ (j : Nat) t v, fn.params[j]? = some t → args[j]? = some v → Value.okWide C.prog W .any base t v) →
      DataW.TrodAll enc C.prog W 0 (fun _ => true) true fn.params.toList args.toList ds ps →
      Calls C.prog f args W fun e W' => e = .returned (.bool true) ∧ Below W.heap.size W W') :
    ReturnsInHanded {} C os f .any (s.pre6 enc C.prog fn [] false) (s.post enc C.prog fn false true false false) := by
  refine returnsInHanded_of_change (C := C) own started noInit hfn witness ?_
  intro W base args ds gs before hval hW _ _
  have hW' := hW
  obtain ⟨p, q, hA, hV, rfl, _, _⟩ := hW
  rw [hvars] at hV
  obtain ⟨rfl, rfl⟩ := trodVars_none hV
  have hlen : ds.length = n := by
    have aux : ∀ {ts : List TypeId} {vs : List Value} {ds : List (DataW H)} {ps : List MemPlace}, DataW.TrodAll enc C.prog W 0 (fun _ => true) true ts vs ds ps → ds.length = ts.length := by
      intro ts
      induction ts with
      | nil => intro vs ds ps h; obtain ⟨_, rfl, _⟩ := trodAll_nil h; rfl
      | cons t ts ih =>
        intro vs ds ps h
        obtain ⟨v, vs', d, ds', p, q, rfl, rfl, rfl, _, hs⟩ := trodAll_cons h
        simp [ih hs]
    rw [aux hA, hn]
  obtain ⟨r1, r2, r3⟩ := hspec ds hlen
  refine (walk W base args ds p hval hA).mono fun e W' ⟨he, bel⟩ => ?_
  subst he
  refine ⟨_, rfl, ds, [], p ++ [], [], p, [], hW', ?_, ?_, ?_, bel.frame _, fun h => by cases h⟩
  · simp only [List.append_nil, r1, hres]
    exact trodAll_mk1 (shut_bool htb _)
  · simp only [List.append_nil, r2]
    exact trodAll_below hl bel hrd hA
  · simp only [List.append_nil, r3, hvars]
    rfl
end Go.Proofs.Ytknoenceccpkhaa

/- Words for memory: a slice that reads as a list of cells; a block that is known whole; bytes. No program in sight. -/
namespace Go.Proofs.Ytknoenceccpkhaa
open Go.RowKit Go.ChangeShapes Go.WideShapes
set_option linter.unusedVariables false
set_option linter.unusedSimpArgs false

/-- the cells of bytes -/
def bcs (l : List UInt8) : List Value := l.map fun b => .int .u8 (b.toNat : Int)
theorem bcs_length (l : List UInt8) : (bcs l).length = l.length := by simp [bcs]
theorem bcs_append (a b : List UInt8) : bcs (a ++ b) = bcs a ++ bcs b := by simp [bcs]
theorem bcs_take (l : List UInt8) (n : Nat) : (bcs l).take n = bcs (l.take n) := by simp [bcs, List.map_take]
theorem bcs_drop (l : List UInt8) (n : Nat) : (bcs l).drop n = bcs (l.drop n) := by simp [bcs, List.map_drop]
theorem bcs_one (l : List UInt8) : ∀ u ∈ bcs l, u.oneCell' = true := by
  intro u hu
  simp only [bcs, List.mem_map] at hu
  obtain ⟨b, _, rfl⟩ := hu
  rfl
theorem bcs_get (l : List UInt8) (i : Nat) (h : i < l.length) : (bcs l)[i]? = some (.int .u8 (l[i].toNat : Int)) := by simp [bcs, h]
theorem bcs_nil {l : List UInt8} (h : bcs l = []) : l = [] := by simpa [bcs] using h

/-- A slice whose array lies at A reads as the cells cs; its block is below B. -/
def Rd (w : World) (B : Nat) (A : Option Addr) (cs : List Value) : Prop :=
  cs = [] ∨ ∃ b off, A = some ⟨b, off, none⟩ ∧ b < B ∧ ∀ i u, cs[i]? = some u → w.cell? ⟨b, off + i, none⟩ = some u

/-- where a cut lies -/
def cutA (A : Option Addr) (c k s : Nat) : Option Addr := if c = k then A else A.map (·.add (k * s))
theorem sliced_cut (a : Option Addr) (l h m s : Nat) : sliced a l h m s = .slice (cutA a m l s) (h - l) (m - l) := rfl
section
variable {w w' : World} {B B' : Nat} {A : Option Addr} {cs : List Value}
theorem Rd.keep (h : Rd w B A cs) (hk : ∀ p : Addr, p.block < B → w'.cell? p = w.cell? p) : Rd w' B A cs := by
  rcases h with h | ⟨b, off, hA, hb, hc⟩
  · exact .inl h
  · exact .inr ⟨b, off, hA, hb, fun i u hu => (hk _ hb).trans (hc i u hu)⟩
theorem Rd.more (h : Rd w B A cs) (hB : B ≤ B') : Rd w B' A cs := by
  rcases h with h | ⟨b, off, hA, hb, hc⟩
  · exact .inl h
  · exact .inr ⟨b, off, hA, by omega, hc⟩
theorem Rd.below (h : Rd w B A cs) (hb : Below B w w') : Rd w' B A cs := h.keep fun _ hp => hb.cell hp
theorem Rd.drew (h : Rd w B A cs) : Rd w.drew B A cs := h
theorem Rd.drewN (h : Rd w B A cs) (k : Nat) : Rd (w.drewN k) B A cs := h
theorem Rd.alloc (h : Rd w B A cs) (hB : B ≤ w.heap.size) (o : Obj) : Rd (w.alloc o) B A cs := h.keep fun p hp => World.cell?_alloc_lt w o p (by omega)
theorem Rd.setCell (h : Rd w B A cs) {p : Addr} (hB : B ≤ p.block) (u : Value) : Rd (w.setCell p u) B A cs :=
  h.keep fun q hq => World.cell?_setCell_other w p q u (fun e => by subst e; omega)
theorem Rd.grown (h : Rd w B A cs) {row : Option Nat} (hg : w.grownBy w' row) (hB : B ≤ w.heap.size) (hr : ∀ g, row = some g → B ≤ g) : Rd w' B A cs :=
  h.keep fun p hp => World.cell?_of_block (hg.block p.block (by omega) (fun e => by have := hr _ e.symm; omega))
theorem Rd.take (h : Rd w B A cs) (n : Nat) : Rd w B A (cs.take n) := by
  rcases h with h | ⟨b, off, hA, hb, hc⟩
  · exact .inl (by simp [h])
  · refine .inr ⟨b, off, hA, hb, fun i u hu => hc i u ?_⟩
    rw [List.getElem?_take] at hu
    split at hu
    · exact hu
    · cases hu
theorem Rd.cut (h : Rd w B A cs) {c k : Nat} (hc : cs.length ≤ c) : Rd w B (cutA A c k 1) (cs.drop k) := by
  by_cases hk : cs.length ≤ k
  · exact .inl (List.drop_eq_nil_of_le hk)
  rcases h with h | ⟨b, off, hA, hb, hcell⟩
  · exact .inl (by simp [h])
  · refine .inr ⟨b, off + k, ?_, hb, fun i u hu => ?_⟩
    · subst hA
      simp only [cutA, if_neg (show ¬ c = k by omega), Option.map_some, Addr.add, Nat.mul_one]
      split
      · simp_all
      · rfl
    · rw [Nat.add_assoc]
      rw [List.getElem?_drop] at hu
      exact hcell _ _ hu
theorem Rd.of_own {base : Nat} {e : TypeId} {n c : Nat} (h : w.ownsRow base e 1 (.slice A n c) n cs) : Rd w w.heap.size A cs := by
  rcases Nat.eq_zero_or_pos n with h0 | h0
  · subst h0
    exact .inl (List.eq_nil_of_length_eq_zero (by simpa using h.1))
  · obtain ⟨g, cap, hv, _, hlt⟩ := h.form h0
    have hA : A = some ⟨g, 0, none⟩ := by injection hv
    subst hA
    refine .inr ⟨g, 0, rfl, hlt, fun i u hu => ?_⟩
    have := h.cells (g := g) rfl i u hu
    have hplain : (⟨g, 0, none⟩ : Addr).add i = ⟨g, 0 + i, none⟩ := by unfold Addr.add; split <;> simp_all
    rwa [hplain] at this
/-- Where there is an element the address is known. -/
theorem Rd.at_ (h : Rd w B A cs) (hn : 0 < cs.length) : ∃ b off, A = some ⟨b, off, none⟩ ∧ b < B ∧ ∀ i u, cs[i]? = some u → w.cell? ⟨b, off + i, none⟩ = some u := by
  rcases h with h | h
  · subst h; simp at hn
  · exact h
end

theorem add_plain (b off i : Nat) : (⟨b, off, none⟩ : Addr).add i = ⟨b, off + i, none⟩ := by unfold Addr.add; split <;> simp_all
theorem lt_of_cell {w : World} {a : Addr} {v : Value} (h : w.cell? a = some v) : a.block < w.heap.size := by
  rcases Nat.lt_or_ge a.block w.heap.size with h' | h'
  · exact h'
  · simp [World.cell?, Array.getElem?_eq_none h'] at h

/-- The types of bytes: a slice type and its element type. -/
structure BT (P : Program) (ts te : TypeId) : Prop where
  sl : P.underlying ts = some (.slice te)
  el : P.underlying te = some (.int .u8)
  info : (P.info? te).map (fun i => (i.zero, i.size, i.bytes)) = some (some (.int .u8 0), 1, 1)

/-- A slice of bytes reads as l. -/
def Rb (w : World) (A : Option Addr) (n c : Nat) (l : List UInt8) : Prop := l.length = n ∧ n ≤ c ∧ Rd w w.heap.size A (bcs l)
/-- A slice of bytes of the call's own (its block from base on) reads as l. -/
def Ob (w : World) (base : Nat) (A : Option Addr) (n c : Nat) (l : List UInt8) : Prop := l.length = n ∧ w.ownsRow base 5 1 (.slice A n c) n (bcs l)

section
variable {w w' : World} {base : Nat} {A : Option Addr} {n c : Nat} {l : List UInt8}
theorem Rb.len (h : Rb w A n c l) : l.length = n := h.1
theorem Rb.nil_ : Rb w none 0 0 [] := ⟨rfl, Nat.le_refl _, .inl rfl⟩
theorem Rb.later (h : Rb w A n c l) (hb : Below w.heap.size w w') : Rb w' A n c l := ⟨h.1, h.2.1, (h.2.2.below hb).more hb.size⟩
theorem Rb.drew (h : Rb w A n c l) : Rb w.drew A n c l := h
theorem Rb.drewN (h : Rb w A n c l) (k : Nat) : Rb (w.drewN k) A n c l := h
theorem Rb.alloc (h : Rb w A n c l) (o : Obj) : Rb (w.alloc o) A n c l := ⟨h.1, h.2.1, (h.2.2.alloc (Nat.le_refl _) o).more (by simp)⟩
theorem Rb.take (h : Rb w A n c l) {k : Nat} (hk : k ≤ n) : Rb w A k c (l.take k) := ⟨by rw [List.length_take, h.1]; omega, Nat.le_trans hk h.2.1, by rw [← bcs_take]; exact h.2.2.take k⟩
theorem Rb.cut (h : Rb w A n c l) {k : Nat} (hk : k ≤ n) : Rb w (cutA A c k 1) (n - k) (c - k) (l.drop k) :=
  ⟨by rw [List.length_drop, h.1], by have := h.2.1; omega, by rw [← bcs_drop]; exact h.2.2.cut (by rw [bcs_length, h.1]; exact h.2.1)⟩
theorem Ob.len (h : Ob w base A n c l) : l.length = n := h.1
theorem Ob.rb (h : Ob w base A n c l) : Rb w A n c l := by
  refine ⟨h.1, ?_, Rd.of_own h.2⟩
  rcases h.2.2 with ⟨hv, _⟩ | ⟨g, cap, cur, hv, _, _, hnc, _⟩
  · injection hv with _ h2 h3
    omega
  · injection hv with _ _ h3
    omega
theorem Ob.nil_ : Ob w base none 0 0 [] := ⟨rfl, World.ownsRow_nil w base _ 1⟩
theorem Ob.blk (h : Ob w base A n c l) : ∀ k, (Value.slice A n c).ownBlock = some k → base ≤ k ∧ k < w.heap.size := h.2.lt
theorem Ob.grown {row : Option Nat} (h : Ob w base A n c l) (hg : w.grownBy w' row) (hne : ∀ k, (Value.slice A n c).ownBlock = some k → row ≠ some k) : Ob w' base A n c l := by
  refine ⟨h.1, h.2.kept hg ?_⟩
  cases hk : (Value.slice A n c).ownBlock with
  | none => exact .inl rfl
  | some k => exact .inr (fun e => hne k hk e.symm)
theorem grownBy_of_below (h : Below w.heap.size w w') : w.grownBy w' none := ⟨h.os, h.tape, h.output, h.size, fun i hi _ => h.block i hi⟩
theorem Ob.later (h : Ob w base A n c l) (hb : Below w.heap.size w w') : Ob w' base A n c l := h.grown (grownBy_of_below hb) (fun _ _ => by simp)
theorem Ob.mono {base' : Nat} (h : Ob w base A n c l) (hb : base' ≤ base) : Ob w base' A n c l := by
  refine ⟨h.1, h.2.1, ?_⟩
  rcases h.2.2 with h2 | ⟨g, cap, cur, hv, hg, hr⟩
  · exact .inl h2
  · exact .inr ⟨g, cap, cur, hv, by omega, hr⟩
end

/-- new bytes, written out -/
theorem Ob.lit (w : World) {base : Nat} (hb : base ≤ w.heap.size) (cs : Array Value) (l : List UInt8) (n : Nat) (hn : l.length = n) (hm : n ≤ maxLen) (h : cs.toList = bcs l) : Ob (w.alloc (.cells cs 5)) base (some ⟨w.heap.size, 0, none⟩) n n l := by
  have hs : cs.size = n := by rw [← Array.length_toList, h, bcs_length, hn]
  refine ⟨hn, by rw [bcs_length, hn]; omega, .inr ⟨w.heap.size, n, cs, rfl, hb, heap_alloc_new w _, Nat.le_refl _, hm, by omega, ?_⟩⟩
  rw [h, List.take_of_length_le (by rw [bcs_length]; omega)]

theorem below_of_grown {w w' : World} {base : Nat} {row : Option Nat} (hg : w.grownBy w' row) (hb : base ≤ w.heap.size) (hr : ∀ k, row = some k → base ≤ k) : Below base w w' :=
  ⟨hg.os, hg.tape, hg.output, hg.size, fun i hi => hg.block i (by omega) (fun e => by have := hr _ e.symm; omega)⟩

/-- append onto a row of the call's own, whatever the source -/
theorem run_app {P : Program} (w : World) {ts ty : TypeId} (bt : BT P ts 5) {base : Nat} {A : Option Addr} {n c : Nat} {l : List UInt8} (hown : Ob w base A n c l)
    {A2 : Option Addr} {n2 c2 : Nat} {l2 : List UInt8} (hr : Rb w A2 n2 c2 l2) (hm : n + n2 ≤ 1099511627776) (hbase : base ≤ w.heap.size) :
    ∃ A' n' c' w', (Builtin.append_ #[ts, ts] ty #[.slice A n c, .slice A2 n2 c2]).run P w = .ok (.slice A' n' c') w' ∧ Ob w' base A' n' c' (l ++ l2) ∧ Below base w w' ∧ w.grownBy w' (Value.slice A n c).ownBlock := by
  obtain ⟨i, hi, hz0, hz1, hz2⟩ := info_parts bt.info
  have hbel : ∀ {w'}, w.grownBy w' (Value.slice A n c).ownBlock → Below base w w' := fun hg => below_of_grown hg hbase fun k hk => (hown.blk k hk).1
  have fin : ∀ v' w', w'.ownsRow base 5 1 v' (n + n2) (bcs l ++ bcs l2) → ∃ A' n' c', v' = .slice A' n' c' ∧ Ob w' base A' n' c' (l ++ l2) := by
    intro v' w' h
    have hl : (l ++ l2).length = n + n2 := by rw [List.length_append, hown.1, hr.1]
    rw [← bcs_append] at h
    have h2 := h.2
    rcases h2 with ⟨hv, h0⟩ | ⟨g, cap, cur, hv, _⟩
    · refine ⟨none, 0, 0, hv, by omega, ?_⟩
      rw [hv, h0] at h
      exact h
    · refine ⟨_, _, _, hv, hl, ?_⟩
      rw [hv] at h
      exact h
  cases A2 with
  | none =>
    have hn2 : n2 = 0 := by
      rcases hr.2.2 with h | ⟨b, off, h, _⟩
      · have := hr.1; rw [bcs_nil h] at this; simpa using this.symm
      · cases h
    subst hn2
    have hl2 : l2 = [] := List.eq_nil_of_length_eq_zero hr.1
    subst hl2
    refine ⟨A, n, c, w, ?_, by simpa using hown, Below.refl _ _, World.grownBy.refl w _⟩
    rcases hown.2.2 with ⟨hv, h0⟩ | ⟨g, cap, cur, hv, _, _, hnc, _⟩
    · injection hv with h1 h2 h3
      subst h1 h2 h3
      simp [Builtin.append_, run_underlying bt.sl, sizeOf, typeInfo, hi, Builtin.lenOf, Builtin.firstCells]
    · injection hv with h1 h2 h3
      subst h1 h3
      simp [Builtin.append_, run_underlying bt.sl, sizeOf, typeInfo, hi, Builtin.lenOf, Builtin.firstCells, hnc, storeCells]
  | some ad =>
    have hcells : ∀ j u, (bcs l2)[j]? = some u → w.cell? (ad.add j) = some u := by
      intro j u hu
      rcases hr.2.2 with h | ⟨b, off, h, _, hc⟩
      · rw [h] at hu; simp at hu
      · injection h with h
        subst h
        rw [add_plain]
        exact hc j u hu
    obtain ⟨v', w', hrun, h2, h3, _, _⟩ := run_append_own_at (P := P) w base ts ty 5 i (.int .u8 0) 1 1 bt.sl hi hz0 hz1 hz2 rfl (by omega) (.slice A n c) n (bcs l) hown.2 ad n2 c2 (bcs l2)
      (by rw [bcs_length, hr.1]; omega) hcells (bcs_one l2) (by simp only [maxLen]; omega) (by omega) hbase
    obtain ⟨A', n', c', rfl, hob⟩ := fin v' w' h2
    exact ⟨A', n', c', w', hrun, hob, hbel h3, h3⟩

theorem wpList_app {P : Program} {w : World} {ops : Array Oper} {rest : List Oper} {o : Oper} {a : Act} {Q : Exit → Act → World → Prop} {ts : TypeId} (bt : BT P ts 5) (hgd : o.guard = none) (s x : Operand)
    (ho : o.op = .call { callee := .builtin .append, args := #[s, x], argTypes := #[ts, ts] })
    {base : Nat} {A : Option Addr} {n c : Nat} {l : List UInt8} (hs : a.eval s = .slice A n c) (hown : Ob w base A n c l)
    {A2 : Option Addr} {n2 c2 : Nat} {l2 : List UInt8} (hx : a.eval x = .slice A2 n2 c2) (hr : Rb w A2 n2 c2 l2) (hm : n + n2 ≤ 1099511627776) (hbase : base ≤ w.heap.size)
    (h : ∀ A' n' c' w', Ob w' base A' n' c' (l ++ l2) → Below base w w' → w.grownBy w' (Value.slice A n c).ownBlock → wpList P ops Q rest (a.put o.dst (.slice A' n' c')) w') : wpList P ops Q (o :: rest) a w := by
  refine wpList_plain hgd fun _ hK => ?_
  obtain ⟨A', n', c', w', hrun, h2, h3, h4⟩ := run_app (P := P) w (ty := o.type) bt hown hr hm hbase
  unfold Oper.wp execOp
  simp only [ho, resolve, invoke, builtin, Sem.run_bind, Sem.run_pure, Result.andThen_ok, List.map_toArray, List.map_cons, List.map_nil, hs, hx, hrun]
  exact hK _ _ (h A' n' c' w' h2 h3 h4)

/-- Block g is the cells cs of element type t, none frozen. -/
def Bk (w : World) (g : Nat) (t : TypeId) (cs : List Value) : Prop := w.heap[g]? = some (.cells cs.toArray t (0, 0))
section
variable {w w' : World} {g : Nat} {t : TypeId} {cs : List Value}
theorem Bk.lt (h : Bk w g t cs) : g < w.heap.size := by
  rcases Nat.lt_or_ge g w.heap.size with hlt | hge
  · exact hlt
  · unfold Bk at h; rw [Array.getElem?_eq_none hge] at h; cases h
theorem Bk.cell (h : Bk w g t cs) (i : Nat) : w.cell? ⟨g, i, none⟩ = cs[i]? := by
  unfold Bk at h
  simp [World.cell?, h]
theorem Bk.frozen (h : Bk w g t cs) (i : Nat) : w.frozen? ⟨g, i, none⟩ = false := by
  unfold Bk at h
  simp [World.frozen?, h]
theorem Bk.new (w : World) (t : TypeId) (cs : Array Value) : Bk (w.alloc (.cells cs t)) w.heap.size t cs.toList := heap_alloc_new w _
theorem Bk.alloc (h : Bk w g t cs) (o : Obj) : Bk (w.alloc o) g t cs := (Below.heap_alloc w o g h.lt).trans h
theorem Bk.set_ (h : Bk w g t cs) (i : Nat) (u : Value) : Bk (w.setCell ⟨g, i, none⟩ u) g t (cs.set i u) := by
  unfold Bk at h ⊢
  simp [World.setCell, Array.getElem?_modify, h]
theorem Bk.far (h : Bk w g t cs) {p : Addr} (hp : g ≠ p.block) (u : Value) : Bk (w.setCell p u) g t cs := (Below.heap_setCell w p u g hp).trans h
theorem Bk.below {B : Nat} (h : Bk w g t cs) (hb : Below B w w') (hg : g < B) : Bk w' g t cs := (hb.block g hg).trans h
theorem Bk.later (h : Bk w g t cs) (hb : Below w.heap.size w w') : Bk w' g t cs := h.below hb h.lt
theorem Bk.grown {row : Option Nat} (h : Bk w g t cs) (hb : w.grownBy w' row) (hg : row ≠ some g) : Bk w' g t cs := (hb.block g h.lt (fun e => hg e.symm)).trans h
end
theorem grownBy_setCell (w : World) (g i : Nat) (u : Value) : w.grownBy (w.setCell ⟨g, i, none⟩ u) (some g) :=
  ⟨rfl, rfl, rfl, by simp [World.setCell], fun k _ hne => Below.heap_setCell w _ u k (fun e => hne (by rw [e]))⟩
/-- the last m bytes of n, most significant first -/
def dig : Nat → Nat → List UInt8
  | _, 0 => []
  | n, m + 1 => dig (n / 256) m ++ [UInt8.ofNat (n % 256)]
theorem dig_length : ∀ (m n : Nat), (dig n m).length = m
  | 0, _ => rfl
  | m + 1, n => by simp [dig, dig_length m]
theorem over_nil (cs : List Value) (off : Nat) : splice cs off [] = cs := by simp [splice]
theorem over_dig (cs : List Value) (off n m : Nat) (h : off + (m + 1) ≤ cs.length) :
    splice (cs.set (off + m) (.int .u8 ((n % 256 : Nat) : Int))) off (bcs (dig (n / 256) m)) = splice cs off (bcs (dig n (m + 1))) := by
  have e : (bcs (dig n (m + 1))) = bcs (dig (n / 256) m) ++ [.int .u8 ((n % 256 : Nat) : Int)] := by
    rw [dig, bcs_append]
    simp [bcs]
  rw [e]
  unfold splice
  rw [List.take_set_of_le (by omega), bcs_length, dig_length, List.length_append, bcs_length, dig_length]
  have hd : List.drop (off + m) (cs.set (off + m) (.int .u8 ((n % 256 : Nat) : Int))) = .int .u8 ((n % 256 : Nat) : Int) :: List.drop (off + m + 1) cs := by
    rw [List.drop_eq_getElem_cons (by simp; omega)]
    simp [List.drop_set]
  rw [hd]
  simp [Nat.add_assoc]

theorem cutA_some (g off c k : Nat) (h : c ≠ k) : cutA (some ⟨g, off, none⟩) c k 1 = some ⟨g, off + k, none⟩ := by
  simp [cutA, h, add_plain]
theorem Ob.of_bk {w : World} {g base n : Nat} {l : List UInt8} (h : Bk w g 5 (bcs l)) (hb : base ≤ g) (hn : l.length = n) (hm : n ≤ maxLen) : Ob w base (some ⟨g, 0, none⟩) n n l :=
  ⟨hn, by rw [bcs_length, hn]; omega, .inr ⟨g, n, _, rfl, hb, h, Nat.le_refl _, hm, by simp [bcs_length, hn], by rw [List.take_of_length_le (by simp [bcs_length, hn])]⟩⟩

/-- make([]byte, n) -/
theorem wpList_mk {P : Program} {w : World} {ops : Array Oper} {rest : List Oper} {o : Oper} {a : Act} {Q : Exit → Act → World → Prop} {ts : TypeId} (bt : BT P ts 5) (hgd : o.guard = none) (x : Operand)
    (hop : o.op = Op.makeSlice ts x x) (L : Int) (n : Nat) (hl : a.eval x = .int .i64 L) (hL : L = (n : Int)) (hm : n ≤ 1099511627776)
    (h : ∀ w', Bk w' w.heap.size 5 (List.replicate n (.int .u8 0)) → Below w.heap.size w w' → w.heap.size < w'.heap.size → wpList P ops Q rest (a.put o.dst (.slice (some ⟨w.heap.size, 0, none⟩) n n)) w') : wpList P ops Q (o :: rest) a w := by
  refine wpList_plain hgd fun _ hK => ?_
  obtain ⟨i, hi, hz0, hz1, hz2⟩ := info_parts bt.info
  subst hL
  have hr := run_make (P := P) w ts 5 i (.int .u8 0) bt.sl hi hz0 .i64 .i64 n n (by omega) (by omega) (by rw [hz2]; omega) (by omega)
  simp only [Int.toNat_natCast, hz1] at hr
  unfold Oper.wp execOp
  simp only [hop, hl, hr, Sem.run_bind, Sem.run_pure, Result.andThen_ok]
  refine hK _ _ (h _ ?_ ((Below.refl _ _).alloc (Nat.le_refl _) _) (by simp))
  have e : madeCells (Value.int .u8 0).cells (n * 1) = (List.replicate n (Value.int .u8 0)).toArray := by
    apply Array.ext
    · simp [size_madeCells]
    · intro j h1 h2
      simp [madeCells, Value.cells, Nat.mod_one]
  unfold Bk
  rw [heap_alloc_new, e]

/-- copy into a block of the call's own; the operation is told by the slot k that it writes -/
theorem wpList_cpy {P : Program} {w : World} {ops : Array Oper} {rest : List Oper} {o : Oper} {a : Act} {Q : Exit → Act → World → Prop} {ts : TypeId} (k : Nat) (hdst : o.dst = some k) (bt : BT P ts 5) (hgd : o.guard = none) (d s : Operand)
    (ho : o.op = .call { callee := .builtin .copy, args := #[d, s], argTypes := #[ts, ts] })
    {A1 A2 : Option Addr} {n1 c1 n2 c2 : Nat} (hd : a.eval d = .slice A1 n1 c1) (hs : a.eval s = .slice A2 n2 c2)
    (g off : Nat) (cs : List Value) (hg : Bk w g 5 cs) (hA : n2 = 0 ∨ A1 = some ⟨g, off, none⟩) (l : List UInt8) (hr : Rb w A2 n2 c2 l) (hle : n2 ≤ n1) (hfit : off + n2 ≤ cs.length)
    (B : Nat) (w0 : World) (hb : Below B w0 w) (hBg : B ≤ g)
    (h : ∀ w', Bk w' g 5 (splice cs off (bcs l)) → Below B w0 w' → wpList P ops Q rest (a.put o.dst (goInt n2)) w') : wpList P ops Q (o :: rest) a w := by
  obtain ⟨i, hi, hz0, hz1, hz2⟩ := info_parts bt.info
  have hl : (bcs l).length = n2 := by rw [bcs_length, hr.1]
  refine wpList_copy_splice hgd d s ts ts ho 5 bt.sl (by simp [hi, hz1]) _ _ _ _ _ _ hd hs g off cs 5 hg (bcs l) ?_ ?_ (by omega) (bcs_one l) B w0 hb hBg ?_
  · rw [hl]; exact (Nat.min_eq_left hle).symm
  · intro h0
    rcases hA with h1 | h1
    · omega
    · obtain ⟨b, o2, hA2, _, hc⟩ := hr.2.2.at_ h0
      exact ⟨h1, _, hA2, fun j v hj => by rw [add_plain]; exact hc j v hj⟩
  · intro w' h1 h2
    rw [hl]
    exact h w' h1.out h2

theorem cutA_zero (A : Option Addr) (c s : Nat) : cutA A c 0 s = A := by
  unfold cutA
  split
  · rfl
  · cases A <;> simp [Addr.add]

/-- the number of bytes, most significant first -/
def num (l : List UInt8) : Nat := l.foldl (fun n b => n * 256 + b.toNat) 0
theorem num_snoc (l : List UInt8) (b : UInt8) : num (l ++ [b]) = num l * 256 + b.toNat := by simp [num, List.foldl_append]
theorem num_lt : ∀ (k : Nat) (l : List UInt8), l.length ≤ k → num l < 256 ^ k := by
  intro k l
  induction k generalizing l with
  | zero => intro h; have : l = [] := List.eq_nil_of_length_eq_zero (by omega); subst this; decide
  | succ k ih =>
    intro h
    rcases List.eq_nil_or_concat l with rfl | ⟨l', b, rfl⟩
    · exact Nat.pow_pos (by decide)
    · simp only [List.concat_eq_append] at *
      rw [num_snoc]
      have := ih l' (by simpa using h)
      have hb := b.toNat_lt
      rw [Nat.pow_succ]
      omega
theorem num_take_succ (l : List UInt8) (i : Nat) (h : i < l.length) : num (l.take (i + 1)) = num (l.take i) * 256 + l[i].toNat := by
  rw [List.take_succ_eq_append_getElem h, num_snoc]
theorem u64_shl_or (N c : Nat) (hN : N < 72057594037927936) (hc : c < 256) : bits .or .u64 ((N : Int) * 256) (c : Int) = ((N * 256 + c : Nat) : Int) := by
  have h := u64_or_nat (N * 256) c (by omega) (by omega)
  rw [nat_join 8 (N * 256) c (by omega) (by omega)] at h
  simpa using h
theorem pow_le_seven (i : Nat) (h : i ≤ 7) : 256 ^ i ≤ 72057594037927936 := Nat.le_trans (Nat.pow_le_pow_right (by decide) h) (by decide)

/-- string(b) -/
theorem run_str {P : Program} {ts tstr : TypeId} (bt : BT P ts 5) (hstr : P.underlying tstr = some .string) {w : World} {A : Option Addr} {n c : Nat} {l : List UInt8} (h : Rb w A n c l) :
    (convert ts tstr (.slice A n c)).run P w = .ok (.string ⟨l.toArray⟩) w := by
  rw [run_convert_bytes_string w ts tstr _ A n c bt.sl bt.el hstr]
  obtain ⟨h1, _, h3⟩ := h
  subst h1
  cases A with
  | none =>
    have : l = [] := by
      rcases h3 with h | ⟨b, off, h, _⟩
      · exact bcs_nil h
      · cases h
    subst this
    simp [Conv.bytesToString]
    rfl
  | some ad =>
    have hl : (loadCells ad l.length).run P w = .ok ((l.map fun b => (b.toNat : Int)).map (Value.int .u8)).toArray w := by
      have := run_loadCells_list (P := P) w ad (bcs l) (fun j v hj => by
        rcases h3 with h | ⟨b, off, h, _, hc⟩
        · rw [h] at hj; simp at hj
        · injection h with h
          subst h
          rw [add_plain]
          exact hc j v hj)
      rw [bcs_length] at this
      simpa [bcs, Function.comp_def] using this
    rw [run_bytesToString w ad l.length c _ hl, foldl_push_bytes]
    simp [ByteArray.empty, ByteArray.emptyWithCapacity, Function.comp_def]
    rfl
theorem Rb.setCell {w : World} {A : Option Addr} {n c : Nat} {l : List UInt8} (h : Rb w A n c l) {p : Addr} (hp : ∀ a, A = some a → a.block ≠ p.block) (u : Value) : Rb (w.setCell p u) A n c l := by
  refine ⟨h.1, h.2.1, ?_⟩
  rcases h.2.2 with h' | ⟨b, off, hA, hb, hc⟩
  · exact .inl h'
  · refine .inr ⟨b, off, hA, by simpa [World.setCell] using hb, fun i u' hu => ?_⟩
    rw [World.cell?_setCell_other w p ⟨b, off + i, none⟩ u (fun e => hp _ hA (by rw [e]))]
    exact hc i u' hu

theorem Ob.setCell {w : World} {base : Nat} {A : Option Addr} {n c : Nat} {l : List UInt8} (h : Ob w base A n c l) {p : Addr} (hp : p.block < base) (u : Value) : Ob (w.setCell p u) base A n c l :=
  ⟨h.1, ownsRow_setCell_below h.2 hp u⟩

/-! ### A world with more blocks behind it: what a callee leaves -/
/-- w with the blocks bs behind its own, and d answers drawn -/
def plus (w : World) (bs : List Obj) (d : Nat) : World := { w with heap := w.heap ++ bs.toArray, drawn := d }
section
variable {w W : World} {bs : List Obj} {d : Nat}
@[go_sem] theorem size_plus (w : World) (bs : List Obj) (d : Nat) : (plus w bs d).heap.size = w.heap.size + bs.length := by simp [plus]
theorem block_plus {n : Nat} (h : n < w.heap.size) : (plus w bs d).heap[n]? = w.heap[n]? := by
  simp [plus, Array.getElem?_append, h]
@[go_sem] theorem cell_plus (w : World) (bs : List Obj) (d : Nat) (n i : Nat) (hn : n < w.heap.size) : (plus w bs d).cell? ⟨n, i, none⟩ = w.cell? ⟨n, i, none⟩ := World.cell?_of_block (block_plus hn)
@[go_sem] theorem frozen_plus (w : World) (bs : List Obj) (d : Nat) (n i : Nat) (hn : n < w.heap.size) : (plus w bs d).frozen? ⟨n, i, none⟩ = w.frozen? ⟨n, i, none⟩ := World.frozen?_of_block (block_plus hn)
@[go_sem] theorem setCell_plus (w : World) (bs : List Obj) (d : Nat) (n i : Nat) (v : Value) (hn : n < w.heap.size) : (plus w bs d).setCell ⟨n, i, none⟩ v = plus (w.setCell ⟨n, i, none⟩ v) bs d := by
  simp only [plus, World.setCell, World.mk.injEq, and_true]
  apply Array.ext
  · simp
  · intro j h1 h2
    simp only [Array.getElem_append, Array.getElem_modify, Array.size_modify] at *
    by_cases hj : j < w.heap.size
    · simp [hj]
    · simp [hj]
      intro e
      omega
@[go_sem] theorem lt_more {n m k : Nat} (h : n < m) : (n < m + k) = True := eq_true (by omega)
@[go_sem] theorem lt_more2 {n m k0 k1 : Nat} (h : n < m) : (n < m + k0 + k1) = True := eq_true (by omega)
@[go_sem] theorem lt_more3 {n m k0 k1 k2 : Nat} (h : n < m) : (n < m + k0 + k1 + k2) = True := eq_true (by omega)
@[go_sem] theorem lt_more4 {n m k0 k1 k2 k3 : Nat} (h : n < m) : (n < m + k0 + k1 + k2 + k3) = True := eq_true (by omega)
@[go_sem] theorem lt_more5 {n m k0 k1 k2 k3 k4 : Nat} (h : n < m) : (n < m + k0 + k1 + k2 + k3 + k4) = True := eq_true (by omega)
@[go_sem] theorem lt_more6 {n m k0 k1 k2 k3 k4 k5 : Nat} (h : n < m) : (n < m + k0 + k1 + k2 + k3 + k4 + k5) = True := eq_true (by omega)
@[go_sem] theorem lt_more7 {n m k0 k1 k2 k3 k4 k5 k6 : Nat} (h : n < m) : (n < m + k0 + k1 + k2 + k3 + k4 + k5 + k6) = True := eq_true (by omega)
@[go_sem] theorem lt_more8 {n m k0 k1 k2 k3 k4 k5 k6 k7 : Nat} (h : n < m) : (n < m + k0 + k1 + k2 + k3 + k4 + k5 + k6 + k7) = True := eq_true (by omega)
@[go_sem] theorem lt_more9 {n m k0 k1 k2 k3 k4 k5 k6 k7 k8 : Nat} (h : n < m) : (n < m + k0 + k1 + k2 + k3 + k4 + k5 + k6 + k7 + k8) = True := eq_true (by omega)
@[go_sem] theorem lt_more10 {n m k0 k1 k2 k3 k4 k5 k6 k7 k8 k9 : Nat} (h : n < m) : (n < m + k0 + k1 + k2 + k3 + k4 + k5 + k6 + k7 + k8 + k9) = True := eq_true (by omega)
@[go_sem] theorem plus_drew (w : World) (bs : List Obj) (d : Nat) : plus w.drew bs d = plus w bs d := rfl
@[go_sem] theorem plus_drewN (w : World) (bs : List Obj) (d n : Nat) : plus (w.drewN n) bs d = plus w bs d := rfl
@[go_sem] theorem drew_plus (w : World) (bs : List Obj) (d : Nat) : (plus w bs d).drew = plus w bs (d + 1) := rfl
@[go_sem] theorem drewN_plus (w : World) (bs : List Obj) (d n : Nat) : (plus w bs d).drewN n = plus w bs (d + n) := rfl
theorem plus_of (h : Below W.heap.size W w) : ∃ bs d, w = plus W bs d := by
  refine ⟨(w.heap.toList.drop W.heap.size), w.drawn, ?_⟩
  have hh : w.heap = W.heap ++ (w.heap.toList.drop W.heap.size).toArray := by
    apply Array.ext_getElem?
    intro j
    rw [Array.getElem?_append]
    split
    · rename_i hj
      exact h.block j hj
    · rename_i hj
      simp only [List.getElem?_toArray, List.getElem?_drop]
      rw [show W.heap.size + (j - W.heap.size) = j from by omega]
      simp
  have h1 := h.os
  have h2 := h.tape
  have h3 := h.output
  cases w
  simp only [plus] at *
  subst h1 h2 h3
  rw [← hh]
theorem below_plus (w : World) (bs : List Obj) (d : Nat) : Below w.heap.size w (plus w bs d) := ⟨rfl, rfl, rfl, by simp [plus], fun _ hk => block_plus hk⟩
theorem toPlus {B : Nat} {a : World} (h : Below B a w) (hB : B ≤ w.heap.size) (bs : List Obj) (d : Nat) : Below B a (plus w bs d) := h.trans ((below_plus w bs d).mono hB)
theorem Rb.plus_ {A : Option Addr} {n c : Nat} {l : List UInt8} (h : Rb w A n c l) (bs : List Obj) (d : Nat) : Rb (plus w bs d) A n c l := h.later (below_plus w bs d)
theorem Ob.plus_ {base : Nat} {A : Option Addr} {n c : Nat} {l : List UInt8} (h : Ob w base A n c l) (bs : List Obj) (d : Nat) : Ob (plus w bs d) base A n c l := h.later (below_plus w bs d)
theorem Ob.alloc {base : Nat} {A : Option Addr} {n c : Nat} {l : List UInt8} (h : Ob w base A n c l) (o : Obj) : Ob (w.alloc o) base A n c l := ⟨h.1, h.2.alloc o⟩
end

/-- The call returns new bytes l, and changes nothing that was there. -/
def RetB (w : World) (l : List UInt8) (e : Ending) (w' : World) : Prop := ∃ A n c bs d, e = .returned (.slice A n c) ∧ w' = plus w bs d ∧ Ob (plus w bs d) w.heap.size A n c l
theorem RetB.mk {w w' : World} {l : List UInt8} {A : Option Addr} {n c : Nat} (ho : Ob w' w.heap.size A n c l) (hb : Below w.heap.size w w') : RetB w l (.returned (.slice A n c)) w' := by
  obtain ⟨bs, d, rfl⟩ := plus_of hb
  exact ⟨A, n, c, bs, d, rfl, rfl, ho⟩
theorem grown_plus {W w' : World} {bs : List Obj} {d r : Nat} (h : (plus W bs d).grownBy w' (some r)) (hr : W.heap.size ≤ r) : ∃ bs' d', w' = plus W bs' d' := by
  refine plus_of ?_
  have h2 : Below W.heap.size (plus W bs d) w' := below_of_grown h (by simp [size_plus]) (fun k hk => by injection hk with hk; omega)
  exact (below_plus W bs d).trans h2
/-- append onto a row of the call's own; W0: the world ahead of all own rows -/
theorem wpList_appP {P : Program} {w : World} {ops : Array Oper} {rest : List Oper} {o : Oper} {a : Act} {Q : Exit → Act → World → Prop} {ts : TypeId} (W0 : World) (bt : BT P ts 5) (hgd : o.guard = none) (s x : Operand)
    (ho : o.op = .call { callee := .builtin .append, args := #[s, x], argTypes := #[ts, ts] }) (hW : Below W0.heap.size W0 w)
    {A : Option Addr} {n c : Nat} {l : List UInt8} (hs : a.eval s = .slice A n c) (hown : Ob w W0.heap.size A n c l)
    {A2 : Option Addr} {n2 c2 : Nat} {l2 : List UInt8} (hx : a.eval x = .slice A2 n2 c2) (hr : Rb w A2 n2 c2 l2) (hm : n + n2 ≤ 1099511627776)
    (h : ∀ A' n' c' bs d, Ob (plus W0 bs d) W0.heap.size A' n' c' (l ++ l2) → w.grownBy (plus W0 bs d) (Value.slice A n c).ownBlock → wpList P ops Q rest (a.put o.dst (.slice A' n' c')) (plus W0 bs d)) : wpList P ops Q (o :: rest) a w := by
  refine wpList_app bt hgd s x ho hs hown hx hr hm hW.size ?_
  intro A' n' c' w' h1 h2 h3
  obtain ⟨bs, d, rfl⟩ := plus_of (hW.trans h2)
  exact h A' n' c' bs d h1 h3
/-- append([]byte{}, x...): the block of the empty literal is the last one -/
theorem wpList_app0 {P : Program} {W0 : World} {ops : Array Oper} {rest : List Oper} {o : Oper} {a : Act} {Q : Exit → Act → World → Prop} {ts : TypeId} (bt : BT P ts 5) (hgd : o.guard = none) (s x : Operand)
    (ho : o.op = .call { callee := .builtin .append, args := #[s, x], argTypes := #[ts, ts] }) {k : Nat} (hs : a.eval s = .slice (some ⟨k, 0, none⟩) 0 0) (hk : k = W0.heap.size)
    {A2 : Option Addr} {n2 c2 : Nat} {l2 : List UInt8} (hx : a.eval x = .slice A2 n2 c2) (hr : Rb W0 A2 n2 c2 l2) (hm : n2 ≤ 1099511627776)
    (h : ∀ A' n' c' bs d, Ob (plus W0 bs d) W0.heap.size A' n' c' l2 → wpList P ops Q rest (a.put o.dst (.slice A' n' c')) (plus W0 bs d)) : wpList P ops Q (o :: rest) a (W0.alloc (.cells #[] 5)) := by
  subst hk
  refine wpList_appP W0 bt hgd s x ho ((Below.refl _ _).alloc (Nat.le_refl _) _) hs (Ob.lit W0 (Nat.le_refl _) #[] [] 0 rfl (Nat.zero_le _) rfl) hx (hr.alloc _) (by omega) ?_
  intro A' n' c' bs d h1 _
  exact h A' n' c' bs d h1

theorem Ob.drew {w : World} {base : Nat} {A : Option Addr} {n c : Nat} {l : List UInt8} (h : Ob w base A n c l) : Ob w.drew base A n c l := h
theorem Bk.drew {w : World} {g : Nat} {t : TypeId} {cs : List Value} (h : Bk w g t cs) : Bk w.drew g t cs := h
/-- A slice of bytes in a field that came in. -/
theorem open_bytes_cell {H : Type} {enc : TypeId × Value → H} {P : Program} {W : World} {t e : TypeId} {m : Nat} {u : Value} {y : DataW H × List MemPlace}
    (ht : P.underlying t = some (.slice e)) (he : P.underlying e = some (.int .u8)) (hC : P.cellsOf e = 1)
    (hf : DataW.trod enc P W 0 (fun _ => true) true m t [u] = some y) :
    ∃ A n c, ∃ l : List UInt8, u = .slice A n c ∧ c ≤ maxLen ∧ Rb W A n c l := by
  rcases open_ints ht he hC hf with ⟨hcs, _⟩ | ⟨x, len, cap, zs, hcs, _, hl, hm, hz, _, hcell, hwz⟩
  · simp at hcs
    exact ⟨none, 0, 0, [], hcs, Nat.zero_le _, Rb.nil_⟩
  · simp at hcs
    have hz' : zs.length = cap := by simpa using hz
    refine ⟨some x, len, cap, (zs.take len).map fun n => UInt8.ofNat n.toNat, hcs, hm, by simp [hz', Nat.min_eq_left hl], hl, ?_⟩
    rcases Nat.eq_zero_or_pos len with h0 | h0
    · exact .inl (by simp [h0, bcs])
    · have hc0 := hcell 0 (by omega)
      obtain ⟨b, off, spot⟩ := x
      have hspot : spot = none := by simpa [Addr.add] using World.cell?_spot hc0
      subst hspot
      refine .inr ⟨b, off, rfl, lt_of_cell hc0, fun i u hu => ?_⟩
      have hi : i < len := by
        rcases Nat.lt_or_ge i len with h' | h'
        · exact h'
        · rw [List.getElem?_eq_none (by simp [bcs, hz']; omega)] at hu
          cases hu
      have hzi : i < zs.length := by omega
      have hcl := hcell i hzi
      rw [add_plain] at hcl
      rw [hcl]
      have hw := bounds_u8 (hwz zs[i] (List.getElem_mem hzi))
      have hu' : (bcs ((zs.take len).map fun n => UInt8.ofNat n.toNat))[i]? = some (.int .u8 zs[i]) := by
        simp [bcs, hi, hzi]
        omega
      rw [hu'] at hu
      rw [← hu]
      simp [List.getD, hzi]
/-- A struct of one-cell fields that came in. -/
theorem open_struct {H : Type} {enc : TypeId × Value → H} {P : Program} {W : World} {base : Nat} {t : TypeId} {fs : Array Field} {v : Value} {d : DataW H} {p : List MemPlace}
    (hs : P.underlying t = some (.struct fs)) (hone : Go.Deep.oneCellFields P fs = true) (hC : P.cellsOf t = fs.size)
    (hv : Value.okWide P W .any base t v) (h : DataW.Trod enc P W 0 (fun _ => true) true t v d p) :
    ∃ cs : List Value, v = .agg cs.toArray ∧ cs.length = fs.size ∧ ∃ m, ∀ (j : Nat) (f : Field), fs[j]? = some f → ∃ (u : Value) (y : DataW H × List MemPlace), cs[j]? = some u ∧ DataW.trod enc P W 0 (fun _ => true) true m f.type [u] = some y := by
  obtain ⟨cs, rfl, hsz⟩ := okWide_struct hs hv
  obtain ⟨fuel, hf⟩ := h
  obtain ⟨xs, n, _, _, hl, hlen, hg⟩ := DataW.trod_struct hs hf
  refine ⟨cs.toList, by simp, by simp [hsz, hC], n, fun j f hj => ?_⟩
  obtain ⟨ho, hk⟩ := Go.Deep.hone_of hone j f hj
  have hjl : j < fs.size := (Array.getElem?_eq_some_iff.1 hj).1
  have h1 := hg j f hj
  rw [ho, hk] at h1
  have hjc : j < cs.size := by omega
  have hxj : xs[j]? = some (xs[j]'(by omega)) := List.getElem?_eq_getElem (by omega)
  refine ⟨cs[j], xs[j]'(by omega), by simp [hjc], ?_⟩
  rw [← hxj, ← h1]
  congr 1
  simp only [Value.cells]
  rw [List.drop_eq_getElem_cons (by simpa using hjc)]
  simp
theorem list10 {α : Type} {l : List α} (h : l.length = 10) : ∃ a b c d e f g i j k, l = [a, b, c, d, e, f, g, i, j, k] := by
  match l, h with
  | [a, b, c, d, e, f, g, i, j, k], _ => exact ⟨a, b, c, d, e, f, g, i, j, k, rfl⟩
/-- The call returns v, and changes nothing that was there. -/
def RetV (w : World) (v : Value) (e : Ending) (w' : World) : Prop := ∃ bs d, e = .returned v ∧ w' = plus w bs d
theorem RetV.mk {w w' : World} {v : Value} (hb : Below w.heap.size w w') : RetV w v (.returned v) w' := by
  obtain ⟨bs, d, rfl⟩ := plus_of hb
  exact ⟨bs, d, rfl, rfl⟩
theorem belowP {a w : World} (h : Below a.heap.size a w) (bs : List Obj) (d : Nat) : Below a.heap.size a (plus w bs d) := toPlus h h.size bs d
theorem Rb.litW {W : World} {k n : Nat} (cs : Array Value) (l : List UInt8) (hk : k = W.heap.size) (hn : l.length = n) (hm : n ≤ maxLen) (h : cs.toList = bcs l) : Rb (W.alloc (.cells cs 5)) (some ⟨k, 0, none⟩) n n l := by
  subst hk
  exact (Ob.lit W (Nat.le_refl _) cs l n hn hm h).rb
/-! ### A region that draws its order, whose operations read what was there and whose calls make memory and hand back plain values -/
theorem plus_plus (w : World) (bs bs' : List Obj) (d d' : Nat) : plus (plus w bs d) bs' d' = plus w (bs ++ bs') d' := by simp [plus, Array.append_assoc]
/-- more blocks, and a count of draws -/
structure Ext where
  bs : List Obj
  d : Nat
instance : Inhabited Ext := ⟨⟨[], 0⟩⟩
end Go.Proofs.Ytknoenceccpkhaa

/- A region that draws its order, by what each operation's value is good for: every operation reads, or makes memory, and changes nothing that was there; a tail may follow in its order. -/
namespace Go.Proofs.Ytknoenceccpkhaa
open Go.RowKit Go.ChangeShapes Go.WideShapes
set_option linter.unusedVariables false

/-- w' is w with more blocks -/
def Ex (w w' : World) : Prop := ∃ x : Ext, w' = plus w x.bs x.d
theorem Ex.refl (w : World) : Ex w w := ⟨⟨[], w.drawn⟩, by simp [plus]⟩
theorem Ex.trans {a b c : World} (h : Ex a b) (h' : Ex b c) : Ex a c := by
  obtain ⟨x, rfl⟩ := h
  obtain ⟨y, rfl⟩ := h'
  exact ⟨⟨x.bs ++ y.bs, y.d⟩, plus_plus _ _ _ _ _⟩
theorem Ex.of {w w' : World} (h : Below w.heap.size w w') : Ex w w' := by
  obtain ⟨bs, d, rfl⟩ := plus_of h
  exact ⟨⟨bs, d⟩, rfl⟩
theorem Ex.below {w w' : World} (h : Ex w w') : Below w.heap.size w w' := by
  obtain ⟨x, rfl⟩ := h
  exact below_plus _ _ _
theorem Ex.alloc (w : World) (o : Obj) : Ex w (w.alloc o) := Ex.of ((Below.refl _ _).alloc (Nat.le_refl _) o)
theorem Ex.plus_ (w : World) (bs : List Obj) (d : Nat) : Ex w (plus w bs d) := ⟨⟨bs, d⟩, rfl⟩

/-- what a value is good for; it stays so -/
structure MP where
  p : Value → World → Prop
  mono : ∀ v w w', p v w → Ex w w' → p v w'
def MP.any : MP := ⟨fun _ _ => True, fun _ _ _ _ _ => trivial⟩
def MP.eq (c : Value) : MP := ⟨fun v _ => v = c, fun _ _ _ h _ => h⟩
def MP.rb (l : List UInt8) : MP := ⟨fun v w => ∃ A n c, v = .slice A n c ∧ Rb w A n c l, fun _ _ _ ⟨A, n, c, h1, h2⟩ h => ⟨A, n, c, h1, h2.later h.below⟩⟩
def MP.ob (base : Nat) (l : List UInt8) : MP := ⟨fun v w => ∃ A n c, v = .slice A n c ∧ Ob w base A n c l, fun _ _ _ ⟨A, n, c, h1, h2⟩ h => ⟨A, n, c, h1, h2.later h.below⟩⟩

/-- append onto a slice without room: new memory, or nothing -/
theorem run_appF {P : Program} (w : World) {ts ty : TypeId} (bt : BT P ts 5) {A : Option Addr} {n : Nat} {l : List UInt8} (hr : Rb w A n n l)
    {A2 : Option Addr} {n2 c2 : Nat} {l2 : List UInt8} (hr2 : Rb w A2 n2 c2 l2) (hm : n + n2 ≤ 1099511627776) :
    ∃ A' n' c' w', (Builtin.append_ #[ts, ts] ty #[.slice A n n, .slice A2 n2 c2]).run P w = .ok (.slice A' n' c') w' ∧ Rb w' A' n' c' (l ++ l2) ∧ Ex w w' ∧ (A' = A ∨ A' = some ⟨w.heap.size, 0, none⟩) := by
  obtain ⟨i, hi, hz0, hz1, hz2⟩ := info_parts bt.info
  have hsrc : Src P i.size ts (.slice A2 n2 c2) n2 (bcs l2) w := by
    rw [hz1]
    cases A2 with
    | none =>
      have hl2 : l2 = [] := by
        rcases hr2.2.2 with h | ⟨b, off, h, _⟩
        · exact bcs_nil h
        · cases h
      subst hl2
      obtain rfl : n2 = 0 := hr2.1.symm
      exact Src.ofNil w bt.sl c2
    | some ad =>
      refine Src.ofSlice w bt.sl ad n2 c2 (bcs l2) (by rw [bcs_length, hr2.1, Nat.mul_one]) (fun j u hu => ?_) (bcs_one l2)
      rcases hr2.2.2 with h | ⟨b, off, h, _, hc⟩
      · rw [h] at hu; simp at hu
      · injection h with h
        subst h
        rw [add_plain]
        exact hc j u hu
  by_cases h0 : n2 = 0
  · subst h0
    obtain rfl : l2 = [] := List.eq_nil_of_length_eq_zero hr2.1
    exact ⟨A, n, n, w, run_append_nothing w ts ts ty 5 i bt.sl hi A n n (Nat.le_refl _) _ hsrc, by simpa using hr, Ex.refl _, .inl rfl⟩
  · have hold : (Builtin.firstCells i.size n (.slice A n n)).run P w.drew = .ok (bcs l).toArray w.drew := by
      rw [hz1]
      cases A with
      | none =>
        have hl : l = [] := by
          rcases hr.2.2 with h | ⟨b, off, h, _⟩
          · exact bcs_nil h
          · cases h
        subst hl
        exact run_firstCells_none w.drew 1 n n n
      | some ad =>
        refine run_firstCells_some w.drew 1 n ad n n (bcs l) (by rw [bcs_length, hr.1, Nat.mul_one]) (fun j u hu => ?_)
        rcases hr.2.2 with h | ⟨b, off, h, _, hc⟩
        · rw [h] at hu; simp at hu
        · injection h with h
          subst h
          rw [add_plain]
          exact hc j u hu
    have H := run_append_grow_src (P := P) w ts ts ty 5 i (.int .u8 0) bt.sl hi hz0 A n n (bcs l) hold _ n2 (bcs l2) hsrc (by omega) (by omega) (growslice_fits (by omega) (by rw [hz2]; omega))
    refine ⟨_, _, _, _, H, ⟨by rw [List.length_append, hr.1, hr2.1], grownCap_ge w _ _ _, .inr ⟨w.heap.size, 0, rfl, by simp, fun j u hu => ?_⟩⟩, Ex.of ((Below.refl _ _).drew.alloc (Nat.le_refl _) _), .inr rfl⟩
    rw [Nat.zero_add]
    have hj : j < (bcs (l ++ l2)).length := (List.getElem?_eq_some_iff.1 hu).1
    have hb := Bk.new w.drew 5 ((bcs l ++ bcs l2).toArray ++ Builtin.zeroCells (Value.int .u8 0).cells (grownCap w (n + n2) n 5 - (n + n2)))
    have hc := hb.cell j
    rw [bcs_append] at hu hj
    simp only [World.size_drew, Array.toList_append, List.getElem?_append_left hj, hu] at hc
    exact hc

section
variable {P : Program} {ops : Array Oper} {Q : Exit → Act → World → Prop}

def cnt (listed : Array Bool) : Nat → Nat
  | 0 => 0
  | n + 1 => cnt listed n + (if listed.getD n true then 0 else 1)
theorem cnt_set {listed : Array Bool} {i : Nat} (hi : listed.getD i true = false) : ∀ n, cnt (listed.setIfInBounds i true) n + (if i < n then 1 else 0) = cnt listed n
  | 0 => by simp [cnt]
  | n + 1 => by
    have ih := cnt_set hi n
    have hs : i < listed.size := by
      rcases Nat.lt_or_ge i listed.size with h | h
      · exact h
      · simp [Array.getElem?_eq_none h] at hi
    simp only [cnt]
    by_cases hn : i = n
    · subst hn
      have e : (listed.setIfInBounds i true).getD i true = true := by simp [hs]
      rw [e, hi]
      simp at ih ⊢
      omega
    · rw [getD_set_ne true hn]
      have e2 : (if i < n + 1 then 1 else 0) = (if i < n then 1 else 0) := by split <;> split <;> omega
      omega
theorem cnt_zero {listed : Array Bool} : ∀ n, cnt listed n = 0 → ∀ i, i < n → listed.getD i true = true
  | 0, _, i, h => by omega
  | n + 1, h, i, hi => by
    simp only [cnt] at h
    by_cases hn : i = n
    · subst hn
      cases hg : listed.getD i true with
      | true => rfl
      | false => rw [hg] at h; simp at h
    · exact cnt_zero n (by omega) i (by omega)
theorem cnt_first {listed : Array Bool} : ∀ n, cnt listed n ≠ 0 → ∃ i, i < n ∧ listed.getD i true = false ∧ ∀ j, j < i → listed.getD j true = true
  | 0, h => by simp [cnt] at h
  | n + 1, h => by
    by_cases h0 : cnt listed n = 0
    · refine ⟨n, by omega, ?_, fun j hj => cnt_zero n h0 j hj⟩
      simp only [cnt, h0] at h
      cases hg : listed.getD n true with
      | true => rw [hg] at h; simp at h
      | false => rfl
    · obtain ⟨i, h1, h2, h3⟩ := cnt_first n h0
      exact ⟨i, by omega, h2, h3⟩
theorem cnt_init (m : Nat) : ∀ n, n ≤ m → cnt (Array.replicate m false) n = n
  | 0, _ => rfl
  | n + 1, h => by
    simp only [cnt, cnt_init m n (by omega)]
    have : (Array.replicate m false).getD n true = false := by simp [show n < m by omega]
    rw [this]
    simp

/-- may the region be walked so: n operations ahead of the tail, N slots -/
def relB (ops : Array Oper) (n N : Nat) : Bool :=
  decide (n ≤ ops.size) && (decide (n = ops.size) || (Region.sinkB .any ops n && Region.chainB .any ops n)) &&
  Region.seqB .any ops (ops.size - n) n ((List.range ops.size).map fun i => decide (i < n)).toArray &&
  (List.range n).all fun i => match ops[i]? with
    | none => false
    | some o => (match o.dst with | some s => decide (s < N) | none => false) && (o.after.all fun e => !Region.binds .any e || decide (e.on < i)) &&
      (List.range n).all fun j => j == i || (match (ops[j]?).bind (·.dst) with | some s => o.dst != some s | none => false)
/-- what operation i sees in slot s is what lay there ahead of the region -/
def outB (ops : Array Oper) (n i s : Nat) : Bool := (List.range n).all fun j => j == i || (match (ops[j]?).bind (·.dst) with | some d => d != s || Region.waitsFor .any ops j i | none => true)
/-- operation i waits for operation j, which writes slot s -/
def depB (ops : Array Oper) (n i j s : Nat) : Bool := decide (j < n) && Region.waitsFor .any ops i j && ((ops[j]?).bind (·.dst) == some s)

def putAll : List Oper → (Nat → Value) → Nat → Act → Act
  | [], _, _, a => a
  | o :: r, vs, k, a => putAll r vs (k + 1) (a.put o.dst (vs k))

theorem eval_put_same {a : Act} {s : Nat} {v : Value} (h : s < a.tmps.size) : (a.put (some s) v).eval (.tmp s) = v := by simp [Act.put, Act.eval, h]
theorem size_put (a : Act) (d : Option Tmp) (v : Value) : (a.put d v).tmps.size = a.tmps.size := by cases d <;> simp [Act.put]
theorem defers_put (a : Act) (d : Option Tmp) (v : Value) : (a.put d v).defers = a.defers := by cases d <;> rfl
theorem putAll_size : ∀ (l : List Oper) (vs : Nat → Value) (k : Nat) (a : Act), (putAll l vs k a).tmps.size = a.tmps.size
  | [], _, _, _ => rfl
  | o :: r, vs, k, a => by rw [putAll, putAll_size r, size_put]
theorem putAll_defers : ∀ (l : List Oper) (vs : Nat → Value) (k : Nat) (a : Act), (putAll l vs k a).defers = a.defers
  | [], _, _, _ => rfl
  | o :: r, vs, k, a => by rw [putAll, putAll_defers r, defers_put]
theorem putAll_eval (A : Act) (s : Nat) : ∀ (l : List Oper) (vs : Nat → Value) (k : Nat) (a : Act), s < a.tmps.size → (∀ j o, l[j]? = some o → o.dst = some s → vs (k + j) = A.eval (.tmp s)) →
    ((∃ o ∈ l, o.dst = some s) → (putAll l vs k a).eval (.tmp s) = A.eval (.tmp s)) ∧ ((∀ o ∈ l, o.dst ≠ some s) → (putAll l vs k a).eval (.tmp s) = a.eval (.tmp s))
  | [], _, _, _, _, _ => ⟨fun ⟨o, h, _⟩ => (by cases h), fun _ => rfl⟩
  | o :: r, vs, k, a, hs, hv => by
    have ih := putAll_eval A s r vs (k + 1) (a.put o.dst (vs k)) (by rw [size_put]; exact hs) (fun j o' hj hd => by
      have := hv (j + 1) o' (by simpa using hj) hd
      rw [← this]
      congr 1
      omega)
    rw [putAll]
    constructor
    · rintro ⟨o', ho', hd⟩
      by_cases hr : ∃ o'' ∈ r, o''.dst = some s
      · exact ih.1 hr
      · rcases List.mem_cons.1 ho' with rfl | h
        · rw [ih.2 (fun o'' h h' => hr ⟨o'', h, h'⟩), hd, eval_put_same hs]
          exact hv 0 _ rfl hd
        · exact absurd ⟨o', h, hd⟩ hr
    · intro hn
      rw [ih.2 (fun o' h => hn o' (List.mem_cons_of_mem _ h)), Act.eval_put (fun d hd e => hn o (List.mem_cons_self) (by rw [hd]; injection e with e; rw [e]))]
theorem act_ext {a b : Act} (h1 : a.tmps.size = b.tmps.size) (h2 : a.defers = b.defers) (h3 : ∀ s, s < a.tmps.size → a.eval (.tmp s) = b.eval (.tmp s)) : a = b := by
  cases a with | mk ta da =>
  cases b with | mk tb db =>
  simp only at h1 h2 h3
  subst h2
  congr 1
  refine Array.ext h1 fun i hi hj => ?_
  have := h3 i hi
  simpa [Act.eval, hi, hj] using this

structure RInv (ops : Array Oper) (n : Nat) (a0 : Act) (w0 : World) (Φ : Nat → MP) (listed : Array Bool) (A : Act) (w : World) : Prop where
  head : HeadInv .any ops n listed
  ex : Ex w0 w
  size : A.tmps.size = a0.tmps.size
  defers : A.defers = a0.defers
  out : ∀ s, (∀ j, j < n → ∀ o, ops[j]? = some o → listed.getD j false = true → o.dst ≠ some s) → A.eval (.tmp s) = a0.eval (.tmp s)
  ins : ∀ j, j < n → ∀ o s, ops[j]? = some o → listed.getD j false = true → o.dst = some s → (Φ j).p (A.eval (.tmp s)) w

theorem rel_app {w : World} {o : Oper} {a : Act} {K : Act → World → Prop} {ts : TypeId} (bt : BT P ts 5) (s x : Operand)
    (ho : o.op = .call { callee := .builtin .append, args := #[s, x], argTypes := #[ts, ts] }) {A : Option Addr} {n : Nat} {l : List UInt8} (hs : a.eval s = .slice A n n) (hr : Rb w A n n l)
    {A2 : Option Addr} {n2 c2 : Nat} {l2 : List UInt8} (hx : a.eval x = .slice A2 n2 c2) (hr2 : Rb w A2 n2 c2 l2) (hm : n + n2 ≤ 1099511627776)
    (h : ∀ A' n' c' w', Ex w w' → Rb w' A' n' c' (l ++ l2) → K (a.put o.dst (.slice A' n' c')) w') : o.wp P a w K Q := by
  obtain ⟨A', n', c', w', hrun, h2, h3, _⟩ := run_appF (P := P) w (ty := o.type) bt hr hr2 hm
  unfold Oper.wp execOp
  simp only [ho, resolve, invoke, builtin, Sem.run_bind, Sem.run_pure, Result.andThen_ok, List.map_toArray, List.map_cons, List.map_nil, hs, hx, hrun]
  exact h A' n' c' w' h3 h2
theorem wanted_if {o : Oper} {tmps : Array Value} {X Y : Prop} (h : o.guard = none) (hx : X) : if Region.wanted o (yielded ops tmps) = true then X else Y := by
  rw [if_pos (by simp [Region.wanted, h])]
  exact hx
theorem wp_rel {id : Nat} {a : Act} {w : World} {l : List Oper} (n N : Nat) (hN : a.tmps.size = N) (hm : P.follows .mixedOrders = true) (hB : relB l.toArray n N = true) (Φ : Nat → MP)
    (step : ∀ i, i < n → ∀ o, l[i]? = some o → ∀ (A : Act) (x : Ext), (∀ s, outB l.toArray n i s = true → A.eval (.tmp s) = a.eval (.tmp s)) → (∀ j s, depB l.toArray n i j s = true → (Φ j).p (A.eval (.tmp s)) (plus w x.bs x.d)) →
      ∀ K : Act → World → Prop, Shut (∀ v w', Ex (plus w x.bs x.d) w' → (Φ i).p v w' → K (A.put o.dst v) w') → if Region.wanted o (yielded l.toArray A.tmps) = true then o.wp P A (plus w x.bs x.d) K Q else K (A.put o.dst undef) (plus w x.bs x.d))
    (fin : ∀ (vs : Nat → Value) (x : Ext), (∀ i, i < n → (Φ i).p (vs i) (plus w x.bs x.d)) → wpList P l.toArray Q (l.drop n) (putAll (l.take n) vs 0 a) (plus w x.bs x.d)) : (Code.region id l.toArray true).wp P Q a w := by
  unfold relB at hB
  simp only [Bool.and_eq_true, decide_eq_true_eq] at hB
  obtain ⟨⟨⟨hn, htail⟩, hseq⟩, hall⟩ := hB
  have hal : ∀ i, i < n → ∃ o s, l.toArray[i]? = some o ∧ o.dst = some s ∧ s < N ∧ (∀ e ∈ o.after, Region.binds .any e = true → e.on < i) ∧ ∀ j, j < n → j ≠ i → ∃ oj sj, l.toArray[j]? = some oj ∧ oj.dst = some sj ∧ sj ≠ s := by
    intro i hi
    have h1 := List.all_eq_true.1 hall i (List.mem_range.2 hi)
    cases ho : l.toArray[i]? with
    | none => rw [ho] at h1; cases h1
    | some o =>
      rw [ho] at h1
      simp only [Bool.and_eq_true] at h1
      obtain ⟨⟨h2, h3⟩, h4⟩ := h1
      cases hd : o.dst with
      | none => rw [hd] at h2; cases h2
      | some s =>
        rw [hd] at h2 h4
        refine ⟨o, s, rfl, hd, by simpa using h2, fun e he hb => ?_, fun j hj hji => ?_⟩
        · have := (Array.all_eq_true_iff_forall_mem.1 h3) e he
          rw [hb] at this
          simpa using this
        · have h5 := List.all_eq_true.1 h4 j (List.mem_range.2 hj)
          cases hoj : l.toArray[j]? with
          | none => rw [hoj] at h5; simp [hji] at h5
          | some oj =>
            rw [hoj] at h5
            cases hdj : oj.dst with
            | none => simp [hdj, hji] at h5
            | some sj =>
              simp [hdj, hji] at h5
              exact ⟨oj, sj, rfl, hdj, fun e => h5 e.symm⟩
  have main : ∀ (f : Nat) (listed : Array Bool) (A : Act) (w' : World), RInv l.toArray n a w Φ listed A w' → cnt listed n = f → wpAny P .any l.toArray Q (f + (l.toArray.size - n)) listed A w' := by
    intro f
    induction f with
    | zero =>
      intro listed A w' inv hc
      have hl : ∀ i, i < n → listed.getD i true = true := cnt_zero n hc
      have el : listed = ((List.range l.toArray.size).map fun i => decide (i < n)).toArray := by
        apply Array.ext
        · simp [inv.head.size]
        · intro i h1 h2
          by_cases hi : i < n
          · have := hl i hi
            simp only [Array.getD_eq_getD_getElem?, Array.getElem?_eq_getElem h1, Option.getD_some] at this
            simp [this, hi]
          · have := inv.head.tail i (by omega) (by rw [← inv.head.size]; exact h1)
            simp only [Array.getD_eq_getD_getElem?, Array.getElem?_eq_getElem h1, Option.getD_some] at this
            simp [this, hi]
      have eA : A = putAll (l.take n) (fun j => ((l.toArray[j]?).bind (·.dst)).elim undef (fun s => A.eval (.tmp s))) 0 a := by
        refine act_ext (by rw [putAll_size, inv.size]) (by rw [putAll_defers, inv.defers]) fun s hs => ?_
        have H := putAll_eval A s (l.take n) (fun j => ((l.toArray[j]?).bind (·.dst)).elim undef (fun s => A.eval (.tmp s))) 0 a (by rw [← inv.size]; exact hs) (fun j o hj hd => by
          have hjn : j < n := by
            have := (List.getElem?_eq_some_iff.1 hj).1
            simp at this
            omega
          have : l.toArray[j]? = some o := by simpa [hjn] using hj
          simp [this, hd])
        by_cases he : ∃ o ∈ l.take n, o.dst = some s
        · exact (H.1 he).symm
        · rw [H.2 (fun o h h' => he ⟨o, h, h'⟩)]
          refine inv.out s fun j hj o ho _ hd => he ⟨o, ?_, hd⟩
          rw [List.mem_take_iff_getElem]
          have hjl := (Array.getElem?_eq_some_iff.1 ho)
          obtain ⟨h1, h2⟩ := hjl
          exact ⟨j, by simp at h1; omega, by simpa using h2⟩
      rw [Nat.zero_add]
      obtain ⟨x, rfl⟩ := inv.ex
      have := wpAny_of_seq (md := .any) (Q' := Q) (P := P) (ops := l.toArray) (l.drop n) n listed A (plus w x.bs x.d) (fun j => by simp [List.getElem?_drop]) (by
        rw [el]
        have : (l.drop n).length = l.toArray.size - n := by simp
        rw [this]
        exact hseq) (by
        rw [eA]
        refine fin _ x fun i hi => ?_
        obtain ⟨o, s, ho, hd, _⟩ := hal i hi
        have hli : listed.getD i false = true := by
          have := hl i hi
          have hsz : i < listed.size := by rw [inv.head.size]; exact (Array.getElem?_eq_some_iff.1 ho).1
          simpa [hsz] using this
        have := inv.ins i hi o s ho hli hd
        simpa [ho, hd] using this)
      have e2 : (l.drop n).length = l.toArray.size - n := by simp
      rwa [e2] at this
    | succ f ih =>
      intro listed A w' inv hc
      rw [show f + 1 + (l.toArray.size - n) = (f + (l.toArray.size - n)) + 1 by omega]
      obtain ⟨i0, hi0, hun0, hprev⟩ := cnt_first n (by rw [hc]; omega)
      have hready0 : i0 ∈ Region.ready .any l.toArray listed := by
        obtain ⟨o, s, ho, hd, _, hlt, _⟩ := hal i0 hi0
        refine mem_ready.2 ⟨hun0, o, ho, fun e he hb => ?_⟩
        have h1 := hlt e he hb
        have h2 := hprev e.on h1
        have hsz : e.on < listed.size := by rw [inv.head.size]; have := (Array.getElem?_eq_some_iff.1 ho).1; omega
        simpa [hsz] using h2
      refine ⟨fun h => (by rw [h] at hready0; cases hready0), fun i hi => ?_⟩
      obtain ⟨hun, o, ho, hdeps⟩ := mem_ready.1 hi
      have hin : i < n := by
        rcases Nat.lt_or_ge i n with h | h
        · exact h
        · have hsz := (Array.getElem?_eq_some_iff.1 ho).1
          simp only [Bool.or_eq_true, decide_eq_true_eq, Bool.and_eq_true] at htail
          rcases htail with ht | ht
          · omega
          · exact absurd hi (tail_waits ht.1 ht.2 (by omega) inv.head _ i0 rfl hi0 hun0 i h)
      obtain ⟨o', s, ho', hd, hsN, hlt, hother⟩ := hal i hin
      have : o' = o := Option.some.inj (ho'.symm.trans ho)
      subst this
      obtain ⟨x, rfl⟩ := inv.ex
      have unl : ∀ j, listed.getD j false = true → j ≠ i := fun j hj e => by subst e; rw [getD_both hun] at hj; cases hj
      have hstep := step i hin o' (by simpa using ho) A x (fun s' hs' => inv.out s' fun j hj oj hoj hlj hdj => by
          have h1 := List.all_eq_true.1 hs' j (List.mem_range.2 hj)
          have hji := unl j hlj
          rw [hoj] at h1
          simp only [Option.bind_some, hdj] at h1
          simp only [Bool.or_eq_true, beq_iff_eq, bne_self_eq_false, Bool.false_eq_true, false_or] at h1
          rcases h1 with h1 | h1
          · exact hji h1
          · obtain ⟨oj', hoj', e, he, hb, hon⟩ := Region.waitsFor_spec h1
            have : oj' = oj := Option.some.inj (hoj'.symm.trans hoj)
            subst this
            have h2 := inv.head.closed j oj' hoj hlj e he hb
            rw [hon, getD_both hun] at h2
            cases h2)
        (fun j s' hs' => by
          simp only [depB, Bool.and_eq_true, decide_eq_true_eq] at hs'
          obtain ⟨⟨hj, hw⟩, hds⟩ := hs'
          obtain ⟨oi, hoi, e, he, hb, hon⟩ := Region.waitsFor_spec hw
          have : oi = o' := Option.some.inj (hoi.symm.trans ho)
          subst this
          have hlj := hdeps e he hb
          rw [hon] at hlj
          cases hoj : l.toArray[j]? with
          | none => rw [hoj] at hds; simp at hds
          | some oj =>
            rw [hoj] at hds
            simp only [Option.bind_some, beq_iff_eq] at hds
            exact inv.ins j hj oj s' hoj hlj hds)
      have next : ∀ v w'', Ex (plus w x.bs x.d) w'' → (Φ i).p v w'' → wpAny P .any l.toArray Q (f + (l.toArray.size - n)) (listed.setIfInBounds i true) (A.put o'.dst v) w'' := by
        intro v w'' hex hp
        refine ih _ _ _ ?_ ?_
        · refine ⟨inv.head.set hi hin, (Ex.plus_ w x.bs x.d).trans hex, by rw [size_put, inv.size], by rw [defers_put, inv.defers], fun s' hs' => ?_, fun j hj oj s' hoj hlj hdj => ?_⟩
          · have hne : s ≠ s' := fun e => by
              subst e
              refine hs' i hin o' ho ?_ hd
              have hsz : i < listed.size := by rw [inv.head.size]; exact (Array.getElem?_eq_some_iff.1 ho).1
              simp [hsz]
            rw [Act.eval_put (fun d hd' e => by rw [hd] at hd'; injection hd' with hd'; injection e with e; exact hne (hd'.trans e.symm))]
            refine inv.out s' fun j hj oj hoj hlj => hs' j hj oj hoj (getD_set_true hlj)
          · by_cases hji : j = i
            · subst hji
              have : oj = o' := Option.some.inj (hoj.symm.trans ho)
              subst this
              rw [hd] at hdj
              injection hdj with hdj
              subst hdj
              rw [hd, eval_put_same (by rw [inv.size, hN]; exact hsN)]
              exact hp
            · have hlj' : listed.getD j false = true := by rw [getD_set_ne false (Ne.symm hji)] at hlj; exact hlj
              obtain ⟨oj', sj, hoj', hdj', hne⟩ := hother j hj hji
              have : oj' = oj := Option.some.inj (hoj'.symm.trans hoj)
              subst this
              rw [hdj] at hdj'
              injection hdj' with hdj'
              subst hdj'
              rw [Act.eval_put (fun d hd' e => by rw [hd] at hd'; injection hd' with hd'; injection e with e; exact hne (e.trans hd'.symm))]
              exact (Φ j).mono _ _ _ (inv.ins j hj oj' s' hoj hlj' hdj) hex
        · have := cnt_set hun n
          rw [if_pos hin] at this
          omega
      have hs := hstep _ next
      unfold wpOp
      rw [ho]
      simp only
      split
      · rename_i hw
        rw [if_pos hw] at hs
        exact .inl hs
      · rename_i hw
        rw [if_neg hw] at hs
        exact hs
  refine wp_region_any hm ?_
  have h0 : ({ w with drawn := w.drawn + 1 } : World) = w.drew := rfl
  have H := main n (Array.replicate l.toArray.size false) a w.drew ⟨⟨by simp, fun j oj _ hl => (by rw [getD_replicate_false] at hl; cases hl), fun t _ ht => getD_in (by simpa using ht) (getD_replicate_false _ _)⟩,
    ⟨⟨[], w.drawn + 1⟩, by show ({ w with drawn := w.drawn + 1 } : World) = _; simp [plus]⟩, rfl, rfl, fun s _ => rfl, fun j hj o s _ hl => (by rw [getD_replicate_false] at hl; cases hl)⟩ (cnt_init _ n hn)
  rw [show n + (l.toArray.size - n) = l.toArray.size by omega] at H
  exact H
/-! ### The same, with operations that hold no memory taken as soon as they may be: they may stand behind the tail's first -/
end
/-- the slot of a guard -/
theorem slot_of {x : Option Value} {b : Bool} (h : x.getD undef = .bool b) : x = some (.bool b) := by
  cases x with
  | none => simp [undef] at h
  | some v => simp at h; rw [h]
theorem slot_un {x : Option Value} (h : x.getD undef = undef) : x = none ∨ x = some undef := by
  cases x with
  | none => exact .inl rfl
  | some v => simp at h; exact .inr (by rw [h])
end Go.Proofs.Ytknoenceccpkhaa

/- Whole arrays and structs out of and into blocks; results in memory. -/
namespace Go.Proofs.Ytknoenceccpkhaa
open Go.RowKit
set_option linter.unusedVariables false
set_option linter.unusedSimpArgs false

theorem Bk.range {w : World} {g : Nat} {t : TypeId} {cs : List Value} (h : Bk w g t cs) : w.rangeAt g 0 cs := fun j v hv => by rw [Nat.zero_add, h.cell]; exact hv
/-- a result that is a whole array or struct, in a block -/
theorem bodyPost_agg {P : Program} {fn : Func} {R : Ending → World → Prop} {a : Act} {w : World} {slot ty g : Nat} {d : TypeDesc} {cs : List Value} (hfr : fn.results = #[.cell slot ty]) (hs : a.tmps.getD slot undef = .pointer (some ⟨g, 0, none⟩))
    (hb : w.rangeAt g 0 cs) (hu : P.underlying ty = some d) (hd : d.isRow = true) (hi : (P.info? ty).map (·.size) = some cs.length) (hdf : a.defers = []) (hR : R (.returned (.agg cs.toArray)) w) : bodyPost P fn R .ret a w := by
  refine bodyPost_ret (v := .agg cs.toArray) ?_ hdf hR
  have h1 := run_loadVar_mid (P := P) w g 0 ty cs d hb hu hd hi
  have hs' : a.tmps[slot]?.getD undef = .pointer (some ⟨g, 0, none⟩) := by simpa using hs
  simp [results, hfr, hs', asAddr, h1]
/-- a block's cells, all stored anew -/
theorem Bk.setCells {w : World} {g : Nat} {t : TypeId} : ∀ (new old : List Value) (o : Nat), Bk w g t old → o + new.length = old.length → Bk (w.setCells g o new) g t (old.take o ++ new) := by
  intro new
  induction new generalizing w with
  | nil => intro old o h hl; simp only [List.length_nil, Nat.add_zero] at hl; simp only [World.setCells, List.append_nil, List.take_of_length_le (Nat.le_of_eq hl.symm)]; exact h
  | cons v r ih =>
    intro old o h hl
    rw [World.setCells]
    have h1 := ih (old.set o v) (o + 1) (h.set_ o v) (by simp only [List.length_set, List.length_cons] at *; omega)
    have e : (old.set o v).take (o + 1) ++ r = old.take o ++ v :: r := by
      rw [List.take_succ_eq_append_getElem (by simp only [List.length_set, List.length_cons] at *; omega)]
      simp [List.take_set_of_le]
    rw [e] at h1
    exact h1
theorem Below.setCells {B : Nat} {a : World} {g : Nat} (hg : B ≤ g) : ∀ (new : List Value) (o : Nat) (w : World), Below B a w → Below B a (w.setCells g o new)
  | [], _, _, h => h
  | v :: r, o, w, h => Below.setCells hg r (o + 1) _ (h.setCell hg v)
/-- is it this operation? -/
theorem at_op {P : Program} {w : World} {ops : Array Oper} {rest : List Oper} {o : Oper} {a : Act} {Q : Exit → Act → World → Prop} (op : Op) (h : o.op = op) (x : wpList P ops Q (o :: rest) a w) : wpList P ops Q (o :: rest) a w := x
/-- a part of a block that is known whole, as an aggregate -/
theorem wpList_ldA {P : Program} {w : World} {ops : Array Oper} {rest : List Oper} {o : Oper} {a : Act} {Q : Exit → Act → World → Prop} (ty : TypeId) (x : Operand) (ho : o.op = .load ty x) (hgd : o.guard = none)
    {g off : Nat} {t : TypeId} {cs : List Value} {d : TypeDesc} (part : List Value) (hx : a.eval x = .pointer (some ⟨g, off, none⟩)) (hb : Bk w g t cs) (hp : (cs.drop off).take part.length = part)
    (hu : P.underlying ty = some d) (hd : d.isRow = true) (hi : (P.info? ty).map (·.size) = some part.length) (h : wpList P ops Q rest (a.put o.dst (.agg part.toArray)) w) : wpList P ops Q (o :: rest) a w := by
  refine wpList_load_mid hgd ty x ho g off hx part d (fun j v hv => ?_) hu hd hi h
  rw [hb.cell]
  rw [← hp, List.getElem?_take] at hv
  split at hv
  · rw [List.getElem?_drop] at hv; exact hv
  · cases hv
/-- a guarded operation that is wanted: a part of a block, as an aggregate -/
theorem wpList_ldG {P : Program} {w : World} {ops : Array Oper} {rest : List Oper} {o : Oper} {a : Act} {Q : Exit → Act → World → Prop} (ty : TypeId) (x : Operand) (ho : o.op = .load ty x) (hw : Region.wanted o (yielded ops a.tmps) = true)
    {g off : Nat} {t : TypeId} {cs : List Value} {d : TypeDesc} (part : List Value) (hx : a.eval x = .pointer (some ⟨g, off, none⟩)) (hb : Bk w g t cs) (hp : (cs.drop off).take part.length = part)
    (hu : P.underlying ty = some d) (hd : d.isRow = true) (hi : (P.info? ty).map (·.size) = some part.length) (h : wpList P ops Q rest (a.put o.dst (.agg part.toArray)) w) : wpList P ops Q (o :: rest) a w := by
  unfold wpList
  rw [if_pos hw]
  refine .inl (wp_load_mid ty x ho g off hx part d (fun j v hv => ?_) hu hd hi h)
  rw [hb.cell]
  rw [← hp, List.getElem?_take] at hv
  split at hv
  · rw [List.getElem?_drop] at hv; exact hv
  · cases hv
/-- an aggregate stored over a whole block -/
theorem wpList_stA {P : Program} {w : World} {ops : Array Oper} {rest : List Oper} {o : Oper} {a : Act} {Q : Exit → Act → World → Prop} (ty : TypeId) (x y : Operand) (ho : o.op = .store ty x y) (hgd : o.guard = none)
    {g : Nat} {t : TypeId} (new old : List Value) (hl : new.length = old.length) (h1 : ∀ u ∈ new, u.oneCell' = true) (hx : a.eval x = .pointer (some ⟨g, 0, none⟩)) (hy : a.eval y = .agg new.toArray) (hb : Bk w g t old)
    (hi : (P.info? ty).map (·.size) = some new.length) (h : ∀ w', Bk w' g t new → w.grownBy w' (some g) → wpList P ops Q rest (a.put o.dst undef) w') : wpList P ops Q (o :: rest) a w := by
  refine wpList_store_mid hgd ty x y ho g 0 new.toArray hx hy (fun j hj => ?_) (by simpa using hi) (all_oneCell_toArray h1) (h _ ?_ ?_)
  · rw [Nat.zero_add]
    have hj' : j < old.length := by rw [← hl]; simpa using hj
    exact ⟨by rw [hb.cell, List.getElem?_eq_getElem hj']; rfl, hb.frozen j⟩
  · have := Bk.setCells new old 0 hb (by omega)
    simpa using this
  · generalize 0 = k
    clear hi h hb hy hl
    induction new generalizing w k with
    | nil => exact World.grownBy.refl _ _
    | cons v r ih => exact (grownBy_setCell _ _ _ _).trans (ih (fun u hu => h1 u (List.mem_cons_of_mem _ hu)) _)
theorem below_grown {w w1 w2 : World} {g : Nat} (h : Below w.heap.size w w1) (hg : w1.grownBy w2 (some g)) (hl : w.heap.size ≤ g) : Below w.heap.size w w2 :=
  h.trans (below_of_grown hg h.size (fun k hk => by injection hk with hk; omega))
theorem Bk.newK {W : World} {k : Nat} (t : TypeId) (cs : Array Value) (l : List Value) (hk : k = W.heap.size) (hl : cs.toList = l) : Bk (W.alloc (.cells cs t)) k t l := by
  subst hk
  subst hl
  exact Bk.new W t cs
theorem Below.allocS {a w : World} (h : Below a.heap.size a w) (o : Obj) : Below a.heap.size a (w.alloc o) := h.alloc h.size o
def MP.blk (base : Nat) (t : TypeId) (cs : List Value) : MP := ⟨fun v w => ∃ g, v = .pointer (some ⟨g, 0, none⟩) ∧ base ≤ g ∧ Bk w g t cs, fun _ _ _ ⟨g, h1, h2, h3⟩ h => ⟨g, h1, h2, h3.later h.below⟩⟩
end Go.Proofs.Ytknoenceccpkhaa

/- A region that draws its order and builds structs or rows in new blocks: stores into the new blocks may stand anywhere among the other operations. -/
namespace Go.Proofs.Ytknoenceccpkhaa
open Go.RowKit
set_option linter.unusedVariables false
set_option linter.unusedSimpArgs false

/-- what a value v is good for, beside the value u of another operation; it stays so as memory grows, and as blocks of the types S are written -/
structure MW (base : Nat) (S : TypeId → Bool) where
  p : Value → Value → World → Prop
  ex : ∀ v u w w', p v u w → Ex w w' → p v u w'
  st : ∀ v u w b t cs k x, p v u w → Bk w b t cs → S t = true → base ≤ b → p v u (w.setCell ⟨b, k, none⟩ x)
section
variable {base : Nat} {S : TypeId → Bool}
def MW.any : MW base S := ⟨fun _ _ _ => True, fun _ _ _ _ _ _ => trivial, fun _ _ _ _ _ _ _ _ _ _ _ _ => trivial⟩
def MW.eq (c : Value) : MW base S := ⟨fun v _ _ => v = c, fun _ _ _ _ h _ => h, fun _ _ _ _ _ _ _ _ h _ _ _ => h⟩
/-- a slice over the other's block -/
def MW.sl (n : Nat) : MW base S := ⟨fun v u _ => ∃ b, u = .pointer (some ⟨b, 0, none⟩) ∧ v = .slice (some ⟨b, 0, none⟩) n n, fun _ _ _ _ h _ => h, fun _ _ _ _ _ _ _ _ h _ _ _ => h⟩
/-- no more than that it is a word that holds of the value alone -/
def MW.of (q : Value → Prop) : MW base S := ⟨fun v _ _ => q v, fun _ _ _ _ h _ => h, fun _ _ _ _ _ _ _ _ h _ _ _ => h⟩
theorem Ob.setB {w : World} {A : Option Addr} {n c : Nat} {l : List UInt8} {b : Nat} {t : TypeId} {cs : List Value} {k : Nat} {x : Value} (h : Ob w base A n c l) (hb : Bk w b t cs) (ht : t ≠ 5) : Ob (w.setCell ⟨b, k, none⟩ x) base A n c l := by
  refine h.grown (grownBy_setCell w b k x) fun j hj e => ?_
  injection e with e
  subst e
  rcases h.2.2 with ⟨hv, _⟩ | ⟨g, cap, cur, hv, _, hg, _⟩
  · rw [hv] at hj
    simp [Value.ownBlock] at hj
  · rw [hv] at hj
    simp [Value.ownBlock] at hj
    subst hj
    rw [Bk] at hb
    rw [hb] at hg
    injection hg with hg
    injection hg with _ h2
    exact ht h2
theorem S_ne {t : TypeId} (hS : S 5 = false) (ht : S t = true) : t ≠ 5 := fun e => by subst e; rw [hS] at ht; cases ht
/-- new bytes -/
def MW.ob (hS : S 5 = false) (l : List UInt8) : MW base S := ⟨fun v _ w => ∃ A n c, v = .slice A n c ∧ Ob w base A n c l, fun _ _ _ _ ⟨A, n, c, h1, h2⟩ h => ⟨A, n, c, h1, h2.later h.below⟩,
  fun _ _ _ _ _ _ _ _ ⟨A, n, c, h1, h2⟩ hb hs _ => ⟨A, n, c, h1, h2.setB hb (S_ne hS hs)⟩⟩
end

/-- where a stored value comes from: another operation of the region, or it is known -/
inductive BSrc | op (j : Nat) | val (v : Value)
def BSrc.get (vs : Nat → Value) : BSrc → Value | .op j => vs j | .val v => v
/-- a block that is built: the operation that makes it, its cells' type, its cells as they are made, the stores into it: operation, cell, value -/
structure Bld where
  a : Nat
  t : TypeId
  cs : List Value
  sts : List (Nat × Nat × BSrc)
def Bld.at_ (B : Bld) (done : Nat → Bool) (vs : Nat → Value) (k : Nat) : Value :=
  match B.sts.find? (fun e => e.2.1 == k) with
  | some e => if done e.1 then e.2.2.get vs else B.cs.getD k undef
  | none => B.cs.getD k undef
def Bld.cells (B : Bld) (done : Nat → Bool) (vs : Nat → Value) : List Value := (List.range B.cs.length).map (B.at_ done vs)
section
variable {P : Program} {Q : Exit → Act → World → Prop}
/-- operation i waits for operation j, over at most f others -/
def tw (ops : Array Oper) (n : Nat) : Nat → Nat → Nat → Bool
  | 0, i, j => Region.waitsFor .any ops i j
  | f + 1, i, j => Region.waitsFor .any ops i j || (List.range n).any fun k => Region.waitsFor .any ops i k && tw ops n f k j
end
end Go.Proofs.Ytknoenceccpkhaa

/- A region that draws its order, some of whose operations change known blocks, one behind the other (calls on a reader): the others read, or make memory. -/
namespace Go.Proofs.Ytknoenceccpkhaa
open Go.RowKit
set_option linter.unusedVariables false
set_option linter.unusedSimpArgs false

/-- w' is w with other cells in the blocks D, and more blocks -/
structure Chg (D : Nat → Prop) (w w' : World) : Prop where
  os : w'.os = w.os
  tape : w'.tape = w.tape
  output : w'.output = w.output
  size : w.heap.size ≤ w'.heap.size
  block : ∀ b, b < w.heap.size → ¬ D b → w'.heap[b]? = w.heap[b]?
section
variable {D : Nat → Prop} {w w' w'' : World}
theorem Chg.refl (w : World) : Chg D w w := ⟨rfl, rfl, rfl, Nat.le_refl _, fun _ _ _ => rfl⟩
theorem Chg.trans (h : Chg D w w') (h' : Chg D w' w'') : Chg D w w'' := ⟨h'.os.trans h.os, h'.tape.trans h.tape, h'.output.trans h.output, Nat.le_trans h.size h'.size, fun b hb hd => (h'.block b (Nat.lt_of_lt_of_le hb h.size) hd).trans (h.block b hb hd)⟩
theorem Chg.below {B : Nat} (h : Chg D w w') (hD : ∀ b, D b → B ≤ b) (hB : B ≤ w.heap.size) : Below B w w' := ⟨h.os, h.tape, h.output, h.size, fun b hb => h.block b (by omega) (fun hd => by have := hD b hd; omega)⟩
theorem Chg.of_below (h : Below w.heap.size w w') : Chg D w w' := ⟨h.os, h.tape, h.output, h.size, fun b hb _ => h.block b hb⟩
theorem Chg.ex (h : Ex w w') : Chg D w w' := .of_below h.below
theorem Chg.grown {row : Option Nat} (h : w.grownBy w' row) (hr : ∀ k, row = some k → D k) : Chg D w w' := ⟨h.os, h.tape, h.output, h.size, fun b hb hd => h.block b hb (fun e => hd (hr b e.symm))⟩
theorem Bk.chg {g : Nat} {t : TypeId} {cs : List Value} (h : Bk w g t cs) (hc : Chg D w w') (hd : ¬ D g) : Bk w' g t cs := (hc.block g h.lt hd).trans h
theorem Rb.chg {A : Option Addr} {n c : Nat} {l : List UInt8} (h : Rb w A n c l) (hc : Chg D w w') (hd : ∀ a, A = some a → ¬ D a.block) : Rb w' A n c l := by
  refine ⟨h.1, h.2.1, ?_⟩
  rcases h.2.2 with h' | ⟨b, off, hA, hb, hcell⟩
  · exact .inl h'
  · exact .inr ⟨b, off, hA, Nat.lt_of_lt_of_le hb hc.size, fun i u hu => (World.cell?_of_block (hc.block b hb (hd _ hA))).trans (hcell i u hu)⟩
theorem Ob.chg {base : Nat} {A : Option Addr} {n c : Nat} {l : List UInt8} (h : Ob w base A n c l) (hc : Chg D w w') (hd : ∀ b, D b → b < base) : Ob w' base A n c l := by
  refine ⟨h.1, h.2.1, ?_⟩
  rcases h.2.2 with h' | ⟨g, cap, cur, hv, hg, hh, hr⟩
  · exact .inl h'
  · refine .inr ⟨g, cap, cur, hv, hg, ?_, hr⟩
    rw [hc.block g (by rcases Nat.lt_or_ge g w.heap.size with h1 | h1; exact h1; rw [Array.getElem?_eq_none h1] at hh; cases hh) (fun hd' => by have := hd g hd'; omega)]
    exact hh
end
/-- what a value is good for, whatever happens in the blocks D -/
structure MC (D : Nat → Prop) where
  p : Value → World → Prop
  mono : ∀ v w w', p v w → Chg D w w' → p v w'
def MC.any {D : Nat → Prop} : MC D := ⟨fun _ _ => True, fun _ _ _ _ _ => trivial⟩
def MC.eq {D : Nat → Prop} (c : Value) : MC D := ⟨fun v _ => v = c, fun _ _ _ h _ => h⟩
def MC.ob {D : Nat → Prop} (base : Nat) (hd : ∀ b, D b → b < base) (l : List UInt8) : MC D := ⟨fun v w => ∃ A n c, v = .slice A n c ∧ Ob w base A n c l, fun _ _ _ ⟨A, n, c, h1, h2⟩ h => ⟨A, n, c, h1, h2.chg h hd⟩⟩
def MC.blk {D : Nat → Prop} (base : Nat) (hd : ∀ b, D b → b < base) (t : TypeId) (cs : List Value) : MC D := ⟨fun v w => ∃ g, v = .pointer (some ⟨g, 0, none⟩) ∧ base ≤ g ∧ Bk w g t cs, fun _ _ _ ⟨g, h1, h2, h3⟩ h => ⟨g, h1, h2, h3.chg h (fun hg => by have := hd g hg; omega)⟩⟩

section
variable {P : Program} {Q : Exit → Act → World → Prop}
end
end Go.Proofs.Ytknoenceccpkhaa

/- A range over a function: a law for loops whose rounds are handed values that live in memory. No program in sight. -/
namespace Go.Proofs.Ytknoenceccpkhaa
open Go.RowKit
set_option linter.unusedVariables false

/-- an iterator: it hands values on one by one, until all are out (S) or a round says 'no more' (Sp); rounds keep the blocks Fp -/
def IterS {α : Type} (P : Program) (gf : Nat) (lb : Array Value) (encs : α → Array Value) (Ok : α → World → World → Prop) (S Sp : List α → Prop) (Fp : Nat → Prop) (w0 : World) : Prop :=
  ∀ (l : Nat) (J Jx : List α → World → Prop) (W : World), Chg (fun b => ¬ Fp b) w0 W →
    (∀ pre x V0 V, J pre V0 → Below V0.heap.size V0 V → Ok x V0 V → YieldAt Fence.wide 0 P l (encs x) V fun e V' =>
      (e = .returned (.bool true) ∧ J (pre ++ [x]) V' ∧ Chg (fun b => ¬ Fp b) V V') ∨ (e = .returned (.bool false) ∧ Jx (pre ++ [x]) V')) →
    J [] W → CallsIn Fence.wide 0 P gf (#[.func (.yield l) #[] #[]] ++ lb) W fun e W' => (∃ v, e = .returned v) ∧ ((∃ xs, S xs ∧ J xs W') ∨ (∃ pre, Sp pre ∧ Jx pre W'))
/-- how a round may be left -/
def roundX {α : Type} (Bd : Nat → Prop) (I : List α → World → Prop) (Ix : Code → List α → World → Prop) (xs : List α) (W : World) : Exit → Act → World → Prop
  | .normal, _, W' => Chg Bd W W' ∧ I xs W'
  | .ret, _, W' => Chg Bd W W' ∧ Ix .ret xs W'
  | .exit id, _, W' => Chg Bd W W' ∧ Ix (.exit id) xs W'
  | .goto t, _, W' => Chg Bd W W' ∧ Ix (.goto t) xs W'
  | .panic _, _, _ => False
  | .outgrown, _, _ => False
theorem Chg.widen {D D' : Nat → Prop} {w w' : World} (h : Chg D w w') (hd : ∀ b, D b → D' b) : Chg D' w w' := ⟨h.os, h.tape, h.output, h.size, fun b hb hn => h.block b hb (fun hD => hn (hd b hD))⟩
theorem Chg.setC {D : Nat → Prop} (w : World) {p : Addr} (hp : D p.block) (v : Value) : Chg D w (w.setCell p v) := ⟨rfl, rfl, rfl, by simp [World.setCell], fun b _ hd => Below.heap_setCell w p v b (fun e => hd (e ▸ hp))⟩
theorem Chg.mixd {D D' : Nat → Prop} {w w1 w2 : World} (h : Chg D w w1) (h' : Chg D' w1 w2) (hd : ∀ b, D' b → D b ∨ w.heap.size ≤ b) : Chg D w w2 :=
  ⟨h'.os.trans h.os, h'.tape.trans h.tape, h'.output.trans h.output, Nat.le_trans h.size h'.size, fun b hb hn => (h'.block b (Nat.lt_of_lt_of_le hb h.size) (fun hD => (hd b hD).elim hn (by omega))).trans (h.block b hb hn)⟩
theorem chg_put (W : World) (l : Nat) (o : Obj) : Chg (fun b => b = l) W (W.putObj l o) := ⟨rfl, rfl, rfl, by simp, fun b _ hd => World.putObj_heap_other hd⟩
theorem wp_rangeF {α : Type} {P : Program} {g : Operand} {ps : Array Tmp} {assign body : Code} {Q : Exit → Act → World → Prop} {a : Act} {w : World} (gf : Nat) (lb : Array Value)
    (hg : a.eval g = .func (.func gf) #[] lb) (eg : ∀ args w, (callFunc gf args).run P w = .ok (.enter gf args) w)
    {encs : α → Array Value} {Ok : α → World → World → Prop} {S Sp : List α → Prop} {Fp : Nat → Prop} (hiter : IterS P gf lb encs Ok S Sp Fp w) (hps : ∀ x, (encs x).size = ps.size)
    (own : Nat → Prop) (hFp : ∀ b, Fp b → b < w.heap.size) (hown : ∀ b, own b → b < w.heap.size ∧ ¬ Fp b)
    (I : List α → World → Prop) (Ix : Code → List α → World → Prop)
    (hI : ∀ pre V V', I pre V → Chg (fun b => b = w.heap.size ∨ b = w.heap.size + 1) V V' → I pre V')
    (hIx : ∀ c pre V V', Ix c pre V → Chg (fun b => b = w.heap.size ∨ b = w.heap.size + 1) V V' → Ix c pre V') (h0 : I [] w)
    (hround : ∀ pre x V0 V, I pre V0 → Below V0.heap.size V0 V → Ok x V0 V → w.heap.size + 2 ≤ V0.heap.size →
      assign.wpIn (Fence.wide.inRound (w.heap.size + 1)) 0 P (Exit.then (fun a₁ V1 => Chg (fun b => own b ∨ w.heap.size + 2 ≤ b) V V1 ∧ ∀ V2, Chg (fun b => b = w.heap.size + 1) V1 V2 →
        body.wpIn (Fence.wide.inRound (w.heap.size + 1)) 0 P (roundX (fun b => own b ∨ w.heap.size + 2 ≤ b) I Ix (pre ++ [x]) V2) a₁ V2) (fun _ _ _ => False))
        { tmps := (ps.zip (encs x)).foldl (fun t (p, v) => t.setIfInBounds p v) a.tmps, defers := [] } V)
    (hdone : ∀ xs V, S xs → I xs V → V.heap[w.heap.size]? = some (.deferred (some [])) → Q .normal { a with defers := { target := .collected w.heap.size, args := #[] } :: a.defers } V)
    (hstop : ∀ c pre V, Sp pre → Ix c pre V → V.heap[w.heap.size]? = some (.deferred (some [])) → c.wpIn Fence.wide 0 P Q { a with defers := { target := .collected w.heap.size, args := #[] } :: a.defers } V) :
    (Code.rangeFunc g ps assign body).wpIn Fence.wide 0 P Q a w := by
  refine wpIn_rangeFunc ?_
  intro fn hfn
  obtain ⟨rec, hrec⟩ : ∃ rec : LoopState → Option Code → Loop, rec = fun st pe => { state := st, pending := pe, fn, tmps := a.tmps, params := ps, assign, body, defers := w.heap.size } := ⟨_, rfl⟩
  obtain ⟨W1, hW1⟩ : ∃ W1, (w.alloc (.deferred (some []))).alloc (.loop (rec .ready none)) = W1 := ⟨_, rfl⟩
  have hL1 : W1.heap[w.heap.size + 1]? = some (.loop (rec .ready none)) := by
    rw [← hW1]; have := World.alloc_heap_new (w.alloc (.deferred (some []))) (.loop (rec .ready none)); rwa [World.size_alloc] at this
  have hK1 : W1.heap[w.heap.size]? = some (.deferred (some [])) := by
    rw [← hW1]; exact (Below.heap_alloc _ _ _ (by simp)).trans (World.alloc_heap_new w _)
  have hb1 : Below w.heap.size w W1 := by rw [← hW1]; exact Below.allocS (Below.allocS (Below.refl _ _) _) _
  have hI1 : I [] W1 := hI _ _ _ h0 (Chg.of_below hb1)
  refine ⟨w.heap.size + 1, [{ target := .collected w.heap.size, args := #[] }], W1, { target := .fn (.func gf) lb, args := #[.func (.yield (w.heap.size + 1)) #[] #[]] }, W1, gf,
    #[.func (.yield (w.heap.size + 1)) #[] #[]] ++ lb, W1, ?_, ?_, ?_, ?_, fun h => absurd h (by decide), ?_⟩
  · rw [← hW1, hrec]; exact run_enterLoop_outer _ _ _ _ _
  · simp only [resolve, hg]
    simp [go_sem]
  · intro f' hf'; trivial
  · simp [invoke, go_sem, eg]
  · refine (hiter (w.heap.size + 1)
      (fun pre V => I pre V ∧ V.heap[w.heap.size + 1]? = some (.loop (rec .ready none)) ∧ V.heap[w.heap.size]? = some (.deferred (some [])))
      (fun pre V => ∃ c, Ix c pre V ∧ V.heap[w.heap.size + 1]? = some (.loop (rec .done (some c))) ∧ V.heap[w.heap.size]? = some (.deferred (some [])))
      W1 (Chg.of_below hb1) ?_ ⟨hI1, hL1, hK1⟩).mono ?_
    · rintro pre x V0 V ⟨hi, hl, hk⟩ hb hok
      have hlt : w.heap.size + 1 < V0.heap.size := (Array.getElem?_eq_some_iff.1 hl).1
      have hl' := (hb.block _ hlt).trans hl
      have hk' := (hb.block _ (by omega)).trans hk
      have hy := run_yield (P := P) (args := encs x) hl' (by rw [hrec]; exact hps x)
      rw [hrec] at hy
      have nF : ∀ b, (own b ∨ w.heap.size + 2 ≤ b) → ¬ Fp b := fun b h hf => by
        have := hFp b hf
        rcases h with h | h
        · exact (hown b h).2 hf
        · omega
      have nL : ∀ b, b = w.heap.size + 1 → ¬ Fp b := fun b h hf => by have := hFp b hf; omega
      have kL : ∀ {A B : World}, w.heap.size + 1 < A.heap.size → Chg (fun b => own b ∨ w.heap.size + 2 ≤ b) A B → B.heap[w.heap.size + 1]? = A.heap[w.heap.size + 1]? := fun hs hc => hc.block _ hs (fun h => by
        rcases h with h | h
        · have := (hown _ h).1; omega
        · omega)
      have kD : ∀ {A B : World}, w.heap.size < A.heap.size → Chg (fun b => own b ∨ w.heap.size + 2 ≤ b) A B → B.heap[w.heap.size]? = A.heap[w.heap.size]? := fun hs hc => hc.block _ hs (fun h => by
        rcases h with h | h
        · have := (hown _ h).1; omega
        · omega)
      have hsV := hb.size
      refine ⟨fn, _, assign, body, hy, roundIn_of_wpIn trivial (wpIn_mono (hround pre x V0 V hi hb hok (by omega)) ?_)⟩
      rintro e a1 V1 he
      cases e with
      | normal =>
        obtain ⟨hc1, hbody⟩ := he
        have hs1 := hc1.size
        have hl1 := (kL (by omega) hc1).trans hl'
        have hk1 := (kD (by omega) hc1).trans hk'
        refine ⟨_, run_beginRound hl1 (by rw [hrec]), ?_⟩
        have c2 := chg_put V1 (w.heap.size + 1) (.loop { rec .ready none with state := .busy })
        have hs2 := c2.size
        have hl2 : (V1.putObj (w.heap.size + 1) (.loop { rec .ready none with state := .busy })).heap[w.heap.size + 1]? = some (.loop { rec .ready none with state := .busy }) := World.putObj_heap_same (by omega)
        have hk2 : (V1.putObj (w.heap.size + 1) (.loop { rec .ready none with state := .busy })).heap[w.heap.size]? = some (.deferred (some [])) := (World.putObj_heap_other (by omega)).trans hk1
        refine wpIn_mono (hbody _ c2) ?_
        generalize V1.putObj (w.heap.size + 1) (.loop { rec .ready none with state := .busy }) = V2 at *
        have fin : ∀ (jump : Option Code) (V3 : World), Chg (fun b => own b ∨ w.heap.size + 2 ≤ b) V2 V3 →
            (Instr.endRound (w.heap.size + 1) jump).run P V3 = .ok (.bool jump.isNone) (V3.putObj (w.heap.size + 1) (.loop (rec (if jump.isNone then .ready else .done) jump))) ∧
            (V3.putObj (w.heap.size + 1) (.loop (rec (if jump.isNone then .ready else .done) jump))).heap[w.heap.size + 1]? = some (.loop (rec (if jump.isNone then .ready else .done) jump)) ∧
            (V3.putObj (w.heap.size + 1) (.loop (rec (if jump.isNone then .ready else .done) jump))).heap[w.heap.size]? = some (.deferred (some [])) := fun jump V3 hc3 => by
          have hs3 := hc3.size
          have hl3 := (kL (by omega) hc3).trans hl2
          have := run_endRound (P := P) jump hl3
          rw [hrec] at this ⊢
          exact ⟨this, World.putObj_heap_same (by omega), (World.putObj_heap_other (by omega)).trans ((kD (by omega) hc3).trans hk2)⟩
        have wl : ∀ (V3 : World) (o : Obj), Chg (fun b => b = w.heap.size ∨ b = w.heap.size + 1) V3 (V3.putObj (w.heap.size + 1) o) := fun V3 o => (chg_put V3 _ o).widen fun b h => .inr h
        rintro e a3 V3 hp
        cases e with
        | normal =>
          obtain ⟨hc3, hi3⟩ := hp
          obtain ⟨hr, hl4, hk4⟩ := fin none V3 hc3
          exact ⟨_, _, hr, .inl ⟨rfl, ⟨hI _ _ _ hi3 (wl _ _), hl4, hk4⟩, (((hc1.widen nF).trans (c2.widen nL)).trans (hc3.widen nF)).trans ((chg_put _ _ _).widen nL)⟩⟩
        | ret =>
          obtain ⟨hc3, hi3⟩ := hp
          obtain ⟨hr, hl4, hk4⟩ := fin (some .ret) V3 hc3
          exact ⟨_, _, hr, .inr ⟨rfl, .ret, hIx _ _ _ _ hi3 (wl _ _), hl4, hk4⟩⟩
        | exit id =>
          obtain ⟨hc3, hi3⟩ := hp
          obtain ⟨hr, hl4, hk4⟩ := fin (some (.exit id)) V3 hc3
          exact ⟨_, _, hr, .inr ⟨rfl, .exit id, hIx _ _ _ _ hi3 (wl _ _), hl4, hk4⟩⟩
        | goto t =>
          obtain ⟨hc3, hi3⟩ := hp
          obtain ⟨hr, hl4, hk4⟩ := fin (some (.goto t)) V3 hc3
          exact ⟨_, _, hr, .inr ⟨rfl, .goto t, hIx _ _ _ _ hi3 (wl _ _), hl4, hk4⟩⟩
        | panic ch => exact hp.elim
        | outgrown => exact hp.elim
      | ret => exact he.elim
      | exit id => exact he.elim
      | goto t => exact he.elim
      | panic ch => exact he.elim
      | outgrown => exact he.elim
    · have wl : ∀ (V3 : World) (o : Obj), Chg (fun b => b = w.heap.size ∨ b = w.heap.size + 1) V3 (V3.putObj (w.heap.size + 1) o) := fun V3 o => (chg_put V3 _ o).widen fun b h => .inr h
      rintro e W2 ⟨⟨v, rfl⟩, (⟨xs, hS, hi, hl, hk⟩ | ⟨pre, hSp, c, hi, hl, hk⟩)⟩
      · exact ⟨none, _, by have := run_endLoop (P := P) hl (by rw [hrec]; simp); rw [hrec] at this; exact this, hdone xs _ hS (hI _ _ _ hi (wl _ _)) ((World.putObj_heap_other (by omega)).trans hk)⟩
      · exact ⟨some c, _, by have := run_endLoop (P := P) hl (by rw [hrec]; simp); rw [hrec] at this; exact this, hstop c pre _ hSp (hIx _ _ _ _ hi (wl _ _)) ((World.putObj_heap_other (by omega)).trans hk)⟩
end Go.Proofs.Ytknoenceccpkhaa

/- Contracts of bytes.Clone, slices.Clone and of the package octet. -/
namespace Go.Proofs.Ytknoenceccpkhaa
open Go.RowKit
set_option linter.unusedVariables false
attribute [local go_sem ↓] sliced_cut

attribute [local go_sem] cutA_zero

theorem bt : BT Try.prog 24 5 := ⟨Try.underlying24, Try.underlying5, by kernel_rfl⟩

theorem clone_any (A : Option Addr) (n c : Nat) (l : List UInt8) (w : World) (h : Rb w A n c l) (hm : n ≤ 549755813888) : Calls Try.prog 99 #[.slice A n c] w (RetB w l) := by
  have hnil := fun w => Lib.run_eql_slice_nil (P := Try.prog) w 24 5 A n c 0 0 Try.underlying24
  cases A with
  | none =>
    go_enter Try.func99, Try.ntmps99
    go_wp2
    go_ret
    have : l = [] := by
      rcases h.2.2 with h | ⟨b, off, h, _⟩
      · exact bcs_nil h
      · cases h
    subst this
    exact RetB.mk Ob.nil_ (Below.refl _ _)
  | some ad =>
    go_enter Try.func99, Try.ntmps99
    go_wp2_with (at_builtin; refine wpList_app0 bt rfl (.tmp 5) (.tmp 6) rfl rfl rfl rfl h (by omega) ?_; intro A1 n1 c1 bs1 d1 ho1)
    go_ret
    exact ⟨A1, n1, c1, bs1, d1, rfl, rfl, ho1⟩

set_option maxHeartbeats 400000 in
/-- octet.digits: n written over the m bytes from off on. -/
theorem digits_any (A : Option Addr) (g off m c : Nat) (cs : List Value) (n : Nat) (w : World) (hA : m = 0 ∨ A = some ⟨g, off, none⟩) (hg : Bk w g 5 cs) (hm : off + m ≤ cs.length) (hc : m ≤ 1099511627776) (hn : n < 18446744073709551616) :
    Calls Try.prog 105 #[.slice A m c, .int .u64 n] w fun e w' => e = .returned (.tuple #[]) ∧ Bk w' g 5 (splice cs off (bcs (dig n m))) ∧ w.grownBy w' (some g) := by
  go_enter Try.func105, Try.ntmps105
  go_wp2
  go_loopw [1, 4] (fun x i wr => ∃ j N : Nat, ∃ ks : List Value, j ≤ m ∧ N < 18446744073709551616 ∧ x = .int .u64 N ∧ i = .int .i64 ((j : Int) - 1) ∧ ks.length = cs.length ∧ Bk wr g 5 ks ∧ splice ks off (bcs (dig N j)) = splice cs off (bcs (dig n m)) ∧ w.grownBy wr (some g)) (fun _ i _ => (intOf i + 1).toNat)
  case atStart => exact ⟨m, n, cs, Nat.le_refl _, hn, rfl, rfl, rfl, hg, rfl, World.grownBy.refl _ _⟩
  case round =>
    obtain ⟨j, N, ks, hj, hN, rfl, rfl, hk, hb, ho, hgr⟩ := hrel
    have HO := Lib.hid ho
    have HK := Lib.hid hk
    have hk1 : off + m ≤ ks.length := by omega
    clear ho hk
    by_cases h0 : j = 0
    · subst h0
      go_wp2
      go_end0
      refine ⟨rfl, ?_, hgr⟩
      rw [← HO.out]
      simpa [dig, bcs, over_nil] using hb
    · rcases hA with h | rfl
      · omega
      obtain ⟨k, rfl⟩ : ∃ k, j = k + 1 := ⟨j - 1, by omega⟩
      have hlt : off + k < ks.length := by omega
      have hcell : wr.cell? ⟨g, off + k, none⟩ = some ks[off + k] := by rw [hb.cell, List.getElem?_eq_getElem hlt]
      have hfr := hb.frozen (off + k)
      go_wp2
      refine ⟨⟨k, N / 256, ks.set (off + k) (.int .u8 ((N % 256 : Nat) : Int)), by omega, by omega, by simp, rfl, by rw [List.length_set]; exact HK.out, by simpa using hb.set_ (off + k) _, ?_, hgr.trans (grownBy_setCell _ _ _ _)⟩, by simp [intOf]⟩
      rw [over_dig ks off N k (by omega)]
      exact HO.out

theorem put_cells (l : List UInt8) (n size k : Nat) (h : l.length = k) : splice (splice (List.replicate (k + size) (.int .u8 0)) 0 (bcs l)) k (bcs (dig n size)) = bcs (l ++ dig n size) := by
  subst h
  simp only [splice, bcs_append, bcs_length, dig_length, List.take_zero, List.nil_append, Nat.zero_add]
  rw [List.take_left' (bcs_length l)]
  simp [List.drop_append, bcs_length]

set_option maxHeartbeats 800000 in
set_option maxRecDepth 100000 in
/-- octet.Put: b, followed by the low bytes of n, in new memory. -/
theorem put_any (A : Option Addr) (k c : Nat) (l : List UInt8) (n : Nat) (size : Nat) (w : World) (hr : Rb w A k c l) (hk : k ≤ 549755813888) (hn : n < 18446744073709551616) (hs0 : 1 ≤ size) (hs : size ≤ 8) :
    Calls Try.prog 57 #[.slice A k c, .int .u64 n, .int .i64 size] w (RetB w (l ++ dig n size)) := by
  go_enter Try.func57, Try.ntmps57
  go_wp2_with (first
    | (at_make; refine wpList_mk bt rfl (.tmp 14) rfl _ (k + size) rfl (by omega) (by omega) ?_; intro w1 hb1 hbe1 hs1)
    | (refine wpList_cpy 18 rfl bt rfl (.tmp 16) (.tmp 17) rfl rfl rfl w.heap.size 0 _ hb1 (.inr rfl) l (hr.later hbe1) (by omega) (by simp) w.heap.size w hbe1 (Nat.le_refl _) ?_; intro w2 hb2 hbe2)
    | (go_at_call 105; refine (digits_any _ w.heap.size k size _ (splice (List.replicate (k + size) (.int .u8 0)) 0 (bcs l)) n _ (.inr (by rw [cutA_some _ _ _ _ (by omega)]; simp)) hb2 (by rw [length_splice _ _ _ (by simp [bcs_length, hr.1])]; simp) (by omega) hn).mono ?_; rintro e w3 ⟨rfl, hb3, hg3⟩))
  go_ret
  rw [put_cells l n size k hr.1] at hb3
  exact RetB.mk (Ob.of_bk hb3 (Nat.le_refl _) (by simp [dig_length, hr.1]) (by simp [maxLen]; omega)) (hbe2.trans (below_of_grown hg3 hbe2.size (fun k hk => by injection hk with hk; omega)))

/-- The block r is a Reader of the bytes l. -/
def Rdr (w : World) (r : Nat) (l : List UInt8) (bad : Bool) : Prop := ∃ A n c, Bk w r 181 [.slice A n c, .bool bad] ∧ l.length = n ∧ n ≤ c ∧ Rd w r A (bcs l)
def RetR (w : World) (l : List UInt8) (e : Ending) (w' : World) : Prop := ∃ r bs d, e = .returned (.pointer (some ⟨r, 0, none⟩)) ∧ w' = plus w bs d ∧ w.heap.size ≤ r ∧ Rdr (plus w bs d) r l false
theorem Rdr.lt {w : World} {r : Nat} {l : List UInt8} {bad : Bool} (h : Rdr w r l bad) : r < w.heap.size := by
  obtain ⟨A, n, c, h, _⟩ := h
  exact h.lt
theorem Rdr.later {w w' : World} {r : Nat} {l : List UInt8} {bad : Bool} (h : Rdr w r l bad) (hb : Below w.heap.size w w') : Rdr w' r l bad := by
  have hlt := h.lt
  obtain ⟨A, n, c, h1, h2, h3, h4⟩ := h
  exact ⟨A, n, c, h1.later hb, h2, h3, h4.below ⟨hb.os, hb.tape, hb.output, hb.size, fun k hk => hb.block k (by omega)⟩⟩

theorem read_any (A : Option Addr) (n c : Nat) (l : List UInt8) (w : World) (h : Rb w A n c l) (hm : n ≤ 549755813888) : Calls Try.prog 40 #[.slice A n c] w (RetR w l) := by
  go_enter Try.func40, Try.ntmps40
  go_wp2_with (go_at_call 99; refine (clone_any _ _ _ l _ (by exact h) hm).mono ?_; rintro e w1 ⟨A1, n1, c1, bs1, d1, rfl, rfl, ho1⟩)
  go_ret
  have hrb := ho1.rb
  obtain ⟨bs, d, e⟩ := plus_of (((below_plus w bs1 d1)).alloc (by simp [size_plus]) (.cells #[.slice A1 n1 c1, .bool false] 181))
  refine ⟨(plus w bs1 d1).heap.size, bs, d, by simp [size_plus], e, by simp [size_plus], ?_⟩
  rw [← e]
  exact ⟨A1, n1, c1, Bk.new _ _ _, hrb.1, hrb.2.1, hrb.2.2.alloc (Nat.le_refl _) _⟩

/-- what next gives -/
def RetN (w : World) (r : Nat) (l : List UInt8) (n : Nat) (bad : Bool) (e : Ending) (w' : World) : Prop := ∃ A c, e = .returned (.slice A n c) ∧ n ≤ c ∧ Rd w' r A (bcs (l.take n)) ∧ Rdr w' r (l.drop n) bad ∧ w.grownBy w' (some r)
theorem next_any (r : Nat) (l : List UInt8) (bad : Bool) (n : Nat) (w : World) (h : Rdr w r l bad) (hn : n ≤ l.length) (hm : l.length ≤ 1099511627776) :
    Calls Try.prog 137 #[.pointer (some ⟨r, 0, none⟩), .int .i64 n] w (RetN w r l n bad) := by
  obtain ⟨A, k, c, hb, hk, hkc, hrd⟩ := h
  have hc0 : w.cell? ⟨r, 0, none⟩ = some (.slice A k c) := hb.cell 0
  have hf0 := hb.frozen 0
  have hn' : n ≤ k := by omega
  have hk1 : k ≤ 1099511627776 := by omega
  have HK := Lib.hid hk
  clear hk
  go_enter Try.func137, Try.ntmps137
  go_wp2
  go_ret
  have h1 := hrd.setCell (p := ⟨r, 0, none⟩) (Nat.le_refl _) (Value.slice (cutA A c n 1) (k - n) (c - n))
  refine ⟨A, c, rfl, by omega, by rw [← bcs_take]; exact h1.take n, ⟨_, _, _, hb.set_ 0 _, by rw [List.length_drop, HK.out], by omega, ?_⟩, grownBy_setCell _ _ _ _⟩
  rw [← bcs_drop]
  exact h1.cut (by rw [bcs_length, HK.out]; exact hkc)

/-- (*octet.Reader).Num: the number of the next bytes. -/
theorem num_any (r : Nat) (l : List UInt8) (bad : Bool) (n : Nat) (w : World) (h : Rdr w r l bad) (hn : n ≤ l.length) (hm : l.length ≤ 1099511627776) (h8 : n ≤ 8) :
    Calls Try.prog 100 #[.pointer (some ⟨r, 0, none⟩), .int .i64 n] w fun e w' => e = .returned (.int .u64 (num (l.take n) : Nat)) ∧ Rdr w' r (l.drop n) bad ∧ w.grownBy w' (some r) := by
  go_enter Try.func100, Try.ntmps100
  go_wp2_with (go_at_call 137; refine (next_any r l bad n _ h hn hm).mono ?_; rintro e w1 ⟨A, c, rfl, hc, hrd, hrr, hg⟩)
  have hl : (bcs (l.take n)).length = n := by rw [bcs_length, List.length_take]; omega
  have HL := Lib.hid hl
  clear hl
  go_loop [5, 7, 14] (fun x y i => ∃ j : Nat, j ≤ n ∧ i = .int .i64 j ∧ x = .int .u64 (num (l.take j) : Nat)) (fun _ _ i => n - (intOf i).toNat)
  case atStart => exact ⟨0, Nat.zero_le _, rfl, rfl⟩
  case round =>
    obtain ⟨j, hj, rfl, rfl⟩ := hrel
    by_cases hlt : j < n
    · obtain ⟨b, off, rfl, hb, hcell⟩ := hrd.at_ (by rw [HL.out]; omega)
      have hjl : j < l.length := by omega
      have hcj : w1.cell? ⟨b, off + j, none⟩ = some (.int .u8 (l[j].toNat : Int)) := hcell j _ (by rw [bcs_get _ _ (by rw [List.length_take]; omega)]; simp)
      have HS := Lib.hid (num_take_succ l j hjl)
      have hN : num (l.take j) < 72057594037927936 := Nat.lt_of_lt_of_le (num_lt j _ (List.length_take_le _ _)) (pow_le_seven j (by omega))
      have hx : l[j].toNat < 256 := l[j].toNat_lt
      have hor := u64_shl_or (num (l.take j)) (l[j].toNat) hN hx
      clear hcell
      go_wp2
      go_round
      case rel => exact ⟨j + 1, by omega, by go_num, by rw [HS.out]; simp⟩
      case measure => simp [intOf]; omega
    · obtain rfl : j = n := by omega
      go_wp2
      go_ret
      exact ⟨rfl, hrr, hg⟩

theorem num_small (l : List UInt8) (n k : Nat) (h : 256 ^ n ≤ k) : num (l.take n) < k := Nat.lt_of_lt_of_le (num_lt n _ (List.length_take_le _ _)) h
theorem word_any (r : Nat) (l : List UInt8) (bad : Bool) (w : World) (h : Rdr w r l bad) (hn : 2 ≤ l.length) (hm : l.length ≤ 1099511627776) :
    Calls Try.prog 41 #[.pointer (some ⟨r, 0, none⟩)] w fun e w' => e = .returned (.int .u16 (num (l.take 2) : Nat)) ∧ Rdr w' r (l.drop 2) bad ∧ w.grownBy w' (some r) := by
  have hs := num_small l 2 65536 (by decide)
  go_enter Try.func41, Try.ntmps41
  go_wp2_with (go_at_call 100; refine (num_any r l bad 2 _ h hn hm (by omega)).mono ?_; rintro e w1 ⟨rfl, hrr, hg⟩)
  go_ret
  exact ⟨rfl, hrr, hg⟩
/-- what a reader's call leaves: the reader moved on, nothing else changed -/
def RetP (W : World) (bs : List Obj) (d r : Nat) (l : List UInt8) (bad : Bool) (v : Value) (e : Ending) (w' : World) : Prop :=
  ∃ bs' d', e = .returned v ∧ w' = plus W bs' d' ∧ Rdr (plus W bs' d') r l bad ∧ (plus W bs d).grownBy (plus W bs' d') (some r)
theorem RetP.mk {W : World} {bs : List Obj} {d r : Nat} {l : List UInt8} {bad : Bool} {v : Value} {e : Ending} {w' : World} (hr : W.heap.size ≤ r) (he : e = .returned v) (h1 : Rdr w' r l bad) (h2 : (plus W bs d).grownBy w' (some r)) : RetP W bs d r l bad v e w' := by
  obtain ⟨bs', d', rfl⟩ := grown_plus h2 hr
  exact ⟨bs', d', he, rfl, h1, h2⟩
end Go.Proofs.Ytknoenceccpkhaa

/- Contracts of the reference's numbers and bytes (counterfoilref01). -/
namespace Go.Proofs.Ytknoenceccpkhaa
open Go.RowKit
set_option linter.unusedVariables false
attribute [local go_sem ↓] sliced_cut

attribute [local go_sem] cutA_zero

theorem refNum_any (A : Option Addr) (n c : Nat) (l : List UInt8) (w : World) (h : Rb w A n c l) (h8 : n ≤ 8) :
    Calls Try.prog 47 #[.slice A n c] w fun e w' => e = .returned (.int .u64 (num l : Nat)) ∧ w = w' := by
  have HL := Lib.hid h.1
  have hrd := h.2.2
  go_enter Try.func47, Try.ntmps47
  go_wp2
  go_loop [3, 4] (fun x i => ∃ j : Nat, j ≤ n ∧ i = .int .i64 j ∧ x = .int .u64 (num (l.take j) : Nat)) (fun _ i => n - (intOf i).toNat)
  case atStart => exact ⟨0, Nat.zero_le _, rfl, rfl⟩
  case round =>
    obtain ⟨j, hj, rfl, rfl⟩ := hrel
    by_cases hlt : j < n
    · obtain ⟨b, off, rfl, hb, hcell⟩ := hrd.at_ (by rw [bcs_length, HL.out]; omega)
      have hjl : j < l.length := by rw [HL.out]; omega
      have hcj : w.cell? ⟨b, off + j, none⟩ = some (.int .u8 (l[j].toNat : Int)) := hcell j _ (bcs_get _ _ hjl)
      have HS := Lib.hid (num_take_succ l j hjl)
      have hN : num (l.take j) < 72057594037927936 := Nat.lt_of_lt_of_le (num_lt j _ (List.length_take_le _ _)) (pow_le_seven j (by omega))
      have hx : l[j].toNat < 256 := l[j].toNat_lt
      clear hcell hrd
      go_wp2
      go_round
      case rel => exact ⟨j + 1, by omega, by go_num, by rw [HS.out]; simp⟩
      case measure => simp [intOf]; omega
    · obtain rfl : j = n := by omega
      go_wp2
      go_ret
      rw [List.take_of_length_le (by rw [HL.out]; omega)]
      exact ⟨rfl, rfl⟩

set_option maxHeartbeats 400000 in
theorem refBytes_any (n size : Nat) (w : World) (hn : n < 18446744073709551616) (hs : size ≤ 8) :
    Calls Try.prog 49 #[.int .u64 n, .int .i64 size] w (RetB w (dig n size)) := by
  have q1 : (size : Int) ≤ 8 := by omega
  go_enter Try.func49, Try.ntmps49
  go_wp2_with (at_make; refine wpList_mk bt rfl (.tmp 11) rfl _ size rfl rfl (by omega) ?_; intro w1 hb1 hbe1 hs1)
  go_loopw [0, 6] (fun x i wr => ∃ j N : Nat, ∃ ks : List Value, j ≤ size ∧ N < 18446744073709551616 ∧ x = .int .u64 N ∧ i = .int .i64 ((j : Int) - 1) ∧ ks.length = size ∧ Bk wr w.heap.size 5 ks ∧ splice ks 0 (bcs (dig N j)) = bcs (dig n size) ∧ Below w.heap.size w wr) (fun _ i _ => (intOf i + 1).toNat)
  case atStart =>
    refine ⟨size, n, _, Nat.le_refl _, hn, rfl, rfl, by simp, hb1, ?_, hbe1⟩
    simp [splice, bcs_length, dig_length]
  case round =>
    obtain ⟨j, N, ks, hj, hN, rfl, rfl, hk, hb, ho, hgr⟩ := hrel
    have HO := Lib.hid ho
    have HK := Lib.hid hk
    have hk1 : size ≤ ks.length := by omega
    clear ho hk
    by_cases h0 : j = 0
    · subst h0
      have hlen : (dig n size).length = size := dig_length _ _
      go_wp2
      go_ret
      have he : ks = bcs (dig n size) := by rw [← HO.out]; simp [dig, bcs, over_nil]
      rw [he] at hb
      exact RetB.mk (Ob.of_bk hb (Nat.le_refl _) (dig_length _ _) (by simp [maxLen]; omega)) hgr
    · obtain ⟨k, rfl⟩ : ∃ k, j = k + 1 := ⟨j - 1, by omega⟩
      have hlt : k < ks.length := by omega
      have hcell : wr.cell? ⟨w.heap.size, k, none⟩ = some ks[k] := by rw [hb.cell, List.getElem?_eq_getElem hlt]
      have hfr := hb.frozen k
      go_wp2
      refine ⟨⟨k, N / 256, ks.set k (.int .u8 ((N % 256 : Nat) : Int)), by omega, by omega, by simp, rfl, by rw [List.length_set]; exact HK.out, by simpa using hb.set_ k _, ?_, hgr.setCell (Nat.le_refl _) _⟩, by simp [intOf]⟩
      have := over_dig ks 0 N k (by omega)
      rw [Nat.zero_add] at this
      rw [this]
      exact HO.out

/-- A slice of slices of bytes. -/
def RdL (w : World) (A : Option Addr) (m : Nat) (L : List (List UInt8)) : Prop :=
  ∃ cs : List Value, cs.length = m ∧ L.length = m ∧ Rd w w.heap.size A cs ∧ ∀ (i : Nat) (u : Value), cs[i]? = some u → ∃ (A' : Option Addr) (n c : Nat), u = Value.slice A' n c ∧ ∃ l, L[i]? = some l ∧ Rb w A' n c l
theorem take_flatten_succ (L : List (List UInt8)) (i : Nat) (l : List UInt8) (h : L[i]? = some l) : (L.take (i + 1)).flatten = (L.take i).flatten ++ l := by
  rw [List.take_add_one, h]
  simp
theorem total_take (L : List (List UInt8)) : ∀ i, (L.take i).flatten.length ≤ L.flatten.length := by
  intro i
  have : L.flatten = (L.take i).flatten ++ (L.drop i).flatten := by rw [← List.flatten_append, List.take_append_drop]
  rw [this, List.length_append]
  omega

end Go.Proofs.Ytknoenceccpkhaa

/- tcp.Stamps and its reference: where the time stamps stand. -/
namespace Go.Proofs.Ytknoenceccpkhaa
open Go.RowKit
set_option linter.unusedVariables false
attribute [local go_sem ↓] sliced_cut

attribute [local go_sem] cutA_zero

def bat (l : List UInt8) (i : Nat) : Nat := (l.getD i 0).toNat
theorem bat_lt (l : List UInt8) (i : Nat) : bat l i < 256 := (l.getD i 0).toNat_lt
theorem bat_cell {w : World} {B b off : Nat} {l : List UInt8} (hc : ∀ i u, (bcs l)[i]? = some u → w.cell? ⟨b, off + i, none⟩ = some u) (i : Nat) (hi : i < l.length) : w.cell? ⟨b, off + i, none⟩ = some (.int .u8 (bat l i : Nat)) := by
  rw [hc i _ (bcs_get l i hi)]
  simp [bat, hi]
end Go.Proofs.Ytknoenceccpkhaa

/- A reader's calls, by the place k in the bytes L; the values are letters. -/
namespace Go.Proofs.Ytknoenceccpkhaa
open Go.RowKit
set_option linter.unusedVariables false

theorem readK (A : Option Addr) (n c : Nat) (L : List UInt8) (w : World) (h : Rb w A n c L) (hm : n ≤ 549755813888) : Calls Try.prog 40 #[.slice A n c] w fun e w' => ∃ r bs d, e = .returned (.pointer (some ⟨r, 0, none⟩)) ∧ w' = plus w bs d ∧ w.heap.size ≤ r ∧ Rdr (plus w bs d) r (L.drop 0) false :=
  (read_any A n c L w h hm).mono fun _ _ ⟨r, bs, d, h1, h2, h3, h4⟩ => ⟨r, bs, d, h1, h2, h3, by rw [List.drop_zero]; exact h4⟩
/-- a reader in any world: what it leaves -/
def RetG (w : World) (r : Nat) (l : List UInt8) (v : Value) (e : Ending) (w' : World) : Prop := e = .returned v ∧ Rdr w' r l false ∧ w.grownBy w' (some r)
theorem Rdr.far {w : World} {r : Nat} {l : List UInt8} {bad : Bool} (h : Rdr w r l bad) {p : Addr} (hp : r < p.block) (u : Value) : Rdr (w.setCell p u) r l bad := by
  obtain ⟨A, n, c, h1, h2, h3, h4⟩ := h
  exact ⟨A, n, c, h1.far (by omega) u, h2, h3, h4.setCell (by omega) u⟩
theorem wordG (w : World) (r : Nat) (L : List UInt8) (k x : Nat) (h : Rdr w r (L.drop k) false) (hm : L.length ≤ 1099511627776) (hn : k + 2 ≤ L.length) (hx : num ((L.drop k).take 2) = x) : Calls Try.prog 41 #[.pointer (some ⟨r, 0, none⟩)] w (RetG w r (L.drop (k + 2)) (.int .u16 (x : Nat))) := by
  subst hx
  have := word_any r (L.drop k) false w h (by rw [List.length_drop]; omega) (by rw [List.length_drop]; omega)
  rwa [List.drop_drop] at this
end Go.Proofs.Ytknoenceccpkhaa

/- More of the readers: Bytes, Bad, Left, Rest, in any world. -/
namespace Go.Proofs.Ytknoenceccpkhaa
open Go.RowKit
set_option linter.unusedVariables false
attribute [local go_sem ↓] sliced_cut

attribute [local go_sem] cutA_zero

theorem Rd.rb {w : World} {B n c : Nat} {A : Option Addr} {l : List UInt8} (h : Rd w B A (bcs l)) (hB : B ≤ w.heap.size) (hl : l.length = n) (hc : n ≤ c) : Rb w A n c l := ⟨hl, hc, h.more hB⟩
end Go.Proofs.Ytknoenceccpkhaa

/- slices.Clone of bytes; option.All and its iterator (chapter 44). -/
namespace Go.Proofs.Ytknoenceccpkhaa
open Go.RowKit
set_option linter.unusedVariables false
set_option linter.unusedSimpArgs false
attribute [local go_sem ↓] sliced_cut

attribute [local go_sem] cutA_zero

theorem sclone_any (A : Option Addr) (n c : Nat) (l : List UInt8) (w : World) (h : Rb w A n c l) (hm : n ≤ 549755813888) : Calls Try.prog 38 #[.slice A n c] w (RetB w l) := by
  have hnil := fun w => Lib.run_eql_slice_nil (P := Try.prog) w 24 5 A n c 0 0 Try.underlying24
  cases A with
  | none =>
    go_enter Try.func38, Try.ntmps38
    go_wp2
    go_ret
    have : l = [] := by
      rcases h.2.2 with h | ⟨b, off, h, _⟩
      · exact bcs_nil h
      · cases h
    subst this
    exact RetB.mk Ob.nil_ (Below.refl _ _)
  | some ad =>
    go_enter Try.func38, Try.ntmps38
    go_wp2_with (at_builtin; refine wpList_app0 bt rfl (.tmp 5) (.tmp 6) rfl rfl rfl rfl h (by omega) ?_; intro A1 n1 c1 bs1 d1 ho1)
    go_ret
    exact ⟨A1, n1, c1, bs1, d1, rfl, rfl, ho1⟩
/-- an option: where it begins, its kind, where its bytes lie, its bytes -/
structure Ox where
  i : Int
  k : Nat
  A : Option Addr
  n : Nat
  c : Nat
  d : List UInt8
abbrev Op3 := Int × Nat × List UInt8
def Ox.p (x : Ox) : Op3 := (x.i, x.k, x.d)
/-- the options of bytes, from index i on -/
def optF : Nat → List UInt8 → Nat → List Op3
  | 0, _, _ => []
  | f + 1, l, i =>
    if l.length ≤ i then [] else if bat l i = 0 then [] else if bat l i = 1 then optF f l (i + 1) else if l.length - i < 2 then []
    else if bat l (i + 1) < 2 then [] else if l.length - i < bat l (i + 1) then []
    else ((i : Int), bat l i, (l.drop (i + 2)).take (bat l (i + 1) - 2)) :: optF f l (i + bat l (i + 1))
def opts (l : List UInt8) : List Op3 := optF (l.length + 1) l 0
def opC (k : Nat) (A : Option Addr) (n c : Nat) : List Value := [.int .u8 (k : Int), .slice A n c]
set_option maxHeartbeats 4000000 in
set_option maxRecDepth 100000 in
theorem all_mk (A : Option Addr) (n c : Nat) (l : List UInt8) (w : World) (h : Rb w A n c l) (hm : n ≤ 549755813888) : Calls Try.prog 98 #[.slice A n c] w fun e w' => ∃ g A' n' c', e = .returned (.func (.func 136) #[] #[.pointer (some ⟨g, 0, none⟩)]) ∧ Below w.heap.size w w' ∧ w.heap.size ≤ g ∧ Bk w' g 24 [.slice A' n' c'] ∧ Rb w' A' n' c' l ∧
    (∀ a, A' = some a → w.heap.size ≤ a.block ∧ a.block ≠ g ∧ a.block < w'.heap.size) := by
  go_enter Try.func98, Try.ntmps98
  go_upto_region 2 with (go_at_call 38; refine (sclone_any A n c l _ h hm).mono ?_; rintro e w1 ⟨A1, n1, c1, bs1, d1, rfl, rfl, ho1⟩)
  go_wp2
  go_ret
  have he : ∀ a, A1 = some a → w.heap.size ≤ a.block ∧ a.block < (plus w bs1 d1).heap.size := fun a e => ho1.blk a.block (by rw [e]; rfl)
  simp only [size_plus] at he
  exact ⟨_, A1, n1, c1, rfl, Below.allocS (below_plus w bs1 d1) _, by omega, Bk.newK _ _ _ (by simp [size_plus]) rfl, ho1.rb.alloc _, fun a e => ⟨(he a e).1, by have := he a e; omega, by have := he a e; simp [size_plus]; omega⟩⟩

set_option maxHeartbeats 4000000 in
set_option maxRecDepth 100000 in
theorem all_iter (w0 : World) (g : Nat) (A : Option Addr) (n c : Nat) (l : List UInt8) (hg0 : Bk w0 g 24 [.slice A n c]) (hr0 : Rb w0 A n c l) (hn : n ≤ 1000000) (Fp : Nat → Prop) (hF1 : Fp g) (hF2 : ∀ a, A = some a → Fp a.block) :
    IterS Try.prog 136 #[.pointer (some ⟨g, 0, none⟩)] (fun x : Ox => #[.int .i64 x.i, .agg (opC x.k x.A x.n x.c).toArray]) (fun x V0 V => Rb V x.A x.n x.c x.d ∧ ∀ a, x.A = some a → V0.heap.size ≤ a.block ∧ a.block < V.heap.size) (fun xs => xs.map Ox.p = opts l) (fun pre => ∃ s, pre.map Ox.p ++ s = opts l) Fp w0 := by
  intro l' J Jx W hW hY h0
  have hg := hg0.chg hW (fun h => h hF1)
  have hr := hr0.chg hW (fun a e h => h (hF2 a e))
  obtain ⟨R, eR⟩ : ∃ R, R = opts l := ⟨_, rfl⟩
  rw [← eR]
  have HR := Lib.hid eR
  clear eR hg0 hr0 hW
  have HL := Lib.hid hr.1
  have HY := Lib.hid hY
  have H0 := Lib.hid h0
  have HG := Lib.hid hg
  have HRB := Lib.hid hr
  clear hY h0 hg hr
  refine callsIn_wide.2 ?_
  show Calls Try.prog 136 #[.func (.yield l') #[] #[], .pointer (some ⟨g, 0, none⟩)] W _
  go_enter Try.func136, Try.ntmps136
  go_wp2
  go_loopw [3] (fun ii wr => ∃ (i f : Nat) (pre : List Ox), ii = .int .i64 (i : Int) ∧ i ≤ n ∧ n - i < f ∧ J pre wr ∧ pre.map Ox.p ++ optF f l i = R ∧ Chg (fun b => ¬ Fp b) W wr) (fun ii _ => n - (intOf ii).toNat)
  case atStart => exact ⟨0, l.length + 1, [], rfl, Nat.zero_le _, by rw [HL.out]; omega, H0.out, HR.out.symm, Chg.refl _⟩
  case round =>
    clear H0
    obtain ⟨i, f, pre, rfl, hi, hf, hJ, hst, hC⟩ := hrel
    obtain ⟨f, rfl⟩ : ∃ g, f = g + 1 := ⟨f - 1, by omega⟩
    have hg := HG.out.chg hC (fun h => h hF1)
    have hr := HRB.out.chg hC (fun a e h => h (hF2 a e))
    have hq : wr.cell? ⟨g, 0, none⟩ = some (.slice A n c) := hg.cell 0
    have HC := Lib.hid hC
    have HJ := Lib.hid hJ
    clear hC hJ
    unfold optF at hst
    rw [HL.out] at hst
    by_cases hin : n ≤ i
    · rw [if_pos hin, List.append_nil] at hst
      have HS := Lib.hid hst
      clear hst
      have hin' : ¬ i < n := by omega
      clear hg hr
      go_wp2
      go_end0
      exact ⟨⟨_, rfl⟩, .inl ⟨pre, HS.out, HJ.out⟩⟩
    rw [if_neg hin] at hst
    obtain ⟨b, off, rfl, hb, hcell⟩ := hr.2.2.at_ (by rw [bcs_length, HL.out]; omega)
    have hlt : i < n := by omega
    have hcp := hr.2.1
    have hc0 := bat_cell (B := 0) hcell i (by rw [HL.out]; omega)
    have hx := bat_lt l i
    have hy := bat_lt l (i + 1)
    have hc1 : i + 1 < n → wr.cell? ⟨b, off + (i + 1), none⟩ = some (.int .u8 (bat l (i + 1) : Nat)) := fun h => bat_cell (B := 0) hcell (i + 1) (by rw [HL.out]; omega)
    have HRW := Lib.hid hr
    have HGW := Lib.hid hg
    clear hcell hin hr hg
    generalize bat l i = x at *
    generalize bat l (i + 1) = y at *
    by_cases h0 : x = 0
    · rw [if_pos h0, List.append_nil] at hst
      have HS := Lib.hid hst
      subst h0
      clear hst hc1
      go_wp2
      go_end0
      exact ⟨⟨_, rfl⟩, .inl ⟨pre, HS.out, HJ.out⟩⟩
    rw [if_neg h0] at hst
    have b0 : ((x : Int) == 0) = false := by simpa using h0
    have n0 : ((x : Int) != 0) = true := by simpa using h0
    by_cases h1 : x = 1
    · rw [if_pos h1] at hst
      have HS := Lib.hid hst
      subst h1
      clear hst hc1 b0 n0 h0
      go_wp2
      refine ⟨⟨i + 1, f, pre, by go_num, by omega, by omega, HJ.out, HS.out, HC.out⟩, by simp [intOf]; omega⟩
    rw [if_neg h1] at hst
    have b1 : ((x : Int) == 1) = false := by simp; omega
    by_cases h2 : n - i < 2
    · rw [if_pos h2, List.append_nil] at hst
      have HS := Lib.hid hst
      have hk : i + 1 = n := by omega
      clear hst hc1
      go_wp2
      refine bodyPost_ret (results_none rfl _ _ _) rfl ?_
      exact ⟨⟨_, rfl⟩, .inl ⟨pre, HS.out, HJ.out⟩⟩
    rw [if_neg h2] at hst
    have hk2 : i + 1 < n := by omega
    replace hc1 := hc1 hk2
    by_cases h3 : y < 2
    · rw [if_pos h3, List.append_nil] at hst
      have HS := Lib.hid hst
      clear hst
      go_wp2
      refine bodyPost_ret (results_none rfl _ _ _) rfl ?_
      exact ⟨⟨_, rfl⟩, .inl ⟨pre, HS.out, HJ.out⟩⟩
    rw [if_neg h3] at hst
    by_cases h4 : n - i < y
    · rw [if_pos h4, List.append_nil] at hst
      have HS := Lib.hid hst
      clear hst
      go_wp2
      refine bodyPost_ret (results_none rfl _ _ _) rfl ?_
      exact ⟨⟨_, rfl⟩, .inl ⟨pre, HS.out, HJ.out⟩⟩
    rw [if_neg h4] at hst
    have HS := Lib.hid hst
    clear hst
    have hcut : Rb wr (cutA (some ⟨b, off, none⟩) c (i + 2) 1) (y - 2) (c - (i + 2)) ((l.drop (i + 2)).take (y - 2)) := (HRW.out.cut (k := i + 2) (by omega)).take (k := y - 2) (by omega)
    have w1 : IntKind.i64.wrap ((i : Int) + 2) = (i : Int) + 2 := IntWalk.i64_in _ (by omega)
    have w2 : IntKind.i64.wrap ((i : Int) + (y : Int)) = (i : Int) + (y : Int) := IntWalk.i64_in _ (by omega)
    have f1 : (i : Int) + (y : Int) ≤ (c : Int) := by omega
    have f2 : 0 ≤ (i : Int) + (y : Int) := by omega
    have f3 : (2 : Int) ≤ (y : Int) := by omega
    have f4 : 0 ≤ (i : Int) + 2 := by omega
    have f5 : max ((i : Int) + (y : Int)) 0 = (i : Int) + (y : Int) := by omega
    have f6 : ((i : Int) + 2).toNat = i + 2 := by omega
    have f7 : ((i : Int) + (y : Int)).toNat = i + y := by omega
    have f8 : i + y - (i + 2) = y - 2 := by omega
    go_upto_region 8 with (fail)
    refine wp_region_lit ?_
    iterate 7 (refine wpList_plain rfl (fun K hK => ?_); go_simp; with_reducible refine hK _ _ ?_; clear hK K)
    refine wpList_plain rfl (fun K hK => ?_)
    go_simp
    refine (sclone_any _ _ _ ((l.drop (i + 2)).take (y - 2)) wr hcut (by omega)).mono ?_
    rintro e w1 ⟨A1, n1, c1, bs1, d1, rfl, rfl, ho1⟩
    with_reducible refine hK _ _ ?_
    clear hK K
    refine wpList_plain rfl (fun K hK => ?_); go_simp; with_reducible refine hK _ _ ?_; clear hK K
    have hb8 := below_plus wr bs1 d1
    have hc8 : Rb (plus wr bs1 d1) (some ⟨b, off, none⟩) n c l := HRW.out.later hb8
    have hq2 : (plus wr bs1 d1).cell? ⟨g, 0, none⟩ = some (.slice (some ⟨b, off, none⟩) n c) := (HGW.out.later hb8).cell 0
    have hcx : (plus wr bs1 d1).cell? ⟨b, off + i, none⟩ = some (.int .u8 (x : Int)) := (hb8.cell (p := ⟨b, off + i, none⟩) hb).trans hc0
    obtain ⟨fn, tmps, assign, body, hyy, hR⟩ := HY.out pre ⟨i, x, A1, n1, c1, (l.drop (i + 2)).take (y - 2)⟩ wr (plus wr bs1 d1) HJ.out hb8 ⟨ho1.rb, fun a e => ho1.blk a.block (by rw [show A1 = some a from e]; rfl)⟩
    replace hyy : (Instr.yield l' #[.int .i64 (i : Int), .agg #[.int .u8 (x : Int), .slice A1 n1 c1]]).run Try.prog (plus wr bs1 d1) = .ok (.round l' fn tmps assign body) (plus wr bs1 d1) := hyy
    have hCP := HC.out.trans (Chg.of_below hb8)
    clear hq hc0 hc1 hcut w1 f1 f2 f3 f4 f5 f6 f7 f8 ho1 hc8
    generalize plus wr bs1 d1 = W8 at *
    go_upto_region 9 with (fail)
    refine (wpIn_wide (n := 0)).1 ?_
    gi_wp2
    refine ⟨rfl, hR.mono ?_⟩
    rintro e W3 (⟨rfl, hJ3, hk3⟩ | ⟨rfl, hJx3⟩)
    · gi_wp2
      go_wp2
      refine ⟨⟨i + y, f, _, by go_num, by omega, by omega, hJ3, by simpa [Ox.p] using HS.out, hCP.trans hk3⟩, by simp [intOf]; omega⟩
    · gi_wp2
      go_wp2
      refine bodyPost_ret (results_none rfl _ _ _) rfl ?_
      exact ⟨⟨_, rfl⟩, .inr ⟨_, ⟨optF f l (i + y), by simpa [Ox.p] using HS.out⟩, hJx3⟩⟩
end Go.Proofs.Ytknoenceccpkhaa

/- Slices whose elements have s cells each (structs, ints): read, cut, owned, appended to. No program in sight. -/
namespace Go.Proofs.Ytknoenceccpkhaa
open Go.RowKit Go.ChangeShapes Go.WideShapes
set_option linter.unusedVariables false
set_option linter.unusedSimpArgs false

/-- a slice type, its element type, the element's zero value, its cells and bytes -/
structure ET (P : Program) (ts e : TypeId) (z : Value) (s by_ : Nat) : Prop where
  sl : P.underlying ts = some (.slice e)
  info : (P.info? e).map (fun i => (i.zero, i.size, i.bytes)) = some (some z, s, by_)
  zs : z.cells.size = s
  pos : 0 < s
  small : by_ ≤ 64
/-- a slice reads as the cells cs -/
def Rs (s : Nat) (w : World) (A : Option Addr) (n c : Nat) (cs : List Value) : Prop := cs.length = n * s ∧ n ≤ c ∧ Rd w w.heap.size A cs
/-- a slice of the call's own (its block from base on) reads as cs -/
def Os (e : TypeId) (s : Nat) (w : World) (base : Nat) (A : Option Addr) (n c : Nat) (cs : List Value) : Prop := w.ownsRow base e s (.slice A n c) n cs

theorem Rd.cutS {w : World} {B : Nat} {A : Option Addr} {cs : List Value} (h : Rd w B A cs) {s c k : Nat} (hc : cs.length ≤ c * s) : Rd w B (cutA A c k s) (cs.drop (k * s)) := by
  by_cases hk : cs.length ≤ k * s
  · exact .inl (List.drop_eq_nil_of_le hk)
  rcases h with h | ⟨b, off, hA, hb, hcell⟩
  · exact .inl (by simp [h])
  · have hck : ¬ c = k := fun e => by subst e; exact hk hc
    refine .inr ⟨b, off + k * s, ?_, hb, fun i u hu => ?_⟩
    · subst hA
      simp only [cutA, if_neg hck, Option.map_some, Addr.add]
      split
      · simp_all
      · rfl
    · rw [Nat.add_assoc]
      rw [List.getElem?_drop] at hu
      exact hcell _ _ hu
theorem Rd.of_ownS {w : World} {A : Option Addr} {cs : List Value} {base : Nat} {e : TypeId} {s n c : Nat} (h : w.ownsRow base e s (.slice A n c) n cs) : Rd w w.heap.size A cs := by
  rcases Nat.eq_zero_or_pos n with h0 | h0
  · subst h0
    exact .inl (List.eq_nil_of_length_eq_zero (by simpa using h.1))
  · obtain ⟨g, cap, hv, _, hlt⟩ := h.form h0
    have hA : A = some ⟨g, 0, none⟩ := by injection hv
    subst hA
    refine .inr ⟨g, 0, rfl, hlt, fun i u hu => ?_⟩
    have := h.cells (g := g) rfl i u hu
    have hplain : (⟨g, 0, none⟩ : Addr).add i = ⟨g, 0 + i, none⟩ := by unfold Addr.add; split <;> simp_all
    rwa [hplain] at this
section
variable {s : Nat} {w w' : World} {base : Nat} {e : TypeId} {A : Option Addr} {n c : Nat} {cs : List Value}
theorem Rs.nil_ : Rs s w none 0 0 [] := ⟨by simp, Nat.le_refl _, .inl rfl⟩
theorem Rs.later (h : Rs s w A n c cs) (hb : Below w.heap.size w w') : Rs s w' A n c cs := ⟨h.1, h.2.1, (h.2.2.below hb).more hb.size⟩
theorem Rs.drew (h : Rs s w A n c cs) : Rs s w.drew A n c cs := h
theorem Rs.alloc (h : Rs s w A n c cs) (o : Obj) : Rs s (w.alloc o) A n c cs := ⟨h.1, h.2.1, (h.2.2.alloc (Nat.le_refl _) o).more (by simp)⟩
theorem Rs.plus_ (h : Rs s w A n c cs) (bs : List Obj) (d : Nat) : Rs s (plus w bs d) A n c cs := h.later (below_plus w bs d)
theorem Rs.take (h : Rs s w A n c cs) {k : Nat} (hk : k ≤ n) : Rs s w A k c (cs.take (k * s)) := ⟨by rw [List.length_take, h.1]; exact Nat.min_eq_left (Nat.mul_le_mul_right _ hk), Nat.le_trans hk h.2.1, h.2.2.take _⟩
theorem Rs.cut (h : Rs s w A n c cs) {k : Nat} (hk : k ≤ n) : Rs s w (cutA A c k s) (n - k) (c - k) (cs.drop (k * s)) :=
  ⟨by rw [List.length_drop, h.1, Nat.sub_mul], by have := h.2.1; omega, h.2.2.cutS (by rw [h.1]; exact Nat.mul_le_mul_right _ h.2.1)⟩
theorem Rs.grown (h : Rs s w A n c cs) {row : Option Nat} (hg : w.grownBy w' row) (hr : ∀ a, A = some a → some a.block ≠ row) : Rs s w' A n c cs := by
  refine ⟨h.1, h.2.1, ?_⟩
  rcases h.2.2 with h' | ⟨b, off, hA, hbl, hc⟩
  · exact .inl h'
  · exact .inr ⟨b, off, hA, Nat.lt_of_lt_of_le hbl hg.size, fun i u hu => (World.cell?_of_block (hg.block b hbl (hr _ hA))).trans (hc i u hu)⟩
/-- the i-th element's cells -/
theorem Rs.at_ (h : Rs s w A n c cs) (hn : 0 < n) (hs : 0 < s) : ∃ b off, A = some ⟨b, off, none⟩ ∧ b < w.heap.size ∧ ∀ i u, cs[i]? = some u → w.cell? ⟨b, off + i, none⟩ = some u :=
  h.2.2.at_ (by rw [h.1]; exact Nat.mul_pos hn hs)
theorem Os.rs (h : Os e s w base A n c cs) : Rs s w A n c cs := by
  refine ⟨h.1, ?_, Rd.of_ownS h⟩
  rcases h.2 with ⟨hv, h0⟩ | ⟨g, cap, cur, hv, _, _, hnc, _⟩
  · omega
  · injection hv with _ _ h3
    omega
theorem Os.nil_ : Os e s w base none 0 0 [] := World.ownsRow_nil w base _ s
theorem Os.blk (h : Os e s w base A n c cs) : ∀ k, (Value.slice A n c).ownBlock = some k → base ≤ k ∧ k < w.heap.size := h.lt
theorem Os.grown {row : Option Nat} (h : Os e s w base A n c cs) (hg : w.grownBy w' row) (hne : ∀ k, (Value.slice A n c).ownBlock = some k → row ≠ some k) : Os e s w' base A n c cs := by
  refine h.kept hg ?_
  cases hk : (Value.slice A n c).ownBlock with
  | none => exact .inl rfl
  | some k => exact .inr (fun e => hne k hk e.symm)
theorem Os.later (h : Os e s w base A n c cs) (hb : Below w.heap.size w w') : Os e s w' base A n c cs := h.grown (grownBy_of_below hb) (fun _ _ => by simp)
theorem Os.plus_ (h : Os e s w base A n c cs) (bs : List Obj) (d : Nat) : Os e s (plus w bs d) base A n c cs := h.later (below_plus w bs d)
theorem Os.mono {base' : Nat} (h : Os e s w base A n c cs) (hb : base' ≤ base) : Os e s w base' A n c cs := by
  refine ⟨h.1, ?_⟩
  rcases h.2 with h2 | ⟨g, cap, cur, hv, hg, hr⟩
  · exact .inl h2
  · exact .inr ⟨g, cap, cur, hv, by omega, hr⟩
end
/-- new elements, written out -/
theorem Os.lit (w : World) {base s : Nat} {e : TypeId} (hb : base ≤ w.heap.size) (cs : Array Value) (n : Nat) (hn : cs.size = n * s) (hm : n ≤ maxLen) : Os e s (w.alloc (.cells cs e)) base (some ⟨w.heap.size, 0, none⟩) n n cs.toList :=
  ⟨by simpa using hn, .inr ⟨w.heap.size, n, cs, rfl, hb, heap_alloc_new w _, Nat.le_refl _, hm, hn, List.take_of_length_le (by simp [hn])⟩⟩
/-- a block whose cells are the elements (whatever its type) -/
theorem Rs.of_bk {w : World} {g s n c : Nat} {t : TypeId} {cs : List Value} (h : Bk w g t cs) (hn : cs.length = n * s) (hc : n ≤ c) : Rs s w (some ⟨g, 0, none⟩) n c cs :=
  ⟨hn, hc, .inr ⟨g, 0, rfl, h.lt, fun i u hu => by rw [Nat.zero_add]; exact (h.cell i).trans hu⟩⟩

/-- append onto a row of the call's own, whatever the source -/
theorem run_appS {P : Program} (w : World) {ts ty e : TypeId} {z : Value} {s by_ : Nat} (et : ET P ts e z s by_) {base : Nat} {A : Option Addr} {n c : Nat} {l : List Value} (hown : Os e s w base A n c l)
    {A2 : Option Addr} {n2 c2 : Nat} {l2 : List Value} (hr : Rs s w A2 n2 c2 l2) (h1 : ∀ u ∈ l2, u.oneCell' = true) (hm : n + n2 ≤ 1099511627776) (hbase : base ≤ w.heap.size) :
    ∃ A' n' c' w', (Builtin.append_ #[ts, ts] ty #[.slice A n c, .slice A2 n2 c2]).run P w = .ok (.slice A' n' c') w' ∧ n' = n + n2 ∧ Os e s w' base A' n' c' (l ++ l2) ∧ Below base w w' ∧ w.grownBy w' (Value.slice A n c).ownBlock := by
  obtain ⟨i, hi, hz0, hz1, hz2⟩ := info_parts et.info
  have hbel : ∀ {w'}, w.grownBy w' (Value.slice A n c).ownBlock → Below base w w' := fun hg => below_of_grown hg hbase fun k hk => (hown.blk k hk).1
  have fin : ∀ v' w', w'.ownsRow base e s v' (n + n2) (l ++ l2) → ∃ A' n' c', v' = .slice A' n' c' ∧ n' = n + n2 ∧ Os e s w' base A' n' c' (l ++ l2) := by
    intro v' w' h
    have h2 := h.2
    rcases h2 with ⟨hv, h0⟩ | ⟨g, cap, cur, hv, _⟩
    · refine ⟨none, 0, 0, hv, h0.symm, ?_⟩
      rw [hv, h0] at h
      exact h
    · refine ⟨_, _, _, hv, rfl, ?_⟩
      rw [hv] at h
      exact h
  cases A2 with
  | none =>
    have hl2 : l2 = [] := by
      rcases hr.2.2 with h | ⟨b, off, h, _⟩
      · exact h
      · cases h
    have hn2 : n2 = 0 := by
      have h3 := hr.1
      rw [hl2] at h3
      rcases Nat.eq_zero_or_pos n2 with h | h
      · exact h
      · have := Nat.mul_pos h et.pos
        simp at h3
        omega
    subst hn2
    subst hl2
    refine ⟨A, n, c, w, ?_, rfl, by simpa using hown, Below.refl _ _, World.grownBy.refl w _⟩
    rcases hown.2 with ⟨hv, h0⟩ | ⟨g, cap, cur, hv, _, _, hnc, _⟩
    · injection hv with h1 h2 h3
      subst h1 h2 h3
      simp [Builtin.append_, run_underlying et.sl, sizeOf, typeInfo, hi, Builtin.lenOf, Builtin.firstCells]
    · injection hv with h1 h2 h3
      subst h1 h3
      simp [Builtin.append_, run_underlying et.sl, sizeOf, typeInfo, hi, Builtin.lenOf, Builtin.firstCells, hnc, storeCells]
  | some ad =>
    have hcells : ∀ j u, l2[j]? = some u → w.cell? (ad.add j) = some u := by
      intro j u hu
      rcases hr.2.2 with h | ⟨b, off, h, _, hc⟩
      · rw [h] at hu; simp at hu
      · injection h with h
        subst h
        rw [add_plain]
        exact hc j u hu
    have hby : (n + n2) * by_ ≤ 140737488355328 := Nat.le_trans (Nat.mul_le_mul hm et.small) (by decide)
    obtain ⟨v', w', hrun, h2, h3, _, _⟩ := run_append_own_at (P := P) w base ts ty e i z s by_ et.sl hi hz0 hz1 hz2 et.zs et.pos (.slice A n c) n l hown ad n2 c2 l2
      hr.1 hcells h1 (by simp only [maxLen]; omega) hby hbase
    obtain ⟨A', n', c', rfl, hn', hob⟩ := fin v' w' h2
    exact ⟨A', n', c', w', hrun, hn', hob, hbel h3, h3⟩

theorem wpList_appS {P : Program} {w : World} {ops : Array Oper} {rest : List Oper} {o : Oper} {a : Act} {Q : Exit → Act → World → Prop} {ts e : TypeId} {z : Value} {sz by_ : Nat} (et : ET P ts e z sz by_) (hgd : o.guard = none) (s x : Operand)
    (ho : o.op = .call { callee := .builtin .append, args := #[s, x], argTypes := #[ts, ts] })
    {base : Nat} {A : Option Addr} {n c : Nat} {l : List Value} (hs : a.eval s = .slice A n c) (hown : Os e sz w base A n c l)
    {A2 : Option Addr} {n2 c2 : Nat} {l2 : List Value} (hx : a.eval x = .slice A2 n2 c2) (hr : Rs sz w A2 n2 c2 l2) (h1 : ∀ u ∈ l2, u.oneCell' = true) (hm : n + n2 ≤ 1099511627776) (hbase : base ≤ w.heap.size)
    (h : ∀ A' n' c' w', n' = n + n2 → Os e sz w' base A' n' c' (l ++ l2) → Below base w w' → w.grownBy w' (Value.slice A n c).ownBlock → wpList P ops Q rest (a.put o.dst (.slice A' n' c')) w') : wpList P ops Q (o :: rest) a w := by
  refine wpList_plain hgd fun _ hK => ?_
  obtain ⟨A', n', c', w', hrun, h0, h2, h3, h4⟩ := run_appS (P := P) w (ty := o.type) et hown hr h1 hm hbase
  unfold Oper.wp execOp
  simp only [ho, resolve, invoke, builtin, Sem.run_bind, Sem.run_pure, Result.andThen_ok, List.map_toArray, List.map_cons, List.map_nil, hs, hx, hrun]
  exact hK _ _ (h A' n' c' w' h0 h2 h3 h4)

end Go.Proofs.Ytknoenceccpkhaa

/- A region that draws its order, by words that are chosen one by one (wp_rel, wp_relE, step for step). -/
namespace Go.Proofs.Ytknoenceccpkhaa
open Go.RowKit
set_option linter.unusedVariables false

/-- the words so far, and one more for operation k -/
def upd (k : Nat) (p : MP) (f : Nat → MP) : Nat → MP := fun j => bif Nat.beq j k then p else f j
theorem upd_same (k : Nat) (p : MP) (f : Nat → MP) : upd k p f k = p := by simp [upd]
theorem upd_ne {j k : Nat} (h : j ≠ k) (p : MP) (f : Nat → MP) : upd k p f j = f j := by
  have : Nat.beq j k = false := by
    cases hb : Nat.beq j k with
    | false => rfl
    | true => exact absurd (Nat.eq_of_beq_eq_true hb) h
  simp [upd, this]
theorem eval_tmp (a : Act) (s : Nat) : a.eval (.tmp s) = a.tmps[s]?.getD undef := by simp [Act.eval]
section
variable {P : Program} {Q : Exit → Act → World → Prop}
/-- operation i does what its word says, whenever its turn comes -/
def StepOk (body : Nat → Oper → Act → World → MP → Prop) (l : List Oper) (n : Nat) (a : Act) (w : World) (φs : Nat → MP) (i : Nat) (φ : MP) : Prop :=
  ∀ o, l[i]? = some o → ∀ (A : Act) (x : Ext), (∀ s, outB l.toArray n i s = true → A.eval (.tmp s) = a.eval (.tmp s)) → (∀ j s, depB l.toArray n i j s = true → (φs j).p (A.eval (.tmp s)) (plus w x.bs x.d)) → body i o A (plus w x.bs x.d) φ
def Steps (fin : (Nat → MP) → Prop) (body : Nat → Oper → Act → World → MP → Prop) (l : List Oper) (n : Nat) (a : Act) (w : World) : Nat → Nat → (Nat → MP) → Prop
  | 0, _, φs => fin φs
  | r + 1, i, φs => ∃ φ, StepOk body l n a w φs i φ ∧ Steps fin body l n a w r (i + 1) (upd i φ φs)
variable {fin : (Nat → MP) → Prop} {body : Nat → Oper → Act → World → MP → Prop}
theorem Steps.all {l : List Oper} {n : Nat} {a : Act} {w : World} (hdep : ∀ i, i < n → ∀ j s, depB l.toArray n i j s = true → j < i) : ∀ (r i : Nat) (φs : Nat → MP), i + r = n → Steps fin body l n a w r i φs → (∀ j, j < i → StepOk body l n a w φs j (φs j)) →
    ∃ Φ : Nat → MP, (∀ i, i < n → StepOk body l n a w Φ i (Φ i)) ∧ fin Φ
  | 0, i, φs, hi, hs, hd => ⟨φs, fun j hj => hd j (by omega), hs⟩
  | r + 1, i, φs, hi, hs, hd => by
    obtain ⟨φ, h1, h2⟩ := hs
    refine Steps.all hdep r (i + 1) (upd i φ φs) (by omega) h2 fun j hj => ?_
    have conv : ∀ k (ψ : MP), k ≤ i → k < n → StepOk body l n a w φs k ψ → StepOk body l n a w (upd i φ φs) k ψ := by
      intro k ψ hk hkn h o ho A x hO hD
      refine h o ho A x hO (fun j' s hj' => ?_)
      have hlt := hdep k hkn j' s hj'
      have := hD j' s hj'
      rwa [upd_ne (by omega)] at this
    by_cases hji : j = i
    · subst hji
      rw [upd_same]
      exact conv j φ (Nat.le_refl _) (by omega) h1
    · rw [upd_ne hji]
      exact conv j (φs j) (by omega) (by omega) (hd j (by omega))
theorem all_dep {ops : Array Oper} {n : Nat} {g : Nat → Oper → Bool} (hall : ((List.range n).all fun i => match ops[i]? with
    | none => false
    | some o => (match o.dst with | some s => g s o | none => false) && (o.after.all fun e => !Region.binds .any e || decide (e.on < i)) &&
      (List.range n).all fun j => j == i || (match (ops[j]?).bind (·.dst) with | some s => o.dst != some s | none => false)) = true) : ∀ i, i < n → ∀ j s, depB ops n i j s = true → j < i := by
  intro i hi j s hd
  have h1 := List.all_eq_true.1 hall i (List.mem_range.2 hi)
  simp only [depB, Bool.and_eq_true, decide_eq_true_eq] at hd
  obtain ⟨o, ho, e, he, hb, hon⟩ := Region.waitsFor_spec hd.1.2
  rw [ho] at h1
  simp only [Bool.and_eq_true] at h1
  have h3 := (Array.all_eq_true_iff_forall_mem.1 h1.1.2) e he
  rw [hb] at h3
  have : e.on < i := by simpa using h3
  omega
def bodyS (P : Program) (Q : Exit → Act → World → Prop) (l : List Oper) (i : Nat) (o : Oper) (A : Act) (w : World) (φ : MP) : Prop :=
  ∀ K : Act → World → Prop, Shut (∀ v w', Ex w w' → φ.p v w' → K (A.put o.dst v) w') → if Region.wanted o (yielded l.toArray A.tmps) = true then o.wp P A w K Q else K (A.put o.dst undef) w
def finS (P : Program) (Q : Exit → Act → World → Prop) (l : List Oper) (n : Nat) (a : Act) (w : World) (φs : Nat → MP) : Prop :=
  ∀ (vs : Nat → Value) (x : Ext), (∀ i, i < n → (φs i).p (vs i) (plus w x.bs x.d)) → wpList P l.toArray Q (l.drop n) (putAll (l.take n) vs 0 a) (plus w x.bs x.d)
theorem wp_relS {id : Nat} {a : Act} {w : World} {l : List Oper} (n N : Nat) (hN : a.tmps.size = N) (hm : P.follows .mixedOrders = true) (hB : relB l.toArray n N = true)
    (h : Steps (finS P Q l n a w) (bodyS P Q l) l n a w n 0 (fun _ => MP.any)) : (Code.region id l.toArray true).wp P Q a w := by
  have hdep : ∀ i, i < n → ∀ j s, depB l.toArray n i j s = true → j < i := by
    have hB' := hB
    unfold relB at hB'
    simp only [Bool.and_eq_true] at hB'
    exact all_dep (g := fun s _ => decide (s < N)) (by exact hB'.2)
  obtain ⟨Φ, h1, h2⟩ := Steps.all hdep n 0 _ (by omega) h (fun j hj => absurd hj (by omega))
  exact wp_rel n N hN hm hB Φ (fun i hi o ho A x hO hD K hK => h1 i hi o ho A x hO hD K hK) h2
/-- one operation more; its word is found by the proof -/
theorem Steps.one (φ : MP) {l : List Oper} {n : Nat} {a : Act} {w : World} {r i : Nat} {φs : Nat → MP} (i' : Nat) (hi : i + 1 = i')
    (h : ∀ o, l[i]? = some o → ∀ (A : Act) (x : Ext), (∀ s, outB l.toArray n i s = true → A.eval (.tmp s) = a.eval (.tmp s)) → (∀ j s, depB l.toArray n i j s = true → (φs j).p (A.eval (.tmp s)) (plus w x.bs x.d)) →
      ∀ K : Act → World → Prop, Shut (∀ v w', Ex (plus w x.bs x.d) w' → φ.p v w' → K (A.put o.dst v) w') → if Region.wanted o (yielded l.toArray A.tmps) = true then o.wp P A (plus w x.bs x.d) K Q else K (A.put o.dst undef) (plus w x.bs x.d))
    (h' : Steps fin (bodyS P Q l) l n a w r i' (upd i φ φs)) : Steps fin (bodyS P Q l) l n a w (r + 1) i φs := by
  subst hi
  exact ⟨φ, fun o ho A x hO hD => h o ho A x hO hD, h'⟩
theorem Steps.fin_ {l : List Oper} {n : Nat} {a : Act} {w : World} {i : Nat} {φs : Nat → MP} (h : ∀ (vs : Nat → Value) (x : Ext), (∀ i, i < n → (φs i).p (vs i) (plus w x.bs x.d)) → wpList P l.toArray Q (l.drop n) (putAll (l.take n) vs 0 a) (plus w x.bs x.d)) : Steps (finS P Q l n a w) body l n a w 0 i φs := h
end
/-! ### loads of one cell -/
theorem run_loadAt_one {P : Program} (w : World) (b o : Nat) (ty : TypeId) (v : Value) (d : TypeDesc) (hc : w.cell? ⟨b, o, none⟩ = some v) (hu : P.underlying ty = some d) (hd : d.isRow = false) :
    (Instr.loadAt ty (.pointer (some ⟨b, o, none⟩))).run P w = .ok v w := by
  have hagg : (isAgg ty).run P w = .ok false w := by
    unfold isAgg
    rw [Sem.run_bind, run_underlying hu w]
    cases d <;> simp_all
  simp [Instr.loadAt, Instr.sureAddr, loadVar, Sem.run_bind, hagg, run_load, hc]
theorem wp_ld1 {P : Program} {Q : Exit → Act → World → Prop} {o : Oper} {a : Act} {w : World} {K : Act → World → Prop} (ty : TypeId) (x : Operand) (ho : o.op = .load ty x) {g off : Nat} {t : TypeId} {cs : List Value} {v : Value} {d : TypeDesc}
    (hx : a.eval x = .pointer (some ⟨g, off, none⟩)) (hb : Bk w g t cs) (hv : cs[off]? = some v) (hu : P.underlying ty = some d) (hd : d.isRow = false) (h : K (a.put o.dst v) w) : o.wp P a w K Q := by
  unfold Oper.wp execOp
  simp only [ho, hx, Sem.run_bind, run_loadAt_one w g off ty v d ((hb.cell off).trans hv) hu hd, Result.andThen_ok]
  exact h
theorem wp_ldA {P : Program} {Q : Exit → Act → World → Prop} {o : Oper} {a : Act} {w : World} {K : Act → World → Prop} (ty : TypeId) (x : Operand) (ho : o.op = .load ty x) {g off : Nat} {t : TypeId} {cs : List Value} {d : TypeDesc} (part : List Value)
    (hx : a.eval x = .pointer (some ⟨g, off, none⟩)) (hb : Bk w g t cs) (hp : (cs.drop off).take part.length = part) (hu : P.underlying ty = some d) (hd : d.isRow = true) (hi : (P.info? ty).map (·.size) = some part.length) (h : K (a.put o.dst (.agg part.toArray)) w) : o.wp P a w K Q := by
  refine wp_load_mid ty x ho g off hx part d (fun j v hv => ?_) hu hd hi h
  rw [hb.cell]
  rw [← hp, List.getElem?_take] at hv
  split at hv
  · rw [List.getElem?_drop] at hv; exact hv
  · cases hv
theorem wpList_ld1 {P : Program} {w : World} {ops : Array Oper} {rest : List Oper} {o : Oper} {a : Act} {Q : Exit → Act → World → Prop} (ty : TypeId) (x : Operand) (ho : o.op = .load ty x) (hw : Region.wanted o (yielded ops a.tmps) = true) {g off : Nat} {t : TypeId} {cs : List Value} {v : Value} {d : TypeDesc}
    (hx : a.eval x = .pointer (some ⟨g, off, none⟩)) (hb : Bk w g t cs) (hv : cs[off]? = some v) (hu : P.underlying ty = some d) (hd : d.isRow = false) (h : wpList P ops Q rest (a.put o.dst v) w) : wpList P ops Q (o :: rest) a w := by
  unfold wpList
  rw [if_pos hw]
  exact .inl (wp_ld1 ty x ho hx hb hv hu hd h)
/-! ### stores of one cell -/
theorem run_storeAt_one {P : Program} (w : World) (ty : TypeId) (v : Value) {g off : Nat} {t : TypeId} {cs : List Value} (hb : Bk w g t cs) (hl : off < cs.length) (h1 : v.oneCell' = true) (hi : (P.info? ty).map (·.size) = some 1) :
    (Instr.storeAt ty (.pointer (some ⟨g, off, none⟩)) v).run P w = .ok () (w.setCell ⟨g, off, none⟩ v) := by
  have hv : v.cells = #[v] := by cases v <;> first | rfl | (simp [Value.oneCell'] at h1)
  have hst := run_store P w ((⟨g, off, none⟩ : Addr).add 0) v .plain h1
  rw [add_plain, Nat.add_zero, hb.cell, hb.frozen, List.getElem?_eq_getElem hl] at hst
  cases hq : P.info? ty with
  | none => simp [hq] at hi
  | some i =>
    have hs : i.size = 1 := by simpa [hq] using hi
    simp [Instr.storeAt, Instr.sureAddr, storeVar, sizeOf, typeInfo, hq, hv, hs, storeCells, add_plain, hst]
theorem wp_st1 {P : Program} {Q : Exit → Act → World → Prop} {o : Oper} {a : Act} {w : World} {K : Act → World → Prop} (ty : TypeId) (x y : Operand) (ho : o.op = .store ty x y) {g off : Nat} {t : TypeId} {cs : List Value} {v : Value}
    (hx : a.eval x = .pointer (some ⟨g, off, none⟩)) (hy : a.eval y = v) (hb : Bk w g t cs) (hl : off < cs.length) (h1 : v.oneCell' = true) (hi : (P.info? ty).map (·.size) = some 1)
    (h : ∀ w', Bk w' g t (cs.set off v) → w.grownBy w' (some g) → K (a.put o.dst undef) w') : o.wp P a w K Q := by
  unfold Oper.wp execOp
  simp only [ho, hx, hy, Sem.run_bind, run_storeAt_one w ty v hb hl h1 hi, Result.andThen_ok]
  exact h _ (hb.set_ off v) (grownBy_setCell _ _ _ _)
theorem wpList_st1 {P : Program} {w : World} {ops : Array Oper} {rest : List Oper} {o : Oper} {a : Act} {Q : Exit → Act → World → Prop} (ty : TypeId) (x y : Operand) (ho : o.op = .store ty x y) (hgd : o.guard = none) {g off : Nat} {t : TypeId} {cs : List Value} {v : Value}
    (hx : a.eval x = .pointer (some ⟨g, off, none⟩)) (hy : a.eval y = v) (hb : Bk w g t cs) (hl : off < cs.length) (h1 : v.oneCell' = true) (hi : (P.info? ty).map (·.size) = some 1)
    (h : ∀ w', Bk w' g t (cs.set off v) → w.grownBy w' (some g) → wpList P ops Q rest (a.put o.dst undef) w') : wpList P ops Q (o :: rest) a w :=
  wpList_plain hgd fun _ hK => wp_st1 ty x y ho hx hy hb hl h1 hi fun w' h2 h3 => hK _ _ (h w' h2 h3)
end Go.Proofs.Ytknoenceccpkhaa

/- Rows of structs as words of a region's values; calls that hand back such a row. -/
namespace Go.Proofs.Ytknoenceccpkhaa
open Go.RowKit
set_option linter.unusedVariables false

/-- a slice of elements of s cells -/
def MP.rs (s : Nat) (cs : List Value) : MP := ⟨fun v w => ∃ A n c, v = .slice A n c ∧ Rs s w A n c cs, fun _ _ _ ⟨A, n, c, h1, h2⟩ h => ⟨A, n, c, h1, h2.later h.below⟩⟩
/-- a call hands back a new or old slice that reads as cs, and changes nothing that was there -/
def RetRs (s : Nat) (w : World) (cs : List Value) (e : Ending) (w' : World) : Prop := ∃ A n c bs d, e = .returned (.slice A n c) ∧ w' = plus w bs d ∧ Rs s (plus w bs d) A n c cs
theorem RetRs.mk {s : Nat} {w w' : World} {cs : List Value} {A : Option Addr} {n c : Nat} (h : Rs s w' A n c cs) (hb : Below w.heap.size w w') : RetRs s w cs (.returned (.slice A n c)) w' := by
  obtain ⟨bs, d, rfl⟩ := plus_of hb
  exact ⟨A, n, c, bs, d, rfl, rfl, h⟩
/-- a slice of the call's own -/
def MP.os (e : TypeId) (s base : Nat) (cs : List Value) : MP := ⟨fun v w => ∃ A n c, v = .slice A n c ∧ Os e s w base A n c cs, fun _ _ _ ⟨A, n, c, h1, h2⟩ h => ⟨A, n, c, h1, h2.later h.below⟩⟩
end Go.Proofs.Ytknoenceccpkhaa

/- Rows of structs: append, with what becomes of the row's block; rows of encoded elements; rows that stay while other blocks change. -/
namespace Go.Proofs.Ytknoenceccpkhaa
open Go.RowKit
set_option linter.unusedVariables false

theorem Rs.chg {D : Nat → Prop} {s : Nat} {w w' : World} {A : Option Addr} {n c : Nat} {cs : List Value} (h : Rs s w A n c cs) (hc : Chg D w w') (hd : ∀ a, A = some a → ¬ D a.block) : Rs s w' A n c cs := by
  refine ⟨h.1, h.2.1, ?_⟩
  rcases h.2.2 with h' | ⟨b, off, hA, hb, hcell⟩
  · exact .inl h'
  · refine .inr ⟨b, off, hA, Nat.lt_of_lt_of_le hb hc.size, fun i u hu => ?_⟩
    rw [World.cell?_of_block (w := w) (hc.block b hb (hd _ hA))]
    exact hcell i u hu
theorem Os.chg {D : Nat → Prop} {e : TypeId} {s base : Nat} {w w' : World} {A : Option Addr} {n c : Nat} {cs : List Value} (h : Os e s w base A n c cs) (hc : Chg D w w') (hd : ∀ k, (Value.slice A n c).ownBlock = some k → ¬ D k) : Os e s w' base A n c cs := by
  refine ⟨h.1, ?_⟩
  rcases h.2 with h' | ⟨g, cap, cur, hv, hb, hg, hr⟩
  · exact .inl h'
  · have hk : (Value.slice A n c).ownBlock = some g := by rw [hv]; rfl
    exact .inr ⟨g, cap, cur, hv, hb, (hc.block g (h.blk g hk).2 (hd g hk)).trans hg, hr⟩
/-- a row of encoded elements -/
theorem flat_at {X : Type} (enc : X → List Value) (s : Nat) (hs : ∀ x, (enc x).length = s) : ∀ (L : List X) (j : Nat) (hj : j < L.length) (i : Nat) (u : Value), (enc L[j])[i]? = some u → (L.flatMap enc)[j * s + i]? = some u
  | x :: t, 0, _, i, u, h => by
    have hi : i < (enc x).length := (List.getElem?_eq_some_iff.1 h).1
    simp only [List.flatMap_cons, Nat.zero_mul, Nat.zero_add]
    rw [List.getElem?_append_left hi]
    exact h
  | x :: t, j + 1, hj, i, u, h => by
    have h2 := flat_at enc s hs t j (by simpa using hj) i u h
    simp only [List.flatMap_cons]
    rw [List.getElem?_append_right (by rw [hs, Nat.add_mul]; omega), hs, show (j + 1) * s + i - s = j * s + i by rw [Nat.add_mul]; omega]
    exact h2
theorem flat_len {X : Type} (enc : X → List Value) (s : Nat) (hs : ∀ x, (enc x).length = s) : ∀ L : List X, (L.flatMap enc).length = L.length * s
  | [] => by simp
  | x :: t => by simp [hs, flat_len enc s hs t, Nat.add_mul, Nat.add_comm]
/-- an element's cells -/
theorem Rs.rangeE {X : Type} {enc : X → List Value} {s : Nat} (hs : ∀ x, (enc x).length = s) {w : World} {b off n c : Nat} {L : List X} (h : Rs s w (some ⟨b, off, none⟩) n c (L.flatMap enc)) (j : Nat) (hj : j < L.length) :
    w.rangeAt b (off + j * s) (enc L[j]) := by
  intro i u hu
  have hp := flat_at enc s hs L j hj i u hu
  rcases h.2.2 with h0 | ⟨b', off', hA, hb, hc⟩
  · rw [h0] at hp; simp at hp
  · injection hA with hA
    injection hA with e1 e2
    subst e1 e2
    rw [Nat.add_assoc]
    exact hc _ _ hp
end Go.Proofs.Ytknoenceccpkhaa

/- The law's 'all': what an iterator goes through (chapter 44). -/
namespace Go.Proofs.Ytknoenceccpkhaa
open Go.RowKit
set_option linter.unusedVariables false
set_option linter.unusedSimpArgs false
attribute [local go_sem ↓] sliced_cut

attribute [local go_sem] cutA_zero

attribute [local go_sem] Oper.semAt_some

theorem eqFn (w : World) (g : Nat) : (binOp .eql 178 (.func (.func 136) #[] #[.pointer (some ⟨g, 0, none⟩)]) .nilFunc).run Try.prog w = .ok (.bool false) w := by kernel_rfl
attribute [local go_sem] eqFn

def rxC (x : Ox) : List Value := [.int .i64 x.i, .int .u8 (x.k : Int), .slice x.A x.n x.c]
theorem rxC_len (x : Ox) : (rxC x).length = 3 := rfl
theorem rxC_one (x : Ox) : ∀ u ∈ rxC x, u.oneCell' = true := by simp [rxC, Value.oneCell']
theorem etRx : ET Try.prog 115 119 (.agg #[.int .i64 0, .int .u8 0, .slice none 0 0]) 3 40 := ⟨Try.underlying115, by kernel_rfl, rfl, by decide, by decide⟩
/-- what holds between two rounds -/
def AllI (w : World) (most : Nat) (bm bo : Nat) (pre : List Ox) (V : World) : Prop := ∃ A n c, Bk V bo 115 [.slice A n c] ∧ Bk V bm 3 [.int .i64 (most : Int)] ∧ Os 119 3 V (w.heap.size + 2) A n c (pre.flatMap rxC) ∧ pre.length ≤ most ∧ Chg (fun b => b = bo) w V ∧
  ∀ x ∈ pre, Rb V x.A x.n x.c x.d ∧ ∀ a, x.A = some a → w.heap.size + 2 ≤ a.block ∧ a.block < V.heap.size ∧ (Value.slice A n c).ownBlock ≠ some a.block
theorem AllI.chg {w V V' : World} {most bm bo : Nat} {pre : List Ox} (hm : bm < w.heap.size) (ho : bo < w.heap.size) (h : AllI w most bm bo pre V) (hc : Chg (fun b => b = w.heap.size ∨ b = w.heap.size + 1) V V') : AllI w most bm bo pre V' := by
  obtain ⟨A, n, c, h1, h2, h3, h4, h5, h6⟩ := h
  refine ⟨A, n, c, h1.chg hc (by omega), h2.chg hc (by omega), h3.chg hc (fun k hk => by have := (h3.blk k hk).1; omega), h4, ?_, fun x hx => ⟨(h6 x hx).1.chg hc (fun a e => by have := (h6 x hx).2 a e; omega), fun a e => ⟨((h6 x hx).2 a e).1, Nat.lt_of_lt_of_le ((h6 x hx).2 a e).2.1 hc.size, ((h6 x hx).2 a e).2.2⟩⟩⟩
  exact h5.mixd hc (fun b hb => .inr (by omega))
/-- what 'all' hands back -/
def RetAll (w : World) (P3 : List Op3) (e : Ending) (w' : World) : Prop := ∃ A n c, ∃ L : List Ox, ∃ bs d, e = .returned (.slice A n c) ∧ w' = plus w bs d ∧ Rs 3 w' A n c (L.flatMap rxC) ∧ (∀ x ∈ L, Rb w' x.A x.n x.c x.d) ∧ L.map Ox.p = P3
end Go.Proofs.Ytknoenceccpkhaa

/- Rows of bytes as one operation of a region that draws its order. -/
namespace Go.Proofs.Ytknoenceccpkhaa
open Go.RowKit
set_option linter.unusedVariables false

inductive Rows_ (w : World) : List Value → List (List UInt8) → Prop
  | nil : Rows_ w [] []
  | cons {v : Value} {l : List UInt8} {vs : List Value} {L : List (List UInt8)} (h : ∃ A n c, v = .slice A n c ∧ Rb w A n c l) (r : Rows_ w vs L) : Rows_ w (v :: vs) (l :: L)
theorem Rows_.len {w : World} {vs : List Value} {L : List (List UInt8)} (h : Rows_ w vs L) : vs.length = L.length := by
  induction h with
  | nil => rfl
  | cons _ _ ih => simp [ih]
theorem Rows_.get {w : World} {vs : List Value} {L : List (List UInt8)} (h : Rows_ w vs L) : ∀ (i : Nat) (u : Value), vs[i]? = some u → ∃ (A' : Option Addr) (n c : Nat), u = Value.slice A' n c ∧ ∃ l, L[i]? = some l ∧ Rb w A' n c l := by
  induction h with
  | nil => intro i u hu; simp at hu
  | cons h _ ih =>
    intro i u hu
    cases i with
    | zero =>
      simp only [List.getElem?_cons_zero, Option.some.injEq] at hu
      subst hu
      obtain ⟨A, n, c, h1, h2⟩ := h
      exact ⟨A, n, c, h1, _, rfl, h2⟩
    | succ i => exact ih i u (by simpa using hu)
theorem RdL.litW {w : World} {k m : Nat} {t : TypeId} (cs : List Value) (L : List (List UInt8)) (hk : k = w.heap.size) (h : Rows_ w cs L) (hm : m = cs.length := by rfl) : RdL (w.alloc (.cells cs.toArray t)) (some ⟨k, 0, none⟩) m L := by
  subst hk hm
  refine ⟨cs, rfl, h.len.symm, .inr ⟨w.heap.size, 0, rfl, by simp, fun i u hu => ?_⟩, fun i u hu => ?_⟩
  · have := (Bk.new w t cs.toArray).cell i
    rw [Nat.zero_add, this]
    simpa using hu
  · obtain ⟨A', n, c, e, l, hl, hr⟩ := h.get i u hu
    exact ⟨A', n, c, e, l, hl, hr.alloc _⟩
end Go.Proofs.Ytknoenceccpkhaa

/- What calls return. -/
namespace Go.Proofs.Ytknoenceccpkhaa
open Go.RowKit
/-- bytes and an error -/
def RetBE (w : World) (l : List UInt8) (E : Int) (e : Ending) (w' : World) : Prop := ∃ A n c bs d, e = .returned (.tuple #[.slice A n c, .int .i64 E]) ∧ w' = plus w bs d ∧ Rb (plus w bs d) A n c l
theorem RetBE.mk {w w' : World} {l : List UInt8} {E : Int} {A : Option Addr} {n c : Nat} (h : Rb w' A n c l) (hb : Below w.heap.size w w') : RetBE w l E (.returned (.tuple #[.slice A n c, .int .i64 E])) w' := by
  obtain ⟨bs, d, rfl⟩ := plus_of hb
  exact ⟨A, n, c, bs, d, rfl, rfl, h⟩
end Go.Proofs.Ytknoenceccpkhaa

/- option.Write and the reference's Write (chapter 44). -/
namespace Go.Proofs.Ytknoenceccpkhaa
open Go.RowKit
set_option linter.unusedVariables false
set_option linter.unusedSimpArgs false
attribute [local go_sem ↓] sliced_cut

attribute [local go_sem] cutA_zero

def wxC (x : Ox) : List Value := opC x.k x.A x.n x.c
theorem wxC_len (x : Ox) : (wxC x).length = 2 := rfl
theorem opC_one (k : Nat) (A : Option Addr) (n c : Nat) : ∀ u ∈ opC k A n c, u.oneCell' = true := by simp [opC, Value.oneCell']
theorem szOp (k : Nat) (A : Option Addr) (n c : Nat) : (Try.prog.info? 105).map (·.size) = some (opC k A n c).length := by kernel_rfl
theorem rowOp : ∃ d, Try.prog.underlying 105 = some d ∧ d.isRow = true := ⟨_, Try.underlying105, rfl⟩
def oneO (k : Nat) (d : List UInt8) : List UInt8 := [UInt8.ofNat k, UInt8.ofNat (d.length + 2)] ++ d
def padL (n : Nat) : Nat := (4 - n % 4) % 4
/-- the bytes of options, or why there are none -/
def wrB : List (Nat × List UInt8) → List UInt8 → List UInt8
  | [], b => b ++ List.replicate (padL b.length) 0
  | (k, d) :: t, b => if k < 2 then [] else if 38 < d.length then [] else if 40 < b.length + (d.length + 2) then [] else wrB t (b ++ oneO k d)
def wrE : List (Nat × List UInt8) → List UInt8 → Int
  | [], b => 0
  | (k, d) :: t, b => if k < 2 then 1 else if 38 < d.length then 1 else if 40 < b.length + (d.length + 2) then 30 else wrE t (b ++ oneO k d)
def Ox.kd (x : Ox) : Nat × List UInt8 := (x.k, x.d)
theorem RetBE.nil_ {w w' : World} {E : Int} (hb : Below w.heap.size w w') : RetBE w [] E (.returned (.tuple #[.slice none 0 0, .int .i64 E])) w' := RetBE.mk Rb.nil_ hb
set_option maxHeartbeats 4000000 in
set_option maxRecDepth 100000 in
theorem write_any (w : World) (A : Option Addr) (n c : Nat) (L : List Ox) (hr : Rs 2 w A n c (L.flatMap wxC)) (hd : ∀ x ∈ L, Rb w x.A x.n x.c x.d) (hk : ∀ x ∈ L, x.k < 256 ∧ x.n ≤ 1000) (hn : n ≤ 1000) : Calls Try.prog 37 #[.slice A n c] w (RetBE w (wrB (L.map Ox.kd) []) (wrE (L.map Ox.kd) [])) := by
  obtain ⟨dv, v1, v2⟩ := rowOp
  have hln : L.length = n := by have := hr.1; rw [flat_len wxC 2 wxC_len] at this; omega
  obtain ⟨RB, eRB⟩ : ∃ R, R = wrB (L.map Ox.kd) [] := ⟨_, rfl⟩
  obtain ⟨RE, eRE⟩ : ∃ R, R = wrE (L.map Ox.kd) [] := ⟨_, rfl⟩
  rw [← eRB, ← eRE]
  have HB0 := Lib.hid eRB
  have HE0 := Lib.hid eRE
  clear eRB eRE
  go_enter Try.func37, Try.ntmps37
  go_upto_region 3 with (fail)
  go_loopw [4, 9] (fun s i wr => ∃ (j : Nat) (A' : Option Addr) (n' c' : Nat) (bb : List UInt8), j ≤ n ∧ i = .int .i64 (j : Int) ∧ s = .slice A' n' c' ∧ Ob wr w.heap.size A' n' c' bb ∧ bb.length ≤ 40 ∧ Below w.heap.size w wr ∧ wrB ((L.drop j).map Ox.kd) bb = RB ∧ wrE ((L.drop j).map Ox.kd) bb = RE) (fun _ i _ => n - (intOf i).toNat)
  case atStart => exact ⟨0, none, 0, 0, [], Nat.zero_le _, rfl, rfl, Ob.nil_, by simp, Below.refl _ _, HB0.out.symm, HE0.out.symm⟩
  case round =>
    clear HB0 HE0
    obtain ⟨j, A', n', c', bb, hj, rfl, rfl, ho, hl, hbe, hwb, hwe⟩ := hrel
    have hbn : bb.length = n' := ho.1
    have hbs := hbe.size
    by_cases hlt : j < n
    · have ij : (j : Int) < (n : Int) := by omega
      obtain ⟨b, off, rfl, hbl, -⟩ := hr.at_ (by omega) (by decide)
      have hrg := fun W (h : Below w.heap.size w W) => (hr.later h).rangeE wxC_len j (by omega)
      have hdr : L.drop j = L[j] :: L.drop (j + 1) := by rw [List.drop_eq_getElem_cons (by omega)]
      rw [hdr] at hwb hwe
      have hx0 := hd L[j] (List.getElem_mem (by omega))
      have hk0 := hk L[j] (List.getElem_mem (by omega))
      generalize L[j]'(by omega) = x at *
      obtain ⟨xi, xk, xA, xn, xc, xd⟩ := x
      simp only [List.map_cons, Ox.kd, wrB, wrE] at hwb hwe
      have hxl : xd.length = xn := hx0.1
      rw [hxl] at hwb hwe
      rw [hbn] at hwb hwe
      have hxk : xk < 256 := hk0.1
      have hxn : xn ≤ 1000 := hk0.2
      have HX := Lib.hid hx0
      have HRG := Lib.hid hrg
      have HWB := Lib.hid hwb
      have HWE := Lib.hid hwe
      have HBN := Lib.hid hbn
      have HXL := Lib.hid hxl
      have hn40 : n' ≤ 40 := by omega
      clear hrg hdr hx0 hk0 hwb hwe hbn hxl
      go_upto_region 4 with (fail)
      refine wp_region_lit ?_
      refine wpList_plain rfl (fun K hK => ?_); go_simp; with_reducible refine hK _ _ ?_; clear hK K
      refine wpList_load_mid rfl _ (.tmp 11) rfl b (off + j * 2) rfl (opC xk xA xn xc) _ (HRG.out wr hbe) v1 v2 (szOp _ _ _ _) ?_
      refine wpList_plain rfl (fun K hK => ?_); go_simp; with_reducible refine hK _ _ ?_; clear hK K
      refine wpList_stA (t := 105) 105 (.tmp 6) (.tmp 12) rfl rfl (opC xk xA xn xc) [.int .u8 0, .slice none 0 0] rfl (opC_one _ _ _ _) rfl rfl (Bk.new wr 105 [.int .u8 0, .slice none 0 0].toArray) (szOp _ _ _ _) ?_
      intro W4 hO4 hg4
      have be4 : Below wr.heap.size wr W4 := below_grown (Below.allocS (Below.refl _ _) _) hg4 (Nat.le_refl _)
      have ho4 := ho.later be4
      have hbe4 := hbe.trans (be4.mono hbs)
      have hbs4 := hbe4.size
      have hx4 : Rb W4 xA xn xc xd := HX.out.later hbe4
      have hg4lt := hO4.lt
      obtain ⟨g4, eg4⟩ : ∃ g, g = wr.heap.size := ⟨_, rfl⟩
      rw [← eg4] at hO4 hg4lt ⊢
      have hgw : w.heap.size ≤ g4 := by omega
      have hgo : ∀ k, (Value.slice A' n' c').ownBlock = some k → k ≠ g4 := fun k hk => by have := (ho.blk k hk).2; omega
      have q0 : W4.cell? ⟨g4, 0, none⟩ = some (.int .u8 (xk : Int)) := hO4.cell 0
      have q1 : W4.cell? ⟨g4, 1, none⟩ = some (.slice xA xn xc) := hO4.cell 1
      clear be4 hg4 ho hbe HRG eg4
      by_cases k0 : xk = 0
      · subst k0
        have HB1 := HWB.out
        have HE1 := HWE.out
        rw [if_pos (by omega)] at HB1 HE1
        subst HB1 HE1
        go_wp2
        go_ret2
        exact RetBE.nil_ hbe4
      by_cases k1 : xk = 1
      · subst k1
        have HB1 := HWB.out
        have HE1 := HWE.out
        rw [if_pos (by omega)] at HB1 HE1
        subst HB1 HE1
        go_wp2
        go_ret2
        exact RetBE.nil_ hbe4
      have b0 : ((xk : Int) == 0) = false := by simpa using k0
      have b1 : ((xk : Int) == 1) = false := by simp; omega
      by_cases k38 : 38 < xn
      · have i38 : (38 : Int) < (xn : Int) := by omega
        have HB1 := HWB.out
        have HE1 := HWE.out
        rw [if_neg (by omega), if_pos k38] at HB1 HE1
        subst HB1 HE1
        go_wp2
        go_ret2
        exact RetBE.nil_ hbe4
      have i38 : ¬ (38 : Int) < (xn : Int) := by omega
      have w9 : IntKind.i64.wrap (2 + (xn : Int)) = 2 + (xn : Int) := IntWalk.i64_in _ (by omega)
      have w8 : IntKind.u8.wrap (2 + (xn : Int)) = (xn : Int) + 2 := by rw [IntWalk.u8_in _ (by omega)]; omega
      go_upto_region 7 with (fail)
      clear q0 q1 b0 b1 i38
      refine wp_region_lit ?_
      iterate 2 (refine wpList_plain rfl (fun K hK => ?_); go_simp; with_reducible refine hK _ _ ?_; clear hK K)
      refine wpList_ld1 (t := 105) (cs := opC xk xA xn xc) 5 (.tmp 28) rfl (by rfl) rfl (hO4) rfl Try.underlying5 rfl ?_
      refine wpList_plain rfl (fun K hK => ?_); go_simp; with_reducible refine hK _ _ ?_; clear hK K
      refine wpList_ld1 (t := 105) (cs := opC xk xA xn xc) 24 (.tmp 30) rfl (by rfl) rfl (hO4) rfl Try.underlying24 rfl ?_
      iterate 4 (refine wpList_plain rfl (fun K hK => ?_); go_simp; with_reducible refine hK _ _ ?_; clear hK K)
      refine wpList_app bt rfl (.tmp 27) (.tmp 35) rfl rfl (ho4.alloc _) rfl (Rb.litW _ [UInt8.ofNat xk, UInt8.ofNat (xn + 2)] rfl rfl (by decide) (by simp [bcs]; omega)) (by omega) (by simp; omega) ?_
      intro A5 n5 c5 W5 ho5 hb5 hg5
      refine wpList_plain rfl (fun K hK => ?_); go_simp; with_reducible refine hK _ _ ?_; clear hK K
      have hbe5 : Below w.heap.size w W5 := (Below.allocS hbe4 _).trans hb5
      have hO5 := (hO4.alloc (.cells #[.int .u8 (xk : Int), .int .u8 ((xn : Int) + 2)] 5)).grown hg5 (fun e => hgo g4 e rfl)
      have hx5 : Rb W5 xA xn xc xd := HX.out.later hbe5
      have hl5 := ho5.1
      have hn5 : n5 ≤ n' + 2 := by rw [← hl5]; have := HBN.out; simp; omega
      have hn5b : n' + 2 ≤ n5 := by rw [← hl5]; have := HBN.out; simp; omega
      have hs5 := hbe5.size
      clear hO4 hx4 ho4 hg5 hb5 hl5 w8 w9 hbe4 hgo
      go_upto_region 8 with (fail)
      refine wp_region_lit ?_
      iterate 2 (refine wpList_plain rfl (fun K hK => ?_); go_simp; with_reducible refine hK _ _ ?_; clear hK K)
      refine wpList_ld1 (t := 105) (cs := opC xk xA xn xc) 24 (.tmp 38) rfl (by rfl) rfl (hO5) rfl Try.underlying24 rfl ?_
      simp only [Act.put, List.setIfInBounds_toArray, List.set_cons_zero, List.set_cons_succ]
      refine wpList_app bt rfl (.tmp 37) (.tmp 39) rfl rfl ho5 rfl hx5 (by omega) (by omega) ?_
      intro A6 n6 c6 W6 ho6 hb6 hg6
      refine wpList_plain rfl (fun K hK => ?_); go_simp; with_reducible refine hK _ _ ?_; clear hK K
      have hbe6 : Below w.heap.size w W6 := hbe5.trans hb6
      have hl6 := ho6.1
      have hn6 : n6 ≤ n' + (xn + 2) := by rw [← hl6]; have := HBN.out; have := HXL.out; simp; omega
      have hn6b : n' + (xn + 2) ≤ n6 := by rw [← hl6]; have := HBN.out; have := HXL.out; simp; omega
      have e6 : bb ++ [UInt8.ofNat xk, UInt8.ofNat (xn + 2)] ++ xd = bb ++ oneO xk xd := by unfold oneO; rw [HXL.out, List.append_assoc]
      rw [e6] at ho6 hl6
      clear hO5 hx5 ho5 hg6 hb6 hbe5
      by_cases k40 : 40 < n' + (xn + 2)
      · have HB1 := HWB.out
        have HE1 := HWE.out
        rw [if_neg (by omega), if_neg k38, if_pos k40] at HB1 HE1
        subst HB1 HE1
        have i40 : (40 : Int) < (n6 : Int) := by omega
        have i41 : 40 < n6 := by omega
        clear hn6 hn5 hn6b hn5b
        go_wp2
        go_ret2
        exact RetBE.nil_ hbe6
      · have HB1 := HWB.out
        have HE1 := HWE.out
        rw [if_neg (by omega), if_neg k38, if_neg k40] at HB1 HE1
        have HB2 := Lib.hid HB1
        have HE2 := Lib.hid HE1
        have i40 : ¬ (40 : Int) < (n6 : Int) := by omega
        have i41 : ¬ 40 < n6 := by omega
        have hbl6 : (bb ++ oneO xk xd).length ≤ 40 := by omega
        clear hn6 hn5 hn6b hn5b HB1 HE1 HWB HWE
        go_wp2
        exact ⟨⟨j + 1, A6, n6, c6, bb ++ oneO xk xd, by omega, by go_num, rfl, ho6, hbl6, hbe6, HB2.out, HE2.out⟩, by simp [intOf]; omega⟩
    · have ij : ¬ (j : Int) < (n : Int) := by omega
      rw [List.drop_of_length_le (by omega)] at hwb hwe
      simp only [List.map_nil, wrB, wrE] at hwb hwe
      subst hwe
      have HRB := Lib.hid hwb
      have HO := Lib.hid ho
      have HB := Lib.hid hbe
      clear hwb ho hbe hbn
      go_upto_region 12 with (fail)
      go_loopw [4] (fun s wr2 => ∃ (A2 : Option Addr) (n2 c2 : Nat) (b2 : List UInt8), s = .slice A2 n2 c2 ∧ Ob wr2 w.heap.size A2 n2 c2 b2 ∧ Below w.heap.size w wr2 ∧ b2.length ≤ 40 ∧ b2 ++ List.replicate (padL b2.length) 0 = RB) (fun s wr2 => match s with | .slice _ n2 _ => (4 - n2 % 4) % 4 | _ => 0)
      case atStart => exact ⟨_, _, _, bb, rfl, HO.out, HB.out, by omega, HRB.out⟩
      case round =>
        clear HO HB HRB
        obtain ⟨A2, n2, c2, b2, rfl, ho, hbe, hl2, hrb⟩ := hrel
        have hn2 : b2.length = n2 := ho.1
        have hsz := hbe.size
        have HL := Lib.hid hn2
        have HRB2 := Lib.hid hrb
        clear hrb hn2
        have hn3 : n2 ≤ 40 := by have := HL.out; omega
        by_cases h4 : n2 % 4 = 0
        · have hm : Int.tmod (n2 : Int) 4 = 0 := by rw [show Int.tmod (n2 : Int) 4 = ((n2 % 4 : Nat) : Int) from rfl, h4]; rfl
          go_wp2
          go_ret2
          have e : b2 = RB := by rw [← HRB2.out]; simp [padL, HL.out, h4]
          rw [← e]
          exact RetBE.mk ho.rb hbe
        · have hm1 : ((Int.tmod (n2 : Int) 4) != 0) = true := by rw [show Int.tmod (n2 : Int) 4 = ((n2 % 4 : Nat) : Int) from rfl]; simp; omega
          have HLN := Lib.hid (show (b2 ++ [(0 : UInt8)]).length ≤ 40 by rw [List.length_append, HL.out]; show n2 + 1 ≤ 40; omega)
          have hm2 : 0 < Int.tmod (n2 : Int) 4 := by rw [show Int.tmod (n2 : Int) 4 = ((n2 % 4 : Nat) : Int) from rfl]; omega
          go_wp2_with (at_builtin; refine wpList_app bt rfl (.tmp 49) (.tmp 50) rfl rfl (ho.alloc _) rfl (Rb.litW _ [0] rfl rfl (by decide) rfl) (by omega) (by simp; omega) ?_; intro A3 n3 c3 w3 ho3 hb3 _)
          have hb4 : Below w.heap.size w w3 := (Below.allocS hbe _).trans hb3
          have hl3 := ho3.1
          have hl4 : n3 = n2 + 1 := by rw [← hl3]; simp [HL.out]
          refine ⟨⟨A3, n3, c3, b2 ++ [0], rfl, ho3, hb4, HLN.out, ?_⟩, ?_⟩
          · rw [← HRB2.out, List.length_append, HL.out]
            have : padL n2 = padL (n2 + 1) + 1 := by unfold padL; omega
            rw [List.append_assoc]
            congr 1
            rw [this]
            rfl
          · simp only [hl4]
            show (4 - (n2 + 1) % 4) % 4 < (4 - n2 % 4) % 4
            omega
end Go.Proofs.Ytknoenceccpkhaa

/- option.Find (chapter 44). -/
namespace Go.Proofs.Ytknoenceccpkhaa
open Go.RowKit
set_option linter.unusedVariables false
set_option linter.unusedSimpArgs false
attribute [local go_sem ↓] sliced_cut

attribute [local go_sem] cutA_zero

attribute [local go_sem] Oper.semAt_some

def firstO (kind : Nat) (P : List Op3) : Option Op3 := P.find? fun q => q.2.1 == kind
theorem firstO_none {kind : Nat} : ∀ {P : List Op3}, (∀ q ∈ P, q.2.1 ≠ kind) → firstO kind P = none
  | [], _ => rfl
  | q :: t, h => by
    have h0 := h q (List.mem_cons_self ..)
    unfold firstO
    rw [List.find?_cons_of_neg (by simpa using h0)]
    exact firstO_none (fun z hz => h z (List.mem_cons_of_mem _ hz))
theorem firstO_some {kind : Nat} (q : Op3) (s : List Op3) (hq : q.2.1 = kind) : ∀ {P : List Op3}, (∀ q ∈ P, q.2.1 ≠ kind) → firstO kind (P ++ q :: s) = some q
  | [], _ => by unfold firstO; rw [List.nil_append, List.find?_cons_of_pos (by simpa using hq)]
  | z :: t, h => by
    have h0 := h z (List.mem_cons_self ..)
    unfold firstO
    rw [List.cons_append, List.find?_cons_of_neg (by simpa using h0)]
    exact firstO_some q s hq (fun z hz => h z (List.mem_cons_of_mem _ hz))
/-- what holds between two rounds -/
def FindI (w W : World) (kind : Nat) (pre : List Ox) (V : World) : Prop := Bk V w.heap.size 5 [.int .u8 (kind : Int)] ∧ Bk V (w.heap.size + 1) 105 (opC 0 none 0 0) ∧ Bk V (w.heap.size + 2) 3 [.int .i64 0] ∧ Bk V (w.heap.size + 3) 4 [.bool false] ∧
  Chg (fun b => b = w.heap.size + 1 ∨ b = w.heap.size + 2 ∨ b = w.heap.size + 3) W V ∧ ∀ x ∈ pre, x.k ≠ kind
def FindX (w W : World) (kind : Nat) (c : Code) (pre : List Ox) (V : World) : Prop := c = .ret ∧ ∃ ini last, pre = ini ++ [last] ∧ (∀ x ∈ ini, x.k ≠ kind) ∧ last.k = kind ∧ Bk V (w.heap.size + 1) 105 (opC last.k last.A last.n last.c) ∧ Bk V (w.heap.size + 2) 3 [.int .i64 last.i] ∧ Bk V (w.heap.size + 3) 4 [.bool true] ∧
  Chg (fun b => b = w.heap.size + 1 ∨ b = w.heap.size + 2 ∨ b = w.heap.size + 3) W V ∧ Rb V last.A last.n last.c last.d ∧ ∀ a, last.A = some a → W.heap.size + 2 ≤ a.block
theorem FindI.chg {w W V V' : World} {kind : Nat} {pre : List Ox} (hw : w.heap.size + 4 ≤ W.heap.size) (h : FindI w W kind pre V) (hc : Chg (fun b => b = W.heap.size ∨ b = W.heap.size + 1) V V') : FindI w W kind pre V' := by
  obtain ⟨h1, h2, h3, h4, h5, h6⟩ := h
  exact ⟨h1.chg hc (by omega), h2.chg hc (by omega), h3.chg hc (by omega), h4.chg hc (by omega), h5.mixd hc (fun b hb => .inr (by omega)), h6⟩
theorem FindX.chg {w W V V' : World} {kind : Nat} {c : Code} {pre : List Ox} (hw : w.heap.size + 4 ≤ W.heap.size) (h : FindX w W kind c pre V) (hc : Chg (fun b => b = W.heap.size ∨ b = W.heap.size + 1) V V') : FindX w W kind c pre V' := by
  obtain ⟨h0, ini, last, e1, e2, e3, h1, h2, h3, h4, h5, h6⟩ := h
  exact ⟨h0, ini, last, e1, e2, e3, h1.chg hc (by omega), h2.chg hc (by omega), h3.chg hc (by omega), h4.mixd hc (fun b hb => .inr (by omega)), h5.chg hc (fun a e => by have := h6 a e; omega), h6⟩
/-- what Find hands back -/
def RetFind (w : World) (kind : Nat) (r : Option Op3) (e : Ending) (w' : World) : Prop := ∃ bs d, w' = plus w bs d ∧
  ((∃ i A' n' c' d', e = .returned (.tuple #[.agg (opC kind A' n' c').toArray, .int .i64 i, .bool true]) ∧ Rb w' A' n' c' d' ∧ r = some (i, kind, d')) ∨ (e = .returned (.tuple #[.agg (opC 0 none 0 0).toArray, .int .i64 0, .bool false]) ∧ r = none))
theorem results_find {fn : Func} {s1 s2 s3 g : Nat} (hfr : fn.results = #[.cell s1 105, .cell s2 3, .cell s3 4]) {tmps : Array Value} {w : World} {k : Nat} {A : Option Addr} {n c : Nat} {i : Int} {b : Bool}
    (h1 : tmps.getD s1 undef = .pointer (some ⟨g, 0, none⟩)) (h2 : tmps.getD s2 undef = .pointer (some ⟨g + 1, 0, none⟩)) (h3 : tmps.getD s3 undef = .pointer (some ⟨g + 2, 0, none⟩))
    (b1 : Bk w g 105 (opC k A n c)) (b2 : Bk w (g + 1) 3 [.int .i64 i]) (b3 : Bk w (g + 2) 4 [.bool b]) :
    (results fn tmps).run Try.prog w = .ok (.tuple #[.agg (opC k A n c).toArray, .int .i64 i, .bool b]) w := by
  obtain ⟨d, r1, r2⟩ := rowOp
  have e1 := run_loadVar_mid (P := Try.prog) w g 0 105 (opC k A n c) d (Bk.range b1) r1 r2 (szOp _ _ _ _)
  have e2 : w.cell? ⟨g + 1, 0, none⟩ = some (.int .i64 i) := b2.cell 0
  have e3 : w.cell? ⟨g + 2, 0, none⟩ = some (.bool b) := b3.cell 0
  have g1 : tmps[s1]?.getD undef = .pointer (some ⟨g, 0, none⟩) := by simpa using h1
  have g2 : tmps[s2]?.getD undef = .pointer (some ⟨g + 1, 0, none⟩) := by simpa using h2
  have g3 : tmps[s3]?.getD undef = .pointer (some ⟨g + 2, 0, none⟩) := by simpa using h3
  have i2 : (isAgg 3).run Try.prog w = .ok false w := by kernel_rfl
  have i3 : (isAgg 4).run Try.prog w = .ok false w := by kernel_rfl
  have l2 : (loadVar 3 ⟨g + 1, 0, none⟩).run Try.prog w = .ok (.int .i64 i) w := by simp [loadVar, Sem.run_bind, i2, run_load, e2]
  have l3 : (loadVar 4 ⟨g + 2, 0, none⟩).run Try.prog w = .ok (.bool b) w := by simp [loadVar, Sem.run_bind, i3, run_load, e3]
  simp [results, hfr, g1, g2, g3, asAddr, e1, l2, l3, Sem.run_bind, Result.andThen]
set_option maxHeartbeats 4000000 in
set_option maxRecDepth 100000 in
theorem find44_any (A : Option Addr) (n c : Nat) (l : List UInt8) (w : World) (hr : Rb w A n c l) (hn : n ≤ 1000) (kind : Nat) : Calls Try.prog 39 #[.slice A n c, .int .u8 (kind : Int)] w (RetFind w kind (firstO kind (opts l))) := by
  refine callsIn_wide (n := 0).1 ?_
  refine callsIn_of_wp_marks Try.func39 rfl trivial ?_ rfl
  simp only [Try.ntmps39, List.size_toArray, List.length_cons, List.length_nil, Nat.reduceAdd, Nat.reduceSub, Array.replicate_succ, Array.replicate_zero, List.push_toArray, List.append_toArray, List.nil_append, List.cons_append]
  refine wpIn_wide.2 ?_
  go_upto_region 1 with (fail)
  have hk0 : Bk ((((w.alloc (.cells #[.int .u8 (kind : Int)] 5)).alloc (.cells (opC 0 none 0 0).toArray 105)).alloc (.cells #[.int .i64 0] 3)).alloc (.cells #[.bool false] 4)) w.heap.size 5 [.int .u8 (kind : Int)] := (((Bk.new w 5 #[.int .u8 (kind : Int)]).alloc _).alloc _).alloc _
  have h10 : Bk ((((w.alloc (.cells #[.int .u8 (kind : Int)] 5)).alloc (.cells (opC 0 none 0 0).toArray 105)).alloc (.cells #[.int .i64 0] 3)).alloc (.cells #[.bool false] 4)) (w.heap.size + 1) 105 (opC 0 none 0 0) := ((Bk.newK _ _ _ (by simp) rfl).alloc _).alloc _
  have h20 : Bk ((((w.alloc (.cells #[.int .u8 (kind : Int)] 5)).alloc (.cells (opC 0 none 0 0).toArray 105)).alloc (.cells #[.int .i64 0] 3)).alloc (.cells #[.bool false] 4)) (w.heap.size + 2) 3 [.int .i64 0] := (Bk.newK _ _ _ (by simp) rfl).alloc _
  have h30 : Bk ((((w.alloc (.cells #[.int .u8 (kind : Int)] 5)).alloc (.cells (opC 0 none 0 0).toArray 105)).alloc (.cells #[.int .i64 0] 3)).alloc (.cells #[.bool false] 4)) (w.heap.size + 3) 4 [.bool false] := Bk.newK _ _ _ (by simp) rfl
  have be : Below w.heap.size w ((((w.alloc (.cells #[.int .u8 (kind : Int)] 5)).alloc (.cells (opC 0 none 0 0).toArray 105)).alloc (.cells #[.int .i64 0] 3)).alloc (.cells #[.bool false] 4)) := Below.allocS (Below.allocS (Below.allocS (Below.allocS (Below.refl _ _) _) _) _) _
  have hrV := (((hr.alloc (.cells #[.int .u8 (kind : Int)] 5)).alloc (.cells (opC 0 none 0 0).toArray 105)).alloc (.cells #[.int .i64 0] 3)).alloc (.cells #[.bool false] 4)
  have zV : w.heap.size + 4 ≤ ((((w.alloc (.cells #[.int .u8 (kind : Int)] 5)).alloc (.cells (opC 0 none 0 0).toArray 105)).alloc (.cells #[.int .i64 0] 3)).alloc (.cells #[.bool false] 4)).heap.size := by simp
  simp only [opC] at hk0 h10 h20 h30 be hrV zV
  generalize (((w.alloc (.cells #[.int .u8 (kind : Int)] 5)).alloc (.cells #[.int .u8 0, .slice none 0 0] 105)).alloc (.cells #[.int .i64 0] 3)).alloc (.cells #[.bool false] 4) = V at *
  go_upto_region 2 with (go_at_call 98; refine (all_mk A n c l V hrV (by omega)).mono ?_; rintro e W ⟨g, A1, n1, c1, rfl, be1, zg, hg, hr1, ha1⟩)
  have zW := be1.size
  have hk1 := hk0.later be1
  have h11 := h10.later be1
  have h21 := h20.later be1
  have h31 := h30.later be1
  replace be := be.trans (be1.mono be.size)
  have n1e := hr1.1
  have n2e := hr.1
  clear hk0 h10 h20 h30 hrV be1
  go_wp2
  refine (wpIn_wide (n := 0)).1 ?_
  refine wp_rangeF 136 #[.pointer (some ⟨g, 0, none⟩)] rfl (enters_of Try.func136 (by kernel_rfl) rfl) (all_iter W g A1 n1 c1 l hg hr1 (by omega) (fun b => b = g ∨ ∃ a, A1 = some a ∧ a.block = b) (.inl rfl) (fun a e => .inr ⟨a, e, rfl⟩)) (fun _ => rfl)
    (fun b => b = w.heap.size + 1 ∨ b = w.heap.size + 2 ∨ b = w.heap.size + 3) ?hFp ?hown (FindI w W kind) (FindX w W kind) ?hI ?hIx ?h0 ?hround ?hdone ?hstop
  case hFp =>
    rintro b (rfl | ⟨a, e, rfl⟩)
    · exact hg.lt
    · exact (ha1 a e).2.2
  case hown =>
    intro b hb
    refine ⟨by omega, ?_⟩
    rintro (e | ⟨a, e, e2⟩)
    · omega
    · have := (ha1 a e).1
      omega
  case hI => exact fun pre V V' h hc => h.chg (by omega) hc
  case hIx => exact fun c pre V V' h hc => h.chg (by omega) hc
  case h0 => exact ⟨hk1, h11, h21, h31, Chg.refl _, by simp⟩
  case hround =>
    rintro pre ⟨xi, xk, xA, xn, xc, xd⟩ V0 V4 hI hb ⟨hok1, hok2⟩ hsz
    simp only [opC] at *
    gi_wp2
    refine ⟨Chg.of_below (Below.allocS (Below.refl _ _) _), fun V2 hc2 => ?_⟩
    obtain ⟨i1, i2, i3, i4, i5, i6⟩ := hI
    have hsb := hb.size
    have hs2 := hc2.size
    simp only [World.size_alloc] at hs2
    have hbA : Below V4.heap.size V4 (V4.alloc (.cells #[.int .u8 (xk : Int), .slice xA xn xc] 105)) := Below.allocS (Below.refl _ _) _
    have g1 := ((i1.later hb).later hbA).chg hc2 (by omega)
    have g2 := ((i2.later hb).later hbA).chg hc2 (by omega)
    have g3 := ((i3.later hb).later hbA).chg hc2 (by omega)
    have g4 := ((i4.later hb).later hbA).chg hc2 (by omega)
    have g8 := (Bk.new V4 105 #[.int .u8 (xk : Int), .slice xA xn xc]).chg hc2 (by omega)
    have hcX : Chg (fun b => b = W.heap.size + 1) V0 V2 := ((Chg.of_below hb).trans (Chg.of_below hbA)).trans hc2
    have h5' : Chg (fun b => b = w.heap.size + 1 ∨ b = w.heap.size + 2 ∨ b = w.heap.size + 3) W V2 := i5.mixd hcX (fun b hb => .inr (by omega))
    have hxr : Rb V2 xA xn xc xd := ((hok1.later hbA).chg hc2 (fun a e => by have := (hok2 a e).1; omega))
    have hxb : ∀ a, xA = some a → W.heap.size + 2 ≤ a.block := fun a e => by have := (hok2 a e).1; omega
    have q0 : V2.cell? ⟨w.heap.size, 0, none⟩ = some (.int .u8 (kind : Int)) := g1.cell 0
    have q8 : V2.cell? ⟨V4.heap.size, 0, none⟩ = some (.int .u8 (xk : Int)) := g8.cell 0
    by_cases hx : xk = kind
    · subst hx
      have q9 : V2.cell? ⟨V4.heap.size, 1, none⟩ = some (.slice xA xn xc) := g8.cell 1
      have b1 : V2.cell? ⟨w.heap.size + 1, 0, none⟩ = some (.int .u8 0) := g2.cell 0
      have b1f := g2.frozen 0
      have b2 : V2.cell? ⟨w.heap.size + 1, 1, none⟩ = some (.slice none 0 0) := g2.cell 1
      have b2f := g2.frozen 1
      have b3 : V2.cell? ⟨w.heap.size + 2, 0, none⟩ = some (.int .i64 0) := g3.cell 0
      have b3f := g3.frozen 0
      have b4 : V2.cell? ⟨w.heap.size + 3, 0, none⟩ = some (.bool false) := g4.cell 0
      have b4f := g4.frozen 0
      gi_wp2
      have cc : Chg (fun b => b = w.heap.size + 1 ∨ b = w.heap.size + 2 ∨ b = w.heap.size + 3) V2 ((((V2.setCell ⟨w.heap.size + 1, 0, none⟩ (.int .u8 (xk : Int))).setCell ⟨w.heap.size + 1, 1, none⟩ (.slice xA xn xc)).setCell ⟨w.heap.size + 1 + 1, 0, none⟩ (.int .i64 xi)).setCell ⟨w.heap.size + 1 + 1 + 1, 0, none⟩ (.bool true)) :=
        (((Chg.setC _ (.inl rfl) _).trans (Chg.setC _ (.inl rfl) _)).trans (Chg.setC _ (.inr (.inl rfl)) _)).trans (Chg.setC _ (.inr (.inr rfl)) _)
      have k1 := (((g2.set_ 0 (.int .u8 (xk : Int))).set_ 1 (.slice xA xn xc)).far (p := ⟨w.heap.size + 1 + 1, 0, none⟩) (by simp) (.int .i64 xi)).far (p := ⟨w.heap.size + 1 + 1 + 1, 0, none⟩) (by simp) (.bool true)
      have k2 := ((((g3.far (p := ⟨w.heap.size + 1, 0, none⟩) (by simp) (.int .u8 (xk : Int))).far (p := ⟨w.heap.size + 1, 1, none⟩) (by simp) (.slice xA xn xc)).set_ 0 (.int .i64 xi)).far (p := ⟨w.heap.size + 1 + 1 + 1, 0, none⟩) (by simp) (.bool true))
      have k3 := (((g4.far (p := ⟨w.heap.size + 1, 0, none⟩) (by simp) (.int .u8 (xk : Int))).far (p := ⟨w.heap.size + 1, 1, none⟩) (by simp) (.slice xA xn xc)).far (p := ⟨w.heap.size + 1 + 1, 0, none⟩) (by simp) (.int .i64 xi)).set_ 0 (.bool true)
      exact ⟨cc.widen (fun b h => .inl h), rfl, pre, _, rfl, i6, rfl, k1, k2, k3, h5'.trans cc, hxr.chg cc (fun a e h => by have := hxb a e; omega), hxb⟩
    · have hx1 : ((xk : Int) == (kind : Int)) = false := by simp; omega
      gi_wp2
      refine ⟨Chg.refl _, g1, g2, g3, g4, h5', fun y hy => ?_⟩
      rcases List.mem_append.1 hy with h | h
      · exact i6 y h
      · simp only [List.mem_cons, List.not_mem_nil, or_false] at h
        subst h
        exact hx
  case hdone =>
    intro xs V4 hS ⟨i1, i2, i3, i4, i5, i6⟩ hK
    have b1 : V4.cell? ⟨w.heap.size + 1, 0, none⟩ = some (.int .u8 0) := i2.cell 0
    have b1f := i2.frozen 0
    have b2 : V4.cell? ⟨w.heap.size + 1, 1, none⟩ = some (.slice none 0 0) := i2.cell 1
    have b2f := i2.frozen 1
    have b3 : V4.cell? ⟨w.heap.size + 2, 0, none⟩ = some (.int .i64 0) := i3.cell 0
    have b3f := i3.frozen 0
    have b4 : V4.cell? ⟨w.heap.size + 3, 0, none⟩ = some (.bool false) := i4.cell 0
    have b4f := i4.frozen 0
    go_wp2
    have hsV := i5.size
    have cc : Chg (fun b => b = w.heap.size + 1 ∨ b = w.heap.size + 2 ∨ b = w.heap.size + 3) V4 ((((V4.setCell ⟨w.heap.size + 1, 0, none⟩ (.int .u8 0)).setCell ⟨w.heap.size + 1, 1, none⟩ (.slice none 0 0)).setCell ⟨w.heap.size + 1 + 1, 0, none⟩ (.int .i64 0)).setCell ⟨w.heap.size + 1 + 1 + 1, 0, none⟩ (.bool false)) :=
      (((Chg.setC _ (.inl rfl) _).trans (Chg.setC _ (.inl rfl) _)).trans (Chg.setC _ (.inr (.inl rfl)) _)).trans (Chg.setC _ (.inr (.inr rfl)) _)
    have k1 := (((i2.set_ 0 (.int .u8 0)).set_ 1 (.slice none 0 0)).far (p := ⟨w.heap.size + 1 + 1, 0, none⟩) (by simp) (.int .i64 0)).far (p := ⟨w.heap.size + 1 + 1 + 1, 0, none⟩) (by simp) (.bool false)
    have k2 := ((((i3.far (p := ⟨w.heap.size + 1, 0, none⟩) (by simp) (.int .u8 0)).far (p := ⟨w.heap.size + 1, 1, none⟩) (by simp) (.slice none 0 0)).set_ 0 (.int .i64 0)).far (p := ⟨w.heap.size + 1 + 1 + 1, 0, none⟩) (by simp) (.bool false))
    have k3 := (((i4.far (p := ⟨w.heap.size + 1, 0, none⟩) (by simp) (.int .u8 0)).far (p := ⟨w.heap.size + 1, 1, none⟩) (by simp) (.slice none 0 0)).far (p := ⟨w.heap.size + 1 + 1, 0, none⟩) (by simp) (.int .i64 0)).set_ 0 (.bool false)
    have hK' := (cc.block W.heap.size (Array.getElem?_eq_some_iff.1 hK).1 (by omega)).trans hK
    have hC2 := i5.trans cc
    clear cc hK b1 b1f b2 b2f b3 b3f b4 b4f
    refine ⟨by simp, .inl ⟨_, _, rfl, run_takeDeferred hK', ?_⟩⟩
    clear hK'
    generalize (((V4.setCell ⟨w.heap.size + 1, 0, none⟩ (.int .u8 0)).setCell ⟨w.heap.size + 1, 1, none⟩ (.slice none 0 0)).setCell ⟨w.heap.size + 1 + 1, 0, none⟩ (.int .i64 0)).setCell ⟨w.heap.size + 1 + 1 + 1, 0, none⟩ (.bool false) = W6 at *
    have hc9 := chg_put W6 W.heap.size (.deferred none)
    refine ⟨_, results_find (g := w.heap.size + 1) (k := 0) (A := none) (n := 0) (c := 0) (i := 0) (b := false) rfl rfl rfl rfl (k1.chg hc9 (by omega)) (k2.chg hc9 (by omega)) (k3.chg hc9 (by omega)), ?_⟩
    have hs6 := hC2.size
    have hb9 : Below w.heap.size w (W6.putObj W.heap.size (.deferred none)) := (be.trans (hC2.below (B := w.heap.size) (fun b hb => by omega) (by omega))).trans (hc9.below (fun b hb => by omega) (by omega))
    obtain ⟨bs9, d9, hw9⟩ := plus_of hb9
    refine ⟨bs9, d9, hw9, .inr ⟨rfl, firstO_none (fun q hq => ?_)⟩⟩
    rw [← hS] at hq
    obtain ⟨x, hx, rfl⟩ := List.mem_map.1 hq
    exact i6 x hx
  case hstop =>
    rintro c pre V4 ⟨s, hs⟩ ⟨rfl, ini, last, rfl, hini, hlast, k1, k2, k3, hC, hx, hxb⟩ hK
    gi_wp2
    refine ⟨by simp, .inl ⟨_, _, rfl, run_takeDeferred hK, ?_⟩⟩
    have hc9 := chg_put V4 W.heap.size (.deferred none)
    have hs6 := hC.size
    refine ⟨_, results_find (g := w.heap.size + 1) rfl rfl rfl rfl (k1.chg hc9 (by omega)) (k2.chg hc9 (by omega)) (k3.chg hc9 (by omega)), ?_⟩
    have hb9 : Below w.heap.size w (V4.putObj W.heap.size (.deferred none)) := (be.trans (hC.below (B := w.heap.size) (fun b hb => by omega) (by omega))).trans (hc9.below (fun b hb => by omega) (by omega))
    obtain ⟨bs9, d9, hw9⟩ := plus_of hb9
    refine ⟨bs9, d9, hw9, .inl ⟨last.i, last.A, last.n, last.c, last.d, by rw [hlast], hx.chg hc9 (fun a e => by have := hxb a e; omega), ?_⟩⟩
    rw [← hs, List.map_append, List.append_assoc]
    show firstO kind (ini.map Ox.p ++ last.p :: s) = _
    rw [firstO_some last.p s hlast (fun q hq => by obtain ⟨x, hx, rfl⟩ := List.mem_map.1 hq; exact hini x hx), ← hlast]
    rfl
end Go.Proofs.Ytknoenceccpkhaa

/- The reference's All and Find (chapter 44). -/
namespace Go.Proofs.Ytknoenceccpkhaa
open Go.RowKit
set_option linter.unusedVariables false
set_option linter.unusedSimpArgs false
attribute [local go_sem ↓] sliced_cut

attribute [local go_sem] cutA_zero

theorem optF_len : ∀ (f : Nat) (l : List UInt8) (i : Nat), (optF f l i).length ≤ l.length - i
  | 0, _, _ => by simp [optF]
  | f + 1, l, i => by
    unfold optF
    split
    · simp
    split
    · simp
    split
    · have := optF_len f l (i + 1)
      omega
    split
    · simp
    split
    · simp
    split
    · simp
    have := optF_len f l (i + bat l (i + 1))
    simp only [List.length_cons]
    omega
theorem opts_len (l : List UInt8) : (opts l).length ≤ l.length := optF_len _ l 0
set_option maxHeartbeats 4000000 in
set_option maxRecDepth 100000 in
theorem refAll_any (A : Option Addr) (n c : Nat) (l : List UInt8) (w : World) (hr0 : Rb w A n c l) (hn : n ≤ 1000) : Calls Try.prog 45 #[.slice A n c] w (RetAll w (opts l)) := by
  obtain ⟨R, eR⟩ : ∃ R, R = opts l := ⟨_, rfl⟩
  rw [← eR]
  have HR := Lib.hid eR
  have HLN := Lib.hid (show R.length ≤ n by rw [eR, ← hr0.1]; exact opts_len l)
  clear eR
  have HL := Lib.hid hr0.1
  have HRB := Lib.hid hr0
  clear hr0
  go_enter Try.func45, Try.ntmps45
  go_upto_region 3 with (fail)
  go_loopw [3, 4] (fun s ii wr => ∃ (i f : Nat) (A' : Option Addr) (n' c' : Nat) (pre : List Ox), ii = .int .i64 (i : Int) ∧ i ≤ n ∧ n - i < f ∧ s = .slice A' n' c' ∧ Os 119 3 wr w.heap.size A' n' c' (pre.flatMap rxC) ∧ (∀ x ∈ pre, Rb w x.A x.n x.c x.d) ∧ Below w.heap.size w wr ∧ pre.map Ox.p ++ optF f l i = R) (fun _ ii _ => n - (intOf ii).toNat)
  case atStart => exact ⟨0, l.length + 1, none, 0, 0, [], rfl, Nat.zero_le _, by rw [HL.out]; omega, rfl, Os.nil_, by simp, Below.refl _ _, HR.out.symm⟩
  case round =>
    clear HR
    obtain ⟨i, f, A', n', c', pre, rfl, hi, hf, rfl, ho, hpd, hbe, hst⟩ := hrel
    obtain ⟨f, rfl⟩ : ∃ g, f = g + 1 := ⟨f - 1, by omega⟩
    have hr := HRB.out.later hbe
    have hbs := hbe.size
    have hnp : n' = pre.length := by have := ho.1; rw [flat_len rxC 3 rxC_len] at this; omega
    have hnl : n' ≤ n := by
      have h1 := congrArg List.length hst
      rw [List.length_append, List.length_map] at h1
      have := HLN.out
      omega
    unfold optF at hst
    rw [HL.out] at hst
    clear hnp
    by_cases hin : n ≤ i
    · rw [if_pos hin, List.append_nil] at hst
      have HS := Lib.hid hst
      clear hst
      have hin' : ¬ i < n := by omega
      clear hr
      go_wp2
      go_ret
      obtain ⟨bs9, d9, hw9⟩ := plus_of hbe
      exact ⟨A', n', c', pre, bs9, d9, rfl, hw9, ho.rs, fun x hx => (hpd x hx).later hbe, HS.out⟩
    rw [if_neg hin] at hst
    obtain ⟨b, off, rfl, hb, hcell⟩ := hr.2.2.at_ (by rw [bcs_length, HL.out]; omega)
    have hlt : i < n := by omega
    have hcp := hr.2.1
    have hc0 := bat_cell (B := 0) hcell i (by rw [HL.out]; omega)
    have hx := bat_lt l i
    have hy := bat_lt l (i + 1)
    have hc1 : i + 1 < n → wr.cell? ⟨b, off + (i + 1), none⟩ = some (.int .u8 (bat l (i + 1) : Nat)) := fun h => bat_cell (B := 0) hcell (i + 1) (by rw [HL.out]; omega)
    have HRW := Lib.hid hr
    clear hcell hin hr
    generalize bat l i = x0 at *
    generalize bat l (i + 1) = y at *
    by_cases h0 : x0 = 0
    · rw [if_pos h0, List.append_nil] at hst
      have HS := Lib.hid hst
      subst h0
      clear hst hc1
      go_wp2
      go_ret
      obtain ⟨bs9, d9, hw9⟩ := plus_of hbe
      exact ⟨A', n', c', pre, bs9, d9, rfl, hw9, ho.rs, fun x hx => (hpd x hx).later hbe, HS.out⟩
    rw [if_neg h0] at hst
    have b0 : ((x0 : Int) == 0) = false := by simpa using h0
    have n0 : ((x0 : Int) != 0) = true := by simpa using h0
    by_cases h1 : x0 = 1
    · rw [if_pos h1] at hst
      have HS := Lib.hid hst
      subst h1
      clear hst hc1 b0 n0 h0
      go_wp2
      exact ⟨⟨i + 1, f, A', n', c', pre, by go_num, by omega, by omega, rfl, ho, hpd, hbe, HS.out⟩, by simp [intOf]; omega⟩
    rw [if_neg h1] at hst
    have b1 : ((x0 : Int) == 1) = false := by simp; omega
    by_cases h2 : n - i < 2
    · rw [if_pos h2, List.append_nil] at hst
      have HS := Lib.hid hst
      have hk : i + 1 = n := by omega
      clear hst hc1
      go_wp2
      go_ret
      obtain ⟨bs9, d9, hw9⟩ := plus_of hbe
      exact ⟨A', n', c', pre, bs9, d9, rfl, hw9, ho.rs, fun x hx => (hpd x hx).later hbe, HS.out⟩
    rw [if_neg h2] at hst
    have hk2 : i + 1 < n := by omega
    replace hc1 := hc1 hk2
    have w2 : IntKind.i64.wrap ((i : Int) + (y : Int)) = (i : Int) + (y : Int) := IntWalk.i64_in _ (by omega)
    by_cases h3 : y < 2
    · rw [if_pos h3, List.append_nil] at hst
      have HS := Lib.hid hst
      clear hst
      go_wp2
      go_ret
      obtain ⟨bs9, d9, hw9⟩ := plus_of hbe
      exact ⟨A', n', c', pre, bs9, d9, rfl, hw9, ho.rs, fun x hx => (hpd x hx).later hbe, HS.out⟩
    rw [if_neg h3] at hst
    by_cases h4 : n - i < y
    · rw [if_pos h4, List.append_nil] at hst
      have HS := Lib.hid hst
      have h5 : (n : Int) < (i : Int) + (y : Int) := by omega
      clear hst
      go_wp2
      go_ret
      obtain ⟨bs9, d9, hw9⟩ := plus_of hbe
      exact ⟨A', n', c', pre, bs9, d9, rfl, hw9, ho.rs, fun x hx => (hpd x hx).later hbe, HS.out⟩
    rw [if_neg h4] at hst
    have h5 : ¬ (n : Int) < (i : Int) + (y : Int) := by omega
    have HS := Lib.hid hst
    clear hst
    have hcut : Rb w (cutA (some ⟨b, off, none⟩) c (i + 2) 1) (y - 2) (c - (i + 2)) ((l.drop (i + 2)).take (y - 2)) := (HRB.out.cut (k := i + 2) (by omega)).take (k := y - 2) (by omega)
    have HCUT := Lib.hid hcut
    have HC0 := Lib.hid (fun (W : World) (h : Below wr.heap.size wr W) => show W.cell? ⟨b, off + i, none⟩ = some (.int .u8 (x0 : Int)) from (h.cell (p := ⟨b, off + i, none⟩) hb).trans hc0)
    have w1 : IntKind.i64.wrap ((i : Int) + 2) = (i : Int) + 2 := IntWalk.i64_in _ (by omega)
    have f1 : (i : Int) + (y : Int) ≤ (c : Int) := by omega
    have f2 : 0 ≤ (i : Int) + (y : Int) := by omega
    have f3 : (2 : Int) ≤ (y : Int) := by omega
    have f4 : 0 ≤ (i : Int) + 2 := by omega
    have f5 : max ((i : Int) + (y : Int)) 0 = (i : Int) + (y : Int) := by omega
    have f6 : ((i : Int) + 2).toNat = i + 2 := by omega
    have f7 : ((i : Int) + (y : Int)).toNat = i + y := by omega
    have f8 : i + y - (i + 2) = y - 2 := by omega
    clear hcut
    go_upto_region 13 with (fail)
    clear hc0 hc1
    go_wp2
    refine wp_relS 15 66 rfl (by kernel_rfl) (by kernel_rfl) ?_
    apply Steps.one (MP.eq _) 1 rfl
    · intro o ho FA x hO hD K hK
      obtain rfl := Option.some.inj ho.symm
      clear ho
      have e3 := hO 3 (by kernel_rfl)
      simp only [eval_tmp, List.getElem?_toArray, List.getElem?_cons_succ, List.getElem?_cons_zero, Option.getD_some] at e3
      have ev3 := Lib.hid ((eval_tmp FA 3).trans e3)
      clear hO hD
      go_simp
      exact hK.out _ _ (Ex.refl _) rfl
    apply Steps.one (MP.eq _) 2 rfl
    · intro o ho FA x hO hD K hK
      obtain rfl := Option.some.inj ho.symm
      clear ho
      have e4 := hO 4 (by kernel_rfl)
      simp only [eval_tmp, List.getElem?_toArray, List.getElem?_cons_succ, List.getElem?_cons_zero, Option.getD_some] at e4
      have ev4 := Lib.hid ((eval_tmp FA 4).trans e4)
      clear hO hD
      go_simp
      exact hK.out _ _ (Ex.refl _) rfl
    apply Steps.one (MP.eq _) 3 rfl
    · intro o ho FA x hO hD K hK
      obtain rfl := Option.some.inj ho.symm
      clear ho
      have e0 := hO 0 (by kernel_rfl)
      simp only [eval_tmp, List.getElem?_toArray, List.getElem?_cons_succ, List.getElem?_cons_zero, Option.getD_some] at e0
      have ev0 := Lib.hid ((eval_tmp FA 0).trans e0)
      clear hO hD
      go_simp
      exact hK.out _ _ (Ex.refl _) rfl
    apply Steps.one (MP.eq _) 4 rfl
    · intro o ho FA x hO hD K hK
      obtain rfl := Option.some.inj ho.symm
      clear ho
      have e4 := hO 4 (by kernel_rfl)
      simp only [eval_tmp, List.getElem?_toArray, List.getElem?_cons_succ, List.getElem?_cons_zero, Option.getD_some] at e4
      have ev4 := Lib.hid ((eval_tmp FA 4).trans e4)
      clear hO hD
      go_simp
      exact hK.out _ _ (Ex.refl _) rfl
    apply Steps.one (MP.eq _) 5 rfl
    · intro o ho FA x hO hD K hK
      obtain rfl := Option.some.inj ho.symm
      clear ho
      have ev48 : FA.eval (.tmp 48) = _ := hD 2 48 (by kernel_rfl)
      have e48 := (eval_tmp FA 48).symm.trans ev48
      replace ev48 := Lib.hid ev48
      have ev49 : FA.eval (.tmp 49) = _ := hD 3 49 (by kernel_rfl)
      have e49 := (eval_tmp FA 49).symm.trans ev49
      replace ev49 := Lib.hid ev49
      clear hO hD
      go_simp
      exact hK.out _ _ (Ex.refl _) rfl
    apply Steps.one (MP.eq _) 6 rfl
    · intro o ho FA x hO hD K hK
      obtain rfl := Option.some.inj ho.symm
      clear ho
      have ev50 : FA.eval (.tmp 50) = _ := hD 4 50 (by kernel_rfl)
      have e50 := (eval_tmp FA 50).symm.trans ev50
      replace ev50 := Lib.hid ev50
      clear hO hD
      have q9 := (HC0.out (plus wr x.bs x.d) (below_plus _ _ _))
      go_simp
      exact hK.out _ _ (Ex.refl _) rfl
    apply Steps.one (MP.eq _) 7 rfl
    · intro o ho FA x hO hD K hK
      obtain rfl := Option.some.inj ho.symm
      clear ho
      have e0 := hO 0 (by kernel_rfl)
      simp only [eval_tmp, List.getElem?_toArray, List.getElem?_cons_succ, List.getElem?_cons_zero, Option.getD_some] at e0
      have ev0 := Lib.hid ((eval_tmp FA 0).trans e0)
      clear hO hD
      go_simp
      exact hK.out _ _ (Ex.refl _) rfl
    apply Steps.one (MP.eq _) 8 rfl
    · intro o ho FA x hO hD K hK
      obtain rfl := Option.some.inj ho.symm
      clear ho
      have e4 := hO 4 (by kernel_rfl)
      simp only [eval_tmp, List.getElem?_toArray, List.getElem?_cons_succ, List.getElem?_cons_zero, Option.getD_some] at e4
      have ev4 := Lib.hid ((eval_tmp FA 4).trans e4)
      clear hO hD
      go_simp
      exact hK.out _ _ (Ex.refl _) rfl
    apply Steps.one (MP.eq _) 9 rfl
    · intro o ho FA x hO hD K hK
      obtain rfl := Option.some.inj ho.symm
      clear ho
      have ev53 : FA.eval (.tmp 53) = _ := hD 7 53 (by kernel_rfl)
      have e53 := (eval_tmp FA 53).symm.trans ev53
      replace ev53 := Lib.hid ev53
      clear hO hD
      go_simp
      exact hK.out _ _ (Ex.refl _) rfl
    apply Steps.one (MP.eq _) 10 rfl
    · intro o ho FA x hO hD K hK
      obtain rfl := Option.some.inj ho.symm
      clear ho
      have e4 := hO 4 (by kernel_rfl)
      simp only [eval_tmp, List.getElem?_toArray, List.getElem?_cons_succ, List.getElem?_cons_zero, Option.getD_some] at e4
      have ev4 := Lib.hid ((eval_tmp FA 4).trans e4)
      clear hO hD
      go_simp
      exact hK.out _ _ (Ex.refl _) rfl
    apply Steps.one (MP.eq _) 11 rfl
    · intro o ho FA x hO hD K hK
      obtain rfl := Option.some.inj ho.symm
      clear ho
      have e5 := hO 5 (by kernel_rfl)
      simp only [eval_tmp, List.getElem?_toArray, List.getElem?_cons_succ, List.getElem?_cons_zero, Option.getD_some] at e5
      have ev5 := Lib.hid ((eval_tmp FA 5).trans e5)
      clear hO hD
      go_simp
      exact hK.out _ _ (Ex.refl _) rfl
    apply Steps.one (MP.eq _) 12 rfl
    · intro o ho FA x hO hD K hK
      obtain rfl := Option.some.inj ho.symm
      clear ho
      have ev55 : FA.eval (.tmp 55) = _ := hD 9 55 (by kernel_rfl)
      have e55 := (eval_tmp FA 55).symm.trans ev55
      replace ev55 := Lib.hid ev55
      have ev56 : FA.eval (.tmp 56) = _ := hD 10 56 (by kernel_rfl)
      have e56 := (eval_tmp FA 56).symm.trans ev56
      replace ev56 := Lib.hid ev56
      clear hO hD
      go_simp
      exact hK.out _ _ (Ex.refl _) rfl
    apply Steps.one (MP.eq (.slice (cutA (some ⟨b, off, none⟩) c (i + 2) 1) (y - 2) (c - (i + 2)))) 13 rfl
    · intro o ho FA x hO hD K hK
      obtain rfl := Option.some.inj ho.symm
      clear ho
      have ev52 : FA.eval (.tmp 52) = _ := hD 6 52 (by kernel_rfl)
      have e52 := (eval_tmp FA 52).symm.trans ev52
      replace ev52 := Lib.hid ev52
      have ev54 : FA.eval (.tmp 54) = _ := hD 8 54 (by kernel_rfl)
      have e54 := (eval_tmp FA 54).symm.trans ev54
      replace ev54 := Lib.hid ev54
      have ev57 : FA.eval (.tmp 57) = _ := hD 11 57 (by kernel_rfl)
      have e57 := (eval_tmp FA 57).symm.trans ev57
      replace ev57 := Lib.hid ev57
      clear hO hD
      go_simp
      exact hK.out _ _ (Ex.refl _) rfl
    apply Steps.one (MP.eq _) 14 rfl
    · intro o ho FA x hO hD K hK
      obtain rfl := Option.some.inj ho.symm
      clear ho
      have ev47 : FA.eval (.tmp 47) = _ := hD 1 47 (by kernel_rfl)
      have e47 := (eval_tmp FA 47).symm.trans ev47
      replace ev47 := Lib.hid ev47
      have ev51 : FA.eval (.tmp 51) = _ := hD 5 51 (by kernel_rfl)
      have e51 := (eval_tmp FA 51).symm.trans ev51
      replace ev51 := Lib.hid ev51
      have ev58 : FA.eval (.tmp 58) = _ := hD 12 58 (by kernel_rfl)
      have e58 := (eval_tmp FA 58).symm.trans ev58
      replace ev58 := Lib.hid ev58
      clear hO hD
      go_simp
      exact hK.out _ _ (Ex.refl _) rfl
    apply Steps.one (MP.os 119 3 w.heap.size (rxC ⟨(i : Int), x0, cutA (some ⟨b, off, none⟩) c (i + 2) 1, y - 2, c - (i + 2), (l.drop (i + 2)).take (y - 2)⟩)) 15 rfl
    · intro o ho FA x hO hD K hK
      obtain rfl := Option.some.inj ho.symm
      clear ho
      have ev59 : FA.eval (.tmp 59) = _ := hD 13 59 (by kernel_rfl)
      have e59 := (eval_tmp FA 59).symm.trans ev59
      replace ev59 := Lib.hid ev59
      clear hO hD
      go_simp
      refine hK.out _ _ (Ex.alloc _ _) ⟨_, _, _, rfl, ?_⟩
      have h := Os.lit (s := 3) (e := 119) (base := w.heap.size) (plus wr x.bs x.d) (by simp [size_plus]; omega) (rxC ⟨(i : Int), x0, cutA (some ⟨b, off, none⟩) c (i + 2) 1, y - 2, c - (i + 2), (l.drop (i + 2)).take (y - 2)⟩).toArray 1 rfl (by decide)
      rw [size_plus] at h
      exact h
    refine Steps.fin_ (fun vs x hp => ?_)
    have p0 : vs 0 = _ := hp 0 (by omega)
    have p1 : vs 1 = _ := hp 1 (by omega)
    have p2 : vs 2 = _ := hp 2 (by omega)
    have p3 : vs 3 = _ := hp 3 (by omega)
    have p4 : vs 4 = _ := hp 4 (by omega)
    have p5 : vs 5 = _ := hp 5 (by omega)
    have p6 : vs 6 = _ := hp 6 (by omega)
    have p7 : vs 7 = _ := hp 7 (by omega)
    have p8 : vs 8 = _ := hp 8 (by omega)
    have p9 : vs 9 = _ := hp 9 (by omega)
    have p10 : vs 10 = _ := hp 10 (by omega)
    have p11 : vs 11 = _ := hp 11 (by omega)
    have p12 : vs 12 = _ := hp 12 (by omega)
    have p13 : vs 13 = _ := hp 13 (by omega)
    have p14 := hp 14 (by omega)
    clear hp
    simp only [List.take_succ_cons, List.take_zero, List.drop_succ_cons, List.drop_zero, putAll, Nat.zero_add, Nat.reduceAdd, Act.put, List.setIfInBounds_toArray, List.set_cons_zero, List.set_cons_succ, p0, p1, p2, p3, p4, p5, p6, p7, p8, p9, p10, p11, p12, p13]
    clear p0 p1 p2 p3 p4 p5 p6 p7 p8 p9 p10 p11 p12 p13
    generalize vs 14 = y14 at *
    clear vs
    obtain ⟨A4, n4, c4, rfl, h4⟩ := p14
    have hl4 := h4.rs.1
    obtain rfl : n4 = 1 := by rw [rxC_len] at hl4; omega
    have hb4 : w.heap.size ≤ (plus wr x.bs x.d).heap.size := by simp [size_plus]; omega
    go_wp2_with (at_builtin; refine wpList_appS etRx rfl (.tmp 46) (.tmp 60) rfl rfl (ho.plus_ x.bs x.d) rfl h4.rs (rxC_one _) (by omega) hb4 ?_; intro A5 n5 c5 w5 hn5 hO5 hb5 hg5; subst hn5)
    refine ⟨⟨i + y, f, A5, n' + 1, c5, pre ++ [⟨(i : Int), x0, cutA (some ⟨b, off, none⟩) c (i + 2) 1, y - 2, c - (i + 2), (l.drop (i + 2)).take (y - 2)⟩], by go_num, by omega, by omega, rfl, ?_, fun z hz => ?_, (belowP hbe x.bs x.d).trans hb5, by simpa [Ox.p] using HS.out⟩, by simp [intOf]; omega⟩
    · rw [List.flatMap_append]
      simpa using hO5
    · rcases List.mem_append.1 hz with h | h
      · exact hpd z h
      · simp only [List.mem_cons, List.not_mem_nil, or_false] at h
        subst h
        exact HCUT.out
set_option maxHeartbeats 4000000 in
set_option maxRecDepth 100000 in
theorem refFind_at (A : Option Addr) (n c : Nat) (L : List Ox) (w : World) (hr : Rs 3 w A n c (L.flatMap rxC)) (hn : n ≤ 1000) (kind : Nat) (v : Int) (hv : (v = -1 ∧ ∀ x ∈ L, x.k ≠ kind) ∨ (∃ P y S, L = P ++ y :: S ∧ y.k = kind ∧ (∀ x ∈ P, x.k ≠ kind) ∧ v = (P.length : Int))) :
    Calls Try.prog 46 #[.slice A n c, .int .u8 (kind : Int)] w (RetV w (.int .i64 v)) := by
  have hln : L.length = n := by have := hr.1; rw [flat_len rxC 3 rxC_len] at this; omega
  have HV := Lib.hid hv
  clear hv
  go_enter Try.func46, Try.ntmps46
  go_upto_region 2 with (fail)
  go_loopw [5] (fun i wr => ∃ j : Nat, j ≤ n ∧ i = .int .i64 (j : Int) ∧ (∀ x ∈ L.take j, x.k ≠ kind) ∧ Below w.heap.size w wr) (fun i _ => n - (intOf i).toNat)
  case atStart => exact ⟨0, Nat.zero_le _, rfl, by simp, Below.refl _ _⟩
  case round =>
    obtain ⟨j, hj, rfl, hnot, hbe⟩ := hrel
    by_cases hlt : j < n
    · have ij : (j : Int) < (n : Int) := by omega
      have hjL : j < L.length := by omega
      obtain ⟨b, off, rfl, hbl, -⟩ := hr.at_ (by omega) (by decide)
      have hq : wr.cell? ⟨b, off + j * 3 + 1, none⟩ = some (.int .u8 (L[j].k : Int)) := (hr.later hbe).rangeE rxC_len j hjL 1 _ rfl
      have htk : L.take (j + 1) = L.take j ++ [L[j]] := by simp
      have hsp : L = L.take j ++ L[j] :: L.drop (j + 1) := by simp
      generalize L[j] = x at hq htk hsp
      have HQ := Lib.hid hq
      have HTK := Lib.hid htk
      have HSP := Lib.hid hsp
      have HNT := Lib.hid hnot
      clear hq htk hsp hnot
      by_cases hx : x.k = kind
      · have hval : v = (j : Int) := by
          rcases HV.out with ⟨_, h2⟩ | ⟨P, y, S, e, h2, h3, h4⟩
          · exact absurd hx (h2 x (by rw [HSP.out]; simp))
          · rw [h4]
            have e2 : P ++ y :: S = L.take j ++ x :: L.drop (j + 1) := e.symm.trans HSP.out
            rcases Nat.lt_trichotomy P.length j with h | h | h
            · have hy : y ∈ L.take j := by
                have h5 : (P ++ y :: S)[P.length]? = some y := by simp
                rw [e2, List.getElem?_append_left (by rw [List.length_take]; omega)] at h5
                exact List.mem_of_getElem? h5
              exact absurd h2 (HNT.out y hy)
            · omega
            · have hy : x ∈ P := by
                have h5 : (L.take j ++ x :: L.drop (j + 1))[j]? = some x := by rw [List.getElem?_append_right (by rw [List.length_take]; omega), List.length_take, Nat.min_eq_left (by omega)]; simp
                rw [← e2, List.getElem?_append_left h] at h5
                exact List.mem_of_getElem? h5
              exact absurd hx (h3 x hy)
        have HVV := Lib.hid hval
        clear hval
        have hx1 : ((x.k : Int) == (kind : Int)) = true := by simp; omega
        clear hx
        go_upto_region 4 with (fail)
        have q9 := HQ.out
        go_wp2
        go_ret
        rw [HVV.out]
        exact RetV.mk hbe
      · have hx1 : ((x.k : Int) == (kind : Int)) = false := by simp; omega
        have HX := Lib.hid hx
        clear hx
        go_upto_region 4 with (fail)
        have q9 := HQ.out
        go_wp2
        exact ⟨⟨j + 1, by omega, by go_num, fun z hz => by
          rw [HTK.out] at hz
          rcases List.mem_append.1 hz with h | h
          · exact HNT.out z h
          · simp only [List.mem_cons, List.not_mem_nil, or_false] at h
            subst h
            exact HX.out, hbe⟩, by simp [intOf]; omega⟩
    · have ij : ¬ (j : Int) < (n : Int) := by omega
      rw [List.take_of_length_le (by omega)] at hnot
      have hval : v = -1 := by
        rcases HV.out with ⟨h2, _⟩ | ⟨P, y, S, e, h2, h3, h4⟩
        · exact h2
        · exact absurd h2 (hnot y (by rw [e]; simp))
      subst hval
      go_wp2
      go_ret
      exact RetV.mk hbe
theorem first_ox (kind : Nat) : ∀ R : List Ox, (∀ x ∈ R, x.k ≠ kind) ∨ ∃ P y S, R = P ++ y :: S ∧ y.k = kind ∧ ∀ x ∈ P, x.k ≠ kind
  | [] => .inl (by simp)
  | x :: t => by
    by_cases hx : x.k = kind
    · exact .inr ⟨[], x, t, rfl, hx, by simp⟩
    · rcases first_ox kind t with h | ⟨P, y, S, e, h1, h2⟩
      · exact .inl (fun z hz => (List.mem_cons.1 hz).elim (fun e => e ▸ hx) (h z))
      · exact .inr ⟨x :: P, y, S, by rw [e]; rfl, h1, fun z hz => (List.mem_cons.1 hz).elim (fun e => e ▸ hx) (h2 z)⟩
end Go.Proofs.Ytknoenceccpkhaa

/- option.Acked (chapter 44). -/
namespace Go.Proofs.Ytknoenceccpkhaa
open Go.RowKit
set_option linter.unusedVariables false
set_option linter.unusedSimpArgs false
attribute [local go_sem ↓] sliced_cut

attribute [local go_sem] cutA_zero

def RetRow (e : TypeId) (s : Nat) (w : World) (cs : List Value) (en : Ending) (w' : World) : Prop := ∃ A n c bs d, en = .returned (.slice A n c) ∧ w' = plus w bs d ∧ Rs s (plus w bs d) A n c cs
theorem RetRow.mk {e : TypeId} {s : Nat} {w w' : World} {cs : List Value} {A : Option Addr} {n c : Nat} (h : Rs s w' A n c cs) (hb : Below w.heap.size w w') : RetRow e s w cs (.returned (.slice A n c)) w' := by
  obtain ⟨bs, d, rfl⟩ := plus_of hb
  exact ⟨A, n, c, bs, d, rfl, rfl, h⟩
end Go.Proofs.Ytknoenceccpkhaa

/- octet.Put without room; addr.Bytes, addr.Key. -/
namespace Go.Proofs.Ytknoenceccpkhaa
open Go.RowKit
set_option linter.unusedVariables false
set_option linter.unusedSimpArgs false
attribute [local go_sem ↓] sliced_cut

attribute [local go_sem] cutA_zero

/-- The call returns new bytes l without room, and changes nothing that was there. -/
def RetF (w : World) (l : List UInt8) (e : Ending) (w' : World) : Prop := ∃ A n bs d, e = .returned (.slice A n n) ∧ w' = plus w bs d ∧ Ob (plus w bs d) w.heap.size A n n l
theorem RetF.mk {w w' : World} {l : List UInt8} {A : Option Addr} {n : Nat} (ho : Ob w' w.heap.size A n n l) (hb : Below w.heap.size w w') : RetF w l (.returned (.slice A n n)) w' := by
  obtain ⟨bs, d, rfl⟩ := plus_of hb
  exact ⟨A, n, bs, d, rfl, rfl, ho⟩
theorem RetV.is_ {w w' : World} {v v' : Value} (hv : v' = v) (hb : Below w.heap.size w w') : RetV w v (.returned v') w' := by
  subst hv
  exact RetV.mk hb
/-- new bytes without room, in a block from base on -/
def MP.of (base : Nat) (l : List UInt8) : MP := ⟨fun v w => ∃ A n, v = .slice A n n ∧ Ob w base A n n l, fun _ _ _ ⟨A, n, h1, h2⟩ h => ⟨A, n, h1, h2.later h.below⟩⟩

set_option maxHeartbeats 800000 in
set_option maxRecDepth 100000 in
theorem put_full (A : Option Addr) (k c : Nat) (l : List UInt8) (n : Nat) (size : Nat) (w : World) (hr : Rb w A k c l) (hk : k ≤ 549755813888) (hn : n < 18446744073709551616) (hs0 : 1 ≤ size) (hs : size ≤ 8) :
    Calls Try.prog 57 #[.slice A k c, .int .u64 n, .int .i64 size] w (RetF w (l ++ dig n size)) := by
  go_enter Try.func57, Try.ntmps57
  go_wp2_with (first
    | (at_make; refine wpList_mk bt rfl (.tmp 14) rfl _ (k + size) rfl (by omega) (by omega) ?_; intro w1 hb1 hbe1 hs1)
    | (refine wpList_cpy 18 rfl bt rfl (.tmp 16) (.tmp 17) rfl rfl rfl w.heap.size 0 _ hb1 (.inr rfl) l (hr.later hbe1) (by omega) (by simp) w.heap.size w hbe1 (Nat.le_refl _) ?_; intro w2 hb2 hbe2)
    | (go_at_call 105; refine (digits_any _ w.heap.size k size _ (splice (List.replicate (k + size) (.int .u8 0)) 0 (bcs l)) n _ (.inr (by rw [cutA_some _ _ _ _ (by omega)]; simp)) hb2 (by rw [length_splice _ _ _ (by simp [bcs_length, hr.1])]; simp) (by omega) hn).mono ?_; rintro e w3 ⟨rfl, hb3, hg3⟩))
  go_ret
  rw [put_cells l n size k hr.1] at hb3
  exact RetF.mk (Ob.of_bk hb3 (Nat.le_refl _) (by simp [dig_length, hr.1]) (by simp [maxLen]; omega)) (hbe2.trans (below_of_grown hg3 hbe2.size (fun k hk => by injection hk with hk; omega)))

/-- the bytes of an address -/
def adrB (six : Bool) (ah al : Nat) : List UInt8 := if six then dig ah 8 ++ dig al 8 else dig al 4
theorem adrB_length (six : Bool) (ah al : Nat) : (adrB six ah al).length ≤ 16 := by cases six <;> simp [adrB, dig_length]
set_option maxHeartbeats 1000000 in
set_option maxRecDepth 100000 in
theorem adrBytes_any (six : Bool) (ah al : Nat) (w : World) (h1 : ah < 18446744073709551616) (h2 : al < 18446744073709551616) : Calls Try.prog 103 #[.agg #[.bool six, .int .u64 ah, .int .u64 al]] w (RetF w (adrB six ah al)) := by
  cases six
  · go_enter Try.func103, Try.ntmps103
    go_wp2_with (go_at_call 57; refine (put_full _ _ _ [] al 4 _ Rb.nil_ (by omega) (by omega) (by omega) (by omega)).mono ?_; rintro e w1 ⟨A2, n2, bs2, d2, rfl, rfl, ho2⟩)
    go_ret
    exact RetF.mk (by simpa [adrB] using ho2.mono (base' := w.heap.size) (by simp)) (belowP (Below.allocS (Below.refl _ _) _) _ _)
  · go_enter Try.func103, Try.ntmps103
    go_wp2
    refine wp_rel 7 14 rfl (by kernel_rfl) (by kernel_rfl) (fun i => match i with | 0 => MP.eq (.pointer (some ⟨w.heap.size, 1, none⟩)) | 1 => MP.eq (.int .u64 (ah : Int)) | 2 => MP.of w.heap.size (dig ah 8) | 3 => MP.eq (.pointer (some ⟨w.heap.size, 2, none⟩)) | 4 => MP.eq (.int .u64 (al : Int)) | 5 => MP.of w.heap.size (dig ah 8 ++ dig al 8) | 6 => MP.of w.heap.size (dig ah 8 ++ dig al 8) | _ => MP.any) ?_ ?_
    · intro i hi o ho FA x hO hD K hK
      match i, hi, ho, hO, hD, hK with
      | 0, _, ho, hO, hD, hK => 
        obtain rfl := Option.some.inj ho.symm
        clear ho
        have ev1 : FA.eval (.tmp 1) = .pointer (some ⟨w.heap.size, 0, none⟩) := hO 1 (by kernel_rfl)
        have e1 : FA.tmps[1]?.getD undef = .pointer (some ⟨w.heap.size, 0, none⟩) := by simpa [Act.eval] using ev1
        replace ev1 := Lib.hid ev1
        clear hO hD
        go_simp
        exact hK.out _ _ (Ex.refl _) rfl
      | 1, _, ho, hO, hD, hK => 
        obtain rfl := Option.some.inj ho.symm
        clear ho
        have ev5 : FA.eval (.tmp 5) = .pointer (some ⟨w.heap.size, 1, none⟩) := hD 0 5 (by kernel_rfl)
        have e5 : FA.tmps[5]?.getD undef = .pointer (some ⟨w.heap.size, 1, none⟩) := by simpa [Act.eval] using ev5
        replace ev5 := Lib.hid ev5
        clear hO hD
        go_simp
        exact hK.out _ _ (Ex.refl _) rfl
      | 2, _, ho, hO, hD, hK => 
        obtain rfl := Option.some.inj ho.symm
        clear ho
        have ev6 : FA.eval (.tmp 6) = .int .u64 (ah : Int) := hD 1 6 (by kernel_rfl)
        have e6 : FA.tmps[6]?.getD undef = .int .u64 (ah : Int) := by simpa [Act.eval] using ev6
        replace ev6 := Lib.hid ev6
        clear hO hD
        go_simp
        refine (put_full _ _ _ [] ah 8 _ Rb.nil_ (by omega) (by omega) (by omega) (by omega)).mono ?_
        rintro e w1 ⟨A2, n2, bs2, d2, rfl, rfl, ho2⟩
        exact hK.out _ _ (Ex.plus_ _ _ _) ⟨_, _, rfl, by simpa using ho2.mono (base' := w.heap.size) (by simp [size_plus]; omega)⟩
      | 3, _, ho, hO, hD, hK => 
        obtain rfl := Option.some.inj ho.symm
        clear ho
        have ev1 : FA.eval (.tmp 1) = .pointer (some ⟨w.heap.size, 0, none⟩) := hO 1 (by kernel_rfl)
        have e1 : FA.tmps[1]?.getD undef = .pointer (some ⟨w.heap.size, 0, none⟩) := by simpa [Act.eval] using ev1
        replace ev1 := Lib.hid ev1
        clear hO hD
        go_simp
        exact hK.out _ _ (Ex.refl _) rfl
      | 4, _, ho, hO, hD, hK => 
        obtain rfl := Option.some.inj ho.symm
        clear ho
        have ev8 : FA.eval (.tmp 8) = .pointer (some ⟨w.heap.size, 2, none⟩) := hD 3 8 (by kernel_rfl)
        have e8 : FA.tmps[8]?.getD undef = .pointer (some ⟨w.heap.size, 2, none⟩) := by simpa [Act.eval] using ev8
        replace ev8 := Lib.hid ev8
        clear hO hD
        go_simp
        exact hK.out _ _ (Ex.refl _) rfl
      | 5, _, ho, hO, hD, hK => 
        obtain rfl := Option.some.inj ho.symm
        clear ho
        have f7 := hD 2 7 (by kernel_rfl)
        generalize eu7 : FA.eval (.tmp 7) = u7 at f7
        have e7 : FA.tmps[7]?.getD undef = u7 := by rw [← eu7]; simp [Act.eval]
        have ev7 := Lib.hid eu7
        clear eu7
        have ev9 : FA.eval (.tmp 9) = .int .u64 (al : Int) := hD 4 9 (by kernel_rfl)
        have e9 : FA.tmps[9]?.getD undef = .int .u64 (al : Int) := by simpa [Act.eval] using ev9
        replace ev9 := Lib.hid ev9
        clear hO hD
        obtain ⟨A1, n1, rfl, hr1⟩ := f7
        have hn1 : n1 ≤ 100 := by rw [← hr1.1]; simp [dig_length]
        go_simp
        refine (put_full _ _ _ _ al 8 _ hr1.rb (by omega) (by omega) (by omega) (by omega)).mono ?_
        rintro e w1 ⟨A2, n2, bs2, d2, rfl, rfl, ho2⟩
        exact hK.out _ _ (Ex.plus_ _ _ _) ⟨_, _, rfl, by simpa using ho2.mono (base' := w.heap.size) (by simp [size_plus]; omega)⟩
      | 6, _, ho, hO, hD, hK => 
        obtain rfl := Option.some.inj ho.symm
        clear ho
        have f10 := hD 5 10 (by kernel_rfl)
        generalize eu10 : FA.eval (.tmp 10) = u10 at f10
        have e10 : FA.tmps[10]?.getD undef = u10 := by rw [← eu10]; simp [Act.eval]
        have ev10 := Lib.hid eu10
        clear eu10
        clear hO hD
        go_simp
        exact hK.out _ _ (Ex.refl _) f10
      | (k + 7), hi, _, _, _, _ => exact absurd hi (by omega)
    intro vs x hp
    have p0 : vs 0 = .pointer (some ⟨w.heap.size, 1, none⟩) := hp 0 (by omega)
    have p1 : vs 1 = .int .u64 (ah : Int) := hp 1 (by omega)
    have p2 := hp 2 (by omega)
    have p3 : vs 3 = .pointer (some ⟨w.heap.size, 2, none⟩) := hp 3 (by omega)
    have p4 : vs 4 = .int .u64 (al : Int) := hp 4 (by omega)
    have p5 := hp 5 (by omega)
    have p6 := hp 6 (by omega)
    clear hp
    simp only [List.take_succ_cons, List.take_zero, List.drop_succ_cons, List.drop_zero, putAll, Nat.zero_add, Nat.reduceAdd, Act.put, List.setIfInBounds_toArray, List.set_cons_zero, List.set_cons_succ, p0, p1, p3, p4]
    clear p0 p1 p3 p4
    generalize vs 2 = y2 at *
    generalize vs 5 = y5 at *
    generalize vs 6 = y6 at *
    clear vs
    obtain ⟨A5, n5, rfl, h5⟩ := p6
    go_wp2
    go_ret
    exact RetF.mk (by simpa [adrB] using h5) (belowP (Below.allocS (Below.refl _ _) _) _ _)

end Go.Proofs.Ytknoenceccpkhaa

/- A region that draws its order, some of whose operations change known blocks, one behind the other; these may be stores (no slot). -/
namespace Go.Proofs.Ytknoenceccpkhaa
open Go.RowKit
set_option linter.unusedVariables false
set_option linter.unusedSimpArgs false

theorem Chg.one {D : Nat → Prop} {w w' : World} {g : Nat} (h : w.grownBy w' (some g)) (hg : D g) : Chg D w w' := Chg.grown h (fun k hk => by injection hk with hk; subst hk; exact hg)
section
variable {P : Program} {Q : Exit → Act → World → Prop}
end
end Go.Proofs.Ytknoenceccpkhaa

/- A region that draws its order: each operation's value has a word and owns blocks; an operation may change the blocks of the words that it consumes. -/
namespace Go.Proofs.Ytknoenceccpkhaa
open Go.RowKit
set_option linter.unusedVariables false
set_option linter.unusedSimpArgs false

/-- the blocks F of w are as they were -/
structure Kept (F : Nat → Prop) (w w' : World) : Prop where
  os : w'.os = w.os
  tape : w'.tape = w.tape
  output : w'.output = w.output
  size : w.heap.size ≤ w'.heap.size
  block : ∀ b, b < w.heap.size → F b → w'.heap[b]? = w.heap[b]?
theorem Kept.refl (F : Nat → Prop) (w : World) : Kept F w w := ⟨rfl, rfl, rfl, Nat.le_refl _, fun _ _ _ => rfl⟩
theorem Kept.chg {F D : Nat → Prop} {w w' w'' : World} (h : Kept F w w') (h' : Chg D w' w'') (hd : ∀ b, F b → ¬ D b) : Kept F w w'' :=
  ⟨h'.os.trans h.os, h'.tape.trans h.tape, h'.output.trans h.output, Nat.le_trans h.size h'.size, fun b hb hf => (h'.block b (Nat.lt_of_lt_of_le hb h.size) (hd b hf)).trans (h.block b hb hf)⟩
theorem Kept.below {F : Nat → Prop} {w w' : World} {B : Nat} (h : Kept F w w') (hB : B ≤ w.heap.size) (hf : ∀ b, b < B → F b) : Below B w w' := ⟨h.os, h.tape, h.output, h.size, fun b hb => h.block b (by omega) (hf b hb)⟩
theorem Bk.kept {F : Nat → Prop} {w w' : World} {g : Nat} {t : TypeId} {cs : List Value} (h : Bk w g t cs) (hk : Kept F w w') (hf : F g) : Bk w' g t cs := (hk.block g h.lt hf).trans h
theorem Rb.kept {F : Nat → Prop} {w w' : World} {A : Option Addr} {n c : Nat} {l : List UInt8} (h : Rb w A n c l) (hk : Kept F w w') (hf : ∀ a, A = some a → a.block < w.heap.size → F a.block) : Rb w' A n c l := by
  refine ⟨h.1, h.2.1, ?_⟩
  rcases h.2.2 with h' | ⟨b, off, hA, hb, hc⟩
  · exact .inl h'
  · exact .inr ⟨b, off, hA, Nat.lt_of_lt_of_le hb hk.size, fun i u hu => (World.cell?_of_block (hk.block b hb (hf _ hA hb))).trans (hc i u hu)⟩
/-- a word of a value v, beside the value u of another operation, and the blocks that it owns -/
structure Own (prot : Nat → Prop) where
  p : Value → Value → World → Prop
  fp : Value → Value → Nat → Prop
  lt : ∀ v u w b, p v u w → fp v u b → b < w.heap.size
  keep : ∀ v u w w', p v u w → Kept (fun b => fp v u b ∨ prot b) w w' → p v u w'
section
variable {prot : Nat → Prop}
def Own.any : Own prot := ⟨fun _ _ _ => True, fun _ _ _ => False, fun _ _ _ _ _ h => h.elim, fun _ _ _ _ _ _ => trivial⟩
def Own.eq (c : Value) : Own prot := ⟨fun v _ _ => v = c, fun _ _ _ => False, fun _ _ _ _ _ h => h.elim, fun _ _ _ _ h _ => h⟩
/-- a block -/
def Own.blk (t : TypeId) (cs : List Value) : Own prot := ⟨fun v _ w => ∃ g, v = .pointer (some ⟨g, 0, none⟩) ∧ Bk w g t cs, fun v _ b => v = .pointer (some ⟨b, 0, none⟩),
  fun v u w b ⟨g, h1, h2⟩ h3 => (by rw [h1] at h3; injection h3 with h3; injection h3 with h3; injection h3 with h3; subst h3; exact h2.lt),
  fun v u w w' ⟨g, h1, h2⟩ hk => ⟨g, h1, h2.kept hk (.inl h1)⟩⟩
/-- own bytes, from base on -/
def Own.ob (base : Nat) (l : List UInt8) : Own prot := ⟨fun v _ w => ∃ A n c, v = .slice A n c ∧ Ob w base A n c l, fun v _ b => v.ownBlock = some b,
  fun v u w b ⟨A, n, c, h1, h2⟩ h3 => (by subst h1; exact (h2.blk b h3).2),
  fun v u w w' ⟨A, n, c, h1, h2⟩ hk => ⟨A, n, c, h1, by
    refine ⟨h2.1, h2.2.1, ?_⟩
    have hlt := h2.blk
    rcases h2.2.2 with h' | ⟨g, cap, cur, hv, hg, hh, hr⟩
    · exact .inl h'
    · have ho : (Value.slice A n c).ownBlock = some g := by rw [hv]; rfl
      refine .inr ⟨g, cap, cur, hv, hg, ?_, hr⟩
      rw [hk.block g (hlt g ho).2 (.inl (by subst h1; exact ho))]
      exact hh⟩⟩
/-- own bytes without room -/
def Own.of (base : Nat) (l : List UInt8) : Own prot := ⟨fun v _ w => ∃ A n, v = .slice A n n ∧ Ob w base A n n l, fun v _ b => v.ownBlock = some b,
  fun v u w b ⟨A, n, h1, h2⟩ h3 => (by subst h1; exact (h2.blk b h3).2),
  fun v u w w' ⟨A, n, h1, h2⟩ hk => ⟨A, n, h1, by
    obtain ⟨A', n', c', e1, e2⟩ := (Own.ob (prot := prot) base l).keep v u w w' ⟨A, n, n, h1, h2⟩ hk
    rw [h1] at e1
    injection e1 with x y z
    subst x y z
    exact e2⟩⟩
end
/-- a value that is made of another operation's value -/
def Own.fn {prot : Nat → Prop} (g : Value → Value) : Own prot := ⟨fun v u _ => v = g u, fun _ _ _ => False, fun _ _ _ _ _ h => h.elim, fun _ _ _ _ h _ => h⟩
theorem own_ptr {g b : Nat} (h : Value.pointer (some ⟨g, 0, none⟩) = .pointer (some ⟨b, 0, none⟩)) : g = b := by
  injection h with h
  injection h with h
  injection h with h
/-- a pointer's block, one of whose cells is a slice of own bytes without room (v) -/
def Own.holds {prot : Nat → Prop} (base : Nat) (t : TypeId) (cs : Value → List Value) (l : List UInt8) : Own prot := ⟨fun v u w => ∃ g A n, u = .pointer (some ⟨g, 0, none⟩) ∧ v = .slice A n n ∧ Bk w g t (cs v) ∧ Ob w base A n n l,
  fun v u b => u = .pointer (some ⟨b, 0, none⟩) ∨ v.ownBlock = some b,
  fun v u w b ⟨g, A, n, h1, h2, h3, h4⟩ h => (by
    rcases h with h | h
    · rw [h1] at h; rw [← own_ptr h]; exact h3.lt
    · subst h2; exact (h4.blk b h).2),
  fun v u w w' ⟨g, A, n, h1, h2, h3, h4⟩ hk => by
    refine ⟨g, A, n, h1, h2, h3.kept hk (.inl (.inl h1)), ?_⟩
    obtain ⟨A', n', e1, e2⟩ := (Own.of (prot := prot) base l).keep v u w w' ⟨A, n, h2, h4⟩ ⟨hk.os, hk.tape, hk.output, hk.size, fun b hb h => hk.block b hb (by rcases h with h | h; exact .inl (.inr h); exact .inr h)⟩
    rw [h2] at e1
    injection e1 with x y z
    subst x y
    exact e2⟩
section
variable {P : Program} {Q : Exit → Act → World → Prop}
end
end Go.Proofs.Ytknoenceccpkhaa

/- What many texts need: numbers of bytes, rows that are appended, addresses, stores into the middle of a block. -/
namespace Go.Proofs.Ytknoenceccpkhaa
open Go.RowKit
set_option linter.unusedVariables false
set_option linter.unusedSimpArgs false
attribute [local go_sem ↓] sliced_cut

attribute [local go_sem] cutA_zero

theorem wanted_ifG {ops : Array Oper} {o : Oper} {tmps : Array Value} {X Y : Prop} (h : Region.wanted o (yielded ops tmps) = true) (hx : X) : if Region.wanted o (yielded ops tmps) = true then X else Y := by
  rw [if_pos h]
  exact hx
theorem put_int_full (A : Option Addr) (k c : Nat) (l : List UInt8) (n : Int) (size : Nat) (w : World) (hr : Rb w A k c l) (hk : k ≤ 549755813888) (h0 : 0 ≤ n) (hn : n ≤ 18446744073709551615) (hs0 : 1 ≤ size) (hs : size ≤ 8) :
    Calls Try.prog 57 #[.slice A k c, .int .u64 n, .int .i64 size] w (RetF w (l ++ dig n.toNat size)) := by
  obtain ⟨m, rfl⟩ := Int.eq_ofNat_of_zero_le h0
  exact put_full A k c l m size w hr hk (by omega) hs0 hs
theorem dig1 (x : Nat) (h : x < 256) : dig x 1 = [UInt8.ofNat x] := by
  simp [dig, Nat.mod_eq_of_lt h]
theorem whole_ (cs : List Value) : (cs.drop 0).take cs.length = cs := by rw [List.drop_zero]; exact List.take_of_length_le (Nat.le_refl _)
def adC (six : Bool) (a b : Nat) : List Value := [.bool six, .int .u64 (a : Int), .int .u64 (b : Int)]
theorem szAd (six : Bool) (a b : Nat) : (Try.prog.info? 29).map (·.size) = some (adC six a b).length := by kernel_rfl
end Go.Proofs.Ytknoenceccpkhaa

/- octet.Set, ref01.Set; addr.Right; headers of IPv4: Size, Right. -/
namespace Go.Proofs.Ytknoenceccpkhaa
open Go.RowKit
set_option linter.unusedVariables false
set_option linter.unusedSimpArgs false
attribute [local go_sem ↓] sliced_cut

attribute [local go_sem] cutA_zero

/-- bytes r written over l from k on -/
def setB (l : List UInt8) (k : Nat) (r : List UInt8) : List UInt8 := l.take k ++ r ++ l.drop (k + r.length)
theorem setB_length (l : List UInt8) (k : Nat) (r : List UInt8) (h : k + r.length ≤ l.length) : (setB l k r).length = l.length := by
  simp [setB]; omega
theorem setB_cells (l : List UInt8) (k : Nat) (r : List UInt8) : splice (bcs l) k (bcs r) = bcs (setB l k r) := by
  simp [splice, setB, bcs_append, bcs_take, bcs_drop, bcs_length]
/-- own bytes, and an error -/
def RetOE (w : World) (l : List UInt8) (E : Int) (e : Ending) (w' : World) : Prop := ∃ A n c bs d, e = .returned (.tuple #[.slice A n c, .int .i64 E]) ∧ w' = plus w bs d ∧ Ob (plus w bs d) w.heap.size A n c l
theorem RetOE.mk {w w' : World} {l : List UInt8} {E : Int} {A : Option Addr} {n c : Nat} (h : Ob w' w.heap.size A n c l) (hb : Below w.heap.size w w') : RetOE w l E (.returned (.tuple #[.slice A n c, .int .i64 E])) w' := by
  obtain ⟨bs, d, rfl⟩ := plus_of hb
  exact ⟨A, n, c, bs, d, rfl, rfl, h⟩
theorem over_full (l : List UInt8) (n : Nat) (h : l.length = n) : splice (List.replicate n (.int .u8 0)) 0 (bcs l) = bcs l := by
  subst h
  simp [splice, bcs_length]
set_option maxHeartbeats 4000000 in
set_option maxRecDepth 100000 in
theorem octSet (A : Option Addr) (n c : Nat) (l : List UInt8) (k v size : Nat) (w : World) (h : Rb w A n c l) (hk : k + size ≤ n) (hs0 : 1 ≤ size) (hs : size ≤ 8) (hv : v < 18446744073709551616) (hm : n ≤ 549755813888) :
    Calls Try.prog 42 #[.slice A n c, .int .i64 (k : Int), .int .u64 (v : Int), .int .i64 (size : Int)] w (RetOE w (setB l k (dig v size)) 0) := by
  have d1 : decide (size < 1) = false := by simp; omega
  have d2 : decide (8 < size) = false := by simp; omega
  have d4 : decide (n < size) = false := by simp; omega
  have d5 : decide ((n : Int) - (size : Int) < (k : Int)) = false := by simp; omega
  have hl := h.1
  have hkn : k ≠ n := by omega
  go_enter Try.func42, Try.ntmps42
  go_wp2_with (first
    | (at_make; refine wpList_mk bt rfl (.tmp 36) rfl _ n rfl rfl (by omega) ?_; intro w1 hb1 hbe1 hs1)
    | (refine at_op (.call { callee := .builtin .copy, args := #[.tmp 38, .tmp 39], argTypes := #[24, 24] }) rfl ?_; refine wpList_cpy 40 rfl bt rfl (.tmp 38) (.tmp 39) rfl rfl rfl w.heap.size 0 _ hb1 (.inr rfl) l (h.later hbe1) (by omega) (by simp) w.heap.size w hbe1 (Nat.le_refl _) ?_; intro w2 hb2 hbe2))
  rw [over_full l n hl] at hb2
  refine wp_rel 6 49 rfl (by kernel_rfl) (by kernel_rfl) (fun i => match i with | 0 => MP.eq (.slice (some ⟨w.heap.size, 0, none⟩) n n) | 1 => MP.eq (.int .i64 (k : Int)) | 2 => MP.eq (.slice (cutA (some ⟨w.heap.size, 0, none⟩) n k 1) (n - k) (n - k)) | 3 => MP.eq (.int .u64 (v : Int)) | 4 => MP.eq (.int .i64 (size : Int)) | 5 => MP.rb (dig v size) | _ => MP.any) ?_ ?_
  · intro i hi o ho FA x hO hD K hK
    match i, hi, ho, hO, hD, hK with
    | 0, _, ho, hO, hD, hK => 
      obtain rfl := Option.some.inj ho.symm
      clear ho
      have ev10 : FA.eval (.tmp 10) = .slice (some ⟨w.heap.size, 0, none⟩) n n := hO 10 (by kernel_rfl)
      have e10 : FA.tmps[10]?.getD undef = .slice (some ⟨w.heap.size, 0, none⟩) n n := by simpa [Act.eval] using ev10
      replace ev10 := Lib.hid ev10
      clear hO hD
      go_simp
      exact hK.out _ _ (Ex.refl _) rfl
    | 1, _, ho, hO, hD, hK => 
      obtain rfl := Option.some.inj ho.symm
      clear ho
      have ev1 : FA.eval (.tmp 1) = .int .i64 (k : Int) := hO 1 (by kernel_rfl)
      have e1 : FA.tmps[1]?.getD undef = .int .i64 (k : Int) := by simpa [Act.eval] using ev1
      replace ev1 := Lib.hid ev1
      clear hO hD
      go_simp
      exact hK.out _ _ (Ex.refl _) rfl
    | 2, _, ho, hO, hD, hK => 
      obtain rfl := Option.some.inj ho.symm
      clear ho
      have ev41 : FA.eval (.tmp 41) = .slice (some ⟨w.heap.size, 0, none⟩) n n := hD 0 41 (by kernel_rfl)
      have e41 : FA.tmps[41]?.getD undef = .slice (some ⟨w.heap.size, 0, none⟩) n n := by simpa [Act.eval] using ev41
      replace ev41 := Lib.hid ev41
      have ev42 : FA.eval (.tmp 42) = .int .i64 (k : Int) := hD 1 42 (by kernel_rfl)
      have e42 : FA.tmps[42]?.getD undef = .int .i64 (k : Int) := by simpa [Act.eval] using ev42
      replace ev42 := Lib.hid ev42
      clear hO hD
      have hk2 : k ≤ n := by omega
      go_simp
      exact hK.out _ _ (Ex.refl _) rfl
    | 3, _, ho, hO, hD, hK => 
      obtain rfl := Option.some.inj ho.symm
      clear ho
      have ev2 : FA.eval (.tmp 2) = .int .u64 (v : Int) := hO 2 (by kernel_rfl)
      have e2 : FA.tmps[2]?.getD undef = .int .u64 (v : Int) := by simpa [Act.eval] using ev2
      replace ev2 := Lib.hid ev2
      clear hO hD
      go_simp
      exact hK.out _ _ (Ex.refl _) rfl
    | 4, _, ho, hO, hD, hK => 
      obtain rfl := Option.some.inj ho.symm
      clear ho
      have ev3 : FA.eval (.tmp 3) = .int .i64 (size : Int) := hO 3 (by kernel_rfl)
      have e3 : FA.tmps[3]?.getD undef = .int .i64 (size : Int) := by simpa [Act.eval] using ev3
      replace ev3 := Lib.hid ev3
      clear hO hD
      go_simp
      exact hK.out _ _ (Ex.refl _) rfl
    | 5, _, ho, hO, hD, hK => 
      obtain rfl := Option.some.inj ho.symm
      clear ho
      have ev44 : FA.eval (.tmp 44) = .int .u64 (v : Int) := hD 3 44 (by kernel_rfl)
      have e44 : FA.tmps[44]?.getD undef = .int .u64 (v : Int) := by simpa [Act.eval] using ev44
      replace ev44 := Lib.hid ev44
      have ev45 : FA.eval (.tmp 45) = .int .i64 (size : Int) := hD 4 45 (by kernel_rfl)
      have e45 : FA.tmps[45]?.getD undef = .int .i64 (size : Int) := by simpa [Act.eval] using ev45
      replace ev45 := Lib.hid ev45
      clear hO hD
      go_simp
      refine (put_any none 0 0 [] v size _ Rb.nil_ (by omega) hv hs0 hs).mono ?_
      rintro e w3 ⟨A3, n3, c3, bs3, d3, rfl, rfl, ho3⟩
      exact hK.out _ _ (Ex.plus_ _ _ _) ⟨_, _, _, rfl, ho3.rb⟩
    | (k + 6), hi, _, _, _, _ => exact absurd hi (by omega)
  intro vs x hp
  have p0 : vs 0 = .slice (some ⟨w.heap.size, 0, none⟩) n n := hp 0 (by omega)
  have p1 : vs 1 = .int .i64 (k : Int) := hp 1 (by omega)
  have p2 : vs 2 = .slice (cutA (some ⟨w.heap.size, 0, none⟩) n k 1) (n - k) (n - k) := hp 2 (by omega)
  have p3 : vs 3 = .int .u64 (v : Int) := hp 3 (by omega)
  have p4 : vs 4 = .int .i64 (size : Int) := hp 4 (by omega)
  have p5 := hp 5 (by omega)
  clear hp
  simp only [List.take_succ_cons, List.take_zero, List.drop_succ_cons, List.drop_zero, putAll, Nat.zero_add, Nat.reduceAdd, Act.put, List.setIfInBounds_toArray, List.set_cons_zero, List.set_cons_succ, p0, p1, p2, p3, p4]
  clear p0 p1 p2 p3 p4
  generalize vs 5 = y5 at *
  clear vs
  obtain ⟨A3, n3, c3, rfl, h3⟩ := p5
  obtain rfl : n3 = size := by rw [← h3.1, dig_length]
  have hb3 := hb2.later (below_plus _ x.bs x.d)
  have hbe3 := belowP hbe2 x.bs x.d
  generalize plus w2 x.bs x.d = w3 at *
  go_wp2_with (refine at_op (.call { callee := .builtin .copy, args := #[.tmp 43, .tmp 46], argTypes := #[24, 24] }) rfl ?_; refine wpList_cpy 47 rfl bt rfl (.tmp 43) (.tmp 46) rfl rfl rfl w.heap.size k _ hb3 (.inr (by rw [cutA_some _ _ _ _ (by omega)]; simp)) (dig v n3) h3 (by omega) (by rw [bcs_length]; omega) w.heap.size w hbe3 (Nat.le_refl _) ?_; intro w4 hb4 hbe4)
  go_ret2
  rw [setB_cells] at hb4
  exact RetOE.mk (Ob.of_bk hb4 (Nat.le_refl _) (by rw [setB_length _ _ _ (by rw [dig_length]; omega)]; exact hl) (by simp [maxLen]; omega)) hbe4
theorem bcs_set (l : List UInt8) (i : Nat) (b : UInt8) : (bcs l).set i (.int .u8 (b.toNat : Int)) = bcs (l.set i b) := by simp [bcs, List.map_set]
theorem setB_step (l r : List UInt8) (k j : Nat) (hj : j < r.length) (hk : k + r.length ≤ l.length) : (setB l k (r.take j)).set (k + j) r[j] = setB l k (r.take (j + 1)) := by
  have h1 : (l.take k).length = k := by rw [List.length_take]; omega
  have h2 : (r.take j).length = j := by rw [List.length_take]; omega
  have h3 : (r.take (j + 1)).length = j + 1 := by rw [List.length_take]; omega
  unfold setB
  rw [h2, h3, List.set_append_right _ _ (by rw [List.length_append, h1, h2]; omega), List.length_append, h1, h2, Nat.sub_self, List.drop_eq_getElem_cons (by omega), List.set_cons_zero, List.take_succ_eq_append_getElem hj]
  simp only [List.append_assoc, List.cons_append, List.nil_append, Nat.add_assoc]
set_option maxHeartbeats 4000000 in
set_option maxRecDepth 100000 in
theorem refSet (A : Option Addr) (n c : Nat) (l : List UInt8) (k : Nat) (A2 : Option Addr) (n2 c2 : Nat) (r : List UInt8) (w : World) (h : Rb w A n c l) (h2 : Rb w A2 n2 c2 r) (hk : k + n2 ≤ n) (hn : 0 < n) (hm : n ≤ 549755813888) :
    Calls Try.prog 48 #[.slice A n c, .int .i64 (k : Int), .slice A2 n2 c2] w (RetB w (setB l k r)) := by
  have hl := Lib.hid h.1
  have hr := Lib.hid h2.1
  go_enter Try.func48, Try.ntmps48
  go_upto_block 0 with (at_builtin; refine wpList_app0 bt rfl (.tmp 9) (.tmp 10) rfl rfl rfl rfl h (by omega) ?_; intro A1 n1 c1 bs1 d1 ho1)
  obtain rfl : n1 = n := by rw [← ho1.1, hl.out]
  obtain ⟨g, cap, hv, hgb, hgl⟩ := ho1.2.form hn
  injection hv with e1 e2 e3
  subst e1 e3
  have hbe1 : Below w.heap.size w (plus w bs1 d1) := below_plus _ _ _
  generalize plus w bs1 d1 = W at *
  go_wp2
  go_loopw [8] (fun i wr => ∃ j : Nat, j ≤ n2 ∧ i = .int .i64 j ∧ Ob wr w.heap.size (some ⟨g, 0, none⟩) n1 c1 (setB l k (r.take j)) ∧ Below w.heap.size w wr) (fun i _ => n2 - (intOf i).toNat)
  case atStart => exact ⟨0, by omega, rfl, by simpa [setB] using ho1, hbe1⟩
  case round =>
    clear ho1 hbe1
    obtain ⟨j, hj, rfl, ho, hb⟩ := hrel
    by_cases hlt : j < n2
    · obtain ⟨b, off, rfl, hbl, hcell⟩ := h2.2.2.at_ (by rw [bcs_length, hr.out]; omega)
      have hjr : j < r.length := by rw [hr.out]; exact hlt
      have q1 : wr.cell? ⟨b, off + j, none⟩ = some (.int .u8 (r[j].toNat : Int)) := by
        rw [hb.cell (p := ⟨b, off + j, none⟩) hbl]
        exact hcell j _ (bcs_get r j hjr)
      have q2 : wr.cell? ⟨g, k + j, none⟩ = some (.int .u8 ((setB l k (r.take j))[k + j]'(by rw [setB_length _ _ _ (by simp [hl.out]; omega), hl.out]; omega)).toNat) := by
        rw [ho.2.cellAt (k + j) (by omega), bcs_get]
      have q3 := ho.2.frozenAt (k + j)
      have zg := lt_of_cell q2
      have HS := Lib.hid (setB_step l r k j hjr (by rw [hl.out, hr.out]; omega))
      clear hcell
      generalize (setB l k (r.take j))[k + j]'(_) = old at *
      go_wp2
      go_roundw
      case rel =>
        refine ⟨j + 1, by omega, by go_num, ?_, hb.setCell (p := ⟨g, k + j, none⟩) hgb _⟩
        have h5 := (ho.2.stored (k + j) (.int .u8 (r[j].toNat : Int))).1
        rw [bcs_set, HS.out] at h5
        exact ⟨by rw [setB_length _ _ _ (by simp [hl.out]; omega)]; exact hl.out, h5⟩
      case measure => simp [intOf]; omega
    · obtain rfl : j = n2 := by omega
      go_wp2
      go_ret
      rw [List.take_of_length_le (by rw [hr.out]; omega)] at ho
      exact RetB.mk ho hb
end Go.Proofs.Ytknoenceccpkhaa

/- addr.Right; headers of IPv4: Size, Right. -/
namespace Go.Proofs.Ytknoenceccpkhaa
open Go.RowKit
set_option linter.unusedVariables false
set_option linter.unusedSimpArgs false
attribute [local go_sem ↓] sliced_cut

attribute [local go_sem] cutA_zero

def h4C (ts : Nat) (ln : Int) (id : Nat) (st mo : Bool) (fo : Int) (tl pr sm : Nat) (s6 : Bool) (sh sl : Nat) (d6 : Bool) (dh dl : Nat) (A : Option Addr) (n k : Nat) : List Value := [.int .u8 (ts : Int), .int .i64 ln, .int .u16 (id : Int), .bool st, .bool mo, .int .i64 fo, .int .u8 (tl : Int), .int .u8 (pr : Int), .int .u16 (sm : Int), .bool s6, .int .u64 (sh : Int), .int .u64 (sl : Int), .bool d6, .int .u64 (dh : Int), .int .u64 (dl : Int), .slice A n k]
theorem rowAd : ∃ d, Try.prog.underlying 29 = some d ∧ d.isRow = true := ⟨_, Try.underlying29, rfl⟩
/-- may an address of version 4 be? -/
def ad4 (six : Bool) (h l : Nat) : Bool := !six && (decide (h = 0) && decide (l < 4294967296))
def r4 (n : Nat) (ln fo : Int) (s6 : Bool) (sh sl : Nat) (d6 : Bool) (dh dl : Nat) : Bool := decide (n ≤ 40) && (decide (n % 4 = 0) && (decide (20 + (n : Int) ≤ ln) && (decide (ln ≤ 65535) && (decide (0 ≤ fo) && (decide (fo ≤ 8191) && (ad4 s6 sh sl && ad4 d6 dh dl))))))
end Go.Proofs.Ytknoenceccpkhaa

