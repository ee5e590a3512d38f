/- Texts of the law FollowBytes, part 1. -/
import Derived.ProofKit
import Derived.OpenShut
import Derived.Below
import Derived.WalkKit
import Derived.WalkSpells
import Derived.Laws.OwnMore
import Derived.Deep.Draws
import Derived.Laws.Rows
import Derived.Lib.Hide
import Derived.Maps.AppendAt
import Derived.Deep.AppendLies
import Derived.Deep.QuietTactic
import Derived.BigQuiet
import Derived.ChangeSlices
import Derived.Deep.Fields
import Derived.Laws.CopyOwn
import Derived.StillTailTactics
import Derived.Deep.MidRow
import Derived.Deep.RegionHeld3
import Derived.Deep.Upon
import Derived.Deep.AppendSrc
import Derived.WalkLawsBesides
import Derived.Outline
import Derived.Deep.RegionLaw
import Derived.Deep.CutBlock
import Derived.Deep.RegionWith
import Derived.Deep.DeepCutAuto
import Derived.Deep.Slices
import Derived.Test.YtepodflinhpejaaRows
/- From a walk to the row of a law: whatever the arguments, the call returns true and changes nothing that was there. -/
namespace Go.Proofs.Ytepodflinhpejaa
open Go.ChangeShapes Go.WideShapes Go.ChangeAt Go.RowKit

/-- All arguments read behind the call as they did before it. -/
theorem trodAll_below {H : Type} {enc : TypeId × Value → H} {P : Program} (hl : laidOutB P = true) {W W' : World} (hb : Below W.heap.size W W') :
    ∀ {ts : List TypeId} {vs : List Value} {ds : List (DataW H)} {ps : List MemPlace}, (ts.all fun t => P.readableRec t && decide (t < P.types.size)) = true →
      DataW.TrodAll enc P W 0 (fun _ => true) true ts vs ds ps → DataW.TrodAll enc P W' 0 (fun b => decide (b < W.heap.size)) true ts vs ds ps
  | [], vs, ds, ps, _, h => by
    obtain ⟨rfl, rfl, rfl⟩ := trodAll_nil h
    exact trodAll_mk0
  | t :: ts, vs, ds, ps, hr, h => by
    obtain ⟨v, vs', d, ds', p, q, rfl, rfl, rfl, h0, hs⟩ := trodAll_cons h
    simp only [List.all_cons, Bool.and_eq_true, decide_eq_true_eq] at hr
    have lt0 : ∀ x ∈ p, x.block < W.heap.size := by
      obtain ⟨m, hm⟩ := h0
      exact DataW.trod_lt m _ _ _ hm
    exact trodAll_cons_mk (Below.trod hl hr.1.1 hr.1.2 h0 hb lt0) (trodAll_below hl hb (by simpa using hr.2) hs)

/-- The lift: the law's walk, for every world and all arguments that can be read, gives what the row asks. -/
theorem lift {C : Checked} {os : Os} {f : FuncId} {fn : Func} {s : ChangeSpec} {H : Type} {enc : TypeId × Value → H} {tb : TypeId} (n : Nat)
    (own : ownKnob C.prog.godebug = none) (started : os.Started) (noInit : C.prog.inits.idxOf? f = none) (hfn : C.prog.funcs[f]? = some fn)
    (witness : ∃ (w : World) (tape : Tape) (i : Input), w.os = os ∧ (w.forCall tape i).Shaped C.prog ∧ i.vars = [] ∧ Input.okWide C.prog (w.forCall tape i) .any w.heap.size f i ∧
      s.pre6 enc C.prog fn [] false (w.forCall tape i).memory i.args ∧ ({} : Assume).holds C.prog (lone (Frame.enter C.prog f i.args .normal) [] (w.forCall tape i)))
    (hl : laidOutB C.prog = true) (hrd : (fn.params.toList.all fun t => C.prog.readableRec t && decide (t < C.prog.types.size)) = true)
    (htb : C.prog.underlying tb = some .bool) (hres : fn.resultTypes = #[tb]) (hn : fn.params.toList.length = n) (hvars : s.vars = [])
    (hspec : ∀ ds : List (DataW H), ds.length = n → (s.fn H ds).results = [.lit (.bool true)] ∧ (s.fn H ds).args = ds ∧ (s.fn H ds).vars = [])
    (walk : ∀ (W : World) (base : Nat) (args : Array Value) (ds : List (DataW H)) (ps : List MemPlace),
      (∀ (j : Nat) t v, fn.params[j]? = some t → args[j]? = some v → Value.okWide C.prog W .any base t v) →
      DataW.TrodAll enc C.prog W 0 (fun _ => true) true fn.params.toList args.toList ds ps →
      Calls C.prog f args W fun e W' => e = .returned (.bool true) ∧ Below W.heap.size W W') :
    ReturnsInHanded {} C os f .any (s.pre6 enc C.prog fn [] false) (s.post enc C.prog fn false true false false) := by
  refine returnsInHanded_of_change (C := C) own started noInit hfn witness ?_
  intro W base args ds gs before hval hW _ _
  have hW' := hW
  obtain ⟨p, q, hA, hV, rfl, _, _⟩ := hW
  rw [hvars] at hV
  obtain ⟨rfl, rfl⟩ := trodVars_none hV
  have hlen : ds.length = n := by
    have aux : ∀ {ts : List TypeId} {vs : List Value} {ds : List (DataW H)} {ps : List MemPlace}, DataW.TrodAll enc C.prog W 0 (fun _ => true) true ts vs ds ps → ds.length = ts.length := by
      intro ts
      induction ts with
      | nil => intro vs ds ps h; obtain ⟨_, rfl, _⟩ := trodAll_nil h; rfl
      | cons t ts ih =>
        intro vs ds ps h
        obtain ⟨v, vs', d, ds', p, q, rfl, rfl, rfl, _, hs⟩ := trodAll_cons h
        simp [ih hs]
    rw [aux hA, hn]
  obtain ⟨r1, r2, r3⟩ := hspec ds hlen
  refine (walk W base args ds p hval hA).mono fun e W' ⟨he, bel⟩ => ?_
  subst he
  refine ⟨_, rfl, ds, [], p ++ [], [], p, [], hW', ?_, ?_, ?_, bel.frame _, fun h => by cases h⟩
  · simp only [List.append_nil, r1, hres]
    exact trodAll_mk1 (shut_bool htb _)
  · simp only [List.append_nil, r2]
    exact trodAll_below hl bel hrd hA
  · simp only [List.append_nil, r3, hvars]
    rfl
end Go.Proofs.Ytepodflinhpejaa

/- Words for memory: a slice that reads as a list of cells; a block that is known whole; bytes. No program in sight. -/
namespace Go.Proofs.Ytepodflinhpejaa
open Go.RowKit Go.ChangeShapes Go.WideShapes
set_option linter.unusedVariables false
set_option linter.unusedSimpArgs false

/-- the cells of bytes -/
def bcs (l : List UInt8) : List Value := l.map fun b => .int .u8 (b.toNat : Int)
theorem bcs_length (l : List UInt8) : (bcs l).length = l.length := by simp [bcs]
theorem bcs_append (a b : List UInt8) : bcs (a ++ b) = bcs a ++ bcs b := by simp [bcs]
theorem bcs_take (l : List UInt8) (n : Nat) : (bcs l).take n = bcs (l.take n) := by simp [bcs, List.map_take]
theorem bcs_drop (l : List UInt8) (n : Nat) : (bcs l).drop n = bcs (l.drop n) := by simp [bcs, List.map_drop]
theorem bcs_one (l : List UInt8) : ∀ u ∈ bcs l, u.oneCell' = true := by
  intro u hu
  simp only [bcs, List.mem_map] at hu
  obtain ⟨b, _, rfl⟩ := hu
  rfl
theorem bcs_get (l : List UInt8) (i : Nat) (h : i < l.length) : (bcs l)[i]? = some (.int .u8 (l[i].toNat : Int)) := by simp [bcs, h]
theorem bcs_nil {l : List UInt8} (h : bcs l = []) : l = [] := by simpa [bcs] using h

/-- A slice whose array lies at A reads as the cells cs; its block is below B. -/
def Rd (w : World) (B : Nat) (A : Option Addr) (cs : List Value) : Prop :=
  cs = [] ∨ ∃ b off, A = some ⟨b, off, none⟩ ∧ b < B ∧ ∀ i u, cs[i]? = some u → w.cell? ⟨b, off + i, none⟩ = some u

/-- where a cut lies -/
def cutA (A : Option Addr) (c k s : Nat) : Option Addr := if c = k then A else A.map (·.add (k * s))
theorem sliced_cut (a : Option Addr) (l h m s : Nat) : sliced a l h m s = .slice (cutA a m l s) (h - l) (m - l) := rfl
section
variable {w w' : World} {B B' : Nat} {A : Option Addr} {cs : List Value}
theorem Rd.keep (h : Rd w B A cs) (hk : ∀ p : Addr, p.block < B → w'.cell? p = w.cell? p) : Rd w' B A cs := by
  rcases h with h | ⟨b, off, hA, hb, hc⟩
  · exact .inl h
  · exact .inr ⟨b, off, hA, hb, fun i u hu => (hk _ hb).trans (hc i u hu)⟩
theorem Rd.more (h : Rd w B A cs) (hB : B ≤ B') : Rd w B' A cs := by
  rcases h with h | ⟨b, off, hA, hb, hc⟩
  · exact .inl h
  · exact .inr ⟨b, off, hA, by omega, hc⟩
theorem Rd.below (h : Rd w B A cs) (hb : Below B w w') : Rd w' B A cs := h.keep fun _ hp => hb.cell hp
theorem Rd.drew (h : Rd w B A cs) : Rd w.drew B A cs := h
theorem Rd.drewN (h : Rd w B A cs) (k : Nat) : Rd (w.drewN k) B A cs := h
theorem Rd.alloc (h : Rd w B A cs) (hB : B ≤ w.heap.size) (o : Obj) : Rd (w.alloc o) B A cs := h.keep fun p hp => World.cell?_alloc_lt w o p (by omega)
theorem Rd.setCell (h : Rd w B A cs) {p : Addr} (hB : B ≤ p.block) (u : Value) : Rd (w.setCell p u) B A cs :=
  h.keep fun q hq => World.cell?_setCell_other w p q u (fun e => by subst e; omega)
theorem Rd.grown (h : Rd w B A cs) {row : Option Nat} (hg : w.grownBy w' row) (hB : B ≤ w.heap.size) (hr : ∀ g, row = some g → B ≤ g) : Rd w' B A cs :=
  h.keep fun p hp => World.cell?_of_block (hg.block p.block (by omega) (fun e => by have := hr _ e.symm; omega))
theorem Rd.take (h : Rd w B A cs) (n : Nat) : Rd w B A (cs.take n) := by
  rcases h with h | ⟨b, off, hA, hb, hc⟩
  · exact .inl (by simp [h])
  · refine .inr ⟨b, off, hA, hb, fun i u hu => hc i u ?_⟩
    rw [List.getElem?_take] at hu
    split at hu
    · exact hu
    · cases hu
theorem Rd.cut (h : Rd w B A cs) {c k : Nat} (hc : cs.length ≤ c) : Rd w B (cutA A c k 1) (cs.drop k) := by
  by_cases hk : cs.length ≤ k
  · exact .inl (List.drop_eq_nil_of_le hk)
  rcases h with h | ⟨b, off, hA, hb, hcell⟩
  · exact .inl (by simp [h])
  · refine .inr ⟨b, off + k, ?_, hb, fun i u hu => ?_⟩
    · subst hA
      simp only [cutA, if_neg (show ¬ c = k by omega), Option.map_some, Addr.add, Nat.mul_one]
      split
      · simp_all
      · rfl
    · rw [Nat.add_assoc]
      rw [List.getElem?_drop] at hu
      exact hcell _ _ hu
theorem Rd.of_own {base : Nat} {e : TypeId} {n c : Nat} (h : w.ownsRow base e 1 (.slice A n c) n cs) : Rd w w.heap.size A cs := by
  rcases Nat.eq_zero_or_pos n with h0 | h0
  · subst h0
    exact .inl (List.eq_nil_of_length_eq_zero (by simpa using h.1))
  · obtain ⟨g, cap, hv, _, hlt⟩ := h.form h0
    have hA : A = some ⟨g, 0, none⟩ := by injection hv
    subst hA
    refine .inr ⟨g, 0, rfl, hlt, fun i u hu => ?_⟩
    have := h.cells (g := g) rfl i u hu
    have hplain : (⟨g, 0, none⟩ : Addr).add i = ⟨g, 0 + i, none⟩ := by unfold Addr.add; split <;> simp_all
    rwa [hplain] at this
/-- Where there is an element the address is known. -/
theorem Rd.at_ (h : Rd w B A cs) (hn : 0 < cs.length) : ∃ b off, A = some ⟨b, off, none⟩ ∧ b < B ∧ ∀ i u, cs[i]? = some u → w.cell? ⟨b, off + i, none⟩ = some u := by
  rcases h with h | h
  · subst h; simp at hn
  · exact h
end

theorem add_plain (b off i : Nat) : (⟨b, off, none⟩ : Addr).add i = ⟨b, off + i, none⟩ := by unfold Addr.add; split <;> simp_all
theorem lt_of_cell {w : World} {a : Addr} {v : Value} (h : w.cell? a = some v) : a.block < w.heap.size := by
  rcases Nat.lt_or_ge a.block w.heap.size with h' | h'
  · exact h'
  · simp [World.cell?, Array.getElem?_eq_none h'] at h

/-- A slice of bytes that came in. -/
theorem open_bytes {H : Type} {enc : TypeId × Value → H} {P : Program} {W : World} {base : Nat} {t e : TypeId} {v : Value} {d : DataW H} {p : List MemPlace}
    (ht : P.underlying t = some (.slice e)) (he : P.underlying e = some (.int .u8)) (hC : P.cellsOf e = 1) (hv : Value.okWide P W .any base t v)
    (h : DataW.Trod enc P W 0 (fun _ => true) true t v d p) :
    ∃ A c, ∃ l : List UInt8, v = .slice A l.length c ∧ l.length ≤ c ∧ c ≤ maxLen ∧ Rd W W.heap.size A (bcs l) := by
  obtain ⟨a0, len, cap, rfl⟩ := okWide_slice ht hv
  obtain ⟨fuel, hf⟩ := h
  rcases open_ints ht he hC hf with ⟨hcs, _⟩ | ⟨x, l', c', zs, hcs, _, hl, hm, hz, _, hcell, hwz⟩
  · simp [Value.cells] at hcs
    obtain ⟨rfl, rfl, rfl⟩ := hcs
    exact ⟨none, 0, [], rfl, by simp, by simp, .inl rfl⟩
  · simp [Value.cells] at hcs
    obtain ⟨rfl, rfl, rfl⟩ := hcs
    have hz' : zs.length = cap := by simpa using hz
    refine ⟨some x, cap, (zs.take len).map fun n => UInt8.ofNat n.toNat, ?_, ?_, hm, ?_⟩
    · simp [hz', Nat.min_eq_left hl]
    · simp [hz']; omega
    · rcases Nat.eq_zero_or_pos len with h0 | h0
      · exact .inl (by simp [h0, bcs])
      · have hc0 := hcell 0 (by omega)
        obtain ⟨b, off, spot⟩ := x
        have hspot : spot = none := by simpa [Addr.add] using World.cell?_spot hc0
        subst hspot
        refine .inr ⟨b, off, rfl, lt_of_cell hc0, fun i u hu => ?_⟩
        have hi : i < len := by
          rcases Nat.lt_or_ge i len with h' | h'
          · exact h'
          · rw [List.getElem?_eq_none (by simp [bcs, hz']; omega)] at hu
            cases hu
        have hzi : i < zs.length := by omega
        have hcl := hcell i hzi
        rw [add_plain] at hcl
        rw [hcl]
        have hw := bounds_u8 (hwz zs[i] (List.getElem_mem hzi))
        have hu' : (bcs ((zs.take len).map fun n => UInt8.ofNat n.toNat))[i]? = some (.int .u8 zs[i]) := by
          simp [bcs, hi, hzi]
          omega
        rw [hu'] at hu
        rw [← hu]
        simp [List.getD, hzi]

/-- The types of bytes: a slice type and its element type. -/
structure BT (P : Program) (ts te : TypeId) : Prop where
  sl : P.underlying ts = some (.slice te)
  el : P.underlying te = some (.int .u8)
  info : (P.info? te).map (fun i => (i.zero, i.size, i.bytes)) = some (some (.int .u8 0), 1, 1)

/-- A slice of bytes reads as l. -/
def Rb (w : World) (A : Option Addr) (n c : Nat) (l : List UInt8) : Prop := l.length = n ∧ n ≤ c ∧ Rd w w.heap.size A (bcs l)
/-- A slice of bytes of the call's own (its block from base on) reads as l. -/
def Ob (w : World) (base : Nat) (A : Option Addr) (n c : Nat) (l : List UInt8) : Prop := l.length = n ∧ w.ownsRow base 5 1 (.slice A n c) n (bcs l)

section
variable {w w' : World} {base : Nat} {A : Option Addr} {n c : Nat} {l : List UInt8}
theorem Rb.len (h : Rb w A n c l) : l.length = n := h.1
theorem Rb.cap (h : Rb w A n c l) : n ≤ c := h.2.1
theorem Rb.nil_ : Rb w none 0 0 [] := ⟨rfl, Nat.le_refl _, .inl rfl⟩
theorem Rb.later (h : Rb w A n c l) (hb : Below w.heap.size w w') : Rb w' A n c l := ⟨h.1, h.2.1, (h.2.2.below hb).more hb.size⟩
theorem Rb.drew (h : Rb w A n c l) : Rb w.drew A n c l := h
theorem Rb.drewN (h : Rb w A n c l) (k : Nat) : Rb (w.drewN k) A n c l := h
theorem Rb.alloc (h : Rb w A n c l) (o : Obj) : Rb (w.alloc o) A n c l := ⟨h.1, h.2.1, (h.2.2.alloc (Nat.le_refl _) o).more (by simp)⟩
theorem Rb.take (h : Rb w A n c l) {k : Nat} (hk : k ≤ n) : Rb w A k c (l.take k) := ⟨by rw [List.length_take, h.1]; omega, Nat.le_trans hk h.2.1, by rw [← bcs_take]; exact h.2.2.take k⟩
theorem Rb.cut (h : Rb w A n c l) {k : Nat} (hk : k ≤ n) : Rb w (cutA A c k 1) (n - k) (c - k) (l.drop k) :=
  ⟨by rw [List.length_drop, h.1], by have := h.2.1; omega, by rw [← bcs_drop]; exact h.2.2.cut (by rw [bcs_length, h.1]; exact h.2.1)⟩
theorem Ob.len (h : Ob w base A n c l) : l.length = n := h.1
theorem Ob.rb (h : Ob w base A n c l) : Rb w A n c l := by
  refine ⟨h.1, ?_, Rd.of_own h.2⟩
  rcases h.2.2 with ⟨hv, _⟩ | ⟨g, cap, cur, hv, _, _, hnc, _⟩
  · injection hv with _ h2 h3
    omega
  · injection hv with _ _ h3
    omega
theorem Ob.nil_ : Ob w base none 0 0 [] := ⟨rfl, World.ownsRow_nil w base _ 1⟩
theorem Ob.blk (h : Ob w base A n c l) : ∀ k, (Value.slice A n c).ownBlock = some k → base ≤ k ∧ k < w.heap.size := h.2.lt
theorem Ob.grown {row : Option Nat} (h : Ob w base A n c l) (hg : w.grownBy w' row) (hne : ∀ k, (Value.slice A n c).ownBlock = some k → row ≠ some k) : Ob w' base A n c l := by
  refine ⟨h.1, h.2.kept hg ?_⟩
  cases hk : (Value.slice A n c).ownBlock with
  | none => exact .inl rfl
  | some k => exact .inr (fun e => hne k hk e.symm)
theorem grownBy_of_below (h : Below w.heap.size w w') : w.grownBy w' none := ⟨h.os, h.tape, h.output, h.size, fun i hi _ => h.block i hi⟩
theorem Ob.later (h : Ob w base A n c l) (hb : Below w.heap.size w w') : Ob w' base A n c l := h.grown (grownBy_of_below hb) (fun _ _ => by simp)
theorem Ob.mono {base' : Nat} (h : Ob w base A n c l) (hb : base' ≤ base) : Ob w base' A n c l := by
  refine ⟨h.1, h.2.1, ?_⟩
  rcases h.2.2 with h2 | ⟨g, cap, cur, hv, hg, hr⟩
  · exact .inl h2
  · exact .inr ⟨g, cap, cur, hv, by omega, hr⟩
end

/-- new bytes, written out -/
theorem Ob.lit (w : World) {base : Nat} (hb : base ≤ w.heap.size) (cs : Array Value) (l : List UInt8) (n : Nat) (hn : l.length = n) (hm : n ≤ maxLen) (h : cs.toList = bcs l) : Ob (w.alloc (.cells cs 5)) base (some ⟨w.heap.size, 0, none⟩) n n l := by
  have hs : cs.size = n := by rw [← Array.length_toList, h, bcs_length, hn]
  refine ⟨hn, by rw [bcs_length, hn]; omega, .inr ⟨w.heap.size, n, cs, rfl, hb, heap_alloc_new w _, Nat.le_refl _, hm, by omega, ?_⟩⟩
  rw [h, List.take_of_length_le (by rw [bcs_length]; omega)]

theorem below_of_grown {w w' : World} {base : Nat} {row : Option Nat} (hg : w.grownBy w' row) (hb : base ≤ w.heap.size) (hr : ∀ k, row = some k → base ≤ k) : Below base w w' :=
  ⟨hg.os, hg.tape, hg.output, hg.size, fun i hi => hg.block i (by omega) (fun e => by have := hr _ e.symm; omega)⟩

/-- append onto a row of the call's own, whatever the source -/
theorem run_app {P : Program} (w : World) {ts ty : TypeId} (bt : BT P ts 5) {base : Nat} {A : Option Addr} {n c : Nat} {l : List UInt8} (hown : Ob w base A n c l)
    {A2 : Option Addr} {n2 c2 : Nat} {l2 : List UInt8} (hr : Rb w A2 n2 c2 l2) (hm : n + n2 ≤ 1099511627776) (hbase : base ≤ w.heap.size) :
    ∃ A' n' c' w', (Builtin.append_ #[ts, ts] ty #[.slice A n c, .slice A2 n2 c2]).run P w = .ok (.slice A' n' c') w' ∧ Ob w' base A' n' c' (l ++ l2) ∧ Below base w w' ∧ w.grownBy w' (Value.slice A n c).ownBlock := by
  obtain ⟨i, hi, hz0, hz1, hz2⟩ := info_parts bt.info
  have hbel : ∀ {w'}, w.grownBy w' (Value.slice A n c).ownBlock → Below base w w' := fun hg => below_of_grown hg hbase fun k hk => (hown.blk k hk).1
  have fin : ∀ v' w', w'.ownsRow base 5 1 v' (n + n2) (bcs l ++ bcs l2) → ∃ A' n' c', v' = .slice A' n' c' ∧ Ob w' base A' n' c' (l ++ l2) := by
    intro v' w' h
    have hl : (l ++ l2).length = n + n2 := by rw [List.length_append, hown.1, hr.1]
    rw [← bcs_append] at h
    have h2 := h.2
    rcases h2 with ⟨hv, h0⟩ | ⟨g, cap, cur, hv, _⟩
    · refine ⟨none, 0, 0, hv, by omega, ?_⟩
      rw [hv, h0] at h
      exact h
    · refine ⟨_, _, _, hv, hl, ?_⟩
      rw [hv] at h
      exact h
  cases A2 with
  | none =>
    have hn2 : n2 = 0 := by
      rcases hr.2.2 with h | ⟨b, off, h, _⟩
      · have := hr.1; rw [bcs_nil h] at this; simpa using this.symm
      · cases h
    subst hn2
    have hl2 : l2 = [] := List.eq_nil_of_length_eq_zero hr.1
    subst hl2
    refine ⟨A, n, c, w, ?_, by simpa using hown, Below.refl _ _, World.grownBy.refl w _⟩
    rcases hown.2.2 with ⟨hv, h0⟩ | ⟨g, cap, cur, hv, _, _, hnc, _⟩
    · injection hv with h1 h2 h3
      subst h1 h2 h3
      simp [Builtin.append_, run_underlying bt.sl, sizeOf, typeInfo, hi, Builtin.lenOf, Builtin.firstCells]
    · injection hv with h1 h2 h3
      subst h1 h3
      simp [Builtin.append_, run_underlying bt.sl, sizeOf, typeInfo, hi, Builtin.lenOf, Builtin.firstCells, hnc, storeCells]
  | some ad =>
    have hcells : ∀ j u, (bcs l2)[j]? = some u → w.cell? (ad.add j) = some u := by
      intro j u hu
      rcases hr.2.2 with h | ⟨b, off, h, _, hc⟩
      · rw [h] at hu; simp at hu
      · injection h with h
        subst h
        rw [add_plain]
        exact hc j u hu
    obtain ⟨v', w', hrun, h2, h3, _, _⟩ := run_append_own_at (P := P) w base ts ty 5 i (.int .u8 0) 1 1 bt.sl hi hz0 hz1 hz2 rfl (by omega) (.slice A n c) n (bcs l) hown.2 ad n2 c2 (bcs l2)
      (by rw [bcs_length, hr.1]; omega) hcells (bcs_one l2) (by simp only [maxLen]; omega) (by omega) hbase
    obtain ⟨A', n', c', rfl, hob⟩ := fin v' w' h2
    exact ⟨A', n', c', w', hrun, hob, hbel h3, h3⟩

theorem wpList_app {P : Program} {w : World} {ops : Array Oper} {rest : List Oper} {o : Oper} {a : Act} {Q : Exit → Act → World → Prop} {ts : TypeId} (bt : BT P ts 5) (hgd : o.guard = none) (s x : Operand)
    (ho : o.op = .call { callee := .builtin .append, args := #[s, x], argTypes := #[ts, ts] })
    {base : Nat} {A : Option Addr} {n c : Nat} {l : List UInt8} (hs : a.eval s = .slice A n c) (hown : Ob w base A n c l)
    {A2 : Option Addr} {n2 c2 : Nat} {l2 : List UInt8} (hx : a.eval x = .slice A2 n2 c2) (hr : Rb w A2 n2 c2 l2) (hm : n + n2 ≤ 1099511627776) (hbase : base ≤ w.heap.size)
    (h : ∀ A' n' c' w', Ob w' base A' n' c' (l ++ l2) → Below base w w' → w.grownBy w' (Value.slice A n c).ownBlock → wpList P ops Q rest (a.put o.dst (.slice A' n' c')) w') : wpList P ops Q (o :: rest) a w := by
  refine wpList_plain hgd fun _ hK => ?_
  obtain ⟨A', n', c', w', hrun, h2, h3, h4⟩ := run_app (P := P) w (ty := o.type) bt hown hr hm hbase
  unfold Oper.wp execOp
  simp only [ho, resolve, invoke, builtin, Sem.run_bind, Sem.run_pure, Result.andThen_ok, List.map_toArray, List.map_cons, List.map_nil, hs, hx, hrun]
  exact hK _ _ (h A' n' c' w' h2 h3 h4)

/-- Block g is the cells cs of element type t, none frozen. -/
def Bk (w : World) (g : Nat) (t : TypeId) (cs : List Value) : Prop := w.heap[g]? = some (.cells cs.toArray t (0, 0))
section
variable {w w' : World} {g : Nat} {t : TypeId} {cs : List Value}
theorem Bk.lt (h : Bk w g t cs) : g < w.heap.size := by
  rcases Nat.lt_or_ge g w.heap.size with hlt | hge
  · exact hlt
  · unfold Bk at h; rw [Array.getElem?_eq_none hge] at h; cases h
theorem Bk.cell (h : Bk w g t cs) (i : Nat) : w.cell? ⟨g, i, none⟩ = cs[i]? := by
  unfold Bk at h
  simp [World.cell?, h]
theorem Bk.frozen (h : Bk w g t cs) (i : Nat) : w.frozen? ⟨g, i, none⟩ = false := by
  unfold Bk at h
  simp [World.frozen?, h]
theorem Bk.new (w : World) (t : TypeId) (cs : Array Value) : Bk (w.alloc (.cells cs t)) w.heap.size t cs.toList := heap_alloc_new w _
theorem Bk.alloc (h : Bk w g t cs) (o : Obj) : Bk (w.alloc o) g t cs := (Below.heap_alloc w o g h.lt).trans h
theorem Bk.set_ (h : Bk w g t cs) (i : Nat) (u : Value) : Bk (w.setCell ⟨g, i, none⟩ u) g t (cs.set i u) := by
  unfold Bk at h ⊢
  simp [World.setCell, Array.getElem?_modify, h]
theorem Bk.below {B : Nat} (h : Bk w g t cs) (hb : Below B w w') (hg : g < B) : Bk w' g t cs := (hb.block g hg).trans h
theorem Bk.later (h : Bk w g t cs) (hb : Below w.heap.size w w') : Bk w' g t cs := h.below hb h.lt
theorem Bk.grown {row : Option Nat} (h : Bk w g t cs) (hb : w.grownBy w' row) (hg : row ≠ some g) : Bk w' g t cs := (hb.block g h.lt (fun e => hg e.symm)).trans h
end
theorem grownBy_setCell (w : World) (g i : Nat) (u : Value) : w.grownBy (w.setCell ⟨g, i, none⟩ u) (some g) :=
  ⟨rfl, rfl, rfl, by simp [World.setCell], fun k _ hne => Below.heap_setCell w _ u k (fun e => hne (by rw [e]))⟩
/-- the last m bytes of n, most significant first -/
def dig : Nat → Nat → List UInt8
  | _, 0 => []
  | n, m + 1 => dig (n / 256) m ++ [UInt8.ofNat (n % 256)]
theorem dig_length : ∀ (m n : Nat), (dig n m).length = m
  | 0, _ => rfl
  | m + 1, n => by simp [dig, dig_length m]
theorem over_nil (cs : List Value) (off : Nat) : splice cs off [] = cs := by simp [splice]
theorem over_dig (cs : List Value) (off n m : Nat) (h : off + (m + 1) ≤ cs.length) :
    splice (cs.set (off + m) (.int .u8 ((n % 256 : Nat) : Int))) off (bcs (dig (n / 256) m)) = splice cs off (bcs (dig n (m + 1))) := by
  have e : (bcs (dig n (m + 1))) = bcs (dig (n / 256) m) ++ [.int .u8 ((n % 256 : Nat) : Int)] := by
    rw [dig, bcs_append]
    simp [bcs]
  rw [e]
  unfold splice
  rw [List.take_set_of_le (by omega), bcs_length, dig_length, List.length_append, bcs_length, dig_length]
  have hd : List.drop (off + m) (cs.set (off + m) (.int .u8 ((n % 256 : Nat) : Int))) = .int .u8 ((n % 256 : Nat) : Int) :: List.drop (off + m + 1) cs := by
    rw [List.drop_eq_getElem_cons (by simp; omega)]
    simp [List.drop_set]
  rw [hd]
  simp [Nat.add_assoc]

theorem cutA_some (g off c k : Nat) (h : c ≠ k) : cutA (some ⟨g, off, none⟩) c k 1 = some ⟨g, off + k, none⟩ := by
  simp [cutA, h, add_plain]
theorem Ob.of_bk {w : World} {g base n : Nat} {l : List UInt8} (h : Bk w g 5 (bcs l)) (hb : base ≤ g) (hn : l.length = n) (hm : n ≤ maxLen) : Ob w base (some ⟨g, 0, none⟩) n n l :=
  ⟨hn, by rw [bcs_length, hn]; omega, .inr ⟨g, n, _, rfl, hb, h, Nat.le_refl _, hm, by simp [bcs_length, hn], by rw [List.take_of_length_le (by simp [bcs_length, hn])]⟩⟩

/-- make([]byte, n) -/
theorem wpList_mk {P : Program} {w : World} {ops : Array Oper} {rest : List Oper} {o : Oper} {a : Act} {Q : Exit → Act → World → Prop} {ts : TypeId} (bt : BT P ts 5) (hgd : o.guard = none) (x : Operand)
    (hop : o.op = Op.makeSlice ts x x) (L : Int) (n : Nat) (hl : a.eval x = .int .i64 L) (hL : L = (n : Int)) (hm : n ≤ 1099511627776)
    (h : ∀ w', Bk w' w.heap.size 5 (List.replicate n (.int .u8 0)) → Below w.heap.size w w' → w.heap.size < w'.heap.size → wpList P ops Q rest (a.put o.dst (.slice (some ⟨w.heap.size, 0, none⟩) n n)) w') : wpList P ops Q (o :: rest) a w := by
  refine wpList_plain hgd fun _ hK => ?_
  obtain ⟨i, hi, hz0, hz1, hz2⟩ := info_parts bt.info
  subst hL
  have hr := run_make (P := P) w ts 5 i (.int .u8 0) bt.sl hi hz0 .i64 .i64 n n (by omega) (by omega) (by rw [hz2]; omega) (by omega)
  simp only [Int.toNat_natCast, hz1] at hr
  unfold Oper.wp execOp
  simp only [hop, hl, hr, Sem.run_bind, Sem.run_pure, Result.andThen_ok]
  refine hK _ _ (h _ ?_ ((Below.refl _ _).alloc (Nat.le_refl _) _) (by simp))
  have e : madeCells (Value.int .u8 0).cells (n * 1) = (List.replicate n (Value.int .u8 0)).toArray := by
    apply Array.ext
    · simp [size_madeCells]
    · intro j h1 h2
      simp [madeCells, Value.cells, Nat.mod_one]
  unfold Bk
  rw [heap_alloc_new, e]

/-- copy into a block of the call's own; the operation is told by the slot k that it writes -/
theorem wpList_cpy {P : Program} {w : World} {ops : Array Oper} {rest : List Oper} {o : Oper} {a : Act} {Q : Exit → Act → World → Prop} {ts : TypeId} (k : Nat) (hdst : o.dst = some k) (bt : BT P ts 5) (hgd : o.guard = none) (d s : Operand)
    (ho : o.op = .call { callee := .builtin .copy, args := #[d, s], argTypes := #[ts, ts] })
    {A1 A2 : Option Addr} {n1 c1 n2 c2 : Nat} (hd : a.eval d = .slice A1 n1 c1) (hs : a.eval s = .slice A2 n2 c2)
    (g off : Nat) (cs : List Value) (hg : Bk w g 5 cs) (hA : n2 = 0 ∨ A1 = some ⟨g, off, none⟩) (l : List UInt8) (hr : Rb w A2 n2 c2 l) (hle : n2 ≤ n1) (hfit : off + n2 ≤ cs.length)
    (B : Nat) (w0 : World) (hb : Below B w0 w) (hBg : B ≤ g)
    (h : ∀ w', Bk w' g 5 (splice cs off (bcs l)) → Below B w0 w' → wpList P ops Q rest (a.put o.dst (goInt n2)) w') : wpList P ops Q (o :: rest) a w := by
  obtain ⟨i, hi, hz0, hz1, hz2⟩ := info_parts bt.info
  have hl : (bcs l).length = n2 := by rw [bcs_length, hr.1]
  refine wpList_copy_splice hgd d s ts ts ho 5 bt.sl (by simp [hi, hz1]) _ _ _ _ _ _ hd hs g off cs 5 hg (bcs l) ?_ ?_ (by omega) (bcs_one l) B w0 hb hBg ?_
  · rw [hl]; exact (Nat.min_eq_left hle).symm
  · intro h0
    rcases hA with h1 | h1
    · omega
    · obtain ⟨b, o2, hA2, _, hc⟩ := hr.2.2.at_ h0
      exact ⟨h1, _, hA2, fun j v hj => by rw [add_plain]; exact hc j v hj⟩
  · intro w' h1 h2
    rw [hl]
    exact h w' h1.out h2

theorem cutA_zero (A : Option Addr) (c s : Nat) : cutA A c 0 s = A := by
  unfold cutA
  split
  · rfl
  · cases A <;> simp [Addr.add]

/-- the number of bytes, most significant first -/
def num (l : List UInt8) : Nat := l.foldl (fun n b => n * 256 + b.toNat) 0
theorem num_snoc (l : List UInt8) (b : UInt8) : num (l ++ [b]) = num l * 256 + b.toNat := by simp [num, List.foldl_append]
theorem num_lt : ∀ (k : Nat) (l : List UInt8), l.length ≤ k → num l < 256 ^ k := by
  intro k l
  induction k generalizing l with
  | zero => intro h; have : l = [] := List.eq_nil_of_length_eq_zero (by omega); subst this; decide
  | succ k ih =>
    intro h
    rcases List.eq_nil_or_concat l with rfl | ⟨l', b, rfl⟩
    · exact Nat.pow_pos (by decide)
    · simp only [List.concat_eq_append] at *
      rw [num_snoc]
      have := ih l' (by simpa using h)
      have hb := b.toNat_lt
      rw [Nat.pow_succ]
      omega
theorem num_take_succ (l : List UInt8) (i : Nat) (h : i < l.length) : num (l.take (i + 1)) = num (l.take i) * 256 + l[i].toNat := by
  rw [List.take_succ_eq_append_getElem h, num_snoc]
theorem u64_shl_or (N c : Nat) (hN : N < 72057594037927936) (hc : c < 256) : bits .or .u64 ((N : Int) * 256) (c : Int) = ((N * 256 + c : Nat) : Int) := by
  have h := u64_or_nat (N * 256) c (by omega) (by omega)
  rw [nat_join 8 (N * 256) c (by omega) (by omega)] at h
  simpa using h
theorem pow_le_seven (i : Nat) (h : i ≤ 7) : 256 ^ i ≤ 72057594037927936 := Nat.le_trans (Nat.pow_le_pow_right (by decide) h) (by decide)

/-- string(b) -/
theorem run_str {P : Program} {ts tstr : TypeId} (bt : BT P ts 5) (hstr : P.underlying tstr = some .string) {w : World} {A : Option Addr} {n c : Nat} {l : List UInt8} (h : Rb w A n c l) :
    (convert ts tstr (.slice A n c)).run P w = .ok (.string ⟨l.toArray⟩) w := by
  rw [run_convert_bytes_string w ts tstr _ A n c bt.sl bt.el hstr]
  obtain ⟨h1, _, h3⟩ := h
  subst h1
  cases A with
  | none =>
    have : l = [] := by
      rcases h3 with h | ⟨b, off, h, _⟩
      · exact bcs_nil h
      · cases h
    subst this
    simp [Conv.bytesToString]
    rfl
  | some ad =>
    have hl : (loadCells ad l.length).run P w = .ok ((l.map fun b => (b.toNat : Int)).map (Value.int .u8)).toArray w := by
      have := run_loadCells_list (P := P) w ad (bcs l) (fun j v hj => by
        rcases h3 with h | ⟨b, off, h, _, hc⟩
        · rw [h] at hj; simp at hj
        · injection h with h
          subst h
          rw [add_plain]
          exact hc j v hj)
      rw [bcs_length] at this
      simpa [bcs, Function.comp_def] using this
    rw [run_bytesToString w ad l.length c _ hl, foldl_push_bytes]
    simp [ByteArray.empty, ByteArray.emptyWithCapacity, Function.comp_def]
    rfl
theorem Rb.setCell {w : World} {A : Option Addr} {n c : Nat} {l : List UInt8} (h : Rb w A n c l) {p : Addr} (hp : ∀ a, A = some a → a.block ≠ p.block) (u : Value) : Rb (w.setCell p u) A n c l := by
  refine ⟨h.1, h.2.1, ?_⟩
  rcases h.2.2 with h' | ⟨b, off, hA, hb, hc⟩
  · exact .inl h'
  · refine .inr ⟨b, off, hA, by simpa [World.setCell] using hb, fun i u' hu => ?_⟩
    rw [World.cell?_setCell_other w p ⟨b, off + i, none⟩ u (fun e => hp _ hA (by rw [e]))]
    exact hc i u' hu

theorem Ob.setCell {w : World} {base : Nat} {A : Option Addr} {n c : Nat} {l : List UInt8} (h : Ob w base A n c l) {p : Addr} (hp : p.block < base) (u : Value) : Ob (w.setCell p u) base A n c l :=
  ⟨h.1, ownsRow_setCell_below h.2 hp u⟩

/-! ### A world with more blocks behind it: what a callee leaves -/
/-- w with the blocks bs behind its own, and d answers drawn -/
def plus (w : World) (bs : List Obj) (d : Nat) : World := { w with heap := w.heap ++ bs.toArray, drawn := d }
section
variable {w W : World} {bs : List Obj} {d : Nat}
@[go_sem] theorem size_plus (w : World) (bs : List Obj) (d : Nat) : (plus w bs d).heap.size = w.heap.size + bs.length := by simp [plus]
theorem block_plus {n : Nat} (h : n < w.heap.size) : (plus w bs d).heap[n]? = w.heap[n]? := by
  simp [plus, Array.getElem?_append, h]
@[go_sem] theorem cell_plus (w : World) (bs : List Obj) (d : Nat) (n i : Nat) (hn : n < w.heap.size) : (plus w bs d).cell? ⟨n, i, none⟩ = w.cell? ⟨n, i, none⟩ := World.cell?_of_block (block_plus hn)
@[go_sem] theorem frozen_plus (w : World) (bs : List Obj) (d : Nat) (n i : Nat) (hn : n < w.heap.size) : (plus w bs d).frozen? ⟨n, i, none⟩ = w.frozen? ⟨n, i, none⟩ := World.frozen?_of_block (block_plus hn)
@[go_sem] theorem setCell_plus (w : World) (bs : List Obj) (d : Nat) (n i : Nat) (v : Value) (hn : n < w.heap.size) : (plus w bs d).setCell ⟨n, i, none⟩ v = plus (w.setCell ⟨n, i, none⟩ v) bs d := by
  simp only [plus, World.setCell, World.mk.injEq, and_true]
  apply Array.ext
  · simp
  · intro j h1 h2
    simp only [Array.getElem_append, Array.getElem_modify, Array.size_modify] at *
    by_cases hj : j < w.heap.size
    · simp [hj]
    · simp [hj]
      intro e
      omega
@[go_sem] theorem lt_more {n m k : Nat} (h : n < m) : (n < m + k) = True := eq_true (by omega)
@[go_sem] theorem lt_more2 {n m k0 k1 : Nat} (h : n < m) : (n < m + k0 + k1) = True := eq_true (by omega)
@[go_sem] theorem lt_more3 {n m k0 k1 k2 : Nat} (h : n < m) : (n < m + k0 + k1 + k2) = True := eq_true (by omega)
@[go_sem] theorem lt_more4 {n m k0 k1 k2 k3 : Nat} (h : n < m) : (n < m + k0 + k1 + k2 + k3) = True := eq_true (by omega)
@[go_sem] theorem lt_more5 {n m k0 k1 k2 k3 k4 : Nat} (h : n < m) : (n < m + k0 + k1 + k2 + k3 + k4) = True := eq_true (by omega)
@[go_sem] theorem lt_more6 {n m k0 k1 k2 k3 k4 k5 : Nat} (h : n < m) : (n < m + k0 + k1 + k2 + k3 + k4 + k5) = True := eq_true (by omega)
@[go_sem] theorem lt_more7 {n m k0 k1 k2 k3 k4 k5 k6 : Nat} (h : n < m) : (n < m + k0 + k1 + k2 + k3 + k4 + k5 + k6) = True := eq_true (by omega)
@[go_sem] theorem lt_more8 {n m k0 k1 k2 k3 k4 k5 k6 k7 : Nat} (h : n < m) : (n < m + k0 + k1 + k2 + k3 + k4 + k5 + k6 + k7) = True := eq_true (by omega)
@[go_sem] theorem lt_more9 {n m k0 k1 k2 k3 k4 k5 k6 k7 k8 : Nat} (h : n < m) : (n < m + k0 + k1 + k2 + k3 + k4 + k5 + k6 + k7 + k8) = True := eq_true (by omega)
@[go_sem] theorem lt_more10 {n m k0 k1 k2 k3 k4 k5 k6 k7 k8 k9 : Nat} (h : n < m) : (n < m + k0 + k1 + k2 + k3 + k4 + k5 + k6 + k7 + k8 + k9) = True := eq_true (by omega)
@[go_sem] theorem plus_drew (w : World) (bs : List Obj) (d : Nat) : plus w.drew bs d = plus w bs d := rfl
@[go_sem] theorem plus_drewN (w : World) (bs : List Obj) (d n : Nat) : plus (w.drewN n) bs d = plus w bs d := rfl
@[go_sem] theorem drew_plus (w : World) (bs : List Obj) (d : Nat) : (plus w bs d).drew = plus w bs (d + 1) := rfl
@[go_sem] theorem drewN_plus (w : World) (bs : List Obj) (d n : Nat) : (plus w bs d).drewN n = plus w bs (d + n) := rfl
theorem plus_of (h : Below W.heap.size W w) : ∃ bs d, w = plus W bs d := by
  refine ⟨(w.heap.toList.drop W.heap.size), w.drawn, ?_⟩
  have hh : w.heap = W.heap ++ (w.heap.toList.drop W.heap.size).toArray := by
    apply Array.ext_getElem?
    intro j
    rw [Array.getElem?_append]
    split
    · rename_i hj
      exact h.block j hj
    · rename_i hj
      simp only [List.getElem?_toArray, List.getElem?_drop]
      rw [show W.heap.size + (j - W.heap.size) = j from by omega]
      simp
  have h1 := h.os
  have h2 := h.tape
  have h3 := h.output
  cases w
  simp only [plus] at *
  subst h1 h2 h3
  rw [← hh]
theorem below_plus (w : World) (bs : List Obj) (d : Nat) : Below w.heap.size w (plus w bs d) := ⟨rfl, rfl, rfl, by simp [plus], fun _ hk => block_plus hk⟩
theorem toPlus {B : Nat} {a : World} (h : Below B a w) (hB : B ≤ w.heap.size) (bs : List Obj) (d : Nat) : Below B a (plus w bs d) := h.trans ((below_plus w bs d).mono hB)
theorem Rb.plus_ {A : Option Addr} {n c : Nat} {l : List UInt8} (h : Rb w A n c l) (bs : List Obj) (d : Nat) : Rb (plus w bs d) A n c l := h.later (below_plus w bs d)
theorem Ob.plus_ {base : Nat} {A : Option Addr} {n c : Nat} {l : List UInt8} (h : Ob w base A n c l) (bs : List Obj) (d : Nat) : Ob (plus w bs d) base A n c l := h.later (below_plus w bs d)
theorem Ob.alloc {base : Nat} {A : Option Addr} {n c : Nat} {l : List UInt8} (h : Ob w base A n c l) (o : Obj) : Ob (w.alloc o) base A n c l := ⟨h.1, h.2.alloc o⟩
end

/-- The call returns new bytes l, and changes nothing that was there. -/
def RetB (w : World) (l : List UInt8) (e : Ending) (w' : World) : Prop := ∃ A n c bs d, e = .returned (.slice A n c) ∧ w' = plus w bs d ∧ Ob (plus w bs d) w.heap.size A n c l
theorem RetB.mk {w w' : World} {l : List UInt8} {A : Option Addr} {n c : Nat} (ho : Ob w' w.heap.size A n c l) (hb : Below w.heap.size w w') : RetB w l (.returned (.slice A n c)) w' := by
  obtain ⟨bs, d, rfl⟩ := plus_of hb
  exact ⟨A, n, c, bs, d, rfl, rfl, ho⟩
theorem grown_plus {W w' : World} {bs : List Obj} {d r : Nat} (h : (plus W bs d).grownBy w' (some r)) (hr : W.heap.size ≤ r) : ∃ bs' d', w' = plus W bs' d' := by
  refine plus_of ?_
  have h2 : Below W.heap.size (plus W bs d) w' := below_of_grown h (by simp [size_plus]) (fun k hk => by injection hk with hk; omega)
  exact (below_plus W bs d).trans h2
/-- append onto a row of the call's own; W0: the world ahead of all own rows -/
theorem wpList_appP {P : Program} {w : World} {ops : Array Oper} {rest : List Oper} {o : Oper} {a : Act} {Q : Exit → Act → World → Prop} {ts : TypeId} (W0 : World) (bt : BT P ts 5) (hgd : o.guard = none) (s x : Operand)
    (ho : o.op = .call { callee := .builtin .append, args := #[s, x], argTypes := #[ts, ts] }) (hW : Below W0.heap.size W0 w)
    {A : Option Addr} {n c : Nat} {l : List UInt8} (hs : a.eval s = .slice A n c) (hown : Ob w W0.heap.size A n c l)
    {A2 : Option Addr} {n2 c2 : Nat} {l2 : List UInt8} (hx : a.eval x = .slice A2 n2 c2) (hr : Rb w A2 n2 c2 l2) (hm : n + n2 ≤ 1099511627776)
    (h : ∀ A' n' c' bs d, Ob (plus W0 bs d) W0.heap.size A' n' c' (l ++ l2) → w.grownBy (plus W0 bs d) (Value.slice A n c).ownBlock → wpList P ops Q rest (a.put o.dst (.slice A' n' c')) (plus W0 bs d)) : wpList P ops Q (o :: rest) a w := by
  refine wpList_app bt hgd s x ho hs hown hx hr hm hW.size ?_
  intro A' n' c' w' h1 h2 h3
  obtain ⟨bs, d, rfl⟩ := plus_of (hW.trans h2)
  exact h A' n' c' bs d h1 h3
/-- append([]byte{}, x...): the block of the empty literal is the last one -/
theorem wpList_app0 {P : Program} {W0 : World} {ops : Array Oper} {rest : List Oper} {o : Oper} {a : Act} {Q : Exit → Act → World → Prop} {ts : TypeId} (bt : BT P ts 5) (hgd : o.guard = none) (s x : Operand)
    (ho : o.op = .call { callee := .builtin .append, args := #[s, x], argTypes := #[ts, ts] }) {k : Nat} (hs : a.eval s = .slice (some ⟨k, 0, none⟩) 0 0) (hk : k = W0.heap.size)
    {A2 : Option Addr} {n2 c2 : Nat} {l2 : List UInt8} (hx : a.eval x = .slice A2 n2 c2) (hr : Rb W0 A2 n2 c2 l2) (hm : n2 ≤ 1099511627776)
    (h : ∀ A' n' c' bs d, Ob (plus W0 bs d) W0.heap.size A' n' c' l2 → wpList P ops Q rest (a.put o.dst (.slice A' n' c')) (plus W0 bs d)) : wpList P ops Q (o :: rest) a (W0.alloc (.cells #[] 5)) := by
  subst hk
  refine wpList_appP W0 bt hgd s x ho ((Below.refl _ _).alloc (Nat.le_refl _) _) hs (Ob.lit W0 (Nat.le_refl _) #[] [] 0 rfl (Nat.zero_le _) rfl) hx (hr.alloc _) (by omega) ?_
  intro A' n' c' bs d h1 _
  exact h A' n' c' bs d h1

theorem Ob.drew {w : World} {base : Nat} {A : Option Addr} {n c : Nat} {l : List UInt8} (h : Ob w base A n c l) : Ob w.drew base A n c l := h
theorem Bk.drew {w : World} {g : Nat} {t : TypeId} {cs : List Value} (h : Bk w g t cs) : Bk w.drew g t cs := h
/-- A slice of bytes in a field that came in. -/
theorem open_bytes_cell {H : Type} {enc : TypeId × Value → H} {P : Program} {W : World} {t e : TypeId} {m : Nat} {u : Value} {y : DataW H × List MemPlace}
    (ht : P.underlying t = some (.slice e)) (he : P.underlying e = some (.int .u8)) (hC : P.cellsOf e = 1)
    (hf : DataW.trod enc P W 0 (fun _ => true) true m t [u] = some y) :
    ∃ A n c, ∃ l : List UInt8, u = .slice A n c ∧ c ≤ maxLen ∧ Rb W A n c l := by
  rcases open_ints ht he hC hf with ⟨hcs, _⟩ | ⟨x, len, cap, zs, hcs, _, hl, hm, hz, _, hcell, hwz⟩
  · simp at hcs
    exact ⟨none, 0, 0, [], hcs, Nat.zero_le _, Rb.nil_⟩
  · simp at hcs
    have hz' : zs.length = cap := by simpa using hz
    refine ⟨some x, len, cap, (zs.take len).map fun n => UInt8.ofNat n.toNat, hcs, hm, by simp [hz', Nat.min_eq_left hl], hl, ?_⟩
    rcases Nat.eq_zero_or_pos len with h0 | h0
    · exact .inl (by simp [h0, bcs])
    · have hc0 := hcell 0 (by omega)
      obtain ⟨b, off, spot⟩ := x
      have hspot : spot = none := by simpa [Addr.add] using World.cell?_spot hc0
      subst hspot
      refine .inr ⟨b, off, rfl, lt_of_cell hc0, fun i u hu => ?_⟩
      have hi : i < len := by
        rcases Nat.lt_or_ge i len with h' | h'
        · exact h'
        · rw [List.getElem?_eq_none (by simp [bcs, hz']; omega)] at hu
          cases hu
      have hzi : i < zs.length := by omega
      have hcl := hcell i hzi
      rw [add_plain] at hcl
      rw [hcl]
      have hw := bounds_u8 (hwz zs[i] (List.getElem_mem hzi))
      have hu' : (bcs ((zs.take len).map fun n => UInt8.ofNat n.toNat))[i]? = some (.int .u8 zs[i]) := by
        simp [bcs, hi, hzi]
        omega
      rw [hu'] at hu
      rw [← hu]
      simp [List.getD, hzi]
/-- The call returns v, and changes nothing that was there. -/
def RetV (w : World) (v : Value) (e : Ending) (w' : World) : Prop := ∃ bs d, e = .returned v ∧ w' = plus w bs d
theorem RetV.mk {w w' : World} {v : Value} (hb : Below w.heap.size w w') : RetV w v (.returned v) w' := by
  obtain ⟨bs, d, rfl⟩ := plus_of hb
  exact ⟨bs, d, rfl, rfl⟩
theorem belowP {a w : World} (h : Below a.heap.size a w) (bs : List Obj) (d : Nat) : Below a.heap.size a (plus w bs d) := toPlus h h.size bs d
theorem Rb.litW {W : World} {k n : Nat} (cs : Array Value) (l : List UInt8) (hk : k = W.heap.size) (hn : l.length = n) (hm : n ≤ maxLen) (h : cs.toList = bcs l) : Rb (W.alloc (.cells cs 5)) (some ⟨k, 0, none⟩) n n l := by
  subst hk
  exact (Ob.lit W (Nat.le_refl _) cs l n hn hm h).rb
/-! ### A region that draws its order, whose operations read what was there and whose calls make memory and hand back plain values -/
theorem plus_plus (w : World) (bs bs' : List Obj) (d d' : Nat) : plus (plus w bs d) bs' d' = plus w (bs ++ bs') d' := by simp [plus, Array.append_assoc]
/-- more blocks, and a count of draws -/
structure Ext where
  bs : List Obj
  d : Nat
instance : Inhabited Ext := ⟨⟨[], 0⟩⟩
end Go.Proofs.Ytepodflinhpejaa

/- A region that draws its order, by what each operation's value is good for: every operation reads, or makes memory, and changes nothing that was there; a tail may follow in its order. -/
namespace Go.Proofs.Ytepodflinhpejaa
open Go.RowKit Go.ChangeShapes Go.WideShapes
set_option linter.unusedVariables false

/-- w' is w with more blocks -/
def Ex (w w' : World) : Prop := ∃ x : Ext, w' = plus w x.bs x.d
theorem Ex.refl (w : World) : Ex w w := ⟨⟨[], w.drawn⟩, by simp [plus]⟩
theorem Ex.trans {a b c : World} (h : Ex a b) (h' : Ex b c) : Ex a c := by
  obtain ⟨x, rfl⟩ := h
  obtain ⟨y, rfl⟩ := h'
  exact ⟨⟨x.bs ++ y.bs, y.d⟩, plus_plus _ _ _ _ _⟩
theorem Ex.of {w w' : World} (h : Below w.heap.size w w') : Ex w w' := by
  obtain ⟨bs, d, rfl⟩ := plus_of h
  exact ⟨⟨bs, d⟩, rfl⟩
theorem Ex.below {w w' : World} (h : Ex w w') : Below w.heap.size w w' := by
  obtain ⟨x, rfl⟩ := h
  exact below_plus _ _ _
theorem Ex.alloc (w : World) (o : Obj) : Ex w (w.alloc o) := Ex.of ((Below.refl _ _).alloc (Nat.le_refl _) o)
theorem Ex.plus_ (w : World) (bs : List Obj) (d : Nat) : Ex w (plus w bs d) := ⟨⟨bs, d⟩, rfl⟩

/-- what a value is good for; it stays so -/
structure MP where
  p : Value → World → Prop
  mono : ∀ v w w', p v w → Ex w w' → p v w'
def MP.any : MP := ⟨fun _ _ => True, fun _ _ _ _ _ => trivial⟩
def MP.eq (c : Value) : MP := ⟨fun v _ => v = c, fun _ _ _ h _ => h⟩
def MP.rb (l : List UInt8) : MP := ⟨fun v w => ∃ A n c, v = .slice A n c ∧ Rb w A n c l, fun _ _ _ ⟨A, n, c, h1, h2⟩ h => ⟨A, n, c, h1, h2.later h.below⟩⟩
def MP.ob (base : Nat) (l : List UInt8) : MP := ⟨fun v w => ∃ A n c, v = .slice A n c ∧ Ob w base A n c l, fun _ _ _ ⟨A, n, c, h1, h2⟩ h => ⟨A, n, c, h1, h2.later h.below⟩⟩

def MP.rbN (base : Nat) (l : List UInt8) : MP := ⟨fun v w => ∃ A n c, v = .slice A n c ∧ Rb w A n c l ∧ ∀ a, A = some a → base ≤ a.block, fun _ _ _ ⟨A, n, c, h1, h2, h3⟩ h => ⟨A, n, c, h1, h2.later h.below, h3⟩⟩
/-- append onto a slice without room: new memory, or nothing -/
theorem run_appF {P : Program} (w : World) {ts ty : TypeId} (bt : BT P ts 5) {A : Option Addr} {n : Nat} {l : List UInt8} (hr : Rb w A n n l)
    {A2 : Option Addr} {n2 c2 : Nat} {l2 : List UInt8} (hr2 : Rb w A2 n2 c2 l2) (hm : n + n2 ≤ 1099511627776) :
    ∃ A' n' c' w', (Builtin.append_ #[ts, ts] ty #[.slice A n n, .slice A2 n2 c2]).run P w = .ok (.slice A' n' c') w' ∧ Rb w' A' n' c' (l ++ l2) ∧ Ex w w' ∧ (A' = A ∨ A' = some ⟨w.heap.size, 0, none⟩) := by
  obtain ⟨i, hi, hz0, hz1, hz2⟩ := info_parts bt.info
  have hsrc : Src P i.size ts (.slice A2 n2 c2) n2 (bcs l2) w := by
    rw [hz1]
    cases A2 with
    | none =>
      have hl2 : l2 = [] := by
        rcases hr2.2.2 with h | ⟨b, off, h, _⟩
        · exact bcs_nil h
        · cases h
      subst hl2
      obtain rfl : n2 = 0 := hr2.1.symm
      exact Src.ofNil w bt.sl c2
    | some ad =>
      refine Src.ofSlice w bt.sl ad n2 c2 (bcs l2) (by rw [bcs_length, hr2.1, Nat.mul_one]) (fun j u hu => ?_) (bcs_one l2)
      rcases hr2.2.2 with h | ⟨b, off, h, _, hc⟩
      · rw [h] at hu; simp at hu
      · injection h with h
        subst h
        rw [add_plain]
        exact hc j u hu
  by_cases h0 : n2 = 0
  · subst h0
    obtain rfl : l2 = [] := List.eq_nil_of_length_eq_zero hr2.1
    exact ⟨A, n, n, w, run_append_nothing w ts ts ty 5 i bt.sl hi A n n (Nat.le_refl _) _ hsrc, by simpa using hr, Ex.refl _, .inl rfl⟩
  · have hold : (Builtin.firstCells i.size n (.slice A n n)).run P w.drew = .ok (bcs l).toArray w.drew := by
      rw [hz1]
      cases A with
      | none =>
        have hl : l = [] := by
          rcases hr.2.2 with h | ⟨b, off, h, _⟩
          · exact bcs_nil h
          · cases h
        subst hl
        exact run_firstCells_none w.drew 1 n n n
      | some ad =>
        refine run_firstCells_some w.drew 1 n ad n n (bcs l) (by rw [bcs_length, hr.1, Nat.mul_one]) (fun j u hu => ?_)
        rcases hr.2.2 with h | ⟨b, off, h, _, hc⟩
        · rw [h] at hu; simp at hu
        · injection h with h
          subst h
          rw [add_plain]
          exact hc j u hu
    have H := run_append_grow_src (P := P) w ts ts ty 5 i (.int .u8 0) bt.sl hi hz0 A n n (bcs l) hold _ n2 (bcs l2) hsrc (by omega) (by omega) (growslice_fits (by omega) (by rw [hz2]; omega))
    refine ⟨_, _, _, _, H, ⟨by rw [List.length_append, hr.1, hr2.1], grownCap_ge w _ _ _, .inr ⟨w.heap.size, 0, rfl, by simp, fun j u hu => ?_⟩⟩, Ex.of ((Below.refl _ _).drew.alloc (Nat.le_refl _) _), .inr rfl⟩
    rw [Nat.zero_add]
    have hj : j < (bcs (l ++ l2)).length := (List.getElem?_eq_some_iff.1 hu).1
    have hb := Bk.new w.drew 5 ((bcs l ++ bcs l2).toArray ++ Builtin.zeroCells (Value.int .u8 0).cells (grownCap w (n + n2) n 5 - (n + n2)))
    have hc := hb.cell j
    rw [bcs_append] at hu hj
    simp only [World.size_drew, Array.toList_append, List.getElem?_append_left hj, hu] at hc
    exact hc

section
variable {P : Program} {ops : Array Oper} {Q : Exit → Act → World → Prop}

def cnt (listed : Array Bool) : Nat → Nat
  | 0 => 0
  | n + 1 => cnt listed n + (if listed.getD n true then 0 else 1)
theorem cnt_set {listed : Array Bool} {i : Nat} (hi : listed.getD i true = false) : ∀ n, cnt (listed.setIfInBounds i true) n + (if i < n then 1 else 0) = cnt listed n
  | 0 => by simp [cnt]
  | n + 1 => by
    have ih := cnt_set hi n
    have hs : i < listed.size := by
      rcases Nat.lt_or_ge i listed.size with h | h
      · exact h
      · simp [Array.getElem?_eq_none h] at hi
    simp only [cnt]
    by_cases hn : i = n
    · subst hn
      have e : (listed.setIfInBounds i true).getD i true = true := by simp [hs]
      rw [e, hi]
      simp at ih ⊢
      omega
    · rw [getD_set_ne true hn]
      have e2 : (if i < n + 1 then 1 else 0) = (if i < n then 1 else 0) := by split <;> split <;> omega
      omega
theorem cnt_zero {listed : Array Bool} : ∀ n, cnt listed n = 0 → ∀ i, i < n → listed.getD i true = true
  | 0, _, i, h => by omega
  | n + 1, h, i, hi => by
    simp only [cnt] at h
    by_cases hn : i = n
    · subst hn
      cases hg : listed.getD i true with
      | true => rfl
      | false => rw [hg] at h; simp at h
    · exact cnt_zero n (by omega) i (by omega)
theorem cnt_first {listed : Array Bool} : ∀ n, cnt listed n ≠ 0 → ∃ i, i < n ∧ listed.getD i true = false ∧ ∀ j, j < i → listed.getD j true = true
  | 0, h => by simp [cnt] at h
  | n + 1, h => by
    by_cases h0 : cnt listed n = 0
    · refine ⟨n, by omega, ?_, fun j hj => cnt_zero n h0 j hj⟩
      simp only [cnt, h0] at h
      cases hg : listed.getD n true with
      | true => rw [hg] at h; simp at h
      | false => rfl
    · obtain ⟨i, h1, h2, h3⟩ := cnt_first n h0
      exact ⟨i, by omega, h2, h3⟩
theorem cnt_init (m : Nat) : ∀ n, n ≤ m → cnt (Array.replicate m false) n = n
  | 0, _ => rfl
  | n + 1, h => by
    simp only [cnt, cnt_init m n (by omega)]
    have : (Array.replicate m false).getD n true = false := by simp [show n < m by omega]
    rw [this]
    simp

/-- may the region be walked so: n operations ahead of the tail, N slots -/
def relB (ops : Array Oper) (n N : Nat) : Bool :=
  decide (n ≤ ops.size) && (decide (n = ops.size) || (Region.sinkB .any ops n && Region.chainB .any ops n)) &&
  Region.seqB .any ops (ops.size - n) n ((List.range ops.size).map fun i => decide (i < n)).toArray &&
  (List.range n).all fun i => match ops[i]? with
    | none => false
    | some o => (match o.dst with | some s => decide (s < N) | none => false) && (o.after.all fun e => !Region.binds .any e || decide (e.on < i)) &&
      (List.range n).all fun j => j == i || (match (ops[j]?).bind (·.dst) with | some s => o.dst != some s | none => false)
/-- what operation i sees in slot s is what lay there ahead of the region -/
def outB (ops : Array Oper) (n i s : Nat) : Bool := (List.range n).all fun j => j == i || (match (ops[j]?).bind (·.dst) with | some d => d != s || Region.waitsFor .any ops j i | none => true)
/-- operation i waits for operation j, which writes slot s -/
def depB (ops : Array Oper) (n i j s : Nat) : Bool := decide (j < n) && Region.waitsFor .any ops i j && ((ops[j]?).bind (·.dst) == some s)

def putAll : List Oper → (Nat → Value) → Nat → Act → Act
  | [], _, _, a => a
  | o :: r, vs, k, a => putAll r vs (k + 1) (a.put o.dst (vs k))

theorem eval_put_same {a : Act} {s : Nat} {v : Value} (h : s < a.tmps.size) : (a.put (some s) v).eval (.tmp s) = v := by simp [Act.put, Act.eval, h]
theorem size_put (a : Act) (d : Option Tmp) (v : Value) : (a.put d v).tmps.size = a.tmps.size := by cases d <;> simp [Act.put]
theorem defers_put (a : Act) (d : Option Tmp) (v : Value) : (a.put d v).defers = a.defers := by cases d <;> rfl
theorem putAll_size : ∀ (l : List Oper) (vs : Nat → Value) (k : Nat) (a : Act), (putAll l vs k a).tmps.size = a.tmps.size
  | [], _, _, _ => rfl
  | o :: r, vs, k, a => by rw [putAll, putAll_size r, size_put]
theorem putAll_defers : ∀ (l : List Oper) (vs : Nat → Value) (k : Nat) (a : Act), (putAll l vs k a).defers = a.defers
  | [], _, _, _ => rfl
  | o :: r, vs, k, a => by rw [putAll, putAll_defers r, defers_put]
theorem putAll_eval (A : Act) (s : Nat) : ∀ (l : List Oper) (vs : Nat → Value) (k : Nat) (a : Act), s < a.tmps.size → (∀ j o, l[j]? = some o → o.dst = some s → vs (k + j) = A.eval (.tmp s)) →
    ((∃ o ∈ l, o.dst = some s) → (putAll l vs k a).eval (.tmp s) = A.eval (.tmp s)) ∧ ((∀ o ∈ l, o.dst ≠ some s) → (putAll l vs k a).eval (.tmp s) = a.eval (.tmp s))
  | [], _, _, _, _, _ => ⟨fun ⟨o, h, _⟩ => (by cases h), fun _ => rfl⟩
  | o :: r, vs, k, a, hs, hv => by
    have ih := putAll_eval A s r vs (k + 1) (a.put o.dst (vs k)) (by rw [size_put]; exact hs) (fun j o' hj hd => by
      have := hv (j + 1) o' (by simpa using hj) hd
      rw [← this]
      congr 1
      omega)
    rw [putAll]
    constructor
    · rintro ⟨o', ho', hd⟩
      by_cases hr : ∃ o'' ∈ r, o''.dst = some s
      · exact ih.1 hr
      · rcases List.mem_cons.1 ho' with rfl | h
        · rw [ih.2 (fun o'' h h' => hr ⟨o'', h, h'⟩), hd, eval_put_same hs]
          exact hv 0 _ rfl hd
        · exact absurd ⟨o', h, hd⟩ hr
    · intro hn
      rw [ih.2 (fun o' h => hn o' (List.mem_cons_of_mem _ h)), Act.eval_put (fun d hd e => hn o (List.mem_cons_self) (by rw [hd]; injection e with e; rw [e]))]
theorem act_ext {a b : Act} (h1 : a.tmps.size = b.tmps.size) (h2 : a.defers = b.defers) (h3 : ∀ s, s < a.tmps.size → a.eval (.tmp s) = b.eval (.tmp s)) : a = b := by
  cases a with | mk ta da =>
  cases b with | mk tb db =>
  simp only at h1 h2 h3
  subst h2
  congr 1
  refine Array.ext h1 fun i hi hj => ?_
  have := h3 i hi
  simpa [Act.eval, hi, hj] using this

structure RInv (ops : Array Oper) (n : Nat) (a0 : Act) (w0 : World) (Φ : Nat → MP) (listed : Array Bool) (A : Act) (w : World) : Prop where
  head : HeadInv .any ops n listed
  ex : Ex w0 w
  size : A.tmps.size = a0.tmps.size
  defers : A.defers = a0.defers
  out : ∀ s, (∀ j, j < n → ∀ o, ops[j]? = some o → listed.getD j false = true → o.dst ≠ some s) → A.eval (.tmp s) = a0.eval (.tmp s)
  ins : ∀ j, j < n → ∀ o s, ops[j]? = some o → listed.getD j false = true → o.dst = some s → (Φ j).p (A.eval (.tmp s)) w

theorem wanted_if {o : Oper} {tmps : Array Value} {X Y : Prop} (h : o.guard = none) (hx : X) : if Region.wanted o (yielded ops tmps) = true then X else Y := by
  rw [if_pos (by simp [Region.wanted, h])]
  exact hx
theorem wp_rel {id : Nat} {a : Act} {w : World} {l : List Oper} (n N : Nat) (hN : a.tmps.size = N) (hm : P.follows .mixedOrders = true) (hB : relB l.toArray n N = true) (Φ : Nat → MP)
    (step : ∀ i, i < n → ∀ o, l[i]? = some o → ∀ (A : Act) (x : Ext), (∀ s, outB l.toArray n i s = true → A.eval (.tmp s) = a.eval (.tmp s)) → (∀ j s, depB l.toArray n i j s = true → (Φ j).p (A.eval (.tmp s)) (plus w x.bs x.d)) →
      ∀ K : Act → World → Prop, Shut (∀ v w', Ex (plus w x.bs x.d) w' → (Φ i).p v w' → K (A.put o.dst v) w') → if Region.wanted o (yielded l.toArray A.tmps) = true then o.wp P A (plus w x.bs x.d) K Q else K (A.put o.dst undef) (plus w x.bs x.d))
    (fin : ∀ (vs : Nat → Value) (x : Ext), (∀ i, i < n → (Φ i).p (vs i) (plus w x.bs x.d)) → wpList P l.toArray Q (l.drop n) (putAll (l.take n) vs 0 a) (plus w x.bs x.d)) : (Code.region id l.toArray true).wp P Q a w := by
  unfold relB at hB
  simp only [Bool.and_eq_true, decide_eq_true_eq] at hB
  obtain ⟨⟨⟨hn, htail⟩, hseq⟩, hall⟩ := hB
  have hal : ∀ i, i < n → ∃ o s, l.toArray[i]? = some o ∧ o.dst = some s ∧ s < N ∧ (∀ e ∈ o.after, Region.binds .any e = true → e.on < i) ∧ ∀ j, j < n → j ≠ i → ∃ oj sj, l.toArray[j]? = some oj ∧ oj.dst = some sj ∧ sj ≠ s := by
    intro i hi
    have h1 := List.all_eq_true.1 hall i (List.mem_range.2 hi)
    cases ho : l.toArray[i]? with
    | none => rw [ho] at h1; cases h1
    | some o =>
      rw [ho] at h1
      simp only [Bool.and_eq_true] at h1
      obtain ⟨⟨h2, h3⟩, h4⟩ := h1
      cases hd : o.dst with
      | none => rw [hd] at h2; cases h2
      | some s =>
        rw [hd] at h2 h4
        refine ⟨o, s, rfl, hd, by simpa using h2, fun e he hb => ?_, fun j hj hji => ?_⟩
        · have := (Array.all_eq_true_iff_forall_mem.1 h3) e he
          rw [hb] at this
          simpa using this
        · have h5 := List.all_eq_true.1 h4 j (List.mem_range.2 hj)
          cases hoj : l.toArray[j]? with
          | none => rw [hoj] at h5; simp [hji] at h5
          | some oj =>
            rw [hoj] at h5
            cases hdj : oj.dst with
            | none => simp [hdj, hji] at h5
            | some sj =>
              simp [hdj, hji] at h5
              exact ⟨oj, sj, rfl, hdj, fun e => h5 e.symm⟩
  have main : ∀ (f : Nat) (listed : Array Bool) (A : Act) (w' : World), RInv l.toArray n a w Φ listed A w' → cnt listed n = f → wpAny P .any l.toArray Q (f + (l.toArray.size - n)) listed A w' := by
    intro f
    induction f with
    | zero =>
      intro listed A w' inv hc
      have hl : ∀ i, i < n → listed.getD i true = true := cnt_zero n hc
      have el : listed = ((List.range l.toArray.size).map fun i => decide (i < n)).toArray := by
        apply Array.ext
        · simp [inv.head.size]
        · intro i h1 h2
          by_cases hi : i < n
          · have := hl i hi
            simp only [Array.getD_eq_getD_getElem?, Array.getElem?_eq_getElem h1, Option.getD_some] at this
            simp [this, hi]
          · have := inv.head.tail i (by omega) (by rw [← inv.head.size]; exact h1)
            simp only [Array.getD_eq_getD_getElem?, Array.getElem?_eq_getElem h1, Option.getD_some] at this
            simp [this, hi]
      have eA : A = putAll (l.take n) (fun j => ((l.toArray[j]?).bind (·.dst)).elim undef (fun s => A.eval (.tmp s))) 0 a := by
        refine act_ext (by rw [putAll_size, inv.size]) (by rw [putAll_defers, inv.defers]) fun s hs => ?_
        have H := putAll_eval A s (l.take n) (fun j => ((l.toArray[j]?).bind (·.dst)).elim undef (fun s => A.eval (.tmp s))) 0 a (by rw [← inv.size]; exact hs) (fun j o hj hd => by
          have hjn : j < n := by
            have := (List.getElem?_eq_some_iff.1 hj).1
            simp at this
            omega
          have : l.toArray[j]? = some o := by simpa [hjn] using hj
          simp [this, hd])
        by_cases he : ∃ o ∈ l.take n, o.dst = some s
        · exact (H.1 he).symm
        · rw [H.2 (fun o h h' => he ⟨o, h, h'⟩)]
          refine inv.out s fun j hj o ho _ hd => he ⟨o, ?_, hd⟩
          rw [List.mem_take_iff_getElem]
          have hjl := (Array.getElem?_eq_some_iff.1 ho)
          obtain ⟨h1, h2⟩ := hjl
          exact ⟨j, by simp at h1; omega, by simpa using h2⟩
      rw [Nat.zero_add]
      obtain ⟨x, rfl⟩ := inv.ex
      have := wpAny_of_seq (md := .any) (Q' := Q) (P := P) (ops := l.toArray) (l.drop n) n listed A (plus w x.bs x.d) (fun j => by simp [List.getElem?_drop]) (by
        rw [el]
        have : (l.drop n).length = l.toArray.size - n := by simp
        rw [this]
        exact hseq) (by
        rw [eA]
        refine fin _ x fun i hi => ?_
        obtain ⟨o, s, ho, hd, _⟩ := hal i hi
        have hli : listed.getD i false = true := by
          have := hl i hi
          have hsz : i < listed.size := by rw [inv.head.size]; exact (Array.getElem?_eq_some_iff.1 ho).1
          simpa [hsz] using this
        have := inv.ins i hi o s ho hli hd
        simpa [ho, hd] using this)
      have e2 : (l.drop n).length = l.toArray.size - n := by simp
      rwa [e2] at this
    | succ f ih =>
      intro listed A w' inv hc
      rw [show f + 1 + (l.toArray.size - n) = (f + (l.toArray.size - n)) + 1 by omega]
      obtain ⟨i0, hi0, hun0, hprev⟩ := cnt_first n (by rw [hc]; omega)
      have hready0 : i0 ∈ Region.ready .any l.toArray listed := by
        obtain ⟨o, s, ho, hd, _, hlt, _⟩ := hal i0 hi0
        refine mem_ready.2 ⟨hun0, o, ho, fun e he hb => ?_⟩
        have h1 := hlt e he hb
        have h2 := hprev e.on h1
        have hsz : e.on < listed.size := by rw [inv.head.size]; have := (Array.getElem?_eq_some_iff.1 ho).1; omega
        simpa [hsz] using h2
      refine ⟨fun h => (by rw [h] at hready0; cases hready0), fun i hi => ?_⟩
      obtain ⟨hun, o, ho, hdeps⟩ := mem_ready.1 hi
      have hin : i < n := by
        rcases Nat.lt_or_ge i n with h | h
        · exact h
        · have hsz := (Array.getElem?_eq_some_iff.1 ho).1
          simp only [Bool.or_eq_true, decide_eq_true_eq, Bool.and_eq_true] at htail
          rcases htail with ht | ht
          · omega
          · exact absurd hi (tail_waits ht.1 ht.2 (by omega) inv.head _ i0 rfl hi0 hun0 i h)
      obtain ⟨o', s, ho', hd, hsN, hlt, hother⟩ := hal i hin
      have : o' = o := Option.some.inj (ho'.symm.trans ho)
      subst this
      obtain ⟨x, rfl⟩ := inv.ex
      have unl : ∀ j, listed.getD j false = true → j ≠ i := fun j hj e => by subst e; rw [getD_both hun] at hj; cases hj
      have hstep := step i hin o' (by simpa using ho) A x (fun s' hs' => inv.out s' fun j hj oj hoj hlj hdj => by
          have h1 := List.all_eq_true.1 hs' j (List.mem_range.2 hj)
          have hji := unl j hlj
          rw [hoj] at h1
          simp only [Option.bind_some, hdj] at h1
          simp only [Bool.or_eq_true, beq_iff_eq, bne_self_eq_false, Bool.false_eq_true, false_or] at h1
          rcases h1 with h1 | h1
          · exact hji h1
          · obtain ⟨oj', hoj', e, he, hb, hon⟩ := Region.waitsFor_spec h1
            have : oj' = oj := Option.some.inj (hoj'.symm.trans hoj)
            subst this
            have h2 := inv.head.closed j oj' hoj hlj e he hb
            rw [hon, getD_both hun] at h2
            cases h2)
        (fun j s' hs' => by
          simp only [depB, Bool.and_eq_true, decide_eq_true_eq] at hs'
          obtain ⟨⟨hj, hw⟩, hds⟩ := hs'
          obtain ⟨oi, hoi, e, he, hb, hon⟩ := Region.waitsFor_spec hw
          have : oi = o' := Option.some.inj (hoi.symm.trans ho)
          subst this
          have hlj := hdeps e he hb
          rw [hon] at hlj
          cases hoj : l.toArray[j]? with
          | none => rw [hoj] at hds; simp at hds
          | some oj =>
            rw [hoj] at hds
            simp only [Option.bind_some, beq_iff_eq] at hds
            exact inv.ins j hj oj s' hoj hlj hds)
      have next : ∀ v w'', Ex (plus w x.bs x.d) w'' → (Φ i).p v w'' → wpAny P .any l.toArray Q (f + (l.toArray.size - n)) (listed.setIfInBounds i true) (A.put o'.dst v) w'' := by
        intro v w'' hex hp
        refine ih _ _ _ ?_ ?_
        · refine ⟨inv.head.set hi hin, (Ex.plus_ w x.bs x.d).trans hex, by rw [size_put, inv.size], by rw [defers_put, inv.defers], fun s' hs' => ?_, fun j hj oj s' hoj hlj hdj => ?_⟩
          · have hne : s ≠ s' := fun e => by
              subst e
              refine hs' i hin o' ho ?_ hd
              have hsz : i < listed.size := by rw [inv.head.size]; exact (Array.getElem?_eq_some_iff.1 ho).1
              simp [hsz]
            rw [Act.eval_put (fun d hd' e => by rw [hd] at hd'; injection hd' with hd'; injection e with e; exact hne (hd'.trans e.symm))]
            refine inv.out s' fun j hj oj hoj hlj => hs' j hj oj hoj (getD_set_true hlj)
          · by_cases hji : j = i
            · subst hji
              have : oj = o' := Option.some.inj (hoj.symm.trans ho)
              subst this
              rw [hd] at hdj
              injection hdj with hdj
              subst hdj
              rw [hd, eval_put_same (by rw [inv.size, hN]; exact hsN)]
              exact hp
            · have hlj' : listed.getD j false = true := by rw [getD_set_ne false (Ne.symm hji)] at hlj; exact hlj
              obtain ⟨oj', sj, hoj', hdj', hne⟩ := hother j hj hji
              have : oj' = oj := Option.some.inj (hoj'.symm.trans hoj)
              subst this
              rw [hdj] at hdj'
              injection hdj' with hdj'
              subst hdj'
              rw [Act.eval_put (fun d hd' e => by rw [hd] at hd'; injection hd' with hd'; injection e with e; exact hne (e.trans hd'.symm))]
              exact (Φ j).mono _ _ _ (inv.ins j hj oj' s' hoj hlj' hdj) hex
        · have := cnt_set hun n
          rw [if_pos hin] at this
          omega
      have hs := hstep _ next
      unfold wpOp
      rw [ho]
      simp only
      split
      · rename_i hw
        rw [if_pos hw] at hs
        exact .inl hs
      · rename_i hw
        rw [if_neg hw] at hs
        exact hs
  refine wp_region_any hm ?_
  have h0 : ({ w with drawn := w.drawn + 1 } : World) = w.drew := rfl
  have H := main n (Array.replicate l.toArray.size false) a w.drew ⟨⟨by simp, fun j oj _ hl => (by rw [getD_replicate_false] at hl; cases hl), fun t _ ht => getD_in (by simpa using ht) (getD_replicate_false _ _)⟩,
    ⟨⟨[], w.drawn + 1⟩, by show ({ w with drawn := w.drawn + 1 } : World) = _; simp [plus]⟩, rfl, rfl, fun s _ => rfl, fun j hj o s _ hl => (by rw [getD_replicate_false] at hl; cases hl)⟩ (cnt_init _ n hn)
  rw [show n + (l.toArray.size - n) = l.toArray.size by omega] at H
  exact H
/-! ### The same, with operations that hold no memory taken as soon as they may be: they may stand behind the tail's first -/
end
/-- the slot of a guard -/
theorem slot_of {x : Option Value} {b : Bool} (h : x.getD undef = .bool b) : x = some (.bool b) := by
  cases x with
  | none => simp [undef] at h
  | some v => simp at h; rw [h]
theorem slot_un {x : Option Value} (h : x.getD undef = undef) : x = none ∨ x = some undef := by
  cases x with
  | none => exact .inl rfl
  | some v => simp at h; exact .inr (by rw [h])
end Go.Proofs.Ytepodflinhpejaa

/- Whole arrays and structs out of and into blocks; results in memory. -/
namespace Go.Proofs.Ytepodflinhpejaa
open Go.RowKit
set_option linter.unusedVariables false
set_option linter.unusedSimpArgs false

theorem Bk.range {w : World} {g : Nat} {t : TypeId} {cs : List Value} (h : Bk w g t cs) : w.rangeAt g 0 cs := fun j v hv => by rw [Nat.zero_add, h.cell]; exact hv
/-- a result that is a whole array or struct, in a block -/
theorem bodyPost_agg {P : Program} {fn : Func} {R : Ending → World → Prop} {a : Act} {w : World} {slot ty g : Nat} {d : TypeDesc} {cs : List Value} (hfr : fn.results = #[.cell slot ty]) (hs : a.tmps.getD slot undef = .pointer (some ⟨g, 0, none⟩))
    (hb : w.rangeAt g 0 cs) (hu : P.underlying ty = some d) (hd : d.isRow = true) (hi : (P.info? ty).map (·.size) = some cs.length) (hdf : a.defers = []) (hR : R (.returned (.agg cs.toArray)) w) : bodyPost P fn R .ret a w := by
  refine bodyPost_ret (v := .agg cs.toArray) ?_ hdf hR
  have h1 := run_loadVar_mid (P := P) w g 0 ty cs d hb hu hd hi
  have hs' : a.tmps[slot]?.getD undef = .pointer (some ⟨g, 0, none⟩) := by simpa using hs
  simp [results, hfr, hs', asAddr, h1]
theorem bodyPost_agg2 {P : Program} {fn : Func} {R : Ending → World → Prop} {a : Act} {w : World} {slot slot2 ty g : Nat} {d : TypeDesc} {cs : List Value} {u : Value} (hfr : fn.results = #[.cell slot ty, .tmp slot2]) (hs : a.tmps.getD slot undef = .pointer (some ⟨g, 0, none⟩)) (hs2 : a.tmps.getD slot2 undef = u)
    (hb : w.rangeAt g 0 cs) (hu : P.underlying ty = some d) (hd : d.isRow = true) (hi : (P.info? ty).map (·.size) = some cs.length) (hdf : a.defers = []) (hR : R (.returned (.tuple #[.agg cs.toArray, u])) w) : bodyPost P fn R .ret a w := by
  refine bodyPost_ret (v := .tuple #[.agg cs.toArray, u]) ?_ hdf hR
  have h1 := run_loadVar_mid (P := P) w g 0 ty cs d hb hu hd hi
  have hs' : a.tmps[slot]?.getD undef = .pointer (some ⟨g, 0, none⟩) := by simpa using hs
  have hs2' : a.tmps[slot2]?.getD undef = u := by simpa using hs2
  simp [results, hfr, hs', hs2', asAddr, h1]
/-- a block's cells, all stored anew -/
theorem Bk.setCells {w : World} {g : Nat} {t : TypeId} : ∀ (new old : List Value) (o : Nat), Bk w g t old → o + new.length = old.length → Bk (w.setCells g o new) g t (old.take o ++ new) := by
  intro new
  induction new generalizing w with
  | nil => intro old o h hl; simp only [List.length_nil, Nat.add_zero] at hl; simp only [World.setCells, List.append_nil, List.take_of_length_le (Nat.le_of_eq hl.symm)]; exact h
  | cons v r ih =>
    intro old o h hl
    rw [World.setCells]
    have h1 := ih (old.set o v) (o + 1) (h.set_ o v) (by simp only [List.length_set, List.length_cons] at *; omega)
    have e : (old.set o v).take (o + 1) ++ r = old.take o ++ v :: r := by
      rw [List.take_succ_eq_append_getElem (by simp only [List.length_set, List.length_cons] at *; omega)]
      simp [List.take_set_of_le]
    rw [e] at h1
    exact h1
theorem Below.setCells {B : Nat} {a : World} {g : Nat} (hg : B ≤ g) : ∀ (new : List Value) (o : Nat) (w : World), Below B a w → Below B a (w.setCells g o new)
  | [], _, _, h => h
  | v :: r, o, w, h => Below.setCells hg r (o + 1) _ (h.setCell hg v)
/-- a part of a block that is known whole, as an aggregate -/
theorem wpList_ldA {P : Program} {w : World} {ops : Array Oper} {rest : List Oper} {o : Oper} {a : Act} {Q : Exit → Act → World → Prop} (ty : TypeId) (x : Operand) (ho : o.op = .load ty x) (hgd : o.guard = none)
    {g off : Nat} {t : TypeId} {cs : List Value} {d : TypeDesc} (part : List Value) (hx : a.eval x = .pointer (some ⟨g, off, none⟩)) (hb : Bk w g t cs) (hp : (cs.drop off).take part.length = part)
    (hu : P.underlying ty = some d) (hd : d.isRow = true) (hi : (P.info? ty).map (·.size) = some part.length) (h : wpList P ops Q rest (a.put o.dst (.agg part.toArray)) w) : wpList P ops Q (o :: rest) a w := by
  refine wpList_load_mid hgd ty x ho g off hx part d (fun j v hv => ?_) hu hd hi h
  rw [hb.cell]
  rw [← hp, List.getElem?_take] at hv
  split at hv
  · rw [List.getElem?_drop] at hv; exact hv
  · cases hv
/-- a guarded operation that is wanted: a part of a block, as an aggregate -/
theorem wpList_ldG {P : Program} {w : World} {ops : Array Oper} {rest : List Oper} {o : Oper} {a : Act} {Q : Exit → Act → World → Prop} (ty : TypeId) (x : Operand) (ho : o.op = .load ty x) (hw : Region.wanted o (yielded ops a.tmps) = true)
    {g off : Nat} {t : TypeId} {cs : List Value} {d : TypeDesc} (part : List Value) (hx : a.eval x = .pointer (some ⟨g, off, none⟩)) (hb : Bk w g t cs) (hp : (cs.drop off).take part.length = part)
    (hu : P.underlying ty = some d) (hd : d.isRow = true) (hi : (P.info? ty).map (·.size) = some part.length) (h : wpList P ops Q rest (a.put o.dst (.agg part.toArray)) w) : wpList P ops Q (o :: rest) a w := by
  unfold wpList
  rw [if_pos hw]
  refine .inl (wp_load_mid ty x ho g off hx part d (fun j v hv => ?_) hu hd hi h)
  rw [hb.cell]
  rw [← hp, List.getElem?_take] at hv
  split at hv
  · rw [List.getElem?_drop] at hv; exact hv
  · cases hv
/-- an aggregate stored over a whole block -/
theorem wpList_stA {P : Program} {w : World} {ops : Array Oper} {rest : List Oper} {o : Oper} {a : Act} {Q : Exit → Act → World → Prop} (ty : TypeId) (x y : Operand) (ho : o.op = .store ty x y) (hgd : o.guard = none)
    {g : Nat} {t : TypeId} (new old : List Value) (hl : new.length = old.length) (h1 : ∀ u ∈ new, u.oneCell' = true) (hx : a.eval x = .pointer (some ⟨g, 0, none⟩)) (hy : a.eval y = .agg new.toArray) (hb : Bk w g t old)
    (hi : (P.info? ty).map (·.size) = some new.length) (h : ∀ w', Bk w' g t new → w.grownBy w' (some g) → wpList P ops Q rest (a.put o.dst undef) w') : wpList P ops Q (o :: rest) a w := by
  refine wpList_store_mid hgd ty x y ho g 0 new.toArray hx hy (fun j hj => ?_) (by simpa using hi) (all_oneCell_toArray h1) (h _ ?_ ?_)
  · rw [Nat.zero_add]
    have hj' : j < old.length := by rw [← hl]; simpa using hj
    exact ⟨by rw [hb.cell, List.getElem?_eq_getElem hj']; rfl, hb.frozen j⟩
  · have := Bk.setCells new old 0 hb (by omega)
    simpa using this
  · generalize 0 = k
    clear hi h hb hy hl
    induction new generalizing w k with
    | nil => exact World.grownBy.refl _ _
    | cons v r ih => exact (grownBy_setCell _ _ _ _).trans (ih (fun u hu => h1 u (List.mem_cons_of_mem _ hu)) _)
/-- an operation whose value is known -/
theorem wpList_build {P : Program} {w : World} {ops : Array Oper} {rest : List Oper} {o : Oper} {a : Act} {Q : Exit → Act → World → Prop} (ty : TypeId) (ps : List (Nat × Operand)) (ho : o.op = .build ty ps.toArray) (hgd : o.guard = none) (v : Value)
    (hv : (Instr.build ty (ps.map fun p => (p.1, a.eval p.2)).toArray).run P w = .ok v w) (h : wpList P ops Q rest (a.put o.dst v) w) : wpList P ops Q (o :: rest) a w := by
  refine wpList_plain hgd fun _ hK => ?_
  unfold Oper.wp execOp
  simp only [ho, Sem.run_bind, List.map_toArray, hv, Result.andThen_ok, Sem.run_pure]
  exact hK _ _ h
theorem below_grown {w w1 w2 : World} {g : Nat} (h : Below w.heap.size w w1) (hg : w1.grownBy w2 (some g)) (hl : w.heap.size ≤ g) : Below w.heap.size w w2 :=
  h.trans (below_of_grown hg h.size (fun k hk => by injection hk with hk; omega))
theorem Bk.newK {W : World} {k : Nat} (t : TypeId) (cs : Array Value) (l : List Value) (hk : k = W.heap.size) (hl : cs.toList = l) : Bk (W.alloc (.cells cs t)) k t l := by
  subst hk
  subst hl
  exact Bk.new W t cs
theorem Below.allocS {a w : World} (h : Below a.heap.size a w) (o : Obj) : Below a.heap.size a (w.alloc o) := h.alloc h.size o
def MP.blk (base : Nat) (t : TypeId) (cs : List Value) : MP := ⟨fun v w => ∃ g, v = .pointer (some ⟨g, 0, none⟩) ∧ base ≤ g ∧ Bk w g t cs, fun _ _ _ ⟨g, h1, h2, h3⟩ h => ⟨g, h1, h2, h3.later h.below⟩⟩
end Go.Proofs.Ytepodflinhpejaa

/- Slices whose elements have s cells each (structs, ints): read, cut, owned, appended to. No program in sight. -/
namespace Go.Proofs.Ytepodflinhpejaa
open Go.RowKit Go.ChangeShapes Go.WideShapes
set_option linter.unusedVariables false
set_option linter.unusedSimpArgs false

/-- a slice type, its element type, the element's zero value, its cells and bytes -/
structure ET (P : Program) (ts e : TypeId) (z : Value) (s by_ : Nat) : Prop where
  sl : P.underlying ts = some (.slice e)
  info : (P.info? e).map (fun i => (i.zero, i.size, i.bytes)) = some (some z, s, by_)
  zs : z.cells.size = s
  pos : 0 < s
  small : by_ ≤ 64
/-- a slice reads as the cells cs -/
def Rs (s : Nat) (w : World) (A : Option Addr) (n c : Nat) (cs : List Value) : Prop := cs.length = n * s ∧ n ≤ c ∧ Rd w w.heap.size A cs
/-- a slice of the call's own (its block from base on) reads as cs -/
def Os (e : TypeId) (s : Nat) (w : World) (base : Nat) (A : Option Addr) (n c : Nat) (cs : List Value) : Prop := w.ownsRow base e s (.slice A n c) n cs

theorem Rd.cutS {w : World} {B : Nat} {A : Option Addr} {cs : List Value} (h : Rd w B A cs) {s c k : Nat} (hc : cs.length ≤ c * s) : Rd w B (cutA A c k s) (cs.drop (k * s)) := by
  by_cases hk : cs.length ≤ k * s
  · exact .inl (List.drop_eq_nil_of_le hk)
  rcases h with h | ⟨b, off, hA, hb, hcell⟩
  · exact .inl (by simp [h])
  · have hck : ¬ c = k := fun e => by subst e; exact hk hc
    refine .inr ⟨b, off + k * s, ?_, hb, fun i u hu => ?_⟩
    · subst hA
      simp only [cutA, if_neg hck, Option.map_some, Addr.add]
      split
      · simp_all
      · rfl
    · rw [Nat.add_assoc]
      rw [List.getElem?_drop] at hu
      exact hcell _ _ hu
theorem Rd.of_ownS {w : World} {A : Option Addr} {cs : List Value} {base : Nat} {e : TypeId} {s n c : Nat} (h : w.ownsRow base e s (.slice A n c) n cs) : Rd w w.heap.size A cs := by
  rcases Nat.eq_zero_or_pos n with h0 | h0
  · subst h0
    exact .inl (List.eq_nil_of_length_eq_zero (by simpa using h.1))
  · obtain ⟨g, cap, hv, _, hlt⟩ := h.form h0
    have hA : A = some ⟨g, 0, none⟩ := by injection hv
    subst hA
    refine .inr ⟨g, 0, rfl, hlt, fun i u hu => ?_⟩
    have := h.cells (g := g) rfl i u hu
    have hplain : (⟨g, 0, none⟩ : Addr).add i = ⟨g, 0 + i, none⟩ := by unfold Addr.add; split <;> simp_all
    rwa [hplain] at this
section
variable {s : Nat} {w w' : World} {base : Nat} {e : TypeId} {A : Option Addr} {n c : Nat} {cs : List Value}
theorem Rs.nil_ : Rs s w none 0 0 [] := ⟨by simp, Nat.le_refl _, .inl rfl⟩
theorem Rs.later (h : Rs s w A n c cs) (hb : Below w.heap.size w w') : Rs s w' A n c cs := ⟨h.1, h.2.1, (h.2.2.below hb).more hb.size⟩
theorem Rs.drew (h : Rs s w A n c cs) : Rs s w.drew A n c cs := h
theorem Rs.alloc (h : Rs s w A n c cs) (o : Obj) : Rs s (w.alloc o) A n c cs := ⟨h.1, h.2.1, (h.2.2.alloc (Nat.le_refl _) o).more (by simp)⟩
theorem Rs.plus_ (h : Rs s w A n c cs) (bs : List Obj) (d : Nat) : Rs s (plus w bs d) A n c cs := h.later (below_plus w bs d)
theorem Rs.take (h : Rs s w A n c cs) {k : Nat} (hk : k ≤ n) : Rs s w A k c (cs.take (k * s)) := ⟨by rw [List.length_take, h.1]; exact Nat.min_eq_left (Nat.mul_le_mul_right _ hk), Nat.le_trans hk h.2.1, h.2.2.take _⟩
theorem Rs.cut (h : Rs s w A n c cs) {k : Nat} (hk : k ≤ n) : Rs s w (cutA A c k s) (n - k) (c - k) (cs.drop (k * s)) :=
  ⟨by rw [List.length_drop, h.1, Nat.sub_mul], by have := h.2.1; omega, h.2.2.cutS (by rw [h.1]; exact Nat.mul_le_mul_right _ h.2.1)⟩
theorem Rs.grown (h : Rs s w A n c cs) {row : Option Nat} (hg : w.grownBy w' row) (hr : ∀ a, A = some a → some a.block ≠ row) : Rs s w' A n c cs := by
  refine ⟨h.1, h.2.1, ?_⟩
  rcases h.2.2 with h' | ⟨b, off, hA, hbl, hc⟩
  · exact .inl h'
  · exact .inr ⟨b, off, hA, Nat.lt_of_lt_of_le hbl hg.size, fun i u hu => (World.cell?_of_block (hg.block b hbl (hr _ hA))).trans (hc i u hu)⟩
/-- the i-th element's cells -/
theorem Rs.at_ (h : Rs s w A n c cs) (hn : 0 < n) (hs : 0 < s) : ∃ b off, A = some ⟨b, off, none⟩ ∧ b < w.heap.size ∧ ∀ i u, cs[i]? = some u → w.cell? ⟨b, off + i, none⟩ = some u :=
  h.2.2.at_ (by rw [h.1]; exact Nat.mul_pos hn hs)
theorem Os.rs (h : Os e s w base A n c cs) : Rs s w A n c cs := by
  refine ⟨h.1, ?_, Rd.of_ownS h⟩
  rcases h.2 with ⟨hv, h0⟩ | ⟨g, cap, cur, hv, _, _, hnc, _⟩
  · omega
  · injection hv with _ _ h3
    omega
theorem Os.nil_ : Os e s w base none 0 0 [] := World.ownsRow_nil w base _ s
theorem Os.blk (h : Os e s w base A n c cs) : ∀ k, (Value.slice A n c).ownBlock = some k → base ≤ k ∧ k < w.heap.size := h.lt
theorem Os.grown {row : Option Nat} (h : Os e s w base A n c cs) (hg : w.grownBy w' row) (hne : ∀ k, (Value.slice A n c).ownBlock = some k → row ≠ some k) : Os e s w' base A n c cs := by
  refine h.kept hg ?_
  cases hk : (Value.slice A n c).ownBlock with
  | none => exact .inl rfl
  | some k => exact .inr (fun e => hne k hk e.symm)
theorem Os.later (h : Os e s w base A n c cs) (hb : Below w.heap.size w w') : Os e s w' base A n c cs := h.grown (grownBy_of_below hb) (fun _ _ => by simp)
theorem Os.plus_ (h : Os e s w base A n c cs) (bs : List Obj) (d : Nat) : Os e s (plus w bs d) base A n c cs := h.later (below_plus w bs d)
theorem Os.mono {base' : Nat} (h : Os e s w base A n c cs) (hb : base' ≤ base) : Os e s w base' A n c cs := by
  refine ⟨h.1, ?_⟩
  rcases h.2 with h2 | ⟨g, cap, cur, hv, hg, hr⟩
  · exact .inl h2
  · exact .inr ⟨g, cap, cur, hv, by omega, hr⟩
end
/-- new elements, written out -/
theorem Os.lit (w : World) {base s : Nat} {e : TypeId} (hb : base ≤ w.heap.size) (cs : Array Value) (n : Nat) (hn : cs.size = n * s) (hm : n ≤ maxLen) : Os e s (w.alloc (.cells cs e)) base (some ⟨w.heap.size, 0, none⟩) n n cs.toList :=
  ⟨by simpa using hn, .inr ⟨w.heap.size, n, cs, rfl, hb, heap_alloc_new w _, Nat.le_refl _, hm, hn, List.take_of_length_le (by simp [hn])⟩⟩
/-- a block whose cells are the elements (whatever its type) -/
theorem Rs.of_bk {w : World} {g s n c : Nat} {t : TypeId} {cs : List Value} (h : Bk w g t cs) (hn : cs.length = n * s) (hc : n ≤ c) : Rs s w (some ⟨g, 0, none⟩) n c cs :=
  ⟨hn, hc, .inr ⟨g, 0, rfl, h.lt, fun i u hu => by rw [Nat.zero_add]; exact (h.cell i).trans hu⟩⟩

/-- append onto a row of the call's own, whatever the source -/
theorem run_appS {P : Program} (w : World) {ts ty e : TypeId} {z : Value} {s by_ : Nat} (et : ET P ts e z s by_) {base : Nat} {A : Option Addr} {n c : Nat} {l : List Value} (hown : Os e s w base A n c l)
    {A2 : Option Addr} {n2 c2 : Nat} {l2 : List Value} (hr : Rs s w A2 n2 c2 l2) (h1 : ∀ u ∈ l2, u.oneCell' = true) (hm : n + n2 ≤ 1099511627776) (hbase : base ≤ w.heap.size) :
    ∃ A' n' c' w', (Builtin.append_ #[ts, ts] ty #[.slice A n c, .slice A2 n2 c2]).run P w = .ok (.slice A' n' c') w' ∧ n' = n + n2 ∧ Os e s w' base A' n' c' (l ++ l2) ∧ Below base w w' ∧ w.grownBy w' (Value.slice A n c).ownBlock := by
  obtain ⟨i, hi, hz0, hz1, hz2⟩ := info_parts et.info
  have hbel : ∀ {w'}, w.grownBy w' (Value.slice A n c).ownBlock → Below base w w' := fun hg => below_of_grown hg hbase fun k hk => (hown.blk k hk).1
  have fin : ∀ v' w', w'.ownsRow base e s v' (n + n2) (l ++ l2) → ∃ A' n' c', v' = .slice A' n' c' ∧ n' = n + n2 ∧ Os e s w' base A' n' c' (l ++ l2) := by
    intro v' w' h
    have h2 := h.2
    rcases h2 with ⟨hv, h0⟩ | ⟨g, cap, cur, hv, _⟩
    · refine ⟨none, 0, 0, hv, h0.symm, ?_⟩
      rw [hv, h0] at h
      exact h
    · refine ⟨_, _, _, hv, rfl, ?_⟩
      rw [hv] at h
      exact h
  cases A2 with
  | none =>
    have hl2 : l2 = [] := by
      rcases hr.2.2 with h | ⟨b, off, h, _⟩
      · exact h
      · cases h
    have hn2 : n2 = 0 := by
      have h3 := hr.1
      rw [hl2] at h3
      rcases Nat.eq_zero_or_pos n2 with h | h
      · exact h
      · have := Nat.mul_pos h et.pos
        simp at h3
        omega
    subst hn2
    subst hl2
    refine ⟨A, n, c, w, ?_, rfl, by simpa using hown, Below.refl _ _, World.grownBy.refl w _⟩
    rcases hown.2 with ⟨hv, h0⟩ | ⟨g, cap, cur, hv, _, _, hnc, _⟩
    · injection hv with h1 h2 h3
      subst h1 h2 h3
      simp [Builtin.append_, run_underlying et.sl, sizeOf, typeInfo, hi, Builtin.lenOf, Builtin.firstCells]
    · injection hv with h1 h2 h3
      subst h1 h3
      simp [Builtin.append_, run_underlying et.sl, sizeOf, typeInfo, hi, Builtin.lenOf, Builtin.firstCells, hnc, storeCells]
  | some ad =>
    have hcells : ∀ j u, l2[j]? = some u → w.cell? (ad.add j) = some u := by
      intro j u hu
      rcases hr.2.2 with h | ⟨b, off, h, _, hc⟩
      · rw [h] at hu; simp at hu
      · injection h with h
        subst h
        rw [add_plain]
        exact hc j u hu
    have hby : (n + n2) * by_ ≤ 140737488355328 := Nat.le_trans (Nat.mul_le_mul hm et.small) (by decide)
    obtain ⟨v', w', hrun, h2, h3, _, _⟩ := run_append_own_at (P := P) w base ts ty e i z s by_ et.sl hi hz0 hz1 hz2 et.zs et.pos (.slice A n c) n l hown ad n2 c2 l2
      hr.1 hcells h1 (by simp only [maxLen]; omega) hby hbase
    obtain ⟨A', n', c', rfl, hn', hob⟩ := fin v' w' h2
    exact ⟨A', n', c', w', hrun, hn', hob, hbel h3, h3⟩

theorem wpList_appS {P : Program} {w : World} {ops : Array Oper} {rest : List Oper} {o : Oper} {a : Act} {Q : Exit → Act → World → Prop} {ts e : TypeId} {z : Value} {sz by_ : Nat} (et : ET P ts e z sz by_) (hgd : o.guard = none) (s x : Operand)
    (ho : o.op = .call { callee := .builtin .append, args := #[s, x], argTypes := #[ts, ts] })
    {base : Nat} {A : Option Addr} {n c : Nat} {l : List Value} (hs : a.eval s = .slice A n c) (hown : Os e sz w base A n c l)
    {A2 : Option Addr} {n2 c2 : Nat} {l2 : List Value} (hx : a.eval x = .slice A2 n2 c2) (hr : Rs sz w A2 n2 c2 l2) (h1 : ∀ u ∈ l2, u.oneCell' = true) (hm : n + n2 ≤ 1099511627776) (hbase : base ≤ w.heap.size)
    (h : ∀ A' n' c' w', n' = n + n2 → Os e sz w' base A' n' c' (l ++ l2) → Below base w w' → w.grownBy w' (Value.slice A n c).ownBlock → wpList P ops Q rest (a.put o.dst (.slice A' n' c')) w') : wpList P ops Q (o :: rest) a w := by
  refine wpList_plain hgd fun _ hK => ?_
  obtain ⟨A', n', c', w', hrun, h0, h2, h3, h4⟩ := run_appS (P := P) w (ty := o.type) et hown hr h1 hm hbase
  unfold Oper.wp execOp
  simp only [ho, resolve, invoke, builtin, Sem.run_bind, Sem.run_pure, Result.andThen_ok, List.map_toArray, List.map_cons, List.map_nil, hs, hx, hrun]
  exact hK _ _ (h A' n' c' w' h0 h2 h3 h4)

end Go.Proofs.Ytepodflinhpejaa

/- A region that draws its order, by words that are chosen one by one (wp_rel, wp_relE, step for step). -/
namespace Go.Proofs.Ytepodflinhpejaa
open Go.RowKit
set_option linter.unusedVariables false

/-- the words so far, and one more for operation k -/
def upd (k : Nat) (p : MP) (f : Nat → MP) : Nat → MP := fun j => bif Nat.beq j k then p else f j
theorem upd_same (k : Nat) (p : MP) (f : Nat → MP) : upd k p f k = p := by simp [upd]
theorem upd_ne {j k : Nat} (h : j ≠ k) (p : MP) (f : Nat → MP) : upd k p f j = f j := by
  have : Nat.beq j k = false := by
    cases hb : Nat.beq j k with
    | false => rfl
    | true => exact absurd (Nat.eq_of_beq_eq_true hb) h
  simp [upd, this]
theorem eval_tmp (a : Act) (s : Nat) : a.eval (.tmp s) = a.tmps[s]?.getD undef := by simp [Act.eval]
section
variable {P : Program} {Q : Exit → Act → World → Prop}
/-- operation i does what its word says, whenever its turn comes -/
def StepOk (body : Nat → Oper → Act → World → MP → Prop) (l : List Oper) (n : Nat) (a : Act) (w : World) (φs : Nat → MP) (i : Nat) (φ : MP) : Prop :=
  ∀ o, l[i]? = some o → ∀ (A : Act) (x : Ext), (∀ s, outB l.toArray n i s = true → A.eval (.tmp s) = a.eval (.tmp s)) → (∀ j s, depB l.toArray n i j s = true → (φs j).p (A.eval (.tmp s)) (plus w x.bs x.d)) → body i o A (plus w x.bs x.d) φ
def Steps (fin : (Nat → MP) → Prop) (body : Nat → Oper → Act → World → MP → Prop) (l : List Oper) (n : Nat) (a : Act) (w : World) : Nat → Nat → (Nat → MP) → Prop
  | 0, _, φs => fin φs
  | r + 1, i, φs => ∃ φ, StepOk body l n a w φs i φ ∧ Steps fin body l n a w r (i + 1) (upd i φ φs)
variable {fin : (Nat → MP) → Prop} {body : Nat → Oper → Act → World → MP → Prop}
theorem Steps.all {l : List Oper} {n : Nat} {a : Act} {w : World} (hdep : ∀ i, i < n → ∀ j s, depB l.toArray n i j s = true → j < i) : ∀ (r i : Nat) (φs : Nat → MP), i + r = n → Steps fin body l n a w r i φs → (∀ j, j < i → StepOk body l n a w φs j (φs j)) →
    ∃ Φ : Nat → MP, (∀ i, i < n → StepOk body l n a w Φ i (Φ i)) ∧ fin Φ
  | 0, i, φs, hi, hs, hd => ⟨φs, fun j hj => hd j (by omega), hs⟩
  | r + 1, i, φs, hi, hs, hd => by
    obtain ⟨φ, h1, h2⟩ := hs
    refine Steps.all hdep r (i + 1) (upd i φ φs) (by omega) h2 fun j hj => ?_
    have conv : ∀ k (ψ : MP), k ≤ i → k < n → StepOk body l n a w φs k ψ → StepOk body l n a w (upd i φ φs) k ψ := by
      intro k ψ hk hkn h o ho A x hO hD
      refine h o ho A x hO (fun j' s hj' => ?_)
      have hlt := hdep k hkn j' s hj'
      have := hD j' s hj'
      rwa [upd_ne (by omega)] at this
    by_cases hji : j = i
    · subst hji
      rw [upd_same]
      exact conv j φ (Nat.le_refl _) (by omega) h1
    · rw [upd_ne hji]
      exact conv j (φs j) (by omega) (by omega) (hd j (by omega))
theorem all_dep {ops : Array Oper} {n : Nat} {g : Nat → Oper → Bool} (hall : ((List.range n).all fun i => match ops[i]? with
    | none => false
    | some o => (match o.dst with | some s => g s o | none => false) && (o.after.all fun e => !Region.binds .any e || decide (e.on < i)) &&
      (List.range n).all fun j => j == i || (match (ops[j]?).bind (·.dst) with | some s => o.dst != some s | none => false)) = true) : ∀ i, i < n → ∀ j s, depB ops n i j s = true → j < i := by
  intro i hi j s hd
  have h1 := List.all_eq_true.1 hall i (List.mem_range.2 hi)
  simp only [depB, Bool.and_eq_true, decide_eq_true_eq] at hd
  obtain ⟨o, ho, e, he, hb, hon⟩ := Region.waitsFor_spec hd.1.2
  rw [ho] at h1
  simp only [Bool.and_eq_true] at h1
  have h3 := (Array.all_eq_true_iff_forall_mem.1 h1.1.2) e he
  rw [hb] at h3
  have : e.on < i := by simpa using h3
  omega
def bodyS (P : Program) (Q : Exit → Act → World → Prop) (l : List Oper) (i : Nat) (o : Oper) (A : Act) (w : World) (φ : MP) : Prop :=
  ∀ K : Act → World → Prop, Shut (∀ v w', Ex w w' → φ.p v w' → K (A.put o.dst v) w') → if Region.wanted o (yielded l.toArray A.tmps) = true then o.wp P A w K Q else K (A.put o.dst undef) w
def finS (P : Program) (Q : Exit → Act → World → Prop) (l : List Oper) (n : Nat) (a : Act) (w : World) (φs : Nat → MP) : Prop :=
  ∀ (vs : Nat → Value) (x : Ext), (∀ i, i < n → (φs i).p (vs i) (plus w x.bs x.d)) → wpList P l.toArray Q (l.drop n) (putAll (l.take n) vs 0 a) (plus w x.bs x.d)
theorem wp_relS {id : Nat} {a : Act} {w : World} {l : List Oper} (n N : Nat) (hN : a.tmps.size = N) (hm : P.follows .mixedOrders = true) (hB : relB l.toArray n N = true)
    (h : Steps (finS P Q l n a w) (bodyS P Q l) l n a w n 0 (fun _ => MP.any)) : (Code.region id l.toArray true).wp P Q a w := by
  have hdep : ∀ i, i < n → ∀ j s, depB l.toArray n i j s = true → j < i := by
    have hB' := hB
    unfold relB at hB'
    simp only [Bool.and_eq_true] at hB'
    exact all_dep (g := fun s _ => decide (s < N)) (by exact hB'.2)
  obtain ⟨Φ, h1, h2⟩ := Steps.all hdep n 0 _ (by omega) h (fun j hj => absurd hj (by omega))
  exact wp_rel n N hN hm hB Φ (fun i hi o ho A x hO hD K hK => h1 i hi o ho A x hO hD K hK) h2
/-- one operation more; its word is found by the proof -/
theorem Steps.one (φ : MP) {l : List Oper} {n : Nat} {a : Act} {w : World} {r i : Nat} {φs : Nat → MP} (i' : Nat) (hi : i + 1 = i')
    (h : ∀ o, l[i]? = some o → ∀ (A : Act) (x : Ext), (∀ s, outB l.toArray n i s = true → A.eval (.tmp s) = a.eval (.tmp s)) → (∀ j s, depB l.toArray n i j s = true → (φs j).p (A.eval (.tmp s)) (plus w x.bs x.d)) →
      ∀ K : Act → World → Prop, Shut (∀ v w', Ex (plus w x.bs x.d) w' → φ.p v w' → K (A.put o.dst v) w') → if Region.wanted o (yielded l.toArray A.tmps) = true then o.wp P A (plus w x.bs x.d) K Q else K (A.put o.dst undef) (plus w x.bs x.d))
    (h' : Steps fin (bodyS P Q l) l n a w r i' (upd i φ φs)) : Steps fin (bodyS P Q l) l n a w (r + 1) i φs := by
  subst hi
  exact ⟨φ, fun o ho A x hO hD => h o ho A x hO hD, h'⟩
theorem Steps.fin_ {l : List Oper} {n : Nat} {a : Act} {w : World} {i : Nat} {φs : Nat → MP} (h : ∀ (vs : Nat → Value) (x : Ext), (∀ i, i < n → (φs i).p (vs i) (plus w x.bs x.d)) → wpList P l.toArray Q (l.drop n) (putAll (l.take n) vs 0 a) (plus w x.bs x.d)) : Steps (finS P Q l n a w) body l n a w 0 i φs := h
end
/-! ### loads of one cell -/
theorem run_loadAt_one {P : Program} (w : World) (b o : Nat) (ty : TypeId) (v : Value) (d : TypeDesc) (hc : w.cell? ⟨b, o, none⟩ = some v) (hu : P.underlying ty = some d) (hd : d.isRow = false) :
    (Instr.loadAt ty (.pointer (some ⟨b, o, none⟩))).run P w = .ok v w := by
  have hagg : (isAgg ty).run P w = .ok false w := by
    unfold isAgg
    rw [Sem.run_bind, run_underlying hu w]
    cases d <;> simp_all
  simp [Instr.loadAt, Instr.sureAddr, loadVar, Sem.run_bind, hagg, run_load, hc]
theorem wp_ld1 {P : Program} {Q : Exit → Act → World → Prop} {o : Oper} {a : Act} {w : World} {K : Act → World → Prop} (ty : TypeId) (x : Operand) (ho : o.op = .load ty x) {g off : Nat} {t : TypeId} {cs : List Value} {v : Value} {d : TypeDesc}
    (hx : a.eval x = .pointer (some ⟨g, off, none⟩)) (hb : Bk w g t cs) (hv : cs[off]? = some v) (hu : P.underlying ty = some d) (hd : d.isRow = false) (h : K (a.put o.dst v) w) : o.wp P a w K Q := by
  unfold Oper.wp execOp
  simp only [ho, hx, Sem.run_bind, run_loadAt_one w g off ty v d ((hb.cell off).trans hv) hu hd, Result.andThen_ok]
  exact h
theorem wp_ldA {P : Program} {Q : Exit → Act → World → Prop} {o : Oper} {a : Act} {w : World} {K : Act → World → Prop} (ty : TypeId) (x : Operand) (ho : o.op = .load ty x) {g off : Nat} {t : TypeId} {cs : List Value} {d : TypeDesc} (part : List Value)
    (hx : a.eval x = .pointer (some ⟨g, off, none⟩)) (hb : Bk w g t cs) (hp : (cs.drop off).take part.length = part) (hu : P.underlying ty = some d) (hd : d.isRow = true) (hi : (P.info? ty).map (·.size) = some part.length) (h : K (a.put o.dst (.agg part.toArray)) w) : o.wp P a w K Q := by
  refine wp_load_mid ty x ho g off hx part d (fun j v hv => ?_) hu hd hi h
  rw [hb.cell]
  rw [← hp, List.getElem?_take] at hv
  split at hv
  · rw [List.getElem?_drop] at hv; exact hv
  · cases hv
theorem wpList_ld1 {P : Program} {w : World} {ops : Array Oper} {rest : List Oper} {o : Oper} {a : Act} {Q : Exit → Act → World → Prop} (ty : TypeId) (x : Operand) (ho : o.op = .load ty x) (hw : Region.wanted o (yielded ops a.tmps) = true) {g off : Nat} {t : TypeId} {cs : List Value} {v : Value} {d : TypeDesc}
    (hx : a.eval x = .pointer (some ⟨g, off, none⟩)) (hb : Bk w g t cs) (hv : cs[off]? = some v) (hu : P.underlying ty = some d) (hd : d.isRow = false) (h : wpList P ops Q rest (a.put o.dst v) w) : wpList P ops Q (o :: rest) a w := by
  unfold wpList
  rw [if_pos hw]
  exact .inl (wp_ld1 ty x ho hx hb hv hu hd h)
/-! ### stores of one cell -/
theorem run_storeAt_one {P : Program} (w : World) (ty : TypeId) (v : Value) {g off : Nat} {t : TypeId} {cs : List Value} (hb : Bk w g t cs) (hl : off < cs.length) (h1 : v.oneCell' = true) (hi : (P.info? ty).map (·.size) = some 1) :
    (Instr.storeAt ty (.pointer (some ⟨g, off, none⟩)) v).run P w = .ok () (w.setCell ⟨g, off, none⟩ v) := by
  have hv : v.cells = #[v] := by cases v <;> first | rfl | (simp [Value.oneCell'] at h1)
  have hst := run_store P w ((⟨g, off, none⟩ : Addr).add 0) v .plain h1
  rw [add_plain, Nat.add_zero, hb.cell, hb.frozen, List.getElem?_eq_getElem hl] at hst
  cases hq : P.info? ty with
  | none => simp [hq] at hi
  | some i =>
    have hs : i.size = 1 := by simpa [hq] using hi
    simp [Instr.storeAt, Instr.sureAddr, storeVar, sizeOf, typeInfo, hq, hv, hs, storeCells, add_plain, hst]
theorem wp_st1 {P : Program} {Q : Exit → Act → World → Prop} {o : Oper} {a : Act} {w : World} {K : Act → World → Prop} (ty : TypeId) (x y : Operand) (ho : o.op = .store ty x y) {g off : Nat} {t : TypeId} {cs : List Value} {v : Value}
    (hx : a.eval x = .pointer (some ⟨g, off, none⟩)) (hy : a.eval y = v) (hb : Bk w g t cs) (hl : off < cs.length) (h1 : v.oneCell' = true) (hi : (P.info? ty).map (·.size) = some 1)
    (h : ∀ w', Bk w' g t (cs.set off v) → w.grownBy w' (some g) → K (a.put o.dst undef) w') : o.wp P a w K Q := by
  unfold Oper.wp execOp
  simp only [ho, hx, hy, Sem.run_bind, run_storeAt_one w ty v hb hl h1 hi, Result.andThen_ok]
  exact h _ (hb.set_ off v) (grownBy_setCell _ _ _ _)
theorem wpList_st1 {P : Program} {w : World} {ops : Array Oper} {rest : List Oper} {o : Oper} {a : Act} {Q : Exit → Act → World → Prop} (ty : TypeId) (x y : Operand) (ho : o.op = .store ty x y) (hgd : o.guard = none) {g off : Nat} {t : TypeId} {cs : List Value} {v : Value}
    (hx : a.eval x = .pointer (some ⟨g, off, none⟩)) (hy : a.eval y = v) (hb : Bk w g t cs) (hl : off < cs.length) (h1 : v.oneCell' = true) (hi : (P.info? ty).map (·.size) = some 1)
    (h : ∀ w', Bk w' g t (cs.set off v) → w.grownBy w' (some g) → wpList P ops Q rest (a.put o.dst undef) w') : wpList P ops Q (o :: rest) a w :=
  wpList_plain hgd fun _ hK => wp_st1 ty x y ho hx hy hb hl h1 hi fun w' h2 h3 => hK _ _ (h w' h2 h3)
end Go.Proofs.Ytepodflinhpejaa

/- Rows of structs as words of a region's values; calls that hand back such a row. -/
namespace Go.Proofs.Ytepodflinhpejaa
open Go.RowKit
set_option linter.unusedVariables false

/-- a slice of elements of s cells -/
def MP.rs (s : Nat) (cs : List Value) : MP := ⟨fun v w => ∃ A n c, v = .slice A n c ∧ Rs s w A n c cs, fun _ _ _ ⟨A, n, c, h1, h2⟩ h => ⟨A, n, c, h1, h2.later h.below⟩⟩
/-- a call hands back a new or old slice that reads as cs, and changes nothing that was there -/
def RetRs (s : Nat) (w : World) (cs : List Value) (e : Ending) (w' : World) : Prop := ∃ A n c bs d, e = .returned (.slice A n c) ∧ w' = plus w bs d ∧ Rs s (plus w bs d) A n c cs
theorem RetRs.mk {s : Nat} {w w' : World} {cs : List Value} {A : Option Addr} {n c : Nat} (h : Rs s w' A n c cs) (hb : Below w.heap.size w w') : RetRs s w cs (.returned (.slice A n c)) w' := by
  obtain ⟨bs, d, rfl⟩ := plus_of hb
  exact ⟨A, n, c, bs, d, rfl, rfl, h⟩
/-- a slice of the call's own -/
def MP.os (e : TypeId) (s base : Nat) (cs : List Value) : MP := ⟨fun v w => ∃ A n c, v = .slice A n c ∧ Os e s w base A n c cs, fun _ _ _ ⟨A, n, c, h1, h2⟩ h => ⟨A, n, c, h1, h2.later h.below⟩⟩
end Go.Proofs.Ytepodflinhpejaa

/- A region that draws its order and builds structs or rows in new blocks: stores into the new blocks may stand anywhere among the other operations. -/
namespace Go.Proofs.Ytepodflinhpejaa
open Go.RowKit
set_option linter.unusedVariables false
set_option linter.unusedSimpArgs false

/-- what a value v is good for, beside the value u of another operation; it stays so as memory grows, and as blocks of the types S are written -/
structure MW (base : Nat) (S : TypeId → Bool) where
  p : Value → Value → World → Prop
  ex : ∀ v u w w', p v u w → Ex w w' → p v u w'
  st : ∀ v u w b t cs k x, p v u w → Bk w b t cs → S t = true → base ≤ b → p v u (w.setCell ⟨b, k, none⟩ x)
section
variable {base : Nat} {S : TypeId → Bool}
def MW.any : MW base S := ⟨fun _ _ _ => True, fun _ _ _ _ _ _ => trivial, fun _ _ _ _ _ _ _ _ _ _ _ _ => trivial⟩
def MW.eq (c : Value) : MW base S := ⟨fun v _ _ => v = c, fun _ _ _ _ h _ => h, fun _ _ _ _ _ _ _ _ h _ _ _ => h⟩
/-- a slice over the other's block -/
def MW.sl (n : Nat) : MW base S := ⟨fun v u _ => ∃ b, u = .pointer (some ⟨b, 0, none⟩) ∧ v = .slice (some ⟨b, 0, none⟩) n n, fun _ _ _ _ h _ => h, fun _ _ _ _ _ _ _ _ h _ _ _ => h⟩
/-- no more than that it is a word that holds of the value alone -/
def MW.of (q : Value → Prop) : MW base S := ⟨fun v _ _ => q v, fun _ _ _ _ h _ => h, fun _ _ _ _ _ _ _ _ h _ _ _ => h⟩
theorem Ob.setB {w : World} {A : Option Addr} {n c : Nat} {l : List UInt8} {b : Nat} {t : TypeId} {cs : List Value} {k : Nat} {x : Value} (h : Ob w base A n c l) (hb : Bk w b t cs) (ht : t ≠ 5) : Ob (w.setCell ⟨b, k, none⟩ x) base A n c l := by
  refine h.grown (grownBy_setCell w b k x) fun j hj e => ?_
  injection e with e
  subst e
  rcases h.2.2 with ⟨hv, _⟩ | ⟨g, cap, cur, hv, _, hg, _⟩
  · rw [hv] at hj
    simp [Value.ownBlock] at hj
  · rw [hv] at hj
    simp [Value.ownBlock] at hj
    subst hj
    rw [Bk] at hb
    rw [hb] at hg
    injection hg with hg
    injection hg with _ h2
    exact ht h2
theorem S_ne {t : TypeId} (hS : S 5 = false) (ht : S t = true) : t ≠ 5 := fun e => by subst e; rw [hS] at ht; cases ht
/-- new bytes -/
def MW.ob (hS : S 5 = false) (l : List UInt8) : MW base S := ⟨fun v _ w => ∃ A n c, v = .slice A n c ∧ Ob w base A n c l, fun _ _ _ _ ⟨A, n, c, h1, h2⟩ h => ⟨A, n, c, h1, h2.later h.below⟩,
  fun _ _ _ _ _ _ _ _ ⟨A, n, c, h1, h2⟩ hb hs _ => ⟨A, n, c, h1, h2.setB hb (S_ne hS hs)⟩⟩
end

/-- where a stored value comes from: another operation of the region, or it is known -/
inductive BSrc | op (j : Nat) | val (v : Value)
def BSrc.get (vs : Nat → Value) : BSrc → Value | .op j => vs j | .val v => v
/-- a block that is built: the operation that makes it, its cells' type, its cells as they are made, the stores into it: operation, cell, value -/
structure Bld where
  a : Nat
  t : TypeId
  cs : List Value
  sts : List (Nat × Nat × BSrc)
def Bld.at_ (B : Bld) (done : Nat → Bool) (vs : Nat → Value) (k : Nat) : Value :=
  match B.sts.find? (fun e => e.2.1 == k) with
  | some e => if done e.1 then e.2.2.get vs else B.cs.getD k undef
  | none => B.cs.getD k undef
def Bld.cells (B : Bld) (done : Nat → Bool) (vs : Nat → Value) : List Value := (List.range B.cs.length).map (B.at_ done vs)
def nodupB : List Nat → Bool
  | [] => true
  | x :: r => !r.contains x && nodupB r
theorem nodup_of : ∀ {l : List Nat}, nodupB l = true → l.Nodup
  | [], _ => List.nodup_nil
  | x :: r, h => by
    simp only [nodupB, Bool.and_eq_true, Bool.not_eq_true'] at h
    refine List.nodup_cons.2 ⟨fun hm => ?_, nodup_of h.2⟩
    have : r.contains x = true := by simpa using hm
    rw [this] at h
    exact absurd h.1 (by simp)

section
variable {P : Program} {Q : Exit → Act → World → Prop}
/-- operation i waits for operation j, over at most f others -/
def tw (ops : Array Oper) (n : Nat) : Nat → Nat → Nat → Bool
  | 0, i, j => Region.waitsFor .any ops i j
  | f + 1, i, j => Region.waitsFor .any ops i j || (List.range n).any fun k => Region.waitsFor .any ops i k && tw ops n f k j
theorem tw_listed {ops : Array Oper} {n : Nat} {listed : Array Bool} (inv : HeadInv .any ops n listed) : ∀ (f i j : Nat), (∀ k, Region.waitsFor .any ops i k = true → listed.getD k false = true) → tw ops n f i j = true → listed.getD j false = true
  | 0, i, j, h, ht => h j ht
  | f + 1, i, j, h, ht => by
    simp only [tw, Bool.or_eq_true] at ht
    rcases ht with ht | ht
    · exact h j ht
    · obtain ⟨k, _, hk⟩ := List.any_eq_true.1 ht
      simp only [Bool.and_eq_true] at hk
      refine tw_listed inv f k j (fun k' hk' => ?_) hk.2
      obtain ⟨ok, hok, e, he, hb, hon⟩ := Region.waitsFor_spec hk'
      rw [← hon]
      exact inv.closed k ok hok (h k hk.1) e he hb
end
end Go.Proofs.Ytepodflinhpejaa

/- A region that draws its order, some of whose operations change known blocks, one behind the other (calls on a reader): the others read, or make memory. -/
namespace Go.Proofs.Ytepodflinhpejaa
open Go.RowKit
set_option linter.unusedVariables false
set_option linter.unusedSimpArgs false

/-- w' is w with other cells in the blocks D, and more blocks -/
structure Chg (D : Nat → Prop) (w w' : World) : Prop where
  os : w'.os = w.os
  tape : w'.tape = w.tape
  output : w'.output = w.output
  size : w.heap.size ≤ w'.heap.size
  block : ∀ b, b < w.heap.size → ¬ D b → w'.heap[b]? = w.heap[b]?
section
variable {D : Nat → Prop} {w w' w'' : World}
theorem Chg.refl (w : World) : Chg D w w := ⟨rfl, rfl, rfl, Nat.le_refl _, fun _ _ _ => rfl⟩
theorem Chg.trans (h : Chg D w w') (h' : Chg D w' w'') : Chg D w w'' := ⟨h'.os.trans h.os, h'.tape.trans h.tape, h'.output.trans h.output, Nat.le_trans h.size h'.size, fun b hb hd => (h'.block b (Nat.lt_of_lt_of_le hb h.size) hd).trans (h.block b hb hd)⟩
theorem Chg.below {B : Nat} (h : Chg D w w') (hD : ∀ b, D b → B ≤ b) (hB : B ≤ w.heap.size) : Below B w w' := ⟨h.os, h.tape, h.output, h.size, fun b hb => h.block b (by omega) (fun hd => by have := hD b hd; omega)⟩
theorem Chg.of_below (h : Below w.heap.size w w') : Chg D w w' := ⟨h.os, h.tape, h.output, h.size, fun b hb _ => h.block b hb⟩
theorem Chg.ex (h : Ex w w') : Chg D w w' := .of_below h.below
theorem Chg.grown {row : Option Nat} (h : w.grownBy w' row) (hr : ∀ k, row = some k → D k) : Chg D w w' := ⟨h.os, h.tape, h.output, h.size, fun b hb hd => h.block b hb (fun e => hd (hr b e.symm))⟩
theorem Bk.chg {g : Nat} {t : TypeId} {cs : List Value} (h : Bk w g t cs) (hc : Chg D w w') (hd : ¬ D g) : Bk w' g t cs := (hc.block g h.lt hd).trans h
theorem Rb.chg {A : Option Addr} {n c : Nat} {l : List UInt8} (h : Rb w A n c l) (hc : Chg D w w') (hd : ∀ a, A = some a → ¬ D a.block) : Rb w' A n c l := by
  refine ⟨h.1, h.2.1, ?_⟩
  rcases h.2.2 with h' | ⟨b, off, hA, hb, hcell⟩
  · exact .inl h'
  · exact .inr ⟨b, off, hA, Nat.lt_of_lt_of_le hb hc.size, fun i u hu => (World.cell?_of_block (hc.block b hb (hd _ hA))).trans (hcell i u hu)⟩
theorem Ob.chg {base : Nat} {A : Option Addr} {n c : Nat} {l : List UInt8} (h : Ob w base A n c l) (hc : Chg D w w') (hd : ∀ b, D b → b < base) : Ob w' base A n c l := by
  refine ⟨h.1, h.2.1, ?_⟩
  rcases h.2.2 with h' | ⟨g, cap, cur, hv, hg, hh, hr⟩
  · exact .inl h'
  · refine .inr ⟨g, cap, cur, hv, hg, ?_, hr⟩
    rw [hc.block g (by rcases Nat.lt_or_ge g w.heap.size with h1 | h1; exact h1; rw [Array.getElem?_eq_none h1] at hh; cases hh) (fun hd' => by have := hd g hd'; omega)]
    exact hh
end
/-- what a value is good for, whatever happens in the blocks D -/
structure MC (D : Nat → Prop) where
  p : Value → World → Prop
  mono : ∀ v w w', p v w → Chg D w w' → p v w'
def MC.any {D : Nat → Prop} : MC D := ⟨fun _ _ => True, fun _ _ _ _ _ => trivial⟩
def MC.eq {D : Nat → Prop} (c : Value) : MC D := ⟨fun v _ => v = c, fun _ _ _ h _ => h⟩
def MC.ob {D : Nat → Prop} (base : Nat) (hd : ∀ b, D b → b < base) (l : List UInt8) : MC D := ⟨fun v w => ∃ A n c, v = .slice A n c ∧ Ob w base A n c l, fun _ _ _ ⟨A, n, c, h1, h2⟩ h => ⟨A, n, c, h1, h2.chg h hd⟩⟩
def MC.blk {D : Nat → Prop} (base : Nat) (hd : ∀ b, D b → b < base) (t : TypeId) (cs : List Value) : MC D := ⟨fun v w => ∃ g, v = .pointer (some ⟨g, 0, none⟩) ∧ base ≤ g ∧ Bk w g t cs, fun _ _ _ ⟨g, h1, h2, h3⟩ h => ⟨g, h1, h2, h3.chg h (fun hg => by have := hd g hg; omega)⟩⟩

section
variable {P : Program} {Q : Exit → Act → World → Prop}
structure SInv (ops : Array Oper) (n : Nat) (a0 : Act) (w0 : World) {D : Nat → Prop} (Φ : Nat → MC D) (cs : List Nat) (St : Nat → World → Prop) (listed : Array Bool) (A : Act) (w : World) : Prop where
  head : HeadInv .any ops n listed
  chg : Chg D w0 w
  size : A.tmps.size = a0.tmps.size
  defers : A.defers = a0.defers
  out : ∀ s, (∀ j, j < n → ∀ o, ops[j]? = some o → listed.getD j false = true → o.dst ≠ some s) → A.eval (.tmp s) = a0.eval (.tmp s)
  ins : ∀ j, j < n → ∀ o s, ops[j]? = some o → listed.getD j false = true → o.dst = some s → (Φ j).p (A.eval (.tmp s)) w
  st : St (cs.filter fun j => listed.getD j false).length w

theorem filter_first {p : Nat → Bool} : ∀ (cs : List Nat) (k : Nat), k ≤ cs.length → (∀ j, j < k → p (cs.getD j 0) = true) → (∀ j, k ≤ j → j < cs.length → p (cs.getD j 0) = false) → (cs.filter p).length = k
  | [], k, h, _, _ => by simp at h ⊢; omega
  | x :: r, 0, _, _, h2 => by
    have h0 := h2 0 (by omega) (by simp)
    simp only [List.getD_cons_zero] at h0
    rw [List.filter_cons, h0]
    exact filter_first r 0 (by omega) (by omega) (fun j h3 h4 => by have := h2 (j + 1) (by omega) (by simp; omega); simpa using this)
  | x :: r, k + 1, h, h1, h2 => by
    have h0 := h1 0 (by omega)
    simp only [List.getD_cons_zero] at h0
    rw [List.filter_cons, h0]
    simp only [if_true, List.length_cons]
    rw [filter_first r k (by simp at h; omega) (fun j h3 => by have := h1 (j + 1) (by omega); simpa using this) (fun j h3 h4 => by have := h2 (j + 1) (by omega) (by simp; omega); simpa using this)]

end
end Go.Proofs.Ytepodflinhpejaa

/- Rows of structs: append, with what becomes of the row's block; rows of encoded elements; rows that stay while other blocks change. -/
namespace Go.Proofs.Ytepodflinhpejaa
open Go.RowKit
set_option linter.unusedVariables false

theorem Rs.chg {D : Nat → Prop} {s : Nat} {w w' : World} {A : Option Addr} {n c : Nat} {cs : List Value} (h : Rs s w A n c cs) (hc : Chg D w w') (hd : ∀ a, A = some a → ¬ D a.block) : Rs s w' A n c cs := by
  refine ⟨h.1, h.2.1, ?_⟩
  rcases h.2.2 with h' | ⟨b, off, hA, hb, hcell⟩
  · exact .inl h'
  · refine .inr ⟨b, off, hA, Nat.lt_of_lt_of_le hb hc.size, fun i u hu => ?_⟩
    rw [World.cell?_of_block (w := w) (hc.block b hb (hd _ hA))]
    exact hcell i u hu
theorem Os.chg {D : Nat → Prop} {e : TypeId} {s base : Nat} {w w' : World} {A : Option Addr} {n c : Nat} {cs : List Value} (h : Os e s w base A n c cs) (hc : Chg D w w') (hd : ∀ k, (Value.slice A n c).ownBlock = some k → ¬ D k) : Os e s w' base A n c cs := by
  refine ⟨h.1, ?_⟩
  rcases h.2 with h' | ⟨g, cap, cur, hv, hb, hg, hr⟩
  · exact .inl h'
  · have hk : (Value.slice A n c).ownBlock = some g := by rw [hv]; rfl
    exact .inr ⟨g, cap, cur, hv, hb, (hc.block g (h.blk g hk).2 (hd g hk)).trans hg, hr⟩
/-- a row of encoded elements -/
theorem flat_at {X : Type} (enc : X → List Value) (s : Nat) (hs : ∀ x, (enc x).length = s) : ∀ (L : List X) (j : Nat) (hj : j < L.length) (i : Nat) (u : Value), (enc L[j])[i]? = some u → (L.flatMap enc)[j * s + i]? = some u
  | x :: t, 0, _, i, u, h => by
    have hi : i < (enc x).length := (List.getElem?_eq_some_iff.1 h).1
    simp only [List.flatMap_cons, Nat.zero_mul, Nat.zero_add]
    rw [List.getElem?_append_left hi]
    exact h
  | x :: t, j + 1, hj, i, u, h => by
    have h2 := flat_at enc s hs t j (by simpa using hj) i u h
    simp only [List.flatMap_cons]
    rw [List.getElem?_append_right (by rw [hs, Nat.add_mul]; omega), hs, show (j + 1) * s + i - s = j * s + i by rw [Nat.add_mul]; omega]
    exact h2
theorem flat_len {X : Type} (enc : X → List Value) (s : Nat) (hs : ∀ x, (enc x).length = s) : ∀ L : List X, (L.flatMap enc).length = L.length * s
  | [] => by simp
  | x :: t => by simp [hs, flat_len enc s hs t, Nat.add_mul, Nat.add_comm]
end Go.Proofs.Ytepodflinhpejaa

/- Contracts of bytes.Clone, slices.Clone and of the package octet. -/
namespace Go.Proofs.Ytepodflinhpejaa
open Go.RowKit
set_option linter.unusedVariables false
attribute [local go_sem ↓] sliced_cut

attribute [local go_sem] cutA_zero

theorem bt : BT Try.prog 29 5 := ⟨Try.underlying29, Try.underlying5, by kernel_rfl⟩

theorem clone_any (A : Option Addr) (n c : Nat) (l : List UInt8) (w : World) (h : Rb w A n c l) (hm : n ≤ 549755813888) : Calls Try.prog 74 #[.slice A n c] w (RetB w l) := by
  have hnil := fun w => Lib.run_eql_slice_nil (P := Try.prog) w 29 5 A n c 0 0 Try.underlying29
  cases A with
  | none =>
    go_enter Try.func74, Try.ntmps74
    go_wp2
    go_ret
    have : l = [] := by
      rcases h.2.2 with h | ⟨b, off, h, _⟩
      · exact bcs_nil h
      · cases h
    subst this
    exact RetB.mk Ob.nil_ (Below.refl _ _)
  | some ad =>
    go_enter Try.func74, Try.ntmps74
    go_wp2_with (at_builtin; refine wpList_app0 bt rfl (.tmp 5) (.tmp 6) rfl rfl rfl rfl h (by omega) ?_; intro A1 n1 c1 bs1 d1 ho1)
    go_ret
    exact ⟨A1, n1, c1, bs1, d1, rfl, rfl, ho1⟩

set_option maxHeartbeats 400000 in
/-- octet.digits: n written over the m bytes from off on. -/
theorem digits_any (A : Option Addr) (g off m c : Nat) (cs : List Value) (n : Nat) (w : World) (hA : m = 0 ∨ A = some ⟨g, off, none⟩) (hg : Bk w g 5 cs) (hm : off + m ≤ cs.length) (hc : m ≤ 1099511627776) (hn : n < 18446744073709551616) :
    Calls Try.prog 79 #[.slice A m c, .int .u64 n] w fun e w' => e = .returned (.tuple #[]) ∧ Bk w' g 5 (splice cs off (bcs (dig n m))) ∧ w.grownBy w' (some g) := by
  go_enter Try.func79, Try.ntmps79
  go_wp2
  go_loopw [1, 4] (fun x i wr => ∃ j N : Nat, ∃ ks : List Value, j ≤ m ∧ N < 18446744073709551616 ∧ x = .int .u64 N ∧ i = .int .i64 ((j : Int) - 1) ∧ ks.length = cs.length ∧ Bk wr g 5 ks ∧ splice ks off (bcs (dig N j)) = splice cs off (bcs (dig n m)) ∧ w.grownBy wr (some g)) (fun _ i _ => (intOf i + 1).toNat)
  case atStart => exact ⟨m, n, cs, Nat.le_refl _, hn, rfl, rfl, rfl, hg, rfl, World.grownBy.refl _ _⟩
  case round =>
    obtain ⟨j, N, ks, hj, hN, rfl, rfl, hk, hb, ho, hgr⟩ := hrel
    have HO := Lib.hid ho
    have HK := Lib.hid hk
    have hk1 : off + m ≤ ks.length := by omega
    clear ho hk
    by_cases h0 : j = 0
    · subst h0
      go_wp2
      go_end0
      refine ⟨rfl, ?_, hgr⟩
      rw [← HO.out]
      simpa [dig, bcs, over_nil] using hb
    · rcases hA with h | rfl
      · omega
      obtain ⟨k, rfl⟩ : ∃ k, j = k + 1 := ⟨j - 1, by omega⟩
      have hlt : off + k < ks.length := by omega
      have hcell : wr.cell? ⟨g, off + k, none⟩ = some ks[off + k] := by rw [hb.cell, List.getElem?_eq_getElem hlt]
      have hfr := hb.frozen (off + k)
      go_wp2
      refine ⟨⟨k, N / 256, ks.set (off + k) (.int .u8 ((N % 256 : Nat) : Int)), by omega, by omega, by simp, rfl, by rw [List.length_set]; exact HK.out, by simpa using hb.set_ (off + k) _, ?_, hgr.trans (grownBy_setCell _ _ _ _)⟩, by simp [intOf]⟩
      rw [over_dig ks off N k (by omega)]
      exact HO.out

theorem put_cells (l : List UInt8) (n size k : Nat) (h : l.length = k) : splice (splice (List.replicate (k + size) (.int .u8 0)) 0 (bcs l)) k (bcs (dig n size)) = bcs (l ++ dig n size) := by
  subst h
  simp only [splice, bcs_append, bcs_length, dig_length, List.take_zero, List.nil_append, Nat.zero_add]
  rw [List.take_left' (bcs_length l)]
  simp [List.drop_append, bcs_length]

/-- The block r is a Reader of the bytes l. -/
def Rdr (w : World) (r : Nat) (l : List UInt8) (bad : Bool) : Prop := ∃ A n c, Bk w r 140 [.slice A n c, .bool bad] ∧ l.length = n ∧ n ≤ c ∧ Rd w r A (bcs l)
def RetR (w : World) (l : List UInt8) (e : Ending) (w' : World) : Prop := ∃ r bs d, e = .returned (.pointer (some ⟨r, 0, none⟩)) ∧ w' = plus w bs d ∧ w.heap.size ≤ r ∧ Rdr (plus w bs d) r l false
theorem Rdr.lt {w : World} {r : Nat} {l : List UInt8} {bad : Bool} (h : Rdr w r l bad) : r < w.heap.size := by
  obtain ⟨A, n, c, h, _⟩ := h
  exact h.lt
theorem Rdr.later {w w' : World} {r : Nat} {l : List UInt8} {bad : Bool} (h : Rdr w r l bad) (hb : Below w.heap.size w w') : Rdr w' r l bad := by
  have hlt := h.lt
  obtain ⟨A, n, c, h1, h2, h3, h4⟩ := h
  exact ⟨A, n, c, h1.later hb, h2, h3, h4.below ⟨hb.os, hb.tape, hb.output, hb.size, fun k hk => hb.block k (by omega)⟩⟩

theorem read_any (A : Option Addr) (n c : Nat) (l : List UInt8) (w : World) (h : Rb w A n c l) (hm : n ≤ 549755813888) : Calls Try.prog 30 #[.slice A n c] w (RetR w l) := by
  go_enter Try.func30, Try.ntmps30
  go_wp2_with (go_at_call 74; refine (clone_any _ _ _ l _ (by exact h) hm).mono ?_; rintro e w1 ⟨A1, n1, c1, bs1, d1, rfl, rfl, ho1⟩)
  go_ret
  have hrb := ho1.rb
  obtain ⟨bs, d, e⟩ := plus_of (((below_plus w bs1 d1)).alloc (by simp [size_plus]) (.cells #[.slice A1 n1 c1, .bool false] 140))
  refine ⟨(plus w bs1 d1).heap.size, bs, d, by simp [size_plus], e, by simp [size_plus], ?_⟩
  rw [← e]
  exact ⟨A1, n1, c1, Bk.new _ _ _, hrb.1, hrb.2.1, hrb.2.2.alloc (Nat.le_refl _) _⟩

/-- what next gives -/
def RetN (w : World) (r : Nat) (l : List UInt8) (n : Nat) (bad : Bool) (e : Ending) (w' : World) : Prop := ∃ A c, e = .returned (.slice A n c) ∧ n ≤ c ∧ Rd w' r A (bcs (l.take n)) ∧ Rdr w' r (l.drop n) bad ∧ w.grownBy w' (some r)
theorem next_any (r : Nat) (l : List UInt8) (bad : Bool) (n : Nat) (w : World) (h : Rdr w r l bad) (hn : n ≤ l.length) (hm : l.length ≤ 1099511627776) :
    Calls Try.prog 99 #[.pointer (some ⟨r, 0, none⟩), .int .i64 n] w (RetN w r l n bad) := by
  obtain ⟨A, k, c, hb, hk, hkc, hrd⟩ := h
  have hc0 : w.cell? ⟨r, 0, none⟩ = some (.slice A k c) := hb.cell 0
  have hf0 := hb.frozen 0
  have hn' : n ≤ k := by omega
  have hk1 : k ≤ 1099511627776 := by omega
  have HK := Lib.hid hk
  clear hk
  go_enter Try.func99, Try.ntmps99
  go_wp2
  go_ret
  have h1 := hrd.setCell (p := ⟨r, 0, none⟩) (Nat.le_refl _) (Value.slice (cutA A c n 1) (k - n) (c - n))
  refine ⟨A, c, rfl, by omega, by rw [← bcs_take]; exact h1.take n, ⟨_, _, _, hb.set_ 0 _, by rw [List.length_drop, HK.out], by omega, ?_⟩, grownBy_setCell _ _ _ _⟩
  rw [← bcs_drop]
  exact h1.cut (by rw [bcs_length, HK.out]; exact hkc)

/-- what is asked for is not there -/
theorem next_bad (r : Nat) (l : List UInt8) (bad : Bool) (n : Int) (w : World) (h : Rdr w r l bad) (hn : n < 0 ∨ (l.length : Int) < n) (hm : l.length ≤ 1099511627776) (hi : -9223372036854775808 ≤ n ∧ n ≤ 9223372036854775807) :
    Calls Try.prog 99 #[.pointer (some ⟨r, 0, none⟩), .int .i64 n] w fun e w' => e = .returned (.slice none 0 0) ∧ Rdr w' r [] true ∧ w.grownBy w' (some r) := by
  obtain ⟨A, k, c, hb, hk, hkc, hrd⟩ := h
  have hc0 : w.cell? ⟨r, 0, none⟩ = some (.slice A k c) := hb.cell 0
  have hf0 := hb.frozen 0
  have hb1 := hb.set_ 0 (.slice none 0 0)
  have hc1 : (w.setCell ⟨r, 0, none⟩ (.slice none 0 0)).cell? ⟨r, 1, none⟩ = some (.bool bad) := hb1.cell 1
  have hf1 := hb1.frozen 1
  have hn' : n < 0 ∨ (k : Int) < n := by omega
  have hb2 := hb1.set_ 1 (.bool true)
  have hk1 : k ≤ 1099511627776 := by omega
  clear hn hb1
  by_cases hneg : n < 0
  · have hd : decide (n < 0) = true := by simpa using hneg
    go_enter Try.func99, Try.ntmps99
    go_wp2
    go_ret
    exact ⟨rfl, ⟨_, _, _, hb2, rfl, Nat.le_refl _, .inl rfl⟩, (grownBy_setCell _ _ _ _).trans (grownBy_setCell _ _ _ _)⟩
  · have hk2 : (k : Int) < n := by omega
    go_enter Try.func99, Try.ntmps99
    go_wp2
    go_ret
    exact ⟨rfl, ⟨_, _, _, hb2, rfl, Nat.le_refl _, .inl rfl⟩, (grownBy_setCell _ _ _ _).trans (grownBy_setCell _ _ _ _)⟩

/-- what a reader's call leaves: the reader moved on, nothing else changed -/
def RetP (W : World) (bs : List Obj) (d r : Nat) (l : List UInt8) (bad : Bool) (v : Value) (e : Ending) (w' : World) : Prop :=
  ∃ bs' d', e = .returned v ∧ w' = plus W bs' d' ∧ Rdr (plus W bs' d') r l bad ∧ (plus W bs d).grownBy (plus W bs' d') (some r)
theorem RetP.mk {W : World} {bs : List Obj} {d r : Nat} {l : List UInt8} {bad : Bool} {v : Value} {e : Ending} {w' : World} (hr : W.heap.size ≤ r) (he : e = .returned v) (h1 : Rdr w' r l bad) (h2 : (plus W bs d).grownBy w' (some r)) : RetP W bs d r l bad v e w' := by
  obtain ⟨bs', d', rfl⟩ := grown_plus h2 hr
  exact ⟨bs', d', he, rfl, h1, h2⟩
end Go.Proofs.Ytepodflinhpejaa

/- Contracts of the reference's numbers and bytes (counterfoilref01). -/
namespace Go.Proofs.Ytepodflinhpejaa
open Go.RowKit
set_option linter.unusedVariables false
attribute [local go_sem ↓] sliced_cut

attribute [local go_sem] cutA_zero

theorem refNum_any (A : Option Addr) (n c : Nat) (l : List UInt8) (w : World) (h : Rb w A n c l) (h8 : n ≤ 8) :
    Calls Try.prog 76 #[.slice A n c] w fun e w' => e = .returned (.int .u64 (num l : Nat)) ∧ w = w' := by
  have HL := Lib.hid h.1
  have hrd := h.2.2
  go_enter Try.func76, Try.ntmps76
  go_wp2
  go_loop [3, 4] (fun x i => ∃ j : Nat, j ≤ n ∧ i = .int .i64 j ∧ x = .int .u64 (num (l.take j) : Nat)) (fun _ i => n - (intOf i).toNat)
  case atStart => exact ⟨0, Nat.zero_le _, rfl, rfl⟩
  case round =>
    obtain ⟨j, hj, rfl, rfl⟩ := hrel
    by_cases hlt : j < n
    · obtain ⟨b, off, rfl, hb, hcell⟩ := hrd.at_ (by rw [bcs_length, HL.out]; omega)
      have hjl : j < l.length := by rw [HL.out]; omega
      have hcj : w.cell? ⟨b, off + j, none⟩ = some (.int .u8 (l[j].toNat : Int)) := hcell j _ (bcs_get _ _ hjl)
      have HS := Lib.hid (num_take_succ l j hjl)
      have hN : num (l.take j) < 72057594037927936 := Nat.lt_of_lt_of_le (num_lt j _ (List.length_take_le _ _)) (pow_le_seven j (by omega))
      have hx : l[j].toNat < 256 := l[j].toNat_lt
      clear hcell hrd
      go_wp2
      go_round
      case rel => exact ⟨j + 1, by omega, by go_num, by rw [HS.out]; simp⟩
      case measure => simp [intOf]; omega
    · obtain rfl : j = n := by omega
      go_wp2
      go_ret
      rw [List.take_of_length_le (by rw [HL.out]; omega)]
      exact ⟨rfl, rfl⟩

theorem refGet_any (A : Option Addr) (n c : Nat) (l : List UInt8) (k s : Nat) (w : World) (h : Rb w A n c l) (hm : n ≤ 1099511627776) (hk : k + s ≤ n) (h8 : s ≤ 8) :
    Calls Try.prog 73 #[.slice A n c, .int .i64 k, .int .i64 s] w fun e w' => e = .returned (.int .u64 (num ((l.drop k).take s) : Nat)) ∧ w = w' := by
  have hc := h.cap
  have d1 : decide ((k : Int) < 0) = false := by simp
  have d2 : decide ((s : Int) < 0) = false := by simp
  have d3 : decide (n < k + s) = false := by simp; omega
  go_enter Try.func73, Try.ntmps73
  go_wp2_with (go_at_call 76; refine (refNum_any _ _ _ ((l.drop k).take s) _ (by exact (h.cut (by omega)).take (by omega)) h8).mono ?_; rintro e w1 ⟨rfl, rfl⟩)
  go_ret
  exact ⟨rfl, rfl⟩

/-- they are not there -/
theorem refGet_out (A : Option Addr) (n c : Nat) (l : List UInt8) (k s : Nat) (w : World) (h : Rb w A n c l) (hm : n ≤ 1099511627776) (hk : n < k + s) (hk1 : k ≤ 1099511627776) (hs : s ≤ 1099511627776) :
    Calls Try.prog 73 #[.slice A n c, .int .i64 k, .int .i64 s] w fun e w' => e = .returned (.int .u64 0) ∧ w = w' := by
  have d1 : decide ((k : Int) < 0) = false := by simp
  have d2 : decide ((s : Int) < 0) = false := by simp
  have d3 : decide (n < k + s) = true := by simp; omega
  go_enter Try.func73, Try.ntmps73
  go_wp2
  go_ret
  exact ⟨rfl, rfl⟩

set_option maxHeartbeats 400000 in
theorem refBytes_any (n size : Nat) (w : World) (hn : n < 18446744073709551616) (hs : size ≤ 8) :
    Calls Try.prog 48 #[.int .u64 n, .int .i64 size] w (RetB w (dig n size)) := by
  have q1 : (size : Int) ≤ 8 := by omega
  go_enter Try.func48, Try.ntmps48
  go_wp2_with (at_make; refine wpList_mk bt rfl (.tmp 11) rfl _ size rfl rfl (by omega) ?_; intro w1 hb1 hbe1 hs1)
  go_loopw [0, 6] (fun x i wr => ∃ j N : Nat, ∃ ks : List Value, j ≤ size ∧ N < 18446744073709551616 ∧ x = .int .u64 N ∧ i = .int .i64 ((j : Int) - 1) ∧ ks.length = size ∧ Bk wr w.heap.size 5 ks ∧ splice ks 0 (bcs (dig N j)) = bcs (dig n size) ∧ Below w.heap.size w wr) (fun _ i _ => (intOf i + 1).toNat)
  case atStart =>
    refine ⟨size, n, _, Nat.le_refl _, hn, rfl, rfl, by simp, hb1, ?_, hbe1⟩
    simp [splice, bcs_length, dig_length]
  case round =>
    obtain ⟨j, N, ks, hj, hN, rfl, rfl, hk, hb, ho, hgr⟩ := hrel
    have HO := Lib.hid ho
    have HK := Lib.hid hk
    have hk1 : size ≤ ks.length := by omega
    clear ho hk
    by_cases h0 : j = 0
    · subst h0
      have hlen : (dig n size).length = size := dig_length _ _
      go_wp2
      go_ret
      have he : ks = bcs (dig n size) := by rw [← HO.out]; simp [dig, bcs, over_nil]
      rw [he] at hb
      exact RetB.mk (Ob.of_bk hb (Nat.le_refl _) (dig_length _ _) (by simp [maxLen]; omega)) hgr
    · obtain ⟨k, rfl⟩ : ∃ k, j = k + 1 := ⟨j - 1, by omega⟩
      have hlt : k < ks.length := by omega
      have hcell : wr.cell? ⟨w.heap.size, k, none⟩ = some ks[k] := by rw [hb.cell, List.getElem?_eq_getElem hlt]
      have hfr := hb.frozen k
      go_wp2
      refine ⟨⟨k, N / 256, ks.set k (.int .u8 ((N % 256 : Nat) : Int)), by omega, by omega, by simp, rfl, by rw [List.length_set]; exact HK.out, by simpa using hb.set_ k _, ?_, hgr.setCell (Nat.le_refl _) _⟩, by simp [intOf]⟩
      have := over_dig ks 0 N k (by omega)
      rw [Nat.zero_add] at this
      rw [this]
      exact HO.out

end Go.Proofs.Ytepodflinhpejaa

/- More of the readers: Bytes, Bad, Left, Rest, in any world. -/
namespace Go.Proofs.Ytepodflinhpejaa
open Go.RowKit
set_option linter.unusedVariables false
attribute [local go_sem ↓] sliced_cut

attribute [local go_sem] cutA_zero

theorem Rd.rb {w : World} {B n c : Nat} {A : Option Addr} {l : List UInt8} (h : Rd w B A (bcs l)) (hB : B ≤ w.heap.size) (hl : l.length = n) (hc : n ≤ c) : Rb w A n c l := ⟨hl, hc, h.more hB⟩
theorem badG (w : World) (r : Nat) (l : List UInt8) (bad : Bool) (h : Rdr w r l bad) : Calls Try.prog 72 #[.pointer (some ⟨r, 0, none⟩)] w fun e w' => e = .returned (.bool bad) ∧ w = w' := by
  obtain ⟨A, n, c, hb, _⟩ := h
  have q1 : w.cell? ⟨r, 1, none⟩ = some (.bool bad) := hb.cell 1
  go_enter Try.func72, Try.ntmps72
  go_wp2
  go_ret
  exact ⟨rfl, rfl⟩
theorem leftG (w : World) (r : Nat) (l : List UInt8) (bad : Bool) (h : Rdr w r l bad) : Calls Try.prog 35 #[.pointer (some ⟨r, 0, none⟩)] w fun e w' => e = .returned (.int .i64 (l.length : Nat)) ∧ w = w' := by
  obtain ⟨A, n, c, hb, hl, _⟩ := h
  have q0 : w.cell? ⟨r, 0, none⟩ = some (.slice A n c) := hb.cell 0
  rw [hl]
  clear hl
  go_enter Try.func35, Try.ntmps35
  go_wp2
  go_ret
  exact ⟨rfl, rfl⟩
end Go.Proofs.Ytepodflinhpejaa

/- octet.Put without room; addr.Bytes, addr.Key. -/
namespace Go.Proofs.Ytepodflinhpejaa
open Go.RowKit
set_option linter.unusedVariables false
set_option linter.unusedSimpArgs false
attribute [local go_sem ↓] sliced_cut

attribute [local go_sem] cutA_zero

/-- The call returns new bytes l without room, and changes nothing that was there. -/
def RetF (w : World) (l : List UInt8) (e : Ending) (w' : World) : Prop := ∃ A n bs d, e = .returned (.slice A n n) ∧ w' = plus w bs d ∧ Ob (plus w bs d) w.heap.size A n n l
theorem RetF.mk {w w' : World} {l : List UInt8} {A : Option Addr} {n : Nat} (ho : Ob w' w.heap.size A n n l) (hb : Below w.heap.size w w') : RetF w l (.returned (.slice A n n)) w' := by
  obtain ⟨bs, d, rfl⟩ := plus_of hb
  exact ⟨A, n, bs, d, rfl, rfl, ho⟩
theorem RetF.b {w w' : World} {l : List UInt8} {e : Ending} (h : RetF w l e w') : RetB w l e w' := by
  obtain ⟨A, n, bs, d, h1, h2, h3⟩ := h
  exact ⟨A, n, n, bs, d, h1, h2, h3⟩
theorem RetV.is_ {w w' : World} {v v' : Value} (hv : v' = v) (hb : Below w.heap.size w w') : RetV w v (.returned v') w' := by
  subst hv
  exact RetV.mk hb
/-- new bytes without room, in a block from base on -/
def MP.of (base : Nat) (l : List UInt8) : MP := ⟨fun v w => ∃ A n, v = .slice A n n ∧ Ob w base A n n l, fun _ _ _ ⟨A, n, h1, h2⟩ h => ⟨A, n, h1, h2.later h.below⟩⟩

set_option maxHeartbeats 800000 in
set_option maxRecDepth 100000 in
theorem put_full (A : Option Addr) (k c : Nat) (l : List UInt8) (n : Nat) (size : Nat) (w : World) (hr : Rb w A k c l) (hk : k ≤ 549755813888) (hn : n < 18446744073709551616) (hs0 : 1 ≤ size) (hs : size ≤ 8) :
    Calls Try.prog 43 #[.slice A k c, .int .u64 n, .int .i64 size] w (RetF w (l ++ dig n size)) := by
  go_enter Try.func43, Try.ntmps43
  go_wp2_with (first
    | (at_make; refine wpList_mk bt rfl (.tmp 14) rfl _ (k + size) rfl (by omega) (by omega) ?_; intro w1 hb1 hbe1 hs1)
    | (refine wpList_cpy 18 rfl bt rfl (.tmp 16) (.tmp 17) rfl rfl rfl w.heap.size 0 _ hb1 (.inr rfl) l (hr.later hbe1) (by omega) (by simp) w.heap.size w hbe1 (Nat.le_refl _) ?_; intro w2 hb2 hbe2)
    | (go_at_call 79; refine (digits_any _ w.heap.size k size _ (splice (List.replicate (k + size) (.int .u8 0)) 0 (bcs l)) n _ (.inr (by rw [cutA_some _ _ _ _ (by omega)]; simp)) hb2 (by rw [length_splice _ _ _ (by simp [bcs_length, hr.1])]; simp) (by omega) hn).mono ?_; rintro e w3 ⟨rfl, hb3, hg3⟩))
  go_ret
  rw [put_cells l n size k hr.1] at hb3
  exact RetF.mk (Ob.of_bk hb3 (Nat.le_refl _) (by simp [dig_length, hr.1]) (by simp [maxLen]; omega)) (hbe2.trans (below_of_grown hg3 hbe2.size (fun k hk => by injection hk with hk; omega)))

end Go.Proofs.Ytepodflinhpejaa

/- A region that draws its order, some of whose operations change known blocks, one behind the other; these may be stores (no slot). -/
namespace Go.Proofs.Ytepodflinhpejaa
open Go.RowKit
set_option linter.unusedVariables false
set_option linter.unusedSimpArgs false

theorem Chg.one {D : Nat → Prop} {w w' : World} {g : Nat} (h : w.grownBy w' (some g)) (hg : D g) : Chg D w w' := Chg.grown h (fun k hk => by injection hk with hk; subst hk; exact hg)
section
variable {P : Program} {Q : Exit → Act → World → Prop}
def suB (ops : Array Oper) (n N : Nat) (cs : List Nat) (f : Nat) : Bool :=
  decide (n ≤ ops.size) && (decide (n = ops.size) || (Region.sinkB .any ops n && Region.chainB .any ops n)) &&
  Region.seqB .any ops (ops.size - n) n ((List.range ops.size).map fun i => decide (i < n)).toArray &&
  ((List.range n).all fun i => match ops[i]? with
    | none => false
    | some o => (match o.dst with | some s => decide (s < N) | none => true) && (o.after.all fun e => !Region.binds .any e || decide (e.on < i)) &&
      (List.range n).all fun j => j == i || (match o.dst, (ops[j]?).bind (·.dst) with | some s, some s' => s != s' | _, _ => true)) &&
  (cs.all fun i => decide (i < n)) && ((List.range cs.length).all fun k => (List.range k).all fun j => tw ops n f (cs.getD k 0) (cs.getD j 0)) && nodupB cs

theorem wp_su {id : Nat} {a : Act} {w : World} {l : List Oper} (D : Nat → Prop) (n N f : Nat) (cs : List Nat) (hN : a.tmps.size = N) (hm : P.follows .mixedOrders = true) (hB : suB l.toArray n N cs f = true) (Φ : Nat → MC D)
    (St : Nat → World → Prop) (hSt : ∀ k w w', St k w → Ex w w' → St k w') (h0 : St 0 w)
    (step : ∀ i, i < n → ∀ o, l[i]? = some o → cs.contains i = false → ∀ (A : Act) (w' : World), Chg D w w' → (∀ s, outB l.toArray n i s = true → A.eval (.tmp s) = a.eval (.tmp s)) → (∀ j s, depB l.toArray n i j s = true → (Φ j).p (A.eval (.tmp s)) w') →
      ∀ K : Act → World → Prop, Shut (∀ v w'', Ex w' w'' → (Φ i).p v w'' → K (A.put o.dst v) w'') → if Region.wanted o (yielded l.toArray A.tmps) = true then o.wp P A w' K Q else K (A.put o.dst undef) w')
    (move : ∀ k i, cs[k]? = some i → ∀ o, l[i]? = some o → ∀ (A : Act) (w' : World), Chg D w w' → St k w' → (∀ s, outB l.toArray n i s = true → A.eval (.tmp s) = a.eval (.tmp s)) → (∀ j s, depB l.toArray n i j s = true → (Φ j).p (A.eval (.tmp s)) w') →
      ∀ K : Act → World → Prop, Shut (∀ v w'', Chg D w' w'' → St (k + 1) w'' → (Φ i).p v w'' → K (A.put o.dst v) w'') → if Region.wanted o (yielded l.toArray A.tmps) = true then o.wp P A w' K Q else False)
    (fin : ∀ (vs : Nat → Value) (w' : World), Chg D w w' → St cs.length w' → (∀ i, i < n → ((l[i]?).bind (·.dst)).isSome = true → (Φ i).p (vs i) w') → wpList P l.toArray Q (l.drop n) (putAll (l.take n) vs 0 a) w') : (Code.region id l.toArray true).wp P Q a w := by
  unfold suB at hB
  simp only [Bool.and_eq_true, decide_eq_true_eq] at hB
  obtain ⟨⟨⟨⟨⟨⟨hn, htail⟩, hseq⟩, hall⟩, hcn⟩, hcc⟩, hcd⟩ := hB
  have hal : ∀ i, i < n → ∃ o, l.toArray[i]? = some o ∧ (∀ s, o.dst = some s → s < N) ∧ (∀ e ∈ o.after, Region.binds .any e = true → e.on < i) ∧ ∀ j, j < n → j ≠ i → ∀ oj, l.toArray[j]? = some oj → ∀ s s', o.dst = some s → oj.dst = some s' → s ≠ s' := by
    intro i hi
    have h1 := List.all_eq_true.1 hall i (List.mem_range.2 hi)
    cases ho : l.toArray[i]? with
    | none => rw [ho] at h1; cases h1
    | some o =>
      rw [ho] at h1
      simp only [Bool.and_eq_true] at h1
      obtain ⟨⟨h2, h3⟩, h4⟩ := h1
      refine ⟨o, rfl, fun s hs => ?_, fun e he hb => ?_, fun j hj hji oj hoj s s' hs hs' => ?_⟩
      · rw [hs] at h2; simpa using h2
      · have := (Array.all_eq_true_iff_forall_mem.1 h3) e he
        rw [hb] at this
        simpa using this
      · have h6 := List.all_eq_true.1 h4 j (List.mem_range.2 hj)
        rw [hoj, hs] at h6
        simp [hs', hji] at h6
        exact h6
  have main : ∀ (q : Nat) (listed : Array Bool) (A : Act) (w' : World), SInv l.toArray n a w Φ cs St listed A w' → cnt listed n = q → wpAny P .any l.toArray Q (q + (l.toArray.size - n)) listed A w' := by
    intro q
    induction q with
    | zero =>
      intro listed A w' inv hc
      have hl : ∀ i, i < n → listed.getD i true = true := cnt_zero n hc
      have hlf : ∀ i, i < n → listed.getD i false = true := fun i hi => by
        have := hl i hi
        have hsz : i < listed.size := by rw [inv.head.size]; omega
        simpa [hsz] using this
      have el : listed = ((List.range l.toArray.size).map fun i => decide (i < n)).toArray := by
        apply Array.ext
        · simp [inv.head.size]
        · intro i h1 h2
          by_cases hi : i < n
          · have := hl i hi
            simp only [Array.getD_eq_getD_getElem?, Array.getElem?_eq_getElem h1, Option.getD_some] at this
            simp [this, hi]
          · have := inv.head.tail i (by omega) (by rw [← inv.head.size]; exact h1)
            simp only [Array.getD_eq_getD_getElem?, Array.getElem?_eq_getElem h1, Option.getD_some] at this
            simp [this, hi]
      have eA : A = putAll (l.take n) (fun j => ((l.toArray[j]?).bind (·.dst)).elim undef (fun s => A.eval (.tmp s))) 0 a := by
        refine act_ext (by rw [putAll_size, inv.size]) (by rw [putAll_defers, inv.defers]) fun s hs => ?_
        have H := putAll_eval A s (l.take n) (fun j => ((l.toArray[j]?).bind (·.dst)).elim undef (fun s => A.eval (.tmp s))) 0 a (by rw [← inv.size]; exact hs) (fun j o hj hd => by
          have hjn : j < n := by
            have := (List.getElem?_eq_some_iff.1 hj).1
            simp at this
            omega
          have : l.toArray[j]? = some o := by simpa [hjn] using hj
          simp [this, hd])
        by_cases he : ∃ o ∈ l.take n, o.dst = some s
        · exact (H.1 he).symm
        · rw [H.2 (fun o h h' => he ⟨o, h, h'⟩)]
          refine inv.out s fun j hj o ho _ hd => he ⟨o, ?_, hd⟩
          rw [List.mem_take_iff_getElem]
          have hjl := (Array.getElem?_eq_some_iff.1 ho)
          obtain ⟨h1, h2⟩ := hjl
          exact ⟨j, by simp at h1; omega, by simpa using h2⟩
      rw [Nat.zero_add]
      have hst := inv.st
      rw [List.filter_eq_self.2 (fun j hj => hlf j (by simpa using List.all_eq_true.1 hcn j hj))] at hst
      have := wpAny_of_seq (md := .any) (Q' := Q) (P := P) (ops := l.toArray) (l.drop n) n listed A w' (fun j => by simp [List.getElem?_drop]) (by
        rw [el]
        have : (l.drop n).length = l.toArray.size - n := by simp
        rw [this]
        exact hseq) (by
        rw [eA]
        refine fin _ w' inv.chg hst fun i hi his => ?_
        obtain ⟨o, ho, _⟩ := hal i hi
        have hol : l[i]? = some o := by simpa using ho
        rw [hol] at his
        obtain ⟨s, hd⟩ := Option.isSome_iff_exists.1 his
        have hd' : o.dst = some s := hd
        have := inv.ins i hi o s ho (hlf i hi) hd'
        simpa [ho, hd'] using this)
      have e2 : (l.drop n).length = l.toArray.size - n := by simp
      rwa [e2] at this
    | succ q ih =>
      intro listed A w' inv hc
      rw [show q + 1 + (l.toArray.size - n) = (q + (l.toArray.size - n)) + 1 by omega]
      obtain ⟨i0, hi0, hun0, hprev⟩ := cnt_first n (by rw [hc]; omega)
      have hready0 : i0 ∈ Region.ready .any l.toArray listed := by
        obtain ⟨o, ho, _, hlt, _⟩ := hal i0 hi0
        refine mem_ready.2 ⟨hun0, o, ho, fun e he hb => ?_⟩
        have h1 := hlt e he hb
        have h2 := hprev e.on h1
        have hsz : e.on < listed.size := by rw [inv.head.size]; have := (Array.getElem?_eq_some_iff.1 ho).1; omega
        simpa [hsz] using h2
      refine ⟨fun h => (by rw [h] at hready0; cases hready0), fun i hi => ?_⟩
      obtain ⟨hun, o, ho, hdeps⟩ := mem_ready.1 hi
      have hin : i < n := by
        rcases Nat.lt_or_ge i n with h | h
        · exact h
        · have hsz := (Array.getElem?_eq_some_iff.1 ho).1
          simp only [Bool.or_eq_true, decide_eq_true_eq, Bool.and_eq_true] at htail
          rcases htail with ht | ht
          · omega
          · exact absurd hi (tail_waits ht.1 ht.2 (by omega) inv.head _ i0 rfl hi0 hun0 i h)
      obtain ⟨o', ho', hsN, hlt, hother⟩ := hal i hin
      have : o' = o := Option.some.inj (ho'.symm.trans ho)
      subst this
      have unl : ∀ j, listed.getD j false = true → j ≠ i := fun j hj e => by subst e; rw [getD_both hun] at hj; cases hj
      have hsz : i < listed.size := by rw [inv.head.size]; exact (Array.getElem?_eq_some_iff.1 ho).1
      have outs : ∀ s', outB l.toArray n i s' = true → A.eval (.tmp s') = a.eval (.tmp s') := fun s' hs' => inv.out s' fun j hj oj hoj hlj hdj => by
          have h1 := List.all_eq_true.1 hs' j (List.mem_range.2 hj)
          have hji := unl j hlj
          rw [hoj] at h1
          simp only [Option.bind_some, hdj] at h1
          simp only [Bool.or_eq_true, beq_iff_eq, bne_self_eq_false, Bool.false_eq_true, false_or] at h1
          rcases h1 with h1 | h1
          · exact hji h1
          · obtain ⟨oj', hoj', e, he, hb, hon⟩ := Region.waitsFor_spec h1
            have : oj' = oj := Option.some.inj (hoj'.symm.trans hoj)
            subst this
            have h2 := inv.head.closed j oj' hoj hlj e he hb
            rw [hon, getD_both hun] at h2
            cases h2
      have wl : ∀ j, Region.waitsFor .any l.toArray i j = true → listed.getD j false = true := fun j hw => by
          obtain ⟨oi, hoi, e, he, hb, hon⟩ := Region.waitsFor_spec hw
          have : oi = o' := Option.some.inj (hoi.symm.trans ho)
          subst this
          rw [← hon]
          exact hdeps e he hb
      have deps : ∀ j s', depB l.toArray n i j s' = true → (Φ j).p (A.eval (.tmp s')) w' := fun j s' hs' => by
          simp only [depB, Bool.and_eq_true, decide_eq_true_eq] at hs'
          obtain ⟨⟨hj, hw⟩, hds⟩ := hs'
          have hlj := wl j hw
          cases hoj : l.toArray[j]? with
          | none => rw [hoj] at hds; simp at hds
          | some oj =>
            rw [hoj] at hds
            simp only [Option.bind_some, beq_iff_eq] at hds
            exact inv.ins j hj oj s' hoj hlj hds
      have lst' : ∀ j, j ≠ i → (listed.setIfInBounds i true).getD j false = listed.getD j false := fun j hj => getD_set_ne false (Ne.symm hj)
      have next : ∀ v w'', Chg D w' w'' → St (cs.filter fun j => (listed.setIfInBounds i true).getD j false).length w'' → (Φ i).p v w'' → wpAny P .any l.toArray Q (q + (l.toArray.size - n)) (listed.setIfInBounds i true) (A.put o'.dst v) w'' := by
        intro v w'' hex hst hp
        refine ih _ _ _ ?_ ?_
        · refine ⟨inv.head.set hi hin, inv.chg.trans hex, by rw [size_put, inv.size], by rw [defers_put, inv.defers], fun s' hs' => ?_, fun j hj oj s' hoj hlj hdj => ?_, hst⟩
          · rw [Act.eval_put (fun d hd' e => by
              injection e with e
              subst e
              exact hs' i hin o' ho (by simp [hsz]) hd')]
            refine inv.out s' fun j hj oj hoj hlj => hs' j hj oj hoj (getD_set_true hlj)
          · by_cases hji : j = i
            · subst hji
              have : oj = o' := Option.some.inj (hoj.symm.trans ho)
              subst this
              rw [hdj, eval_put_same (by rw [inv.size, hN]; exact hsN s' hdj)]
              exact hp
            · have hlj' : listed.getD j false = true := by rw [lst' j hji] at hlj; exact hlj
              rw [Act.eval_put (fun d hd' e => by
                injection e with e
                exact hother j hj hji oj hoj d s' hd' hdj e.symm)]
              exact (Φ j).mono _ _ _ (inv.ins j hj oj s' hoj hlj' hdj) hex
        · have := cnt_set hun n
          rw [if_pos hin] at this
          omega
      cases hci : cs.contains i with
      | false =>
        have hsame : (cs.filter fun j => (listed.setIfInBounds i true).getD j false) = cs.filter fun j => listed.getD j false := by
          refine List.filter_congr fun j hj => lst' j (fun e => ?_)
          subst e
          have : cs.contains j = true := by simpa using hj
          rw [this] at hci
          cases hci
        have hs := step i hin o' (by simpa using ho) hci A w' inv.chg outs deps (wpAny P .any l.toArray Q (q + (l.toArray.size - n)) (listed.setIfInBounds i true)) (fun v w'' hex hp => next v w'' (Chg.ex hex) (by rw [hsame]; exact hSt _ _ _ inv.st hex) hp)
        unfold wpOp
        rw [ho]
        simp only
        split
        · rename_i hw
          rw [if_pos hw] at hs
          exact .inl hs
        · rename_i hw
          rw [if_neg hw] at hs
          exact hs
      | true =>
        have hmem : i ∈ cs := by simpa using hci
        obtain ⟨k, hk, hki⟩ := List.getElem_of_mem hmem
        have hki' : cs[k]? = some i := by rw [List.getElem?_eq_getElem hk, hki]
        have hkg : cs.getD k 0 = i := by simp [hki']
        have before : ∀ j, j < k → listed.getD (cs.getD j 0) false = true := fun j hj => by
          have h1 := List.all_eq_true.1 hcc k (List.mem_range.2 hk)
          have h2 := List.all_eq_true.1 h1 j (List.mem_range.2 hj)
          rw [hkg] at h2
          exact tw_listed inv.head f i _ wl h2
        have behind : ∀ j, k < j → j < cs.length → listed.getD (cs.getD j 0) false = false := fun j hj hjl => by
          cases hlj : listed.getD (cs.getD j 0) false with
          | false => rfl
          | true =>
            have h1 := List.all_eq_true.1 hcc j (List.mem_range.2 hjl)
            have h2 := List.all_eq_true.1 h1 k (List.mem_range.2 hj)
            rw [hkg] at h2
            have := tw_listed inv.head f _ i (fun k' hk' => by
              obtain ⟨ok, hok, e, he, hb, hon⟩ := Region.waitsFor_spec hk'
              rw [← hon]
              exact inv.head.closed _ ok hok hlj e he hb) h2
            exact absurd rfl (unl _ this)
        have cnow : (cs.filter fun j => listed.getD j false).length = k := filter_first cs k (by omega) before (fun j h1 h2 => by
          rcases Nat.eq_or_lt_of_le h1 with h3 | h3
          · subst h3
            rw [hkg]
            exact getD_both hun
          · exact behind j h3 h2)
        have nod := nodup_of hcd
        have cthen : (cs.filter fun j => (listed.setIfInBounds i true).getD j false).length = k + 1 := filter_first cs (k + 1) (by omega) (fun j hj => by
          by_cases hjk : j = k
          · subst hjk
            rw [hkg]
            simp [hsz]
          · exact getD_set_true (before j (by omega))) (fun j h1 h2 => by
          have hne : cs.getD j 0 ≠ i := fun e => by
            have e1 : cs[j]'h2 = cs[k]'hk := by rw [hki, ← e]; simp [h2]
            have := (List.getElem_inj nod).1 e1
            omega
          rw [lst' _ hne]
          exact behind j (by omega) h2)
        have hst := inv.st
        rw [cnow] at hst
        have hs := move k i hki' o' (by simpa using ho) A w' inv.chg hst outs deps (wpAny P .any l.toArray Q (q + (l.toArray.size - n)) (listed.setIfInBounds i true)) (fun v w'' hex hs' hp => next v w'' hex (by rw [cthen]; exact hs') hp)
        unfold wpOp
        rw [ho]
        simp only
        split
        · rename_i hw
          rw [if_pos hw] at hs
          exact .inl hs
        · rename_i hw
          rw [if_neg hw] at hs
          exact hs.elim
  refine wp_region_any hm ?_
  have H := main n (Array.replicate l.toArray.size false) a w.drew ⟨⟨by simp, fun j oj _ hl => (by rw [getD_replicate_false] at hl; cases hl), fun t _ ht => getD_in (by simpa using ht) (getD_replicate_false _ _)⟩,
    Chg.of_below ((Below.refl _ _).drew), rfl, rfl, fun s _ => rfl, fun j hj o s _ hl => (by rw [getD_replicate_false] at hl; cases hl), by
      rw [List.filter_eq_nil_iff.2 (fun j _ => by rw [getD_replicate_false]; simp)]
      exact hSt 0 w w.drew h0 (Ex.of ((Below.refl _ _).drew))⟩ (cnt_init _ n hn)
  rw [show n + (l.toArray.size - n) = l.toArray.size by omega] at H
  exact H
end
end Go.Proofs.Ytepodflinhpejaa

/- A region that draws its order: each operation's value has a word and owns blocks; an operation may change the blocks of the words that it consumes. -/
namespace Go.Proofs.Ytepodflinhpejaa
open Go.RowKit
set_option linter.unusedVariables false
set_option linter.unusedSimpArgs false

/-- the blocks F of w are as they were -/
structure Kept (F : Nat → Prop) (w w' : World) : Prop where
  os : w'.os = w.os
  tape : w'.tape = w.tape
  output : w'.output = w.output
  size : w.heap.size ≤ w'.heap.size
  block : ∀ b, b < w.heap.size → F b → w'.heap[b]? = w.heap[b]?
theorem Kept.refl (F : Nat → Prop) (w : World) : Kept F w w := ⟨rfl, rfl, rfl, Nat.le_refl _, fun _ _ _ => rfl⟩
theorem Kept.chg {F D : Nat → Prop} {w w' w'' : World} (h : Kept F w w') (h' : Chg D w' w'') (hd : ∀ b, F b → ¬ D b) : Kept F w w'' :=
  ⟨h'.os.trans h.os, h'.tape.trans h.tape, h'.output.trans h.output, Nat.le_trans h.size h'.size, fun b hb hf => (h'.block b (Nat.lt_of_lt_of_le hb h.size) (hd b hf)).trans (h.block b hb hf)⟩
theorem Kept.below {F : Nat → Prop} {w w' : World} {B : Nat} (h : Kept F w w') (hB : B ≤ w.heap.size) (hf : ∀ b, b < B → F b) : Below B w w' := ⟨h.os, h.tape, h.output, h.size, fun b hb => h.block b (by omega) (hf b hb)⟩
theorem Bk.kept {F : Nat → Prop} {w w' : World} {g : Nat} {t : TypeId} {cs : List Value} (h : Bk w g t cs) (hk : Kept F w w') (hf : F g) : Bk w' g t cs := (hk.block g h.lt hf).trans h
theorem Rb.kept {F : Nat → Prop} {w w' : World} {A : Option Addr} {n c : Nat} {l : List UInt8} (h : Rb w A n c l) (hk : Kept F w w') (hf : ∀ a, A = some a → a.block < w.heap.size → F a.block) : Rb w' A n c l := by
  refine ⟨h.1, h.2.1, ?_⟩
  rcases h.2.2 with h' | ⟨b, off, hA, hb, hc⟩
  · exact .inl h'
  · exact .inr ⟨b, off, hA, Nat.lt_of_lt_of_le hb hk.size, fun i u hu => (World.cell?_of_block (hk.block b hb (hf _ hA hb))).trans (hc i u hu)⟩
/-- a word of a value v, beside the value u of another operation, and the blocks that it owns -/
structure Own (prot : Nat → Prop) where
  p : Value → Value → World → Prop
  fp : Value → Value → Nat → Prop
  lt : ∀ v u w b, p v u w → fp v u b → b < w.heap.size
  keep : ∀ v u w w', p v u w → Kept (fun b => fp v u b ∨ prot b) w w' → p v u w'
section
variable {prot : Nat → Prop}
def Own.any : Own prot := ⟨fun _ _ _ => True, fun _ _ _ => False, fun _ _ _ _ _ h => h.elim, fun _ _ _ _ _ _ => trivial⟩
def Own.eq (c : Value) : Own prot := ⟨fun v _ _ => v = c, fun _ _ _ => False, fun _ _ _ _ _ h => h.elim, fun _ _ _ _ h _ => h⟩
/-- a block -/
def Own.blk (t : TypeId) (cs : List Value) : Own prot := ⟨fun v _ w => ∃ g, v = .pointer (some ⟨g, 0, none⟩) ∧ Bk w g t cs, fun v _ b => v = .pointer (some ⟨b, 0, none⟩),
  fun v u w b ⟨g, h1, h2⟩ h3 => (by rw [h1] at h3; injection h3 with h3; injection h3 with h3; injection h3 with h3; subst h3; exact h2.lt),
  fun v u w w' ⟨g, h1, h2⟩ hk => ⟨g, h1, h2.kept hk (.inl h1)⟩⟩
/-- own bytes, from base on -/
def Own.ob (base : Nat) (l : List UInt8) : Own prot := ⟨fun v _ w => ∃ A n c, v = .slice A n c ∧ Ob w base A n c l, fun v _ b => v.ownBlock = some b,
  fun v u w b ⟨A, n, c, h1, h2⟩ h3 => (by subst h1; exact (h2.blk b h3).2),
  fun v u w w' ⟨A, n, c, h1, h2⟩ hk => ⟨A, n, c, h1, by
    refine ⟨h2.1, h2.2.1, ?_⟩
    have hlt := h2.blk
    rcases h2.2.2 with h' | ⟨g, cap, cur, hv, hg, hh, hr⟩
    · exact .inl h'
    · have ho : (Value.slice A n c).ownBlock = some g := by rw [hv]; rfl
      refine .inr ⟨g, cap, cur, hv, hg, ?_, hr⟩
      rw [hk.block g (hlt g ho).2 (.inl (by subst h1; exact ho))]
      exact hh⟩⟩
/-- own bytes without room -/
def Own.of (base : Nat) (l : List UInt8) : Own prot := ⟨fun v _ w => ∃ A n, v = .slice A n n ∧ Ob w base A n n l, fun v _ b => v.ownBlock = some b,
  fun v u w b ⟨A, n, h1, h2⟩ h3 => (by subst h1; exact (h2.blk b h3).2),
  fun v u w w' ⟨A, n, h1, h2⟩ hk => ⟨A, n, h1, by
    obtain ⟨A', n', c', e1, e2⟩ := (Own.ob (prot := prot) base l).keep v u w w' ⟨A, n, n, h1, h2⟩ hk
    rw [h1] at e1
    injection e1 with x y z
    subst x y z
    exact e2⟩⟩
end
/-- a value that is made of another operation's value -/
def Own.fn {prot : Nat → Prop} (g : Value → Value) : Own prot := ⟨fun v u _ => v = g u, fun _ _ _ => False, fun _ _ _ _ _ h => h.elim, fun _ _ _ _ h _ => h⟩
theorem own_ptr {g b : Nat} (h : Value.pointer (some ⟨g, 0, none⟩) = .pointer (some ⟨b, 0, none⟩)) : g = b := by
  injection h with h
  injection h with h
  injection h with h
/-- a pointer's block, one of whose cells is a slice of own bytes without room (v) -/
def Own.holds {prot : Nat → Prop} (base : Nat) (t : TypeId) (cs : Value → List Value) (l : List UInt8) : Own prot := ⟨fun v u w => ∃ g A n, u = .pointer (some ⟨g, 0, none⟩) ∧ v = .slice A n n ∧ Bk w g t (cs v) ∧ Ob w base A n n l,
  fun v u b => u = .pointer (some ⟨b, 0, none⟩) ∨ v.ownBlock = some b,
  fun v u w b ⟨g, A, n, h1, h2, h3, h4⟩ h => (by
    rcases h with h | h
    · rw [h1] at h; rw [← own_ptr h]; exact h3.lt
    · subst h2; exact (h4.blk b h).2),
  fun v u w w' ⟨g, A, n, h1, h2, h3, h4⟩ hk => by
    refine ⟨g, A, n, h1, h2, h3.kept hk (.inl (.inl h1)), ?_⟩
    obtain ⟨A', n', e1, e2⟩ := (Own.of (prot := prot) base l).keep v u w w' ⟨A, n, h2, h4⟩ ⟨hk.os, hk.tape, hk.output, hk.size, fun b hb h => hk.block b hb (by rcases h with h | h; exact .inl (.inr h); exact .inr h)⟩
    rw [h2] at e1
    injection e1 with x y z
    subst x y
    exact e2⟩
section
variable {P : Program} {Q : Exit → Act → World → Prop}
end
end Go.Proofs.Ytepodflinhpejaa

/- What many texts need: numbers of bytes, rows that are appended, addresses, stores into the middle of a block. -/
namespace Go.Proofs.Ytepodflinhpejaa
open Go.RowKit
set_option linter.unusedVariables false
set_option linter.unusedSimpArgs false
attribute [local go_sem ↓] sliced_cut

attribute [local go_sem] cutA_zero

theorem numDig (n : Nat) : ∀ m, n < 256 ^ m → num (dig n m) = n := by
  intro m
  induction m generalizing n with
  | zero => intro h; simp at h; subst h; rfl
  | succ m ih =>
    intro h
    rw [dig, num_snoc, ih (n / 256) (by rw [Nat.div_lt_iff_lt_mul (by decide)]; rw [Nat.pow_succ] at h; exact h)]
    simp
    omega
theorem wanted_ifG {ops : Array Oper} {o : Oper} {tmps : Array Value} {X Y : Prop} (h : Region.wanted o (yielded ops tmps) = true) (hx : X) : if Region.wanted o (yielded ops tmps) = true then X else Y := by
  rw [if_pos h]
  exact hx
theorem whole_ (cs : List Value) : (cs.drop 0).take cs.length = cs := by rw [List.drop_zero]; exact List.take_of_length_le (Nat.le_refl _)
end Go.Proofs.Ytepodflinhpejaa

/- A region that draws its order and stores, by words that are chosen one by one (wp_su, step for step). -/
namespace Go.Proofs.Ytepodflinhpejaa
open Go.RowKit
set_option linter.unusedVariables false

section
variable {P : Program} {Q : Exit → Act → World → Prop} {D : Nat → Prop}
def updC (k : Nat) (p : MC D) (f : Nat → MC D) : Nat → MC D := fun j => bif Nat.beq j k then p else f j
theorem updC_same (k : Nat) (p : MC D) (f : Nat → MC D) : updC k p f k = p := by simp [updC]
theorem updC_ne {j k : Nat} (h : j ≠ k) (p : MC D) (f : Nat → MC D) : updC k p f j = f j := by
  have : Nat.beq j k = false := by
    cases hb : Nat.beq j k with
    | false => rfl
    | true => exact absurd (Nat.eq_of_beq_eq_true hb) h
  simp [updC, this]
/-- bytes that no block of D holds -/
def MC.rbN (base : Nat) (hd : ∀ b, D b → b < base) (l : List UInt8) : MC D := ⟨fun v w => ∃ A n c, v = .slice A n c ∧ Rb w A n c l ∧ ∀ a, A = some a → base ≤ a.block, fun _ _ _ ⟨A, n, c, h1, h2, h3⟩ h => ⟨A, n, c, h1, h2.chg h (fun a ha hD => by have := h3 a ha; have := hd _ hD; omega), h3⟩⟩
def StepC (body : Nat → Oper → Act → World → MC D → Prop) (l : List Oper) (n : Nat) (a : Act) (w : World) (φs : Nat → MC D) (i : Nat) (φ : MC D) : Prop :=
  ∀ o, l[i]? = some o → ∀ (A : Act) (w' : World), Chg D w w' → (∀ s, outB l.toArray n i s = true → A.eval (.tmp s) = a.eval (.tmp s)) → (∀ j s, depB l.toArray n i j s = true → (φs j).p (A.eval (.tmp s)) w') → body i o A w' φ
def StepsC (fin : (Nat → MC D) → Prop) (body : Nat → Oper → Act → World → MC D → Prop) (l : List Oper) (n : Nat) (a : Act) (w : World) : Nat → Nat → (Nat → MC D) → Prop
  | 0, _, φs => fin φs
  | r + 1, i, φs => ∃ φ, StepC body l n a w φs i φ ∧ StepsC fin body l n a w r (i + 1) (updC i φ φs)
variable {fin : (Nat → MC D) → Prop} {body : Nat → Oper → Act → World → MC D → Prop}
theorem StepsC.all {l : List Oper} {n : Nat} {a : Act} {w : World} (hdep : ∀ i, i < n → ∀ j s, depB l.toArray n i j s = true → j < i) : ∀ (r i : Nat) (φs : Nat → MC D), i + r = n → StepsC fin body l n a w r i φs → (∀ j, j < i → StepC body l n a w φs j (φs j)) →
    ∃ Φ : Nat → MC D, (∀ i, i < n → StepC body l n a w Φ i (Φ i)) ∧ fin Φ
  | 0, i, φs, hi, hs, hd => ⟨φs, fun j hj => hd j (by omega), hs⟩
  | r + 1, i, φs, hi, hs, hd => by
    obtain ⟨φ, h1, h2⟩ := hs
    refine StepsC.all hdep r (i + 1) (updC i φ φs) (by omega) h2 fun j hj => ?_
    have conv : ∀ k (ψ : MC D), k ≤ i → k < n → StepC body l n a w φs k ψ → StepC body l n a w (updC i φ φs) k ψ := by
      intro k ψ hk hkn h o ho A w' hC hO hD
      refine h o ho A w' hC hO (fun j' s hj' => ?_)
      have hlt := hdep k hkn j' s hj'
      have := hD j' s hj'
      rwa [updC_ne (by omega)] at this
    by_cases hji : j = i
    · subst hji
      rw [updC_same]
      exact conv j φ (Nat.le_refl _) (by omega) h1
    · rw [updC_ne hji]
      exact conv j (φs j) (by omega) (by omega) (hd j (by omega))
def bodyC (P : Program) (Q : Exit → Act → World → Prop) (l : List Oper) (cs : List Nat) (St : Nat → World → Prop) (i : Nat) (o : Oper) (A : Act) (w' : World) (φ : MC D) : Prop :=
  if cs.contains i = true then ∀ k, cs[k]? = some i → St k w' → ∀ K : Act → World → Prop, Shut (∀ v w'', Chg D w' w'' → St (k + 1) w'' → φ.p v w'' → K (A.put o.dst v) w'') → if Region.wanted o (yielded l.toArray A.tmps) = true then o.wp P A w' K Q else False
  else ∀ K : Act → World → Prop, Shut (∀ v w'', Ex w' w'' → φ.p v w'' → K (A.put o.dst v) w'') → if Region.wanted o (yielded l.toArray A.tmps) = true then o.wp P A w' K Q else K (A.put o.dst undef) w'
def finC (P : Program) (Q : Exit → Act → World → Prop) (l : List Oper) (n : Nat) (a : Act) (w : World) (cs : List Nat) (St : Nat → World → Prop) (φs : Nat → MC D) : Prop :=
  ∀ (vs : Nat → Value) (w' : World), Chg D w w' → St cs.length w' → (∀ i, i < n → ((l[i]?).bind (·.dst)).isSome = true → (φs i).p (vs i) w') → wpList P l.toArray Q (l.drop n) (putAll (l.take n) vs 0 a) w'
theorem wp_suS {id : Nat} {a : Act} {w : World} {l : List Oper} (D : Nat → Prop) (n N f : Nat) (cs : List Nat) (hN : a.tmps.size = N) (hm : P.follows .mixedOrders = true) (hB : suB l.toArray n N cs f = true)
    (St : Nat → World → Prop) (hSt : ∀ k w w', St k w → Ex w w' → St k w') (h0 : St 0 w)
    (h : StepsC (D := D) (finC P Q l n a w cs St) (bodyC P Q l cs St) l n a w n 0 (fun _ => MC.any)) : (Code.region id l.toArray true).wp P Q a w := by
  have hdep : ∀ i, i < n → ∀ j s, depB l.toArray n i j s = true → j < i := by
    have hB' := hB
    unfold suB at hB'
    simp only [Bool.and_eq_true, decide_eq_true_eq] at hB'
    obtain ⟨⟨⟨⟨_, hall⟩, _⟩, _⟩, _⟩ := hB'
    intro i hi j s hd
    have h1 := List.all_eq_true.1 hall i (List.mem_range.2 hi)
    simp only [depB, Bool.and_eq_true, decide_eq_true_eq] at hd
    obtain ⟨o, ho, e, he, hb, hon⟩ := Region.waitsFor_spec hd.1.2
    rw [ho] at h1
    simp only [Bool.and_eq_true] at h1
    have h3 := (Array.all_eq_true_iff_forall_mem.1 h1.1.2) e he
    rw [hb] at h3
    have : e.on < i := by simpa using h3
    omega
  obtain ⟨Φ, h1, h2⟩ := StepsC.all hdep n 0 _ (by omega) h (fun j hj => absurd hj (by omega))
  refine wp_su D n N f cs hN hm hB Φ St hSt h0 (fun i hi o ho hq A w' hC hO hD K hK => ?_) (fun k i hk o ho A w' hC hS hO hD K hK => ?_) h2
  · have := h1 i hi o ho A w' hC hO hD
    unfold bodyC at this
    rw [if_neg (by rw [hq]; decide)] at this
    exact this K hK
  · have hB' := hB
    unfold suB at hB'
    simp only [Bool.and_eq_true, decide_eq_true_eq] at hB'
    have hin : i < n := by
      have hm := List.mem_of_getElem? hk
      simpa using List.all_eq_true.1 hB'.1.1.2 i hm
    have := h1 i hin o ho A w' hC hO hD
    unfold bodyC at this
    rw [if_pos (by simpa using List.mem_of_getElem? hk)] at this
    exact this k hk hS K hK
theorem StepsC.one (φ : MC D) {l : List Oper} {n : Nat} {a : Act} {w : World} {r i : Nat} {φs : Nat → MC D} {cs : List Nat} {St : Nat → World → Prop} (i' : Nat) (hi : i + 1 = i') (hc : cs.contains i = false)
    (h : ∀ o, l[i]? = some o → ∀ (A : Act) (w' : World), Chg D w w' → (∀ s, outB l.toArray n i s = true → A.eval (.tmp s) = a.eval (.tmp s)) → (∀ j s, depB l.toArray n i j s = true → (φs j).p (A.eval (.tmp s)) w') →
      ∀ K : Act → World → Prop, Shut (∀ v w'', Ex w' w'' → φ.p v w'' → K (A.put o.dst v) w'') → if Region.wanted o (yielded l.toArray A.tmps) = true then o.wp P A w' K Q else K (A.put o.dst undef) w')
    (h' : StepsC fin (bodyC P Q l cs St) l n a w r i' (updC i φ φs)) : StepsC fin (bodyC P Q l cs St) l n a w (r + 1) i φs := by
  subst hi
  refine ⟨φ, fun o ho A w' hC hO hD => ?_, h'⟩
  unfold bodyC
  rw [if_neg (by rw [hc]; decide)]
  exact h o ho A w' hC hO hD
/-- the k-th operation that changes the blocks D -/
theorem StepsC.mov (φ : MC D) {l : List Oper} {n : Nat} {a : Act} {w : World} {r i : Nat} {φs : Nat → MC D} {cs : List Nat} {St : Nat → World → Prop} (i' k : Nat) (hi : i + 1 = i') (hk : cs[k]? = some i) (hu : nodupB cs = true)
    (h : ∀ o, l[i]? = some o → ∀ (A : Act) (w' : World), Chg D w w' → (∀ s, outB l.toArray n i s = true → A.eval (.tmp s) = a.eval (.tmp s)) → (∀ j s, depB l.toArray n i j s = true → (φs j).p (A.eval (.tmp s)) w') → St k w' →
      ∀ K : Act → World → Prop, Shut (∀ v w'', Chg D w' w'' → St (k + 1) w'' → φ.p v w'' → K (A.put o.dst v) w'') → if Region.wanted o (yielded l.toArray A.tmps) = true then o.wp P A w' K Q else False)
    (h' : StepsC fin (bodyC P Q l cs St) l n a w r i' (updC i φ φs)) : StepsC fin (bodyC P Q l cs St) l n a w (r + 1) i φs := by
  subst hi
  refine ⟨φ, fun o ho A w' hC hO hD => ?_, h'⟩
  unfold bodyC
  rw [if_pos (by simpa using List.mem_of_getElem? hk)]
  intro k2 hk2 hS
  have hn := nodup_of hu
  obtain ⟨hl1, e1⟩ := List.getElem?_eq_some_iff.1 hk
  obtain ⟨hl2, e2⟩ := List.getElem?_eq_some_iff.1 hk2
  obtain rfl : k2 = k := (List.getElem_inj hn).1 (e2.trans e1.symm)
  exact h o ho A w' hC hO hD hS
theorem StepsC.fin_ {l : List Oper} {n : Nat} {a : Act} {w : World} {i : Nat} {φs : Nat → MC D} {cs : List Nat} {St : Nat → World → Prop} (h : ∀ (vs : Nat → Value) (w' : World), Chg D w w' → St cs.length w' → (∀ i, i < n → ((l[i]?).bind (·.dst)).isSome = true → (φs i).p (vs i) w') → wpList P l.toArray Q (l.drop n) (putAll (l.take n) vs 0 a) w') : StepsC (finC P Q l n a w cs St) body l n a w 0 i φs := h
end
end Go.Proofs.Ytepodflinhpejaa

/- What calls return. -/
namespace Go.Proofs.Ytepodflinhpejaa
open Go.RowKit
/-- bytes and an error -/
def RetBE (w : World) (l : List UInt8) (E : Int) (e : Ending) (w' : World) : Prop := ∃ A n c bs d, e = .returned (.tuple #[.slice A n c, .int .i64 E]) ∧ w' = plus w bs d ∧ Rb (plus w bs d) A n c l
theorem RetBE.mk {w w' : World} {l : List UInt8} {E : Int} {A : Option Addr} {n c : Nat} (h : Rb w' A n c l) (hb : Below w.heap.size w w') : RetBE w l E (.returned (.tuple #[.slice A n c, .int .i64 E])) w' := by
  obtain ⟨bs, d, rfl⟩ := plus_of hb
  exact ⟨A, n, c, bs, d, rfl, rfl, h⟩
end Go.Proofs.Ytepodflinhpejaa

/- A reader that is total: what it tells where bytes lack (chapter 23). The state of a reader: some l = l is left; none = it is bad. -/
namespace Go.Proofs.Ytepodflinhpejaa
open Go.RowKit
set_option linter.unusedVariables false
set_option linter.unusedSimpArgs false
attribute [local go_sem ↓] sliced_cut

attribute [local go_sem] cutA_zero

abbrev StB := Option (List UInt8)
def tkB (n : Nat) : StB → List UInt8
  | none => []
  | some l => if n ≤ l.length then l.take n else []
def drB (n : Nat) : StB → StB
  | none => none
  | some l => if n ≤ l.length then some (l.drop n) else none
def SL (s : StB) : Prop := ∀ l, s = some l → l.length ≤ 1000000
theorem SL.dr {s : StB} (h : SL s) (n : Nat) : SL (drB n s) := by
  intro l hl
  cases s with
  | none => cases hl
  | some x =>
    simp only [drB] at hl
    split at hl
    · injection hl with hl
      subst hl
      have := h x rfl
      rw [List.length_drop]
      omega
    · cases hl
theorem tkB_le (n : Nat) (s : StB) : (tkB n s).length ≤ n := by
  cases s with
  | none => exact Nat.zero_le _
  | some l =>
    simp only [tkB]
    split
    · exact List.length_take_le _ _
    · exact Nat.zero_le _
def numT (n : Nat) (s : StB) : Nat := num (tkB n s)
theorem numT_lt (n k : Nat) (s : StB) (h : 256 ^ n ≤ k) : numT n s < k := Nat.lt_of_lt_of_le (num_lt n _ (tkB_le n s)) h
/-- the block r is a reader in the state s -/
def RP (w : World) (r : Nat) : StB → Prop
  | none => Rdr w r [] true
  | some l => Rdr w r l false
theorem RP.lt {w : World} {r : Nat} {s : StB} (h : RP w r s) : r < w.heap.size := by
  cases s <;> exact Rdr.lt h
theorem RP.later {w w' : World} {r : Nat} {s : StB} (h : RP w r s) (hb : Below w.heap.size w w') : RP w' r s := by
  cases s <;> exact Rdr.later h hb
theorem nextT (r n : Nat) (s : StB) (w : World) (h : RP w r s) (hs : SL s) (hn : n ≤ 1000000) : Calls Try.prog 99 #[.pointer (some ⟨r, 0, none⟩), .int .i64 n] w fun e w' => ∃ A m c, e = .returned (.slice A m c) ∧ (tkB n s).length = m ∧ m ≤ c ∧ Rd w' r A (bcs (tkB n s)) ∧ RP w' r (drB n s) ∧ w.grownBy w' (some r) := by
  cases s with
  | none =>
    by_cases h0 : n = 0
    · subst h0
      refine (next_any r [] true 0 w h (by simp) (by simp)).mono ?_
      rintro e w1 ⟨A, c, rfl, hc, hrd, hrr, hg⟩
      exact ⟨A, 0, c, rfl, rfl, hc, hrd, hrr, hg⟩
    · refine (next_bad r [] true n w h (.inr (by simp; omega)) (by simp) (by omega)).mono ?_
      rintro e w1 ⟨rfl, hrr, hg⟩
      exact ⟨none, 0, 0, rfl, rfl, Nat.le_refl _, .inl rfl, hrr, hg⟩
  | some l =>
    have hl := hs l rfl
    by_cases hn1 : n ≤ l.length
    · refine (next_any r l false n w h hn1 (by omega)).mono ?_
      rintro e w1 ⟨A, c, rfl, hc, hrd, hrr, hg⟩
      simp only [tkB, drB, hn1, if_true]
      exact ⟨A, n, c, rfl, by simp; omega, hc, hrd, hrr, hg⟩
    · refine (next_bad r l false n w h (.inr (by omega)) (by omega) (by omega)).mono ?_
      rintro e w1 ⟨rfl, hrr, hg⟩
      simp only [tkB, drB, hn1, if_false]
      exact ⟨none, 0, 0, rfl, rfl, Nat.le_refl _, .inl rfl, hrr, hg⟩
/-- what a call leaves: the value, the reader in its next state -/
def RetT (w : World) (r : Nat) (s : StB) (v : Value) (e : Ending) (w' : World) : Prop := e = .returned v ∧ RP w' r s ∧ w.grownBy w' (some r)
theorem numTP (r n : Nat) (s : StB) (w : World) (h : RP w r s) (hs : SL s) (h8 : n ≤ 8) : Calls Try.prog 70 #[.pointer (some ⟨r, 0, none⟩), .int .i64 n] w (RetT w r (drB n s) (.int .u64 (numT n s : Nat))) := by
  have hle := tkB_le n s
  have HN := Lib.hid (nextT r n s)
  have HX := Lib.hid (show numT n s = num (tkB n s) from rfl)
  generalize tkB n s = l at *
  generalize numT n s = X at *
  go_enter Try.func70, Try.ntmps70
  go_wp2_with (go_at_call 99; refine (HN.out _ h hs (by omega)).mono ?_; rintro e w1 ⟨A, m, c, rfl, hm, hc, hrd, hrr, hg⟩)
  have hl : (bcs l).length = m := by rw [bcs_length, hm]
  have HL := Lib.hid hl
  have HM := Lib.hid hm
  have hm8 : m ≤ 8 := by omega
  clear hl hm hle
  go_loop [5, 7, 14] (fun x y i => ∃ j : Nat, j ≤ m ∧ i = .int .i64 j ∧ x = .int .u64 (num (l.take j) : Nat)) (fun _ _ i => m - (intOf i).toNat)
  case atStart => exact ⟨0, Nat.zero_le _, rfl, rfl⟩
  case round =>
    obtain ⟨j, hj, rfl, rfl⟩ := hrel
    by_cases hlt : j < m
    · obtain ⟨b, off, rfl, hb, hcell⟩ := hrd.at_ (by rw [HL.out]; omega)
      have hjl : j < l.length := by rw [HM.out]; exact hlt
      have hcj : w1.cell? ⟨b, off + j, none⟩ = some (.int .u8 (l[j].toNat : Int)) := hcell j _ (by rw [bcs_get _ _ hjl])
      have HS := Lib.hid (num_take_succ l j hjl)
      have hN : num (l.take j) < 72057594037927936 := Nat.lt_of_lt_of_le (num_lt j _ (List.length_take_le _ _)) (pow_le_seven j (by omega))
      have hx : l[j].toNat < 256 := l[j].toNat_lt
      have hor := u64_shl_or (num (l.take j)) (l[j].toNat) hN hx
      clear hcell
      go_wp2
      go_round
      case rel => exact ⟨j + 1, by omega, by go_num, by rw [HS.out]; simp⟩
      case measure => simp [intOf]; omega
    · obtain rfl : j = m := by omega
      have hX : X = num (l.take j) := by rw [HX.out, List.take_of_length_le (by rw [HM.out]; omega)]
      go_wp2
      go_ret
      exact ⟨rfl, hrr, hg⟩
theorem byteT (r : Nat) (s : StB) (w : World) (h : RP w r s) (hs : SL s) : Calls Try.prog 31 #[.pointer (some ⟨r, 0, none⟩)] w (RetT w r (drB 1 s) (.int .u8 (numT 1 s : Nat))) := by
  have hx := numT_lt 1 256 s (by decide)
  have HN := Lib.hid (numTP r 1 s)
  generalize numT 1 s = x at *
  go_enter Try.func31, Try.ntmps31
  go_wp2_with fail
  refine (HN.out _ h hs (by omega)).mono ?_
  rintro e w1 ⟨rfl, hrr, hg⟩
  go_wp2
  go_ret
  exact ⟨rfl, hrr, hg⟩
theorem wordT (r : Nat) (s : StB) (w : World) (h : RP w r s) (hs : SL s) : Calls Try.prog 33 #[.pointer (some ⟨r, 0, none⟩)] w (RetT w r (drB 2 s) (.int .u16 (numT 2 s : Nat))) := by
  have hx := numT_lt 2 65536 s (by decide)
  have HN := Lib.hid (numTP r 2 s)
  generalize numT 2 s = x at *
  go_enter Try.func33, Try.ntmps33
  go_wp2_with fail
  refine (HN.out _ h hs (by omega)).mono ?_
  rintro e w1 ⟨rfl, hrr, hg⟩
  go_wp2
  go_ret
  exact ⟨rfl, hrr, hg⟩
/-- new bytes, the reader moved on -/
def RetTB (w : World) (r : Nat) (s : StB) (l : List UInt8) (e : Ending) (w' : World) : Prop := ∃ A n c, e = .returned (.slice A n c) ∧ Ob w' w.heap.size A n c l ∧ RP w' r s ∧ w.grownBy w' (some r)
theorem bytesT (r n : Nat) (s : StB) (w : World) (h : RP w r s) (hs : SL s) (hn : n ≤ 1000000) : Calls Try.prog 71 #[.pointer (some ⟨r, 0, none⟩), .int .i64 n] w (RetTB w r (drB n s) (tkB n s)) := by
  have hle := tkB_le n s
  have HN := Lib.hid (nextT r n s)
  generalize tkB n s = l at *
  go_enter Try.func71, Try.ntmps71
  go_wp2_with fail
  refine (HN.out _ h hs hn).mono ?_
  rintro e w1 ⟨A, m, c, rfl, hm, hc, hrd, hrr, hg⟩
  go_wp2_with fail
  refine (clone_any _ _ _ l _ (hrd.rb (Nat.le_of_lt hrr.lt) hm hc) (by omega)).mono ?_
  rintro e w2 ⟨A2, n2, c2, bs2, d2, rfl, rfl, ho2⟩
  go_wp2
  go_ret
  exact ⟨A2, n2, c2, rfl, ho2.mono hg.size, hrr.later (below_plus _ _ _), hg.trans (grownBy_of_below (below_plus _ _ _) |> fun h => ⟨h.os, h.tape, h.output, h.size, fun i hi hne => h.block i hi (by simp)⟩)⟩
theorem badT (r : Nat) (s : StB) (w : World) (h : RP w r s) : Calls Try.prog 72 #[.pointer (some ⟨r, 0, none⟩)] w fun e w' => e = .returned (.bool s.isNone) ∧ w = w' := by
  cases s with
  | none => exact badG w r [] true h
  | some l => exact badG w r l false h
theorem leftT (r : Nat) (s : StB) (w : World) (h : RP w r s) : Calls Try.prog 35 #[.pointer (some ⟨r, 0, none⟩)] w fun e w' => e = .returned (.int .i64 ((s.getD []).length : Nat)) ∧ w = w' := by
  cases s with
  | none => exact leftG w r [] true h
  | some l => exact leftG w r l false h
theorem readT (A : Option Addr) (n c : Nat) (L : List UInt8) (w : World) (h : Rb w A n c L) (hm : n ≤ 549755813888) : Calls Try.prog 30 #[.slice A n c] w fun e w' => ∃ r bs d, e = .returned (.pointer (some ⟨r, 0, none⟩)) ∧ w' = plus w bs d ∧ w.heap.size ≤ r ∧ RP (plus w bs d) r (some L) :=
  (read_any A n c L w h hm).mono fun _ _ ⟨r, bs, d, h1, h2, h3, h4⟩ => ⟨r, bs, d, h1, h2, h3, h4⟩
end Go.Proofs.Ytepodflinhpejaa

/- Messages: cells; Right, both (chapter 27). -/
namespace Go.Proofs.Ytepodflinhpejaa
open Go.RowKit
set_option linter.unusedVariables false
set_option linter.unusedSimpArgs false
attribute [local go_sem ↓] sliced_cut

attribute [local go_sem] cutA_zero

abbrev Sl := Option Addr × Nat × Nat
def slV (e : Sl) : List Value := [.slice e.1 e.2.1 e.2.2]
theorem slV_len (e : Sl) : (slV e).length = 1 := rfl
theorem slV_one (e : Sl) : ∀ u ∈ slV e, u.oneCell' = true := by simp [slV, Value.oneCell']
/-- parts that read as L -/
def PtOk (w : World) (L : List (List UInt8)) (E : List Sl) : Prop := E.length = L.length ∧ ∀ (i : Nat) (h : i < L.length) (h' : i < E.length), Rb w E[i].1 E[i].2.1 E[i].2.2 L[i]
theorem PtOk.later {w w' : World} {L : List (List UInt8)} {E : List Sl} (h : PtOk w L E) (hb : Below w.heap.size w w') : PtOk w' L E := ⟨h.1, fun i a b => (h.2 i a b).later hb⟩
theorem PtOk.nil_ (w : World) : PtOk w [] [] := ⟨rfl, fun i h => absurd h (Nat.not_lt_zero i)⟩
theorem PtOk.snoc {w : World} {L : List (List UInt8)} {E : List Sl} (h : PtOk w L E) {A : Option Addr} {n c : Nat} {l : List UInt8} (hr : Rb w A n c l) : PtOk w (L ++ [l]) (E ++ [(A, n, c)]) := by
  refine ⟨by simp [h.1], fun i h1 h2 => ?_⟩
  by_cases hi : i < L.length
  · rw [List.getElem_append_left hi, List.getElem_append_left (by rw [h.1]; exact hi)]
    exact h.2 i hi (by rw [h.1]; exact hi)
  · have e : i = L.length := by simp at h1; omega
    subst e
    rw [List.getElem_append_right (Nat.le_refl _), List.getElem_append_right (by rw [h.1]; exact Nat.le_refl _)]
    simp [h.1, hr]
/-- a slice of slices of bytes -/
def RL (w : World) (A : Option Addr) (n c : Nat) (L : List (List UInt8)) : Prop := ∃ E, PtOk w L E ∧ Rs 1 w A n c (E.flatMap slV)
theorem RL.later {w w' : World} {A : Option Addr} {n c : Nat} {L : List (List UInt8)} (h : RL w A n c L) (hb : Below w.heap.size w w') : RL w' A n c L := by
  obtain ⟨E, h1, h2⟩ := h
  exact ⟨E, h1.later hb, h2.later hb⟩
theorem RL.len {w : World} {A : Option Addr} {n c : Nat} {L : List (List UInt8)} (h : RL w A n c L) : n = L.length := by
  obtain ⟨E, h1, h2⟩ := h
  have := h2.1
  rw [flat_len slV 1 slV_len, h1.1] at this
  omega
theorem RL.at_ {w : World} {A : Option Addr} {n c : Nat} {L : List (List UInt8)} (h : RL w A n c L) (i : Nat) (hi : i < L.length) : ∃ b o A' n' c', A = some ⟨b, o, none⟩ ∧ w.cell? ⟨b, o + i, none⟩ = some (.slice A' n' c') ∧ Rb w A' n' c' L[i] := by
  obtain ⟨E, h1, h2⟩ := h
  have hiE : i < E.length := by rw [h1.1]; exact hi
  obtain ⟨b, o, hA, _, hc⟩ := h2.at_ (by have := h2.1; rw [flat_len slV 1 slV_len] at this; omega) (by decide)
  refine ⟨b, o, E[i].1, E[i].2.1, E[i].2.2, hA, ?_, h1.2 i hi hiE⟩
  have := hc (i * 1 + 0) (.slice E[i].1 E[i].2.1 E[i].2.2) (flat_at slV 1 slV_len E i hiE 0 _ rfl)
  simpa using this
def msC (k : Int) (nu : Nat) (A : Option Addr) (n c : Nat) : List Value := [.int .i64 k, .int .u64 (nu : Int), .slice A n c]
theorem msC_one (k : Int) (nu : Nat) (A : Option Addr) (n c : Nat) : ∀ u ∈ msC k nu A n c, u.oneCell' = true := by simp [msC, Value.oneCell']
theorem szFm (k : Int) (nu : Nat) (A : Option Addr) (n c : Nat) : (Try.prog.info? 79).map (·.size) = some (msC k nu A n c).length := by kernel_rfl
theorem szRm27 (k : Int) (nu : Nat) (A : Option Addr) (n c : Nat) : (Try.prog.info? 77).map (·.size) = some (msC k nu A n c).length := by kernel_rfl
theorem rowFm : ∃ d, Try.prog.underlying 79 = some d ∧ d.isRow = true := ⟨_, Try.underlying79, rfl⟩
theorem rowRm27 : ∃ d, Try.prog.underlying 77 = some d ∧ d.isRow = true := ⟨_, Try.underlying77, rfl⟩
/-- may a message be? -/
def rightM (k : Int) (L : List (List UInt8)) : Bool := L.all (fun l => decide (l.length ≤ 65535)) && (if k = 1 then decide (1 ≤ L.length) && decide (L.length ≤ 16) else if k = 2 then decide (L.length = 1) else if k = 3 then decide (L.length = 0) else false)
theorem all_step (L : List (List UInt8)) (i : Nat) (h : i < L.length) (hp : ∀ l ∈ L.take i, l.length ≤ 65535) (hl : L[i].length ≤ 65535) : ∀ l ∈ L.take (i + 1), l.length ≤ 65535 := by
  intro l hm
  rw [List.take_succ_eq_append_getElem h] at hm
  rcases List.mem_append.1 hm with hm | hm
  · exact hp l hm
  · simp at hm; subst hm; exact hl
set_option maxHeartbeats 4000000 in
set_option maxRecDepth 100000 in
theorem msgRight_any (k : Int) (nu : Nat) (L : List (List UInt8)) (A : Option Addr) (n c : Nat) (w : World) (hr : RL w A n c L) (hn : n ≤ 1000000) : Calls Try.prog 26 #[.agg (msC k nu A n c).toArray] w (RetV w (.bool (rightM k L))) := by
  have hLn1 : n ≤ L.length := Nat.le_of_eq hr.len
  have hLn2 : L.length ≤ n := Nat.le_of_eq hr.len.symm
  obtain ⟨X, hX⟩ : ∃ X, rightM k L = X := ⟨_, rfl⟩
  rw [hX]
  have HX := Lib.hid hX
  clear hX
  obtain ⟨dvm1, vm1, vm2⟩ := rowFm
  have bm : Bk (w.alloc (.cells (msC k nu A n c).toArray 79)) w.heap.size 79 (msC k nu A n c) := Bk.new w 79 (msC k nu A n c).toArray
  have be : Below w.heap.size w (w.alloc (.cells (msC k nu A n c).toArray 79)) := Below.allocS (Below.refl _ _) _
  have zV : w.heap.size + 1 ≤ (w.alloc (.cells (msC k nu A n c).toArray 79)).heap.size := by simp
  go_enter Try.func26, Try.ntmps26
  go_upto_region 1 with (fail)
  generalize w.alloc (.cells (msC k nu A n c).toArray 79) = V at *
  have q0 : V.cell? ⟨w.heap.size, 0, none⟩ = some (.int .i64 k) := bm.cell 0
  have q2 : V.cell? ⟨w.heap.size, 2, none⟩ = some (.slice A n c) := bm.cell 2
  replace hr := hr.later be
  go_upto_region 2 with (fail)
  go_loop [8] (fun I => ∃ i : Nat, I = .int .i64 (i : Int) ∧ i ≤ n ∧ ∀ l ∈ L.take i, l.length ≤ 65535) (fun I => n - (intOf I).toNat)
  case atStart => exact ⟨0, rfl, Nat.zero_le _, by simp⟩
  case round =>
    obtain ⟨i, rfl, hi, hp⟩ := hrel
    by_cases hlt : i < n
    · have hil : i < L.length := by omega
      have ii : (i : Int) < (n : Int) := by omega
      obtain ⟨b, o, A', n', c', rfl, hc, hrb⟩ := hr.at_ i hil
      have hl' := hrb.1
      by_cases h6 : 65535 < n'
      · have i6 : (65535 : Int) < (n' : Int) := by omega
        have hX := Lib.hid (show X = false by
          rw [← HX.out]; unfold rightM
          rw [Bool.and_eq_false_iff]; left
          rw [List.all_eq_false]
          exact ⟨L[i], List.getElem_mem hil, by simp; omega⟩)
        clear hp hl' hLn1 hLn2
        go_wp2
        go_ret
        exact RetV.is_ (by rw [hX.out]; rfl) be
      · have i6 : ¬ (65535 : Int) < (n' : Int) := by omega
        have hp2 := all_step L i hil hp (by omega)
        clear hp hl'
        go_wp2
        exact ⟨⟨i + 1, by go_num, by omega, hp2⟩, by simp [intOf]; omega⟩
    · have ii : ¬ (i : Int) < (n : Int) := by omega
      have hall : L.all (fun l => decide (l.length ≤ 65535)) = true := by
        rw [List.take_of_length_le (by omega)] at hp
        exact List.all_eq_true.2 (fun l hl => by simpa using hp l hl)
      clear hp hi
      by_cases k1 : k = 1
      · subst k1
        by_cases n1 : 1 ≤ n
        · have i1 : (1 : Int) ≤ (n : Int) := by omega
          by_cases n16 : n ≤ 16
          · have i16 : (n : Int) ≤ 16 := by omega
            have hX := Lib.hid (show X = true by rw [← HX.out]; unfold rightM; rw [hall]; simp; omega)
            clear hall hLn1 hLn2
            go_wp2
            go_ret
            exact RetV.is_ (by rw [hX.out]; rfl) be
          · have i16 : ¬ (n : Int) ≤ 16 := by omega
            have hX := Lib.hid (show X = false by rw [← HX.out]; unfold rightM; rw [hall]; simp; omega)
            clear hall hLn1 hLn2
            go_wp2
            go_ret
            exact RetV.is_ (by rw [hX.out]; rfl) be
        · have i1 : ¬ (1 : Int) ≤ (n : Int) := by omega
          have hX := Lib.hid (show X = false by rw [← HX.out]; unfold rightM; rw [hall]; simp; omega)
          clear hall hLn1 hLn2
          go_wp2
          go_ret
          exact RetV.is_ (by rw [hX.out]; rfl) be
      · have k1' : (k == 1) = false := by simpa using k1
        by_cases k2 : k = 2
        · subst k2
          by_cases n1 : n = 1
          · have i1 : ((n : Int) == 1) = true := by simp; omega
            have hX := Lib.hid (show X = true by rw [← HX.out]; unfold rightM; rw [hall]; simp; omega)
            clear hall hLn1 hLn2 n1
            go_wp2
            go_ret
            exact RetV.is_ (by rw [hX.out]; rfl) be
          · have i1 : ((n : Int) == 1) = false := by simp; omega
            have hX := Lib.hid (show X = false by rw [← HX.out]; unfold rightM; rw [hall]; simp; omega)
            clear hall hLn1 hLn2
            go_wp2
            go_ret
            exact RetV.is_ (by rw [hX.out]; rfl) be
        · have k2' : (k == 2) = false := by simpa using k2
          by_cases k3 : k = 3
          · subst k3
            by_cases n1 : n = 0
            · have i1 : ((n : Int) == 0) = true := by simp; omega
              have hX := Lib.hid (show X = true by rw [← HX.out]; unfold rightM; rw [hall]; simp; exact List.eq_nil_of_length_eq_zero (by omega))
              clear hall hLn1 hLn2 n1
              go_wp2
              go_ret
              exact RetV.is_ (by rw [hX.out]; rfl) be
            · have i1 : ((n : Int) == 0) = false := by simp; omega
              have hX := Lib.hid (show X = false by rw [← HX.out]; unfold rightM; rw [hall]; simp; intro h; rw [h] at hLn1; simp at hLn1; omega)
              clear hall hLn1 hLn2
              go_wp2
              go_ret
              exact RetV.is_ (by rw [hX.out]; rfl) be
          · have k3' : (k == 3) = false := by simpa using k3
            have hX := Lib.hid (show X = false by rw [← HX.out]; unfold rightM; rw [hall]; simp [k1, k2, k3])
            clear hall hLn1 hLn2
            go_wp2
            go_ret
            exact RetV.is_ (by rw [hX.out]; rfl) be
theorem rightM_kind (k : Int) (L : List (List UInt8)) (h1 : k ≠ 1) (h2 : k ≠ 2) (h3 : k ≠ 3) : rightM k L = false := by unfold rightM; simp [h1, h2, h3]
set_option maxHeartbeats 4000000 in
set_option maxRecDepth 100000 in
theorem refRight27_1 (nu : Nat) (L : List (List UInt8)) (A : Option Addr) (n c : Nat) (w : World) (hr : RL w A n c L) (hn : n ≤ 1000000) : Calls Try.prog 27 #[.agg (msC 1 nu A n c).toArray] w (RetV w (.bool (rightM 1 L))) := by
  have hLn1 : n ≤ L.length := Nat.le_of_eq hr.len
  have hLn2 : L.length ≤ n := Nat.le_of_eq hr.len.symm
  obtain ⟨X, hX⟩ : ∃ X, rightM 1 L = X := ⟨_, rfl⟩
  rw [hX]
  have HX := Lib.hid hX
  clear hX
  obtain ⟨dvm1, vm1, vm2⟩ := rowRm27
  have bm : Bk (w.alloc (.cells (msC 1 nu A n c).toArray 77)) w.heap.size 77 (msC 1 nu A n c) := Bk.new w 77 (msC 1 nu A n c).toArray
  have be : Below w.heap.size w (w.alloc (.cells (msC 1 nu A n c).toArray 77)) := Below.allocS (Below.refl _ _) _
  have zV : w.heap.size + 1 ≤ (w.alloc (.cells (msC 1 nu A n c).toArray 77)).heap.size := by simp
  go_enter Try.func27, Try.ntmps27
  go_upto_region 1 with (fail)
  generalize w.alloc (.cells (msC 1 nu A n c).toArray 77) = V at *
  have q0 : V.cell? ⟨w.heap.size, 0, none⟩ = some (.int .i64 1) := bm.cell 0
  have q2 : V.cell? ⟨w.heap.size, 2, none⟩ = some (.slice A n c) := bm.cell 2
  replace hr := hr.later be
  go_upto_region 10 with (fail)
  go_loop [5] (fun I => ∃ i : Nat, I = .int .i64 (i : Int) ∧ i ≤ n ∧ i ≤ 17 ∧ ∀ l ∈ L.take i, l.length ≤ 65535) (fun I => n - (intOf I).toNat)
  case atStart => exact ⟨0, rfl, Nat.zero_le _, by omega, by simp⟩
  case round =>
    obtain ⟨i, rfl, hi, hi17, hp⟩ := hrel
    by_cases hlt : i < n ∧ i ≤ 16
    · obtain ⟨hlt, h16⟩ := hlt
      have hil : i < L.length := by omega
      have ii : (i : Int) < (n : Int) := by omega
      have i16 : (i : Int) ≤ 16 := by omega
      obtain ⟨b, o, A', n', c', rfl, hc, hrb⟩ := hr.at_ i hil
      have hl' := hrb.1
      by_cases h6 : 65535 < n'
      · have i6 : (65535 : Int) < (n' : Int) := by omega
        have hX := Lib.hid (show X = false by
          rw [← HX.out]; unfold rightM
          rw [Bool.and_eq_false_iff]; left
          rw [List.all_eq_false]
          exact ⟨L[i], List.getElem_mem hil, by simp; omega⟩)
        clear hp hl' hLn1 hLn2
        go_wp2
        go_ret
        exact RetV.is_ (by rw [hX.out]; rfl) be
      · have i6 : ¬ (65535 : Int) < (n' : Int) := by omega
        have hp2 := all_step L i hil hp (by omega)
        clear hp hl'
        go_wp2
        exact ⟨⟨i + 1, by go_num, by omega, by omega, hp2⟩, by simp [intOf]; omega⟩
    · have hfin : (i = n ∨ 16 < n) := by omega
      by_cases hq : 1 ≤ n ∧ n ≤ 16
      · have hall : L.all (fun l => decide (l.length ≤ 65535)) = true := by
          rw [List.take_of_length_le (by omega)] at hp
          exact List.all_eq_true.2 (fun l hl => by simpa using hp l hl)
        have hX := Lib.hid (show X = true by rw [← HX.out]; unfold rightM; rw [hall]; simp; omega)
        have j1 : (1 : Int) ≤ (n : Int) := by omega
        have j2 : (n : Int) ≤ 16 := by omega
        by_cases hin : i < n
        · exfalso; omega
        · have ii : ¬ (i : Int) < (n : Int) := by omega
          clear hp hi hi17 hlt hfin hLn1 hLn2
          go_wp2
          go_ret
          exact RetV.is_ (by rw [hX.out]; rfl) be
      · have hX := Lib.hid (show X = false by
          rw [← HX.out]; unfold rightM
          rw [Bool.and_eq_false_iff]; right
          simp
          omega)
        clear hp
        by_cases hin : i < n
        · have ii : (i : Int) < (n : Int) := by omega
          have i16 : ¬ (i : Int) ≤ 16 := by omega
          have j2 : ¬ (n : Int) ≤ 16 := by omega
          have j1 : (1 : Int) ≤ (n : Int) := by omega
          clear hi hi17 hlt hfin hLn1 hLn2
          go_wp2
          go_ret
          exact RetV.is_ (by rw [hX.out]; rfl) be
        · have ii : ¬ (i : Int) < (n : Int) := by omega
          by_cases j1 : 1 ≤ n
          · have j1' : (1 : Int) ≤ (n : Int) := by omega
            have j2 : ¬ (n : Int) ≤ 16 := by omega
            clear hi hi17 hlt hfin hLn1 hLn2 j1
            go_wp2
            go_ret
            exact RetV.is_ (by rw [hX.out]; rfl) be
          · have j1' : ¬ (1 : Int) ≤ (n : Int) := by omega
            clear hi hi17 hlt hfin hLn1 hLn2 hq j1
            go_wp2
            go_ret
            exact RetV.is_ (by rw [hX.out]; rfl) be
set_option maxHeartbeats 4000000 in
set_option maxRecDepth 100000 in
theorem refRight27_2 (nu : Nat) (L : List (List UInt8)) (A : Option Addr) (n c : Nat) (w : World) (hr : RL w A n c L) (hn : n ≤ 1000000) : Calls Try.prog 27 #[.agg (msC 2 nu A n c).toArray] w (RetV w (.bool (rightM 2 L))) := by
  have hLn1 : n ≤ L.length := Nat.le_of_eq hr.len
  have hLn2 : L.length ≤ n := Nat.le_of_eq hr.len.symm
  obtain ⟨X, hX⟩ : ∃ X, rightM 2 L = X := ⟨_, rfl⟩
  rw [hX]
  have HX := Lib.hid hX
  clear hX
  obtain ⟨dvm1, vm1, vm2⟩ := rowRm27
  have bm : Bk (w.alloc (.cells (msC 2 nu A n c).toArray 77)) w.heap.size 77 (msC 2 nu A n c) := Bk.new w 77 (msC 2 nu A n c).toArray
  have be : Below w.heap.size w (w.alloc (.cells (msC 2 nu A n c).toArray 77)) := Below.allocS (Below.refl _ _) _
  have zV : w.heap.size + 1 ≤ (w.alloc (.cells (msC 2 nu A n c).toArray 77)).heap.size := by simp
  go_enter Try.func27, Try.ntmps27
  go_upto_region 1 with (fail)
  generalize w.alloc (.cells (msC 2 nu A n c).toArray 77) = V at *
  have q0 : V.cell? ⟨w.heap.size, 0, none⟩ = some (.int .i64 2) := bm.cell 0
  have q2 : V.cell? ⟨w.heap.size, 2, none⟩ = some (.slice A n c) := bm.cell 2
  replace hr := hr.later be
  go_upto_region 10 with (fail)
  go_loop [5] (fun I => ∃ i : Nat, I = .int .i64 (i : Int) ∧ i ≤ n ∧ i ≤ 17 ∧ ∀ l ∈ L.take i, l.length ≤ 65535) (fun I => n - (intOf I).toNat)
  case atStart => exact ⟨0, rfl, Nat.zero_le _, by omega, by simp⟩
  case round =>
    obtain ⟨i, rfl, hi, hi17, hp⟩ := hrel
    by_cases hlt : i < n ∧ i ≤ 16
    · obtain ⟨hlt, h16⟩ := hlt
      have hil : i < L.length := by omega
      have ii : (i : Int) < (n : Int) := by omega
      have i16 : (i : Int) ≤ 16 := by omega
      obtain ⟨b, o, A', n', c', rfl, hc, hrb⟩ := hr.at_ i hil
      have hl' := hrb.1
      by_cases h6 : 65535 < n'
      · have i6 : (65535 : Int) < (n' : Int) := by omega
        have hX := Lib.hid (show X = false by
          rw [← HX.out]; unfold rightM
          rw [Bool.and_eq_false_iff]; left
          rw [List.all_eq_false]
          exact ⟨L[i], List.getElem_mem hil, by simp; omega⟩)
        clear hp hl' hLn1 hLn2
        go_wp2
        go_ret
        exact RetV.is_ (by rw [hX.out]; rfl) be
      · have i6 : ¬ (65535 : Int) < (n' : Int) := by omega
        have hp2 := all_step L i hil hp (by omega)
        clear hp hl'
        go_wp2
        exact ⟨⟨i + 1, by go_num, by omega, by omega, hp2⟩, by simp [intOf]; omega⟩
    · have hfin : (i = n ∨ 16 < n) := by omega
      by_cases hq : 1 ≤ n ∧ n ≤ 1
      · have hall : L.all (fun l => decide (l.length ≤ 65535)) = true := by
          rw [List.take_of_length_le (by omega)] at hp
          exact List.all_eq_true.2 (fun l hl => by simpa using hp l hl)
        have hX := Lib.hid (show X = true by rw [← HX.out]; unfold rightM; rw [hall]; simp; omega)
        have j1 : (1 : Int) ≤ (n : Int) := by omega
        have j2 : (n : Int) ≤ 1 := by omega
        by_cases hin : i < n
        · exfalso; omega
        · have ii : ¬ (i : Int) < (n : Int) := by omega
          clear hp hi hi17 hlt hfin hLn1 hLn2
          go_wp2
          go_ret
          exact RetV.is_ (by rw [hX.out]; rfl) be
      · have hX := Lib.hid (show X = false by
          rw [← HX.out]; unfold rightM
          rw [Bool.and_eq_false_iff]; right
          simp
          omega)
        clear hp
        by_cases hin : i < n
        · have ii : (i : Int) < (n : Int) := by omega
          have i16 : ¬ (i : Int) ≤ 16 := by omega
          have j2 : ¬ (n : Int) ≤ 1 := by omega
          have j1 : (1 : Int) ≤ (n : Int) := by omega
          clear hi hi17 hlt hfin hLn1 hLn2
          go_wp2
          go_ret
          exact RetV.is_ (by rw [hX.out]; rfl) be
        · have ii : ¬ (i : Int) < (n : Int) := by omega
          by_cases j1 : 1 ≤ n
          · have j1' : (1 : Int) ≤ (n : Int) := by omega
            have j2 : ¬ (n : Int) ≤ 1 := by omega
            clear hi hi17 hlt hfin hLn1 hLn2 j1
            go_wp2
            go_ret
            exact RetV.is_ (by rw [hX.out]; rfl) be
          · have j1' : ¬ (1 : Int) ≤ (n : Int) := by omega
            clear hi hi17 hlt hfin hLn1 hLn2 hq j1
            go_wp2
            go_ret
            exact RetV.is_ (by rw [hX.out]; rfl) be
set_option maxHeartbeats 4000000 in
set_option maxRecDepth 100000 in
theorem refRight27_3 (nu : Nat) (L : List (List UInt8)) (A : Option Addr) (n c : Nat) (w : World) (hr : RL w A n c L) (hn : n ≤ 1000000) : Calls Try.prog 27 #[.agg (msC 3 nu A n c).toArray] w (RetV w (.bool (rightM 3 L))) := by
  have hLn1 : n ≤ L.length := Nat.le_of_eq hr.len
  have hLn2 : L.length ≤ n := Nat.le_of_eq hr.len.symm
  obtain ⟨X, hX⟩ : ∃ X, rightM 3 L = X := ⟨_, rfl⟩
  rw [hX]
  have HX := Lib.hid hX
  clear hX
  obtain ⟨dvm1, vm1, vm2⟩ := rowRm27
  have bm : Bk (w.alloc (.cells (msC 3 nu A n c).toArray 77)) w.heap.size 77 (msC 3 nu A n c) := Bk.new w 77 (msC 3 nu A n c).toArray
  have be : Below w.heap.size w (w.alloc (.cells (msC 3 nu A n c).toArray 77)) := Below.allocS (Below.refl _ _) _
  have zV : w.heap.size + 1 ≤ (w.alloc (.cells (msC 3 nu A n c).toArray 77)).heap.size := by simp
  go_enter Try.func27, Try.ntmps27
  go_upto_region 1 with (fail)
  generalize w.alloc (.cells (msC 3 nu A n c).toArray 77) = V at *
  have q0 : V.cell? ⟨w.heap.size, 0, none⟩ = some (.int .i64 3) := bm.cell 0
  have q2 : V.cell? ⟨w.heap.size, 2, none⟩ = some (.slice A n c) := bm.cell 2
  replace hr := hr.later be
  go_upto_region 10 with (fail)
  go_loop [5] (fun I => ∃ i : Nat, I = .int .i64 (i : Int) ∧ i ≤ n ∧ i ≤ 17 ∧ ∀ l ∈ L.take i, l.length ≤ 65535) (fun I => n - (intOf I).toNat)
  case atStart => exact ⟨0, rfl, Nat.zero_le _, by omega, by simp⟩
  case round =>
    obtain ⟨i, rfl, hi, hi17, hp⟩ := hrel
    by_cases hlt : i < n ∧ i ≤ 16
    · obtain ⟨hlt, h16⟩ := hlt
      have hil : i < L.length := by omega
      have ii : (i : Int) < (n : Int) := by omega
      have i16 : (i : Int) ≤ 16 := by omega
      obtain ⟨b, o, A', n', c', rfl, hc, hrb⟩ := hr.at_ i hil
      have hl' := hrb.1
      by_cases h6 : 65535 < n'
      · have i6 : (65535 : Int) < (n' : Int) := by omega
        have hX := Lib.hid (show X = false by
          rw [← HX.out]; unfold rightM
          rw [Bool.and_eq_false_iff]; left
          rw [List.all_eq_false]
          exact ⟨L[i], List.getElem_mem hil, by simp; omega⟩)
        clear hp hl' hLn1 hLn2
        go_wp2
        go_ret
        exact RetV.is_ (by rw [hX.out]; rfl) be
      · have i6 : ¬ (65535 : Int) < (n' : Int) := by omega
        have hp2 := all_step L i hil hp (by omega)
        clear hp hl'
        go_wp2
        exact ⟨⟨i + 1, by go_num, by omega, by omega, hp2⟩, by simp [intOf]; omega⟩
    · have hfin : (i = n ∨ 16 < n) := by omega
      by_cases hq : 0 ≤ n ∧ n ≤ 0
      · have hall : L.all (fun l => decide (l.length ≤ 65535)) = true := by
          rw [List.take_of_length_le (by omega)] at hp
          exact List.all_eq_true.2 (fun l hl => by simpa using hp l hl)
        have hX := Lib.hid (show X = true by rw [← HX.out]; unfold rightM; rw [hall]; simp; exact List.eq_nil_of_length_eq_zero (by omega))
        have j1 : (0 : Int) ≤ (n : Int) := by omega
        have j2 : (n : Int) ≤ 0 := by omega
        by_cases hin : i < n
        · exfalso; omega
        · have ii : ¬ (i : Int) < (n : Int) := by omega
          clear hp hi hi17 hlt hfin hLn1 hLn2
          go_wp2
          go_ret
          exact RetV.is_ (by rw [hX.out]; simp; omega) be
      · have hX := Lib.hid (show X = false by
          rw [← HX.out]; unfold rightM
          rw [Bool.and_eq_false_iff]; right
          simp
          intro h; rw [h] at hLn1; simp at hLn1; omega)
        clear hp
        by_cases hin : i < n
        · have ii : (i : Int) < (n : Int) := by omega
          have i16 : ¬ (i : Int) ≤ 16 := by omega
          have j2 : ¬ (n : Int) ≤ 0 := by omega
          have j1 : (0 : Int) ≤ (n : Int) := by omega
          clear hi hi17 hlt hfin hLn1 hLn2
          go_wp2
          go_ret
          exact RetV.is_ (by rw [hX.out]; simp; omega) be
        · have ii : ¬ (i : Int) < (n : Int) := by omega
          by_cases j1 : 0 ≤ n
          · have j1' : (0 : Int) ≤ (n : Int) := by omega
            have j2 : ¬ (n : Int) ≤ 0 := by omega
            clear hi hi17 hlt hfin hLn1 hLn2 j1
            go_wp2
            go_ret
            exact RetV.is_ (by rw [hX.out]; simp; omega) be
          · exact absurd (Nat.zero_le _) j1
set_option maxHeartbeats 4000000 in
set_option maxRecDepth 100000 in
theorem refRight27_any (k : Int) (nu : Nat) (L : List (List UInt8)) (A : Option Addr) (n c : Nat) (w : World) (hr : RL w A n c L) (hn : n ≤ 1000000) : Calls Try.prog 27 #[.agg (msC k nu A n c).toArray] w (RetV w (.bool (rightM k L))) := by
  by_cases h1 : k = 1
  · subst h1; exact refRight27_1 nu L A n c w hr hn
  by_cases h2 : k = 2
  · subst h2; exact refRight27_2 nu L A n c w hr hn
  by_cases h3 : k = 3
  · subst h3; exact refRight27_3 nu L A n c w hr hn
  have hX := Lib.hid (rightM_kind k L h1 h2 h3)
  generalize rightM k L = X at *
  have k1 : (k == 1) = false := by simpa using h1
  have k2 : (k == 2) = false := by simpa using h2
  have k3 : (k == 3) = false := by simpa using h3
  obtain ⟨dvm1, vm1, vm2⟩ := rowRm27
  have bm : Bk (w.alloc (.cells (msC k nu A n c).toArray 77)) w.heap.size 77 (msC k nu A n c) := Bk.new w 77 (msC k nu A n c).toArray
  have be : Below w.heap.size w (w.alloc (.cells (msC k nu A n c).toArray 77)) := Below.allocS (Below.refl _ _) _
  have zV : w.heap.size + 1 ≤ (w.alloc (.cells (msC k nu A n c).toArray 77)).heap.size := by simp
  go_enter Try.func27, Try.ntmps27
  go_upto_region 1 with (fail)
  generalize w.alloc (.cells (msC k nu A n c).toArray 77) = V at *
  have q0 : V.cell? ⟨w.heap.size, 0, none⟩ = some (.int .i64 k) := bm.cell 0
  go_wp2
  go_ret
  exact RetV.is_ (by rw [hX.out]; rfl) be
end Go.Proofs.Ytepodflinhpejaa

/- light, to, is, awake of chapter 27. -/
namespace Go.Proofs.Ytepodflinhpejaa
open Go.RowKit
set_option linter.unusedVariables false
set_option linter.unusedSimpArgs false
attribute [local go_sem ↓] sliced_cut

attribute [local go_sem] cutA_zero

def sumL (L : List (List UInt8)) : Nat := (L.map fun l => min l.length 5000).sum
theorem sumL_snoc (L : List (List UInt8)) (l : List UInt8) : sumL (L ++ [l]) = sumL L + min l.length 5000 := by simp [sumL]
theorem sumL_mem (L : List (List UInt8)) : ∀ l ∈ L, min l.length 5000 ≤ sumL L := by
  intro l hl
  induction L with
  | nil => cases hl
  | cons a t ih =>
    simp only [sumL, List.map_cons, List.sum_cons]
    rcases List.mem_cons.1 hl with rfl | hl
    · exact Nat.le_add_right _ _
    · have := ih hl
      simp only [sumL] at this
      omega
theorem sumL_le (L : List (List UInt8)) : sumL L ≤ L.length * 5000 := by
  induction L with
  | nil => simp [sumL]
  | cons a t ih =>
    simp only [sumL, List.map_cons, List.sum_cons, List.length_cons] at *
    omega
def lightM (L : List (List UInt8)) : Bool := decide (L.length ≤ 30) && decide (sumL (L.take 30) ≤ 4000)
theorem lightM_yes {L : List (List UInt8)} (h : lightM L = true) : L.length ≤ 30 ∧ ∀ l ∈ L, l.length ≤ 4000 := by
  simp only [lightM, Bool.and_eq_true, decide_eq_true_eq] at h
  rw [List.take_of_length_le h.1] at h
  refine ⟨h.1, fun l hl => ?_⟩
  have := sumL_mem L l hl
  omega
set_option maxHeartbeats 4000000 in
set_option maxRecDepth 100000 in
theorem light27 (k : Int) (nu : Nat) (L : List (List UInt8)) (A : Option Addr) (n c : Nat) (w : World) (hr : RL w A n c L) (hn : n ≤ 9223372036854775807) (hpl : ∀ l ∈ L, l.length ≤ 9223372036854775807) : Calls Try.prog 20 #[.agg (msC k nu A n c).toArray] w (RetV w (.bool (lightM L))) := by
  have hLn1 : n ≤ L.length := Nat.le_of_eq hr.len
  have hLn2 : L.length ≤ n := Nat.le_of_eq hr.len.symm
  obtain ⟨X, hX⟩ : ∃ X, lightM L = X := ⟨_, rfl⟩
  rw [hX]
  have HX := Lib.hid hX
  clear hX
  obtain ⟨dvm1, vm1, vm2⟩ := rowRm27
  have bm : Bk (w.alloc (.cells (msC k nu A n c).toArray 77)) w.heap.size 77 (msC k nu A n c) := Bk.new w 77 (msC k nu A n c).toArray
  have be : Below w.heap.size w (w.alloc (.cells (msC k nu A n c).toArray 77)) := Below.allocS (Below.refl _ _) _
  have zV : w.heap.size + 1 ≤ (w.alloc (.cells (msC k nu A n c).toArray 77)).heap.size := by simp
  go_enter Try.func20, Try.ntmps20
  go_upto_region 1 with (fail)
  generalize w.alloc (.cells (msC k nu A n c).toArray 77) = V at *
  have q2 : V.cell? ⟨w.heap.size, 2, none⟩ = some (.slice A n c) := bm.cell 2
  replace hr := hr.later be
  go_upto_region 3 with (fail)
  go_loop [3, 4] (fun N I => ∃ (i s : Nat), I = .int .i64 (i : Int) ∧ N = .int .i64 (s : Int) ∧ i ≤ n ∧ i ≤ 30 ∧ s ≤ sumL (L.take i) ∧ sumL (L.take i) ≤ s ∧ s ≤ 150000) (fun _ I => n - (intOf I).toNat)
  case atStart => exact ⟨0, 0, rfl, rfl, Nat.zero_le _, by omega, Nat.zero_le _, by simp [sumL], by omega⟩
  case round =>
    obtain ⟨i, s, rfl, rfl, hi, hi30, hs1, hs2, hsb⟩ := hrel
    by_cases hlt : i < n ∧ i < 30
    · obtain ⟨hlt, h30⟩ := hlt
      have hil : i < L.length := by omega
      have ii : (i : Int) < (n : Int) := by omega
      have i30 : (i : Int) < 30 := by omega
      obtain ⟨b, o, A', n', c', rfl, hc, hrb⟩ := hr.at_ i hil
      have hl1 : L[i].length ≤ n' := Nat.le_of_eq hrb.1
      have hl2 : n' ≤ L[i].length := Nat.le_of_eq hrb.1.symm
      have hst := sumL_snoc (L.take i) L[i]
      rw [← List.take_succ_eq_append_getElem hil] at hst
      have hle := sumL_le (L.take (i + 1))
      have hll : (L.take (i + 1)).length ≤ 30 := by simp; omega
      have hb : sumL (L.take (i + 1)) ≤ 150000 := by omega
      by_cases h5 : 5000 < n'
      · have i5 : (5000 : Int) < (n' : Int) := by omega
        have e1 : min L[i].length 5000 = 5000 := by omega
        rw [e1] at hst
        have HS := Lib.hid (And.intro hst hb)
        clear hst hle hll hb e1 hl1 hl2
        go_wp2
        exact ⟨⟨i + 1, s + 5000, by go_num, by go_num, by omega, by omega, by have := HS.out; omega, by have := HS.out; omega, by have := HS.out; omega⟩, by simp [intOf]; omega⟩
      · have i5 : ¬ (5000 : Int) < (n' : Int) := by omega
        have e1 : min L[i].length 5000 = n' := by omega
        rw [e1] at hst
        have HS := Lib.hid (And.intro hst hb)
        clear hst hle hll hb e1 hl1 hl2
        go_wp2
        exact ⟨⟨i + 1, s + n', by go_num, by go_num, by omega, by omega, by have := HS.out; omega, by have := HS.out; omega, by have := HS.out; omega⟩, by simp [intOf]; omega⟩
    · by_cases hin : i < n
      · have ii : (i : Int) < (n : Int) := by omega
        have i30 : ¬ (i : Int) < 30 := by omega
        have j : ¬ (n : Int) ≤ 30 := by omega
        have hX := Lib.hid (show X = false by rw [← HX.out]; unfold lightM; rw [decide_eq_false (by omega)]; rfl)
        clear hlt hs1 hs2 hi hi30 hLn1 hLn2
        go_wp2
        go_ret
        exact RetV.is_ (by rw [hX.out]; rfl) be
      · have ii : ¬ (i : Int) < (n : Int) := by omega
        have htk : L.take i = L.take 30 := by rw [List.take_of_length_le (by omega), List.take_of_length_le (by omega)]
        have j : (n : Int) ≤ 30 := by omega
        rw [htk] at hs1 hs2
        by_cases h4 : s ≤ 4000
        · have j4 : (s : Int) ≤ 4000 := by omega
          have hX := Lib.hid (show X = true by rw [← HX.out]; unfold lightM; rw [decide_eq_true (by omega), decide_eq_true (by omega)]; rfl)
          clear hlt hs1 hs2 hi hi30 hLn1 hLn2 htk
          go_wp2
          go_ret
          exact RetV.is_ (by rw [hX.out]; rfl) be
        · have j4 : ¬ (s : Int) ≤ 4000 := by omega
          have hX := Lib.hid (show X = false by rw [← HX.out]; unfold lightM; rw [decide_eq_true (by omega), decide_eq_false (by omega)]; rfl)
          clear hlt hs1 hs2 hi hi30 hLn1 hLn2 htk
          go_wp2
          go_ret
          exact RetV.is_ (by rw [hX.out]; rfl) be
set_option maxRecDepth 100000 in
theorem bdM (k : Int) (nu : Nat) (A : Option Addr) (n c : Nat) (w : World) : (Instr.build 79 #[(0, .int .i64 k), (1, .int .u64 (nu : Int)), (2, .slice A n c)]).run Try.prog w = .ok (.agg (msC k nu A n c).toArray) w := by kernel_rfl
set_option maxHeartbeats 4000000 in
set_option maxRecDepth 100000 in
theorem to27 (k : Int) (nu : Nat) (A : Option Addr) (n c : Nat) (w : World) : Calls Try.prog 25 #[.agg (msC k nu A n c).toArray] w (RetV w (.agg (msC k nu A n c).toArray)) := by
  obtain ⟨dvf1, vf1, vf2⟩ := rowFm
  obtain ⟨dvm1, vm1, vm2⟩ := rowRm27
  have bm : Bk ((w.alloc (.cells (msC k nu A n c).toArray 77)).alloc (.cells #[.int .i64 0, .int .u64 0, .slice none 0 0] 79)) w.heap.size 77 (msC k nu A n c) := (Bk.new w 77 (msC k nu A n c).toArray).alloc _
  have bz : Bk ((w.alloc (.cells (msC k nu A n c).toArray 77)).alloc (.cells #[.int .i64 0, .int .u64 0, .slice none 0 0] 79)) (w.heap.size + 1) 79 (msC 0 0 none 0 0) := Bk.newK _ _ _ (by simp) rfl
  have be : Below w.heap.size w ((w.alloc (.cells (msC k nu A n c).toArray 77)).alloc (.cells #[.int .i64 0, .int .u64 0, .slice none 0 0] 79)) := Below.allocS (Below.allocS (Below.refl _ _) _) _
  have zV : w.heap.size + 2 ≤ ((w.alloc (.cells (msC k nu A n c).toArray 77)).alloc (.cells #[.int .i64 0, .int .u64 0, .slice none 0 0] 79)).heap.size := by simp
  go_enter Try.func25, Try.ntmps25
  go_upto_region 1 with (fail)
  generalize (w.alloc (.cells (msC k nu A n c).toArray 77)).alloc (.cells #[.int .i64 0, .int .u64 0, .slice none 0 0] 79) = V at *
  refine wp_region_lit ?_
  refine wpList_plain rfl (fun K hK => ?_); go_simp; with_reducible refine hK _ _ ?_; clear hK K
  refine wpList_ld1 (t := 77) (cs := msC k nu A n c) 3 (.tmp 3) rfl (by rfl) rfl (bm) rfl Try.underlying3 rfl ?_
  refine wpList_plain rfl (fun K hK => ?_); go_simp; with_reducible refine hK _ _ ?_; clear hK K
  refine wpList_ld1 (t := 77) (cs := msC k nu A n c) 22 (.tmp 5) rfl (by rfl) rfl (bm) rfl Try.underlying22 rfl ?_
  refine wpList_plain rfl (fun K hK => ?_); go_simp; with_reducible refine hK _ _ ?_; clear hK K
  refine wpList_ld1 (t := 77) (cs := msC k nu A n c) 75 (.tmp 7) rfl (by rfl) rfl (bm) rfl Try.underlying75 rfl ?_
  simp only [Act.put, List.setIfInBounds_toArray, List.set_cons_zero, List.set_cons_succ]
  refine wpList_build 79 [(0, .tmp 4), (1, .tmp 6), (2, .tmp 8)] rfl rfl (.agg (msC k nu A n c).toArray) ?_ ?_
  · exact bdM _ _ _ _ _ _
  simp only [Act.put, List.setIfInBounds_toArray, List.set_cons_zero, List.set_cons_succ]
  refine wpList_stA (t := 79) 79 (.tmp 2) (.tmp 9) rfl rfl (msC k nu A n c) (msC 0 0 none 0 0) rfl (msC_one _ _ _ _ _) rfl rfl bz (szFm _ _ _ _ _) ?_
  intro W4 h4 g4
  simp only [Act.put, List.setIfInBounds_toArray, List.set_cons_zero, List.set_cons_succ]
  go_wp2
  refine bodyPost_agg Try.results25 rfl h4.range vf1 vf2 (szFm _ _ _ _ _) rfl (RetV.mk ?_)
  exact below_grown be g4 (by omega)
set_option maxHeartbeats 4000000 in
set_option maxRecDepth 100000 in
theorem is27 (k : Int) (nu : Nat) (L : List (List UInt8)) (A B : Option Addr) (n c d : Nat) (w : World) (hr : RL w A n c L) (hs : RL w B n d L) (hn : n ≤ 1000000) : Calls Try.prog 24 #[.agg (msC k nu A n c).toArray, .agg (msC k nu B n d).toArray] w (RetV w (.bool true)) := by
  have hLn1 : n ≤ L.length := Nat.le_of_eq hr.len
  have hLn2 : L.length ≤ n := Nat.le_of_eq hr.len.symm
  obtain ⟨dvr1, vr1, vr2⟩ := rowRm27
  obtain ⟨dvm1, vm1, vm2⟩ := rowFm
  have b1 : Bk ((w.alloc (.cells (msC k nu A n c).toArray 79)).alloc (.cells (msC k nu B n d).toArray 77)) w.heap.size 79 (msC k nu A n c) := (Bk.new w 79 (msC k nu A n c).toArray).alloc _
  have b2 : Bk ((w.alloc (.cells (msC k nu A n c).toArray 79)).alloc (.cells (msC k nu B n d).toArray 77)) (w.heap.size + 1) 77 (msC k nu B n d) := Bk.newK _ _ _ (by simp) rfl
  have be : Below w.heap.size w ((w.alloc (.cells (msC k nu A n c).toArray 79)).alloc (.cells (msC k nu B n d).toArray 77)) := Below.allocS (Below.allocS (Below.refl _ _) _) _
  have zV : w.heap.size + 2 ≤ ((w.alloc (.cells (msC k nu A n c).toArray 79)).alloc (.cells (msC k nu B n d).toArray 77)).heap.size := by simp
  go_enter Try.func24, Try.ntmps24
  go_upto_region 1 with (fail)
  generalize (w.alloc (.cells (msC k nu A n c).toArray 79)).alloc (.cells (msC k nu B n d).toArray 77) = V at *
  have q0 : V.cell? ⟨w.heap.size, 0, none⟩ = some (.int .i64 k) := b1.cell 0
  have q1 : V.cell? ⟨w.heap.size, 1, none⟩ = some (.int .u64 (nu : Int)) := b1.cell 1
  have q2 : V.cell? ⟨w.heap.size, 2, none⟩ = some (.slice A n c) := b1.cell 2
  have p0 : V.cell? ⟨w.heap.size + 1, 0, none⟩ = some (.int .i64 k) := b2.cell 0
  have p1 : V.cell? ⟨w.heap.size + 1, 1, none⟩ = some (.int .u64 (nu : Int)) := b2.cell 1
  have p2 : V.cell? ⟨w.heap.size + 1, 2, none⟩ = some (.slice B n d) := b2.cell 2
  replace hr := hr.later be
  replace hs := hs.later be
  go_upto_region 4 with (fail)
  clear q0 q1 p0 p1 q2 p2
  have bv := Below.refl V.heap.size V
  go_loopw [5] (fun I wr => ∃ i : Nat, I = .int .i64 (i : Int) ∧ i ≤ n ∧ Below V.heap.size V wr) (fun I _ => n - (intOf I).toNat)
  case atStart => exact ⟨0, rfl, Nat.zero_le _, bv⟩
  case round =>
    clear bv
    obtain ⟨i, rfl, hi, bv⟩ := hrel
    have q2 : wr.cell? ⟨w.heap.size, 2, none⟩ = some (.slice A n c) := (b1.later bv).cell 2
    by_cases hlt : i < n
    · have hil : i < L.length := by omega
      have ii : (i : Int) < (n : Int) := by omega
      obtain ⟨b1_, o1_, A', n', c', rfl, hc1, hrb1⟩ := (hr.later bv).at_ i hil
      obtain ⟨b2_, o2_, B', m', d', rfl, hc2, hrb2⟩ := (hs.later bv).at_ i hil
      replace b1 := b1.later bv
      replace b2 := b2.later bv
      have HC1 := Lib.hid (fun W (h : Below wr.heap.size wr W) => (h.cell (p := ⟨b1_, o1_ + i, none⟩) (lt_of_cell hc1)).trans hc1)
      have HC2 := Lib.hid (fun W (h : Below wr.heap.size wr W) => (h.cell (p := ⟨b2_, o2_ + i, none⟩) (lt_of_cell hc2)).trans hc2)
      go_upto_region 6 with (fail)
      clear q2 hc1 hc2
      refine wp_relS 13 47 rfl (by kernel_rfl) (by kernel_rfl) ?_
      apply Steps.one (MP.eq _) 1 rfl
      · intro o ho FA x hO hD K hK
        obtain rfl := Option.some.inj ho.symm
        clear ho
        have e2 := hO 2 (by kernel_rfl)
        simp only [eval_tmp, List.getElem?_toArray, List.getElem?_cons_succ, List.getElem?_cons_zero, Option.getD_some] at e2
        have ev2 := Lib.hid ((eval_tmp FA 2).trans e2)
        clear hO hD
        go_simp
        exact hK.out _ _ (Ex.refl _) rfl
      apply Steps.one (MP.eq _) 2 rfl
      · intro o ho FA x hO hD K hK
        obtain rfl := Option.some.inj ho.symm
        clear ho
        have ev34 : FA.eval (.tmp 34) = _ := hD 0 34 (by kernel_rfl)
        have e34 := (eval_tmp FA 34).symm.trans ev34
        replace ev34 := Lib.hid ev34
        clear hO hD
        refine wanted_if rfl ?_
        refine wp_ld1 75 (.tmp 34) rfl ev34.out (b1.later (below_plus _ _ _)) rfl Try.underlying75 rfl ?_
        exact hK.out _ _ (Ex.refl _) rfl
      apply Steps.one (MP.eq _) 3 rfl
      · intro o ho FA x hO hD K hK
        obtain rfl := Option.some.inj ho.symm
        clear ho
        have e5 := hO 5 (by kernel_rfl)
        simp only [eval_tmp, List.getElem?_toArray, List.getElem?_cons_succ, List.getElem?_cons_zero, Option.getD_some] at e5
        have ev5 := Lib.hid ((eval_tmp FA 5).trans e5)
        clear hO hD
        go_simp
        exact hK.out _ _ (Ex.refl _) rfl
      apply Steps.one (MP.eq _) 4 rfl
      · intro o ho FA x hO hD K hK
        obtain rfl := Option.some.inj ho.symm
        clear ho
        have ev35 : FA.eval (.tmp 35) = _ := hD 1 35 (by kernel_rfl)
        have e35 := (eval_tmp FA 35).symm.trans ev35
        replace ev35 := Lib.hid ev35
        have ev36 : FA.eval (.tmp 36) = _ := hD 2 36 (by kernel_rfl)
        have e36 := (eval_tmp FA 36).symm.trans ev36
        replace ev36 := Lib.hid ev36
        clear hO hD
        go_simp
        exact hK.out _ _ (Ex.refl _) rfl
      apply Steps.one (MP.eq _) 5 rfl
      · intro o ho FA x hO hD K hK
        obtain rfl := Option.some.inj ho.symm
        clear ho
        have ev37 : FA.eval (.tmp 37) = _ := hD 3 37 (by kernel_rfl)
        have e37 := (eval_tmp FA 37).symm.trans ev37
        replace ev37 := Lib.hid ev37
        clear hO hD
        have q9 := (HC1.out _ (below_plus wr x.bs x.d))
        go_simp
        exact hK.out _ _ (Ex.refl _) rfl
      apply Steps.one (MP.eq _) 6 rfl
      · intro o ho FA x hO hD K hK
        obtain rfl := Option.some.inj ho.symm
        clear ho
        have ev38 : FA.eval (.tmp 38) = _ := hD 4 38 (by kernel_rfl)
        have e38 := (eval_tmp FA 38).symm.trans ev38
        replace ev38 := Lib.hid ev38
        clear hO hD
        have es := run_str bt Try.underlying9 (hrb1.plus_ x.bs x.d)
        go_simp
        exact hK.out _ _ (Ex.refl _) rfl
      apply Steps.one (MP.eq _) 7 rfl
      · intro o ho FA x hO hD K hK
        obtain rfl := Option.some.inj ho.symm
        clear ho
        have e3 := hO 3 (by kernel_rfl)
        simp only [eval_tmp, List.getElem?_toArray, List.getElem?_cons_succ, List.getElem?_cons_zero, Option.getD_some] at e3
        have ev3 := Lib.hid ((eval_tmp FA 3).trans e3)
        clear hO hD
        go_simp
        exact hK.out _ _ (Ex.refl _) rfl
      apply Steps.one (MP.eq _) 8 rfl
      · intro o ho FA x hO hD K hK
        obtain rfl := Option.some.inj ho.symm
        clear ho
        have ev40 : FA.eval (.tmp 40) = _ := hD 6 40 (by kernel_rfl)
        have e40 := (eval_tmp FA 40).symm.trans ev40
        replace ev40 := Lib.hid ev40
        clear hO hD
        refine wanted_if rfl ?_
        refine wp_ld1 75 (.tmp 40) rfl ev40.out (b2.later (below_plus _ _ _)) rfl Try.underlying75 rfl ?_
        exact hK.out _ _ (Ex.refl _) rfl
      apply Steps.one (MP.eq _) 9 rfl
      · intro o ho FA x hO hD K hK
        obtain rfl := Option.some.inj ho.symm
        clear ho
        have e5 := hO 5 (by kernel_rfl)
        simp only [eval_tmp, List.getElem?_toArray, List.getElem?_cons_succ, List.getElem?_cons_zero, Option.getD_some] at e5
        have ev5 := Lib.hid ((eval_tmp FA 5).trans e5)
        clear hO hD
        go_simp
        exact hK.out _ _ (Ex.refl _) rfl
      apply Steps.one (MP.eq _) 10 rfl
      · intro o ho FA x hO hD K hK
        obtain rfl := Option.some.inj ho.symm
        clear ho
        have ev41 : FA.eval (.tmp 41) = _ := hD 7 41 (by kernel_rfl)
        have e41 := (eval_tmp FA 41).symm.trans ev41
        replace ev41 := Lib.hid ev41
        have ev42 : FA.eval (.tmp 42) = _ := hD 8 42 (by kernel_rfl)
        have e42 := (eval_tmp FA 42).symm.trans ev42
        replace ev42 := Lib.hid ev42
        clear hO hD
        go_simp
        exact hK.out _ _ (Ex.refl _) rfl
      apply Steps.one (MP.eq _) 11 rfl
      · intro o ho FA x hO hD K hK
        obtain rfl := Option.some.inj ho.symm
        clear ho
        have ev43 : FA.eval (.tmp 43) = _ := hD 9 43 (by kernel_rfl)
        have e43 := (eval_tmp FA 43).symm.trans ev43
        replace ev43 := Lib.hid ev43
        clear hO hD
        have q9 := (HC2.out _ (below_plus wr x.bs x.d))
        go_simp
        exact hK.out _ _ (Ex.refl _) rfl
      apply Steps.one (MP.eq _) 12 rfl
      · intro o ho FA x hO hD K hK
        obtain rfl := Option.some.inj ho.symm
        clear ho
        have ev44 : FA.eval (.tmp 44) = _ := hD 10 44 (by kernel_rfl)
        have e44 := (eval_tmp FA 44).symm.trans ev44
        replace ev44 := Lib.hid ev44
        clear hO hD
        have es := run_str bt Try.underlying9 (hrb2.plus_ x.bs x.d)
        go_simp
        exact hK.out _ _ (Ex.refl _) rfl
      apply Steps.one (MP.eq _) 13 rfl
      · intro o ho FA x hO hD K hK
        obtain rfl := Option.some.inj ho.symm
        clear ho
        have ev39 : FA.eval (.tmp 39) = _ := hD 5 39 (by kernel_rfl)
        have e39 := (eval_tmp FA 39).symm.trans ev39
        replace ev39 := Lib.hid ev39
        have ev45 : FA.eval (.tmp 45) = _ := hD 11 45 (by kernel_rfl)
        have e45 := (eval_tmp FA 45).symm.trans ev45
        replace ev45 := Lib.hid ev45
        clear hO hD
        go_simp
        exact hK.out _ _ (Ex.refl _) rfl
      refine Steps.fin_ (fun vs x hp => ?_)
      have p0 : vs 0 = _ := hp 0 (by omega)
      have p1 : vs 1 = _ := hp 1 (by omega)
      have p2 : vs 2 = _ := hp 2 (by omega)
      have p3 : vs 3 = _ := hp 3 (by omega)
      have p4 : vs 4 = _ := hp 4 (by omega)
      have p5 : vs 5 = _ := hp 5 (by omega)
      have p6 : vs 6 = _ := hp 6 (by omega)
      have p7 : vs 7 = _ := hp 7 (by omega)
      have p8 : vs 8 = _ := hp 8 (by omega)
      have p9 : vs 9 = _ := hp 9 (by omega)
      have p10 : vs 10 = _ := hp 10 (by omega)
      have p11 : vs 11 = _ := hp 11 (by omega)
      have p12 : vs 12 = _ := hp 12 (by omega)
      clear hp
      simp only [List.take_succ_cons, List.take_zero, List.drop_succ_cons, List.drop_zero, putAll, Nat.zero_add, Nat.reduceAdd, Act.put, List.setIfInBounds_toArray, List.set_cons_zero, List.set_cons_succ, p0, p1, p2, p3, p4, p5, p6, p7, p8, p9, p10, p11, p12]
      clear p0 p1 p2 p3 p4 p5 p6 p7 p8 p9 p10 p11 p12
      clear vs
      have bv2 := bv.trans ((below_plus wr x.bs x.d).mono bv.size)
      go_wp2
      exact ⟨⟨i + 1, by go_num, by omega, bv2⟩, by simp [intOf]; omega⟩
    · have ii : ¬ (i : Int) < (n : Int) := by omega
      clear hi
      go_wp2
      go_ret
      exact RetV.is_ rfl (be.trans (bv.mono be.size))
set_option maxHeartbeats 4000000 in
set_option maxRecDepth 100000 in
theorem recNone (g : Nat) (nu : Nat) (L : List (List UInt8)) (A : Option Addr) (n c : Nat) (w : World) (hf : Bk w g 133 [.pointer none]) (hr : RL w A n c L) (hn : n ≤ 1000000) (hR : rightM 1 L = true) : Calls Try.prog 69 #[.pointer (some ⟨g, 0, none⟩), .agg (msC 1 nu A n c).toArray] w (RetV w (.int .i64 6)) := by
  have HR := Lib.hid (fun w h => msgRight_any 1 nu L A n c w h hn)
  rw [hR] at HR
  have bf := hf
  obtain ⟨dvm1, vm1, vm2⟩ := rowFm
  have bm : Bk (w.alloc (.cells (msC 1 nu A n c).toArray 79)) w.heap.size 79 (msC 1 nu A n c) := Bk.new w 79 (msC 1 nu A n c).toArray
  have be : Below w.heap.size w (w.alloc (.cells (msC 1 nu A n c).toArray 79)) := Below.allocS (Below.refl _ _) _
  replace bf := (bf.alloc (.cells (msC 1 nu A n c).toArray 79))
  have zV : w.heap.size + 1 ≤ (w.alloc (.cells (msC 1 nu A n c).toArray 79)).heap.size := by simp
  go_enter Try.func69, Try.ntmps69
  go_upto_region 1 with (fail)
  generalize w.alloc (.cells (msC 1 nu A n c).toArray 79) = V at *
  replace hr := hr.later be
  have q0 : V.cell? ⟨w.heap.size, 0, none⟩ = some (.int .i64 1) := bm.cell 0
  go_upto_region 3 with (fail)
  refine wp_region_lit ?_
  refine wpList_ldA (t := 79) 79 (.tmp 3) rfl rfl (msC 1 nu A n c) rfl (bm) (whole_ _) vm1 vm2 (szFm _ _ _ _ _) ?_
  refine wpList_plain rfl (fun K hK => ?_)
  go_simp
  refine (HR.out _ hr).mono ?_
  rintro e w1 ⟨bs1, d1, rfl, rfl⟩
  with_reducible refine hK _ _ ?_
  clear hK K
  replace bm := bm.later (below_plus V bs1 d1)
  replace bf := bf.later (below_plus V bs1 d1)
  replace be := belowP be bs1 d1
  clear HR hr q0
  generalize plus V bs1 d1 = V at *
  have q0 : V.cell? ⟨w.heap.size, 0, none⟩ = some (.int .i64 1) := bm.cell 0
  go_upto_region 7 with (fail)
  refine wp_relS 17 92 rfl (by kernel_rfl) (by kernel_rfl) ?_
  apply Steps.one (MP.eq _) 1 rfl
  · intro o ho FA x hO hD K hK
    obtain rfl := Option.some.inj ho.symm
    clear ho
    have e0 := hO 0 (by kernel_rfl)
    simp only [eval_tmp, List.getElem?_toArray, List.getElem?_cons_succ, List.getElem?_cons_zero, Option.getD_some] at e0
    have ev0 := Lib.hid ((eval_tmp FA 0).trans e0)
    clear hO hD
    go_simp
    exact hK.out _ _ (Ex.refl _) rfl
  apply Steps.one (MP.eq _) 2 rfl
  · intro o ho FA x hO hD K hK
    obtain rfl := Option.some.inj ho.symm
    clear ho
    have ev27 : FA.eval (.tmp 27) = _ := hD 0 27 (by kernel_rfl)
    have e27 := (eval_tmp FA 27).symm.trans ev27
    replace ev27 := Lib.hid ev27
    clear hO hD
    go_simp
    exact hK.out _ _ (Ex.refl _) rfl
  apply Steps.one (MP.eq _) 3 rfl
  · intro o ho FA x hO hD K hK
    obtain rfl := Option.some.inj ho.symm
    clear ho
    have ev28 : FA.eval (.tmp 28) = _ := hD 1 28 (by kernel_rfl)
    have e28 := (eval_tmp FA 28).symm.trans ev28
    replace ev28 := Lib.hid ev28
    clear hO hD
    go_simp
    exact hK.out _ _ (Ex.refl _) rfl
  apply Steps.one (MP.eq _) 4 rfl
  · intro o ho FA x hO hD K hK
    obtain rfl := Option.some.inj ho.symm
    clear ho
    have ev29 : FA.eval (.tmp 29) = _ := hD 2 29 (by kernel_rfl)
    have e29 := (eval_tmp FA 29).symm.trans ev29
    replace ev29 := Lib.hid ev29
    clear hO hD
    have q9 := (bf.later (below_plus V x.bs x.d)).cell 0
    go_simp
    exact hK.out _ _ (Ex.refl _) rfl
  apply Steps.one (MP.eq _) 5 rfl
  · intro o ho FA x hO hD K hK
    obtain rfl := Option.some.inj ho.symm
    clear ho
    have ev30 : FA.eval (.tmp 30) = _ := hD 3 30 (by kernel_rfl)
    have e30 := (eval_tmp FA 30).symm.trans ev30
    replace ev30 := Lib.hid ev30
    clear hO hD
    go_simp
    exact hK.out _ _ (Ex.refl _) rfl
  apply Steps.one (MP.eq _) 6 rfl
  · intro o ho FA x hO hD K hK
    obtain rfl := Option.some.inj ho.symm
    clear ho
    have ev31 : FA.eval (.tmp 31) = _ := hD 4 31 (by kernel_rfl)
    have e31 := (eval_tmp FA 31).symm.trans ev31
    replace ev31 := Lib.hid ev31
    clear hO hD
    go_simp
    exact hK.out _ _ (Ex.refl _) rfl
  apply Steps.one (MP.eq _) 7 rfl
  · intro o ho FA x hO hD K hK
    obtain rfl := Option.some.inj ho.symm
    clear ho
    have e3 := hO 3 (by kernel_rfl)
    simp only [eval_tmp, List.getElem?_toArray, List.getElem?_cons_succ, List.getElem?_cons_zero, Option.getD_some] at e3
    have ev3 := Lib.hid ((eval_tmp FA 3).trans e3)
    have ev32 : FA.eval (.tmp 32) = _ := hD 5 32 (by kernel_rfl)
    have e32 := (eval_tmp FA 32).symm.trans ev32
    replace ev32 := Lib.hid ev32
    first | have ge32 := slot_of e32 | have ge32 := slot_un e32
    clear hO hD
    first | (go_simp; exact hK.out _ _ (Ex.refl _) rfl) | (rcases ge32 with ge32 | ge32 <;> (go_simp; exact hK.out _ _ (Ex.refl _) rfl))
  apply Steps.one (MP.eq _) 8 rfl
  · intro o ho FA x hO hD K hK
    obtain rfl := Option.some.inj ho.symm
    clear ho
    have ev33 : FA.eval (.tmp 33) = _ := hD 6 33 (by kernel_rfl)
    have e33 := (eval_tmp FA 33).symm.trans ev33
    replace ev33 := Lib.hid ev33
    have ev32 : FA.eval (.tmp 32) = _ := hD 5 32 (by kernel_rfl)
    have e32 := (eval_tmp FA 32).symm.trans ev32
    replace ev32 := Lib.hid ev32
    first | have ge32 := slot_of e32 | have ge32 := slot_un e32
    clear hO hD
    first | (go_simp; exact hK.out _ _ (Ex.refl _) rfl) | (rcases ge32 with ge32 | ge32 <;> (go_simp; exact hK.out _ _ (Ex.refl _) rfl))
  apply Steps.one (MP.eq _) 9 rfl
  · intro o ho FA x hO hD K hK
    obtain rfl := Option.some.inj ho.symm
    clear ho
    have e0 := hO 0 (by kernel_rfl)
    simp only [eval_tmp, List.getElem?_toArray, List.getElem?_cons_succ, List.getElem?_cons_zero, Option.getD_some] at e0
    have ev0 := Lib.hid ((eval_tmp FA 0).trans e0)
    have ev32 : FA.eval (.tmp 32) = _ := hD 5 32 (by kernel_rfl)
    have e32 := (eval_tmp FA 32).symm.trans ev32
    replace ev32 := Lib.hid ev32
    first | have ge32 := slot_of e32 | have ge32 := slot_un e32
    clear hO hD
    first | (go_simp; exact hK.out _ _ (Ex.refl _) rfl) | (rcases ge32 with ge32 | ge32 <;> (go_simp; exact hK.out _ _ (Ex.refl _) rfl))
  apply Steps.one (MP.eq _) 10 rfl
  · intro o ho FA x hO hD K hK
    obtain rfl := Option.some.inj ho.symm
    clear ho
    have ev35 : FA.eval (.tmp 35) = _ := hD 8 35 (by kernel_rfl)
    have e35 := (eval_tmp FA 35).symm.trans ev35
    replace ev35 := Lib.hid ev35
    have ev32 : FA.eval (.tmp 32) = _ := hD 5 32 (by kernel_rfl)
    have e32 := (eval_tmp FA 32).symm.trans ev32
    replace ev32 := Lib.hid ev32
    first | have ge32 := slot_of e32 | have ge32 := slot_un e32
    clear hO hD
    first | (go_simp; exact hK.out _ _ (Ex.refl _) rfl) | (rcases ge32 with ge32 | ge32 <;> (go_simp; exact hK.out _ _ (Ex.refl _) rfl))
  apply Steps.one (MP.eq _) 11 rfl
  · intro o ho FA x hO hD K hK
    obtain rfl := Option.some.inj ho.symm
    clear ho
    have ev36 : FA.eval (.tmp 36) = _ := hD 9 36 (by kernel_rfl)
    have e36 := (eval_tmp FA 36).symm.trans ev36
    replace ev36 := Lib.hid ev36
    have ev32 : FA.eval (.tmp 32) = _ := hD 5 32 (by kernel_rfl)
    have e32 := (eval_tmp FA 32).symm.trans ev32
    replace ev32 := Lib.hid ev32
    first | have ge32 := slot_of e32 | have ge32 := slot_un e32
    clear hO hD
    first | (go_simp; exact hK.out _ _ (Ex.refl _) rfl) | (rcases ge32 with ge32 | ge32 <;> (go_simp; exact hK.out _ _ (Ex.refl _) rfl))
  apply Steps.one (MP.eq _) 12 rfl
  · intro o ho FA x hO hD K hK
    obtain rfl := Option.some.inj ho.symm
    clear ho
    have ev37 : FA.eval (.tmp 37) = _ := hD 10 37 (by kernel_rfl)
    have e37 := (eval_tmp FA 37).symm.trans ev37
    replace ev37 := Lib.hid ev37
    have ev32 : FA.eval (.tmp 32) = _ := hD 5 32 (by kernel_rfl)
    have e32 := (eval_tmp FA 32).symm.trans ev32
    replace ev32 := Lib.hid ev32
    first | have ge32 := slot_of e32 | have ge32 := slot_un e32
    clear hO hD
    first | (go_simp; exact hK.out _ _ (Ex.refl _) rfl) | (rcases ge32 with ge32 | ge32 <;> (go_simp; exact hK.out _ _ (Ex.refl _) rfl))
  apply Steps.one (MP.eq _) 13 rfl
  · intro o ho FA x hO hD K hK
    obtain rfl := Option.some.inj ho.symm
    clear ho
    have ev38 : FA.eval (.tmp 38) = _ := hD 11 38 (by kernel_rfl)
    have e38 := (eval_tmp FA 38).symm.trans ev38
    replace ev38 := Lib.hid ev38
    have ev32 : FA.eval (.tmp 32) = _ := hD 5 32 (by kernel_rfl)
    have e32 := (eval_tmp FA 32).symm.trans ev32
    replace ev32 := Lib.hid ev32
    first | have ge32 := slot_of e32 | have ge32 := slot_un e32
    clear hO hD
    first | (go_simp; exact hK.out _ _ (Ex.refl _) rfl) | (rcases ge32 with ge32 | ge32 <;> (go_simp; exact hK.out _ _ (Ex.refl _) rfl))
  apply Steps.one (MP.eq _) 14 rfl
  · intro o ho FA x hO hD K hK
    obtain rfl := Option.some.inj ho.symm
    clear ho
    have ev39 : FA.eval (.tmp 39) = _ := hD 12 39 (by kernel_rfl)
    have e39 := (eval_tmp FA 39).symm.trans ev39
    replace ev39 := Lib.hid ev39
    have ev32 : FA.eval (.tmp 32) = _ := hD 5 32 (by kernel_rfl)
    have e32 := (eval_tmp FA 32).symm.trans ev32
    replace ev32 := Lib.hid ev32
    first | have ge32 := slot_of e32 | have ge32 := slot_un e32
    clear hO hD
    first | (go_simp; exact hK.out _ _ (Ex.refl _) rfl) | (rcases ge32 with ge32 | ge32 <;> (go_simp; exact hK.out _ _ (Ex.refl _) rfl))
  apply Steps.one (MP.eq _) 15 rfl
  · intro o ho FA x hO hD K hK
    obtain rfl := Option.some.inj ho.symm
    clear ho
    have ev40 : FA.eval (.tmp 40) = _ := hD 13 40 (by kernel_rfl)
    have e40 := (eval_tmp FA 40).symm.trans ev40
    replace ev40 := Lib.hid ev40
    have ev32 : FA.eval (.tmp 32) = _ := hD 5 32 (by kernel_rfl)
    have e32 := (eval_tmp FA 32).symm.trans ev32
    replace ev32 := Lib.hid ev32
    first | have ge32 := slot_of e32 | have ge32 := slot_un e32
    clear hO hD
    first | (go_simp; exact hK.out _ _ (Ex.refl _) rfl) | (rcases ge32 with ge32 | ge32 <;> (go_simp; exact hK.out _ _ (Ex.refl _) rfl))
  apply Steps.one (MP.eq _) 16 rfl
  · intro o ho FA x hO hD K hK
    obtain rfl := Option.some.inj ho.symm
    clear ho
    have ev34 : FA.eval (.tmp 34) = _ := hD 7 34 (by kernel_rfl)
    have e34 := (eval_tmp FA 34).symm.trans ev34
    replace ev34 := Lib.hid ev34
    have ev41 : FA.eval (.tmp 41) = _ := hD 14 41 (by kernel_rfl)
    have e41 := (eval_tmp FA 41).symm.trans ev41
    replace ev41 := Lib.hid ev41
    have ev32 : FA.eval (.tmp 32) = _ := hD 5 32 (by kernel_rfl)
    have e32 := (eval_tmp FA 32).symm.trans ev32
    replace ev32 := Lib.hid ev32
    first | have ge32 := slot_of e32 | have ge32 := slot_un e32
    clear hO hD
    first | (go_simp; exact hK.out _ _ (Ex.refl _) rfl) | (rcases ge32 with ge32 | ge32 <;> (go_simp; exact hK.out _ _ (Ex.refl _) rfl))
  apply Steps.one (MP.eq _) 17 rfl
  · intro o ho FA x hO hD K hK
    obtain rfl := Option.some.inj ho.symm
    clear ho
    have ev32 : FA.eval (.tmp 32) = _ := hD 5 32 (by kernel_rfl)
    have e32 := (eval_tmp FA 32).symm.trans ev32
    replace ev32 := Lib.hid ev32
    have ev42 : FA.eval (.tmp 42) = _ := hD 15 42 (by kernel_rfl)
    have e42 := (eval_tmp FA 42).symm.trans ev42
    replace ev42 := Lib.hid ev42
    clear hO hD
    go_simp
    exact hK.out _ _ (Ex.refl _) rfl
  refine Steps.fin_ (fun vs x hp => ?_)
  have p0 : vs 0 = _ := hp 0 (by omega)
  have p1 : vs 1 = _ := hp 1 (by omega)
  have p2 : vs 2 = _ := hp 2 (by omega)
  have p3 : vs 3 = _ := hp 3 (by omega)
  have p4 : vs 4 = _ := hp 4 (by omega)
  have p5 : vs 5 = _ := hp 5 (by omega)
  have p6 : vs 6 = _ := hp 6 (by omega)
  have p7 : vs 7 = _ := hp 7 (by omega)
  have p8 : vs 8 = _ := hp 8 (by omega)
  have p9 : vs 9 = _ := hp 9 (by omega)
  have p10 : vs 10 = _ := hp 10 (by omega)
  have p11 : vs 11 = _ := hp 11 (by omega)
  have p12 : vs 12 = _ := hp 12 (by omega)
  have p13 : vs 13 = _ := hp 13 (by omega)
  have p14 : vs 14 = _ := hp 14 (by omega)
  have p15 : vs 15 = _ := hp 15 (by omega)
  have p16 : vs 16 = _ := hp 16 (by omega)
  clear hp
  simp only [List.take_succ_cons, List.take_zero, List.drop_succ_cons, List.drop_zero, putAll, Nat.zero_add, Nat.reduceAdd, Act.put, List.setIfInBounds_toArray, List.set_cons_zero, List.set_cons_succ, p0, p1, p2, p3, p4, p5, p6, p7, p8, p9, p10, p11, p12, p13, p14, p15, p16]
  clear p0 p1 p2 p3 p4 p5 p6 p7 p8 p9 p10 p11 p12 p13 p14 p15 p16
  clear vs
  go_wp2
  go_ret
  exact RetV.is_ rfl (belowP be _ _)
set_option maxHeartbeats 4000000 in
set_option maxRecDepth 100000 in
theorem recAck (g : Nat) (w : World) : Calls Try.prog 69 #[.pointer (some ⟨g, 0, none⟩), .agg (msC 3 0 none 0 0).toArray] w (RetV w (.int .i64 1)) := by
  have hR : rightM 3 [] = true := rfl
  have hr : RL w none 0 0 [] := ⟨[], PtOk.nil_ w, Rs.nil_⟩
  have HR := Lib.hid (fun w h => msgRight_any 3 0 [] none 0 0 w h (by omega))
  rw [hR] at HR
  obtain ⟨dvm1, vm1, vm2⟩ := rowFm
  have bm : Bk (w.alloc (.cells (msC 3 0 none 0 0).toArray 79)) w.heap.size 79 (msC 3 0 none 0 0) := Bk.new w 79 (msC 3 0 none 0 0).toArray
  have be : Below w.heap.size w (w.alloc (.cells (msC 3 0 none 0 0).toArray 79)) := Below.allocS (Below.refl _ _) _
  have zV : w.heap.size + 1 ≤ (w.alloc (.cells (msC 3 0 none 0 0).toArray 79)).heap.size := by simp
  go_enter Try.func69, Try.ntmps69
  go_upto_region 1 with (fail)
  generalize w.alloc (.cells (msC 3 0 none 0 0).toArray 79) = V at *
  replace hr := hr.later be
  have q0 : V.cell? ⟨w.heap.size, 0, none⟩ = some (.int .i64 3) := bm.cell 0
  go_upto_region 3 with (fail)
  refine wp_region_lit ?_
  refine wpList_ldA (t := 79) 79 (.tmp 3) rfl rfl (msC 3 0 none 0 0) rfl (bm) (whole_ _) vm1 vm2 (szFm _ _ _ _ _) ?_
  refine wpList_plain rfl (fun K hK => ?_)
  go_simp
  refine (HR.out _ hr).mono ?_
  rintro e w1 ⟨bs1, d1, rfl, rfl⟩
  with_reducible refine hK _ _ ?_
  clear hK K
  replace bm := bm.later (below_plus V bs1 d1)
  replace be := belowP be bs1 d1
  clear HR hr q0
  generalize plus V bs1 d1 = V at *
  have q0 : V.cell? ⟨w.heap.size, 0, none⟩ = some (.int .i64 3) := bm.cell 0
  go_wp2
  go_ret
  exact RetV.is_ rfl be
end Go.Proofs.Ytepodflinhpejaa

/- codec.takeAddr, takeMembers (chapter 23). -/
namespace Go.Proofs.Ytepodflinhpejaa
open Go.RowKit
set_option linter.unusedVariables false
set_option linter.unusedSimpArgs false
attribute [local go_sem ↓] sliced_cut

attribute [local go_sem] cutA_zero

theorem RP.low {w w' : World} {r : Nat} {s : StB} (h : RP w r s) (hb : Below (r + 1) w w') : RP w' r s := by
  cases s <;> (obtain ⟨A, n, c, h1, h2, h3, h4⟩ := h; exact ⟨A, n, c, (hb.block r (by omega)).trans h1, h2, h3, h4.below ⟨hb.os, hb.tape, hb.output, hb.size, fun k hk => hb.block k (by omega)⟩⟩)
theorem numL (l : List UInt8) (n k : Nat) (h : l.length ≤ n) (hk : 256 ^ n ≤ k) : num l < k := Nat.lt_of_lt_of_le (num_lt n l h) hk
end Go.Proofs.Ytepodflinhpejaa

