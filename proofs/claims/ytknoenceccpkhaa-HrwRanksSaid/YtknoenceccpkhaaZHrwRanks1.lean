/- Texts of the law HrwRanks, part 1. -/
import Derived.ProofKit
import Derived.OpenShut
import Derived.Below
import Derived.WalkKit
import Derived.WalkSpells
import Derived.Laws.OwnMore
import Derived.Deep.Draws
import Derived.Laws.Rows
import Derived.Lib.Hide
import Derived.Maps.AppendAt
import Derived.Deep.AppendLies
import Derived.Deep.QuietTactic
import Derived.BigQuiet
import Derived.ChangeSlices
import Derived.Deep.Fields
import Derived.Laws.CopyOwn
import Derived.StillTailTactics
import Derived.Deep.MidRow
import Derived.Deep.RegionHeld3
import Derived.Deep.Upon
import Derived.Deep.AppendSrc
import Derived.WalkLawsBesides
import Derived.Outline
import Derived.Deep.RegionLaw
import Derived.Deep.DeepCutAuto
import Derived.Deep.RegionWith
import Derived.Deep.RegionHeld
import Derived.Laws.Cover3
import Derived.Stop.BytesEq
import Derived.Deep.SlicePairs
import Derived.Lib.SlBytesConst
import Derived.Test.YtknoenceccpkhaaRows
/- From a walk to the row of a law: whatever the arguments, the call returns true and changes nothing that was there. -/
namespace Go.Proofs.Ytknoenceccpkhaa
open Go.ChangeShapes Go.WideShapes Go.ChangeAt Go.RowKit

/-- All arguments read behind the call as they did before it. -/
theorem trodAll_below {H : Type} {enc : TypeId × Value → H} {P : Program} (hl : laidOutB P = true) {W W' : World} (hb : Below W.heap.size W W') :
    ∀ {ts : List TypeId} {vs : List Value} {ds : List (DataW H)} {ps : List MemPlace}, (ts.all fun t => P.readableRec t && decide (t < P.types.size)) = true →
      DataW.TrodAll enc P W 0 (fun _ => true) true ts vs ds ps → DataW.TrodAll enc P W' 0 (fun b => decide (b < W.heap.size)) true ts vs ds ps
  | [], vs, ds, ps, _, h => by
    obtain ⟨rfl, rfl, rfl⟩ := trodAll_nil h
    exact trodAll_mk0
  | t :: ts, vs, ds, ps, hr, h => by
    obtain ⟨v, vs', d, ds', p, q, rfl, rfl, rfl, h0, hs⟩ := trodAll_cons h
    simp only [List.all_cons, Bool.and_eq_true, decide_eq_true_eq] at hr
    have lt0 : ∀ x ∈ p, x.block < W.heap.size := by
      obtain ⟨m, hm⟩ := h0
      exact DataW.trod_lt m _ _ _ hm
    exact trodAll_cons_mk (Below.trod hl hr.1.1 hr.1.2 h0 hb lt0) (trodAll_below hl hb (by simpa using hr.2) hs)

/-- The lift: the law's walk, for every world and all arguments that can be read, gives what the row asks. -/
theorem lift {C : Checked} {os : Os} {f : FuncId} {fn : Func} {s : ChangeSpec} {H : Type} {enc : TypeId × Value → H} {tb : TypeId} (n : Nat)
    (own : ownKnob C.prog.godebug = none) (started : os.Started) (noInit : C.prog.inits.idxOf? f = none) (hfn : C.prog.funcs[f]? = some fn)
    (witness : ∃ (w : World) (tape : Tape) (i : Input), w.os = os ∧ (w.forCall tape i).Shaped C.prog ∧ i.vars = [] ∧ Input.okWide C.prog (w.forCall tape i) .any w.heap.size f i ∧
      s.pre6 enc C.prog fn [] false (w.forCall tape i).memory i.args ∧ ({} : Assume).holds C.prog (lone (Frame.enter C.prog f i.args .normal) [] (w.forCall tape i)))
    (hl : laidOutB C.prog = true) (hrd : (fn.params.toList.all fun t => C.prog.readableRec t && decide (t < C.prog.types.size)) = true)
    (htb : C.prog.underlying tb = some .bool) (hres : fn.resultTypes = #[tb]) (hn : fn.params.toList.length = n) (hvars : s.vars = [])
    (hspec : ∀ ds : List (DataW H), ds.length = n → (s.fn H ds).results = [.lit (.bool true)] ∧ (s.fn H ds).args = ds ∧ (s.fn H ds).vars = [])
    (walk : ∀ (W : World) (base : Nat) (args : Array Value) (ds : List (DataW H)) (ps : List MemPlace),
      (∀ (j : Nat) t v, fn.params[j]? = some t → args[j]? = some v → Value.okWide C.prog W .any base t v) →
      DataW.TrodAll enc C.prog W 0 (fun _ => true) true fn.params.toList args.toList ds ps →
      Calls C.prog f args W fun e W' => e = .returned (.bool true) ∧ Below W.heap.size W W') :
    ReturnsInHanded {} C os f .any (s.pre6 enc C.prog fn [] false) (s.post enc C.prog fn false true false false) := by
  refine returnsInHanded_of_change (C := C) own started noInit hfn witness ?_
  intro W base args ds gs before hval hW _ _
  have hW' := hW
  obtain ⟨p, q, hA, hV, rfl, _, _⟩ := hW
  rw [hvars] at hV
  obtain ⟨rfl, rfl⟩ := trodVars_none hV
  have hlen : ds.length = n := by
    have aux : ∀ {ts : List TypeId} {vs : List Value} {ds : List (DataW H)} {ps : List MemPlace}, DataW.TrodAll enc C.prog W 0 (fun _ => true) true ts vs ds ps → ds.length = ts.length := by
      intro ts
      induction ts with
      | nil => intro vs ds ps h; obtain ⟨_, rfl, _⟩ := trodAll_nil h; rfl
      | cons t ts ih =>
        intro vs ds ps h
        obtain ⟨v, vs', d, ds', p, q, rfl, rfl, rfl, _, hs⟩ := trodAll_cons h
        simp [ih hs]
    rw [aux hA, hn]
  obtain ⟨r1, r2, r3⟩ := hspec ds hlen
  refine (walk W base args ds p hval hA).mono fun e W' ⟨he, bel⟩ => ?_
  subst he
  refine ⟨_, rfl, ds, [], p ++ [], [], p, [], hW', ?_, ?_, ?_, bel.frame _, fun h => by cases h⟩
  · simp only [List.append_nil, r1, hres]
    exact trodAll_mk1 (shut_bool htb _)
  · simp only [List.append_nil, r2]
    exact trodAll_below hl bel hrd hA
  · simp only [List.append_nil, r3, hvars]
    rfl
end Go.Proofs.Ytknoenceccpkhaa

/- The plain law of HrwKeeps: the least of scored members (descending score, ascending number) hangs on no order, and stays if another one goes. No program in sight. -/
namespace Go.Proofs.Ytknoenceccpkhaa
set_option linter.unusedVariables false

/-- three ways: cmp.Compare of ints -/
def cmp3 (a b : Int) : Int := if a < b then -1 else if b < a then 1 else 0
/-- ahead: descending score, ascending number -/
def aheadI (p q : Int × Int) : Int := if cmp3 q.2 p.2 = 0 then cmp3 p.1 q.1 else cmp3 q.2 p.2
def ltS (a b : Int × Int) : Prop := b.2 < a.2 ∨ a.2 = b.2 ∧ a.1 < b.1
theorem ahead_lt (a b : Int × Int) : aheadI a b < 0 ↔ ltS a b := by
  unfold aheadI ltS cmp3
  repeat' split
  all_goals omega
/-- the pick, from a first one on -/
def pickS (m : Int × Int) : List (Int × Int) → Int × Int
  | [] => m
  | y :: t => pickS (if aheadI y m < 0 then y else m) t
theorem pickS_spec : ∀ (L : List (Int × Int)) (m : Int × Int), pickS m L ∈ m :: L ∧ ∀ z ∈ m :: L, ¬ ltS z (pickS m L)
  | [], m => ⟨by simp [pickS], fun z hz => by simp only [List.mem_cons, List.not_mem_nil, or_false] at hz; subst hz; unfold ltS pickS; omega⟩
  | y :: t, m => by
    obtain ⟨h1, h2⟩ := pickS_spec t (if aheadI y m < 0 then y else m)
    rw [show pickS m (y :: t) = pickS (if aheadI y m < 0 then y else m) t from rfl]
    generalize pickS (if aheadI y m < 0 then y else m) t = r at *
    by_cases hy : aheadI y m < 0
    · rw [if_pos hy] at h1 h2
      have hlt := (ahead_lt y m).1 hy
      have h3 := h2 y (by simp)
      refine ⟨List.mem_cons_of_mem _ h1, fun z hz => ?_⟩
      rcases List.mem_cons.1 hz with rfl | hz
      · unfold ltS at hlt h3 ⊢; omega
      · exact h2 z hz
    · rw [if_neg hy] at h1 h2
      have hlt : ¬ ltS y m := fun e => hy ((ahead_lt y m).2 e)
      have h3 := h2 m (by simp)
      refine ⟨?_, fun z hz => ?_⟩
      · rcases List.mem_cons.1 h1 with h | h
        · exact h ▸ List.mem_cons_self ..
        · exact List.mem_cons_of_mem _ (List.mem_cons_of_mem _ h)
      · rcases List.mem_cons.1 hz with rfl | hz
        · exact h3
        · rcases List.mem_cons.1 hz with rfl | hz
          · unfold ltS at hlt h3 ⊢; omega
          · exact h2 z (List.mem_cons_of_mem _ hz)
/-- the choice among scored members -/
def pk : List (Int × Int) → Int × Bool
  | [] => (0, false)
  | m :: t => ((pickS m t).1, true)
theorem pk_of {L : List (Int × Int)} {r : Int × Int} (h1 : r ∈ L) (h2 : ∀ z ∈ L, ¬ ltS z r) : pk L = (r.1, true) := by
  match L, h1, h2 with
  | m :: t, h1, h2 =>
    obtain ⟨h3, h4⟩ := pickS_spec t m
    have a := h2 _ h3
    have b := h4 _ h1
    show ((pickS m t).1, true) = _
    unfold ltS at a b
    have : (pickS m t).1 = r.1 := by omega
    rw [this]
/-- the scored members of a list -/
def scd (S : Int × Int → Int) : List (Int × Int) → List (Int × Int)
  | [] => []
  | m :: t => if 0 < m.2 then (m.1, S m) :: scd S t else scd S t
theorem scd_append (S : Int × Int → Int) : ∀ a b, scd S (a ++ b) = scd S a ++ scd S b
  | [], b => rfl
  | m :: t, b => by
    simp only [List.cons_append, scd]
    split
    · rw [scd_append S t b]; rfl
    · exact scd_append S t b
end Go.Proofs.Ytknoenceccpkhaa

/- Plain law of ranking (chapter 16): one by one put in. No program in sight. -/
namespace Go.Proofs.Ytknoenceccpkhaa
set_option linter.unusedVariables false
set_option linter.unusedSimpArgs false

/-- where x goes among the first k of S, looked for from the right -/
def posL (S : List (Int × Int)) (x : Int × Int) : Nat → Nat
  | 0 => 0
  | k + 1 => if aheadI x (S.getD k (0, 0)) < 0 then posL S x k else k + 1
theorem posL_le (S : List (Int × Int)) (x : Int × Int) : ∀ k, posL S x k ≤ k
  | 0 => Nat.le_refl _
  | k + 1 => by have := posL_le S x k; unfold posL; split <;> omega
theorem posL_congr (S S' : List (Int × Int)) (x : Int × Int) : ∀ k, (∀ i, i < k → S.getD i (0, 0) = S'.getD i (0, 0)) → posL S x k = posL S' x k
  | 0, _ => rfl
  | k + 1, h => by
    unfold posL
    rw [h k (by omega), posL_congr S S' x k (fun i hi => h i (by omega))]
def insL (S : List (Int × Int)) (x : Int × Int) : List (Int × Int) := S.take (posL S x S.length) ++ x :: S.drop (posL S x S.length)
theorem insL_len (S : List (Int × Int)) (x : Int × Int) : (insL S x).length = S.length + 1 := by
  have := posL_le S x S.length
  unfold insL
  simp
  omega
def srtL (Q : List (Int × Int)) : List (Int × Int) := Q.foldl insL []
theorem srtL_snoc (Q : List (Int × Int)) (x : Int × Int) : srtL (Q ++ [x]) = insL (srtL Q) x := by simp [srtL]
theorem srtL_len (Q : List (Int × Int)) : (srtL Q).length = Q.length := by
  have aux : ∀ (Q S : List (Int × Int)), (Q.foldl insL S).length = S.length + Q.length := by
    intro Q
    induction Q with
    | nil => intro S; simp
    | cons x Q ih => intro S; rw [List.foldl_cons, ih, insL_len]; simp; omega
  have := aux Q []
  simpa [srtL] using this
/-- one element sinks to its place -/
def sinkL : Nat → List (Int × Int) → List (Int × Int)
  | 0, P => P
  | j + 1, P => if aheadI (P.getD (j + 1) (0, 0)) (P.getD j (0, 0)) < 0 then sinkL j ((P.set (j + 1) (P.getD j (0, 0))).set j (P.getD (j + 1) (0, 0))) else P
theorem sinkL_eq : ∀ (A B : List (Int × Int)) (x : Int × Int) (j : Nat), A.length = j → sinkL j (A ++ x :: B) = A.take (posL A x j) ++ x :: (A.drop (posL A x j) ++ B) := by
  intro A B x j
  induction j generalizing A B with
  | zero =>
    intro h
    have : A = [] := List.eq_nil_of_length_eq_zero h
    subst this
    rfl
  | succ j ih =>
    intro h
    rcases List.eq_nil_or_concat A with rfl | ⟨A', y, rfl⟩
    · simp at h
    · simp only [List.concat_eq_append] at *
      have hl : A'.length = j := by simpa using h
      have g1 : ((A' ++ [y]) ++ x :: B).getD (j + 1) (0, 0) = x := by simp [List.getD_eq_getElem?_getD, ← hl]
      have g0 : ((A' ++ [y]) ++ x :: B).getD j (0, 0) = y := by simp [List.getD_eq_getElem?_getD, ← hl]
      have g2 : (A' ++ [y]).getD j (0, 0) = y := by simp [List.getD_eq_getElem?_getD, ← hl]
      have hp : posL (A' ++ [y]) x j = posL A' x j := posL_congr _ _ _ _ (fun i hi => by
        have : i < A'.length := by omega
        simp [List.getD_eq_getElem?_getD, List.getElem?_append_left this])
      have hle := posL_le A' x j
      unfold sinkL posL
      rw [g1, g0, g2, hp]
      split
      · have e : (((A' ++ [y]) ++ x :: B).set (j + 1) y).set j x = A' ++ x :: (y :: B) := by
          rw [List.append_assoc]
          rw [List.set_append_right _ _ (by omega), hl, show j + 1 - j = 1 by omega]
          rw [List.set_append_right _ _ (by omega), hl, Nat.sub_self]
          rfl
        rw [e, ih A' (y :: B) hl]
        rw [List.take_append_of_le_length (by omega), List.drop_append_of_le_length (by omega)]
        simp
      · rw [show j + 1 = (A' ++ [y]).length by simp [hl], List.take_length, List.drop_length]
        simp
/-- the first i + 1 put in order -/
theorem sink_srt (P : List (Int × Int)) (i : Nat) (hi : i < P.length) : sinkL i (srtL (P.take i) ++ P.drop i) = srtL (P.take (i + 1)) ++ P.drop (i + 1) := by
  have hl : (srtL (P.take i)).length = i := by rw [srtL_len, List.length_take]; omega
  rw [List.drop_eq_getElem_cons hi, sinkL_eq _ _ _ _ hl, List.take_succ_eq_append_getElem hi, srtL_snoc]
  unfold insL
  rw [hl]
  simp
theorem ltS_asymm {a b : Int × Int} (h : ltS a b) : ¬ ltS b a := by unfold ltS at *; omega
theorem ltS_neg {a b c : Int × Int} (h : ¬ ltS b a) (h' : ¬ ltS c b) : ¬ ltS c a := by unfold ltS at *; omega
theorem posL_spec (S : List (Int × Int)) (x : Int × Int) : ∀ k, k ≤ S.length → (∀ i, posL S x k ≤ i → i < k → ltS x (S.getD i (0, 0))) ∧ (0 < posL S x k → ¬ ltS x (S.getD (posL S x k - 1) (0, 0)))
  | 0, _ => ⟨fun i h1 h2 => by omega, fun h => absurd h (by simp [posL])⟩
  | k + 1, hk => by
    have ih := posL_spec S x k (by omega)
    unfold posL
    split
    · next h =>
      refine ⟨fun i h1 h2 => ?_, ih.2⟩
      by_cases e : i = k
      · subst e; exact (ahead_lt _ _).1 h
      · exact ih.1 i h1 (by omega)
    · next h =>
      refine ⟨fun i h1 h2 => by omega, fun _ => ?_⟩
      rw [Nat.add_sub_cancel]
      exact fun hl => h ((ahead_lt _ _).2 hl)
/-- in order -/
def Srt (S : List (Int × Int)) : Prop := ∀ i j, i < j → j < S.length → ¬ ltS (S.getD j (0, 0)) (S.getD i (0, 0))
theorem getD_ins (S : List (Int × Int)) (x : Int × Int) (k i : Nat) (hk : k ≤ S.length) : (S.take k ++ x :: S.drop k).getD i (0, 0) = if i < k then S.getD i (0, 0) else if i = k then x else S.getD (i - 1) (0, 0) := by
  have hl : (S.take k).length = k := by rw [List.length_take]; omega
  rw [List.getD_eq_getElem?_getD]
  by_cases h : i < k
  · rw [if_pos h, List.getElem?_append_left (by omega), List.getElem?_take, if_pos h, List.getD_eq_getElem?_getD]
  · rw [if_neg h, List.getElem?_append_right (by omega), hl]
    by_cases e : i = k
    · rw [if_pos e, e, Nat.sub_self]; rfl
    · rw [if_neg e, show i - k = (i - k - 1) + 1 by omega, List.getElem?_cons_succ, List.getElem?_drop, List.getD_eq_getElem?_getD, show k + (i - k - 1) = i - 1 by omega]
theorem Srt.ins {S : List (Int × Int)} (h : Srt S) (x : Int × Int) : Srt (insL S x) := by
  obtain ⟨h1, h2⟩ := posL_spec S x S.length (Nat.le_refl _)
  have hk := posL_le S x S.length
  intro i j hij hj
  rw [insL_len] at hj
  unfold insL
  rw [getD_ins _ _ _ _ hk, getD_ins _ _ _ _ hk]
  generalize posL S x S.length = k at *
  have hbef : ∀ i, i < k → ¬ ltS x (S.getD i (0, 0)) := by
    intro i hi
    by_cases e : i = k - 1
    · subst e; exact h2 (by omega)
    · exact ltS_neg (h i (k - 1) (by omega) (by omega)) (h2 (by omega))
  by_cases ci : i < k
  · rw [if_pos ci]
    by_cases cj : j < k
    · rw [if_pos cj]; exact h i j hij (by omega)
    · rw [if_neg cj]
      by_cases ej : j = k
      · rw [if_pos ej]; exact hbef i ci
      · rw [if_neg ej]; exact h i (j - 1) (by omega) (by omega)
  · rw [if_neg ci, if_neg (show ¬ j < k by omega), if_neg (show ¬ j = k by omega)]
    by_cases ei : i = k
    · rw [if_pos ei]; exact ltS_asymm (h1 (j - 1) (by omega) (by omega))
    · rw [if_neg ei]; exact h (i - 1) (j - 1) (by omega) (by omega)
theorem mem_insL {S : List (Int × Int)} {x z : Int × Int} : z ∈ insL S x ↔ z = x ∨ z ∈ S := by
  unfold insL
  rw [List.mem_append, List.mem_cons]
  have : z ∈ S ↔ z ∈ S.take (posL S x S.length) ∨ z ∈ S.drop (posL S x S.length) := by
    rw [← List.mem_append, List.take_append_drop]
  rw [this]
  constructor
  · rintro (h | h | h)
    · exact .inr (.inl h)
    · exact .inl h
    · exact .inr (.inr h)
  · rintro (h | h | h)
    · exact .inr (.inl h)
    · exact .inl h
    · exact .inr (.inr h)
theorem srtL_srt (Q : List (Int × Int)) : Srt (srtL Q) := by
  have aux : ∀ (Q S : List (Int × Int)), Srt S → Srt (Q.foldl insL S) := by
    intro Q
    induction Q with
    | nil => intro S h; exact h
    | cons x Q ih => intro S h; exact ih _ (h.ins x)
  exact aux Q [] (fun i j _ hj => by simp at hj)
theorem srtL_mem (Q : List (Int × Int)) (z : Int × Int) : z ∈ srtL Q ↔ z ∈ Q := by
  have aux : ∀ (Q S : List (Int × Int)), z ∈ Q.foldl insL S ↔ z ∈ S ∨ z ∈ Q := by
    intro Q
    induction Q with
    | nil => intro S; simp
    | cons x Q ih =>
      intro S
      rw [List.foldl_cons, ih, mem_insL, List.mem_cons]
      constructor
      · rintro ((h | h) | h)
        · exact .inr (.inl h)
        · exact .inl h
        · exact .inr (.inr h)
      · rintro (h | h | h)
        · exact .inl (.inr h)
        · exact .inl (.inl h)
        · exact .inr h
  rw [srtL, aux]; simp
/-- the first one is whom Pick chooses -/
theorem srtL_head (Q : List (Int × Int)) (h : 0 < Q.length) : pk Q = (((srtL Q).getD 0 (0, 0)).1, true) := by
  have hl := srtL_len Q
  have h0 : (srtL Q).getD 0 (0, 0) ∈ srtL Q := by
    rw [List.getD_eq_getElem?_getD, List.getElem?_eq_getElem (by omega), Option.getD_some]
    exact List.getElem_mem _
  refine pk_of ((srtL_mem Q _).1 h0) (fun z hz => ?_)
  obtain ⟨j, hj, rfl⟩ := List.getElem_of_mem ((srtL_mem Q z).2 hz)
  have e : (srtL Q)[j] = (srtL Q).getD j (0, 0) := by rw [List.getD_eq_getElem?_getD, List.getElem?_eq_getElem hj, Option.getD_some]
  rw [e]
  by_cases ej : j = 0
  · subst ej; exact fun hl => ltS_asymm hl hl
  · exact srtL_srt Q 0 j (by omega) hj
end Go.Proofs.Ytknoenceccpkhaa

/- Words for memory: a slice that reads as a list of cells; a block that is known whole; bytes. No program in sight. -/
namespace Go.Proofs.Ytknoenceccpkhaa
open Go.RowKit Go.ChangeShapes Go.WideShapes
set_option linter.unusedVariables false
set_option linter.unusedSimpArgs false

/-- the cells of bytes -/
def bcs (l : List UInt8) : List Value := l.map fun b => .int .u8 (b.toNat : Int)
theorem bcs_length (l : List UInt8) : (bcs l).length = l.length := by simp [bcs]
theorem bcs_append (a b : List UInt8) : bcs (a ++ b) = bcs a ++ bcs b := by simp [bcs]
theorem bcs_take (l : List UInt8) (n : Nat) : (bcs l).take n = bcs (l.take n) := by simp [bcs, List.map_take]
theorem bcs_drop (l : List UInt8) (n : Nat) : (bcs l).drop n = bcs (l.drop n) := by simp [bcs, List.map_drop]
theorem bcs_one (l : List UInt8) : ∀ u ∈ bcs l, u.oneCell' = true := by
  intro u hu
  simp only [bcs, List.mem_map] at hu
  obtain ⟨b, _, rfl⟩ := hu
  rfl
theorem bcs_get (l : List UInt8) (i : Nat) (h : i < l.length) : (bcs l)[i]? = some (.int .u8 (l[i].toNat : Int)) := by simp [bcs, h]
theorem bcs_nil {l : List UInt8} (h : bcs l = []) : l = [] := by simpa [bcs] using h

/-- A slice whose array lies at A reads as the cells cs; its block is below B. -/
def Rd (w : World) (B : Nat) (A : Option Addr) (cs : List Value) : Prop :=
  cs = [] ∨ ∃ b off, A = some ⟨b, off, none⟩ ∧ b < B ∧ ∀ i u, cs[i]? = some u → w.cell? ⟨b, off + i, none⟩ = some u

/-- where a cut lies -/
def cutA (A : Option Addr) (c k s : Nat) : Option Addr := if c = k then A else A.map (·.add (k * s))
theorem sliced_cut (a : Option Addr) (l h m s : Nat) : sliced a l h m s = .slice (cutA a m l s) (h - l) (m - l) := rfl
section
variable {w w' : World} {B B' : Nat} {A : Option Addr} {cs : List Value}
theorem Rd.keep (h : Rd w B A cs) (hk : ∀ p : Addr, p.block < B → w'.cell? p = w.cell? p) : Rd w' B A cs := by
  rcases h with h | ⟨b, off, hA, hb, hc⟩
  · exact .inl h
  · exact .inr ⟨b, off, hA, hb, fun i u hu => (hk _ hb).trans (hc i u hu)⟩
theorem Rd.more (h : Rd w B A cs) (hB : B ≤ B') : Rd w B' A cs := by
  rcases h with h | ⟨b, off, hA, hb, hc⟩
  · exact .inl h
  · exact .inr ⟨b, off, hA, by omega, hc⟩
theorem Rd.below (h : Rd w B A cs) (hb : Below B w w') : Rd w' B A cs := h.keep fun _ hp => hb.cell hp
theorem Rd.drew (h : Rd w B A cs) : Rd w.drew B A cs := h
theorem Rd.drewN (h : Rd w B A cs) (k : Nat) : Rd (w.drewN k) B A cs := h
theorem Rd.alloc (h : Rd w B A cs) (hB : B ≤ w.heap.size) (o : Obj) : Rd (w.alloc o) B A cs := h.keep fun p hp => World.cell?_alloc_lt w o p (by omega)
theorem Rd.setCell (h : Rd w B A cs) {p : Addr} (hB : B ≤ p.block) (u : Value) : Rd (w.setCell p u) B A cs :=
  h.keep fun q hq => World.cell?_setCell_other w p q u (fun e => by subst e; omega)
theorem Rd.grown (h : Rd w B A cs) {row : Option Nat} (hg : w.grownBy w' row) (hB : B ≤ w.heap.size) (hr : ∀ g, row = some g → B ≤ g) : Rd w' B A cs :=
  h.keep fun p hp => World.cell?_of_block (hg.block p.block (by omega) (fun e => by have := hr _ e.symm; omega))
theorem Rd.take (h : Rd w B A cs) (n : Nat) : Rd w B A (cs.take n) := by
  rcases h with h | ⟨b, off, hA, hb, hc⟩
  · exact .inl (by simp [h])
  · refine .inr ⟨b, off, hA, hb, fun i u hu => hc i u ?_⟩
    rw [List.getElem?_take] at hu
    split at hu
    · exact hu
    · cases hu
theorem Rd.cut (h : Rd w B A cs) {c k : Nat} (hc : cs.length ≤ c) : Rd w B (cutA A c k 1) (cs.drop k) := by
  by_cases hk : cs.length ≤ k
  · exact .inl (List.drop_eq_nil_of_le hk)
  rcases h with h | ⟨b, off, hA, hb, hcell⟩
  · exact .inl (by simp [h])
  · refine .inr ⟨b, off + k, ?_, hb, fun i u hu => ?_⟩
    · subst hA
      simp only [cutA, if_neg (show ¬ c = k by omega), Option.map_some, Addr.add, Nat.mul_one]
      split
      · simp_all
      · rfl
    · rw [Nat.add_assoc]
      rw [List.getElem?_drop] at hu
      exact hcell _ _ hu
theorem Rd.of_own {base : Nat} {e : TypeId} {n c : Nat} (h : w.ownsRow base e 1 (.slice A n c) n cs) : Rd w w.heap.size A cs := by
  rcases Nat.eq_zero_or_pos n with h0 | h0
  · subst h0
    exact .inl (List.eq_nil_of_length_eq_zero (by simpa using h.1))
  · obtain ⟨g, cap, hv, _, hlt⟩ := h.form h0
    have hA : A = some ⟨g, 0, none⟩ := by injection hv
    subst hA
    refine .inr ⟨g, 0, rfl, hlt, fun i u hu => ?_⟩
    have := h.cells (g := g) rfl i u hu
    have hplain : (⟨g, 0, none⟩ : Addr).add i = ⟨g, 0 + i, none⟩ := by unfold Addr.add; split <;> simp_all
    rwa [hplain] at this
/-- Where there is an element the address is known. -/
theorem Rd.at_ (h : Rd w B A cs) (hn : 0 < cs.length) : ∃ b off, A = some ⟨b, off, none⟩ ∧ b < B ∧ ∀ i u, cs[i]? = some u → w.cell? ⟨b, off + i, none⟩ = some u := by
  rcases h with h | h
  · subst h; simp at hn
  · exact h
end

theorem add_plain (b off i : Nat) : (⟨b, off, none⟩ : Addr).add i = ⟨b, off + i, none⟩ := by unfold Addr.add; split <;> simp_all
theorem lt_of_cell {w : World} {a : Addr} {v : Value} (h : w.cell? a = some v) : a.block < w.heap.size := by
  rcases Nat.lt_or_ge a.block w.heap.size with h' | h'
  · exact h'
  · simp [World.cell?, Array.getElem?_eq_none h'] at h

/-- A slice of bytes that came in. -/
theorem open_bytes {H : Type} {enc : TypeId × Value → H} {P : Program} {W : World} {base : Nat} {t e : TypeId} {v : Value} {d : DataW H} {p : List MemPlace}
    (ht : P.underlying t = some (.slice e)) (he : P.underlying e = some (.int .u8)) (hC : P.cellsOf e = 1) (hv : Value.okWide P W .any base t v)
    (h : DataW.Trod enc P W 0 (fun _ => true) true t v d p) :
    ∃ A c, ∃ l : List UInt8, v = .slice A l.length c ∧ l.length ≤ c ∧ c ≤ maxLen ∧ Rd W W.heap.size A (bcs l) := by
  obtain ⟨a0, len, cap, rfl⟩ := okWide_slice ht hv
  obtain ⟨fuel, hf⟩ := h
  rcases open_ints ht he hC hf with ⟨hcs, _⟩ | ⟨x, l', c', zs, hcs, _, hl, hm, hz, _, hcell, hwz⟩
  · simp [Value.cells] at hcs
    obtain ⟨rfl, rfl, rfl⟩ := hcs
    exact ⟨none, 0, [], rfl, by simp, by simp, .inl rfl⟩
  · simp [Value.cells] at hcs
    obtain ⟨rfl, rfl, rfl⟩ := hcs
    have hz' : zs.length = cap := by simpa using hz
    refine ⟨some x, cap, (zs.take len).map fun n => UInt8.ofNat n.toNat, ?_, ?_, hm, ?_⟩
    · simp [hz', Nat.min_eq_left hl]
    · simp [hz']; omega
    · rcases Nat.eq_zero_or_pos len with h0 | h0
      · exact .inl (by simp [h0, bcs])
      · have hc0 := hcell 0 (by omega)
        obtain ⟨b, off, spot⟩ := x
        have hspot : spot = none := by simpa [Addr.add] using World.cell?_spot hc0
        subst hspot
        refine .inr ⟨b, off, rfl, lt_of_cell hc0, fun i u hu => ?_⟩
        have hi : i < len := by
          rcases Nat.lt_or_ge i len with h' | h'
          · exact h'
          · rw [List.getElem?_eq_none (by simp [bcs, hz']; omega)] at hu
            cases hu
        have hzi : i < zs.length := by omega
        have hcl := hcell i hzi
        rw [add_plain] at hcl
        rw [hcl]
        have hw := bounds_u8 (hwz zs[i] (List.getElem_mem hzi))
        have hu' : (bcs ((zs.take len).map fun n => UInt8.ofNat n.toNat))[i]? = some (.int .u8 zs[i]) := by
          simp [bcs, hi, hzi]
          omega
        rw [hu'] at hu
        rw [← hu]
        simp [List.getD, hzi]

/-- The types of bytes: a slice type and its element type. -/
structure BT (P : Program) (ts te : TypeId) : Prop where
  sl : P.underlying ts = some (.slice te)
  el : P.underlying te = some (.int .u8)
  info : (P.info? te).map (fun i => (i.zero, i.size, i.bytes)) = some (some (.int .u8 0), 1, 1)

/-- A slice of bytes reads as l. -/
def Rb (w : World) (A : Option Addr) (n c : Nat) (l : List UInt8) : Prop := l.length = n ∧ n ≤ c ∧ Rd w w.heap.size A (bcs l)
/-- A slice of bytes of the call's own (its block from base on) reads as l. -/
def Ob (w : World) (base : Nat) (A : Option Addr) (n c : Nat) (l : List UInt8) : Prop := l.length = n ∧ w.ownsRow base 5 1 (.slice A n c) n (bcs l)

section
variable {w w' : World} {base : Nat} {A : Option Addr} {n c : Nat} {l : List UInt8}
theorem Rb.len (h : Rb w A n c l) : l.length = n := h.1
theorem Rb.cap (h : Rb w A n c l) : n ≤ c := h.2.1
theorem Rb.nil_ : Rb w none 0 0 [] := ⟨rfl, Nat.le_refl _, .inl rfl⟩
theorem Rb.later (h : Rb w A n c l) (hb : Below w.heap.size w w') : Rb w' A n c l := ⟨h.1, h.2.1, (h.2.2.below hb).more hb.size⟩
theorem Rb.drew (h : Rb w A n c l) : Rb w.drew A n c l := h
theorem Rb.drewN (h : Rb w A n c l) (k : Nat) : Rb (w.drewN k) A n c l := h
theorem Rb.alloc (h : Rb w A n c l) (o : Obj) : Rb (w.alloc o) A n c l := ⟨h.1, h.2.1, (h.2.2.alloc (Nat.le_refl _) o).more (by simp)⟩
theorem Rb.take (h : Rb w A n c l) {k : Nat} (hk : k ≤ n) : Rb w A k c (l.take k) := ⟨by rw [List.length_take, h.1]; omega, Nat.le_trans hk h.2.1, by rw [← bcs_take]; exact h.2.2.take k⟩
theorem Rb.cut (h : Rb w A n c l) {k : Nat} (hk : k ≤ n) : Rb w (cutA A c k 1) (n - k) (c - k) (l.drop k) :=
  ⟨by rw [List.length_drop, h.1], by have := h.2.1; omega, by rw [← bcs_drop]; exact h.2.2.cut (by rw [bcs_length, h.1]; exact h.2.1)⟩
theorem Ob.len (h : Ob w base A n c l) : l.length = n := h.1
theorem Ob.rb (h : Ob w base A n c l) : Rb w A n c l := by
  refine ⟨h.1, ?_, Rd.of_own h.2⟩
  rcases h.2.2 with ⟨hv, _⟩ | ⟨g, cap, cur, hv, _, _, hnc, _⟩
  · injection hv with _ h2 h3
    omega
  · injection hv with _ _ h3
    omega
theorem Ob.nil_ : Ob w base none 0 0 [] := ⟨rfl, World.ownsRow_nil w base _ 1⟩
theorem Ob.blk (h : Ob w base A n c l) : ∀ k, (Value.slice A n c).ownBlock = some k → base ≤ k ∧ k < w.heap.size := h.2.lt
theorem Ob.grown {row : Option Nat} (h : Ob w base A n c l) (hg : w.grownBy w' row) (hne : ∀ k, (Value.slice A n c).ownBlock = some k → row ≠ some k) : Ob w' base A n c l := by
  refine ⟨h.1, h.2.kept hg ?_⟩
  cases hk : (Value.slice A n c).ownBlock with
  | none => exact .inl rfl
  | some k => exact .inr (fun e => hne k hk e.symm)
theorem grownBy_of_below (h : Below w.heap.size w w') : w.grownBy w' none := ⟨h.os, h.tape, h.output, h.size, fun i hi _ => h.block i hi⟩
theorem Ob.later (h : Ob w base A n c l) (hb : Below w.heap.size w w') : Ob w' base A n c l := h.grown (grownBy_of_below hb) (fun _ _ => by simp)
theorem Ob.mono {base' : Nat} (h : Ob w base A n c l) (hb : base' ≤ base) : Ob w base' A n c l := by
  refine ⟨h.1, h.2.1, ?_⟩
  rcases h.2.2 with h2 | ⟨g, cap, cur, hv, hg, hr⟩
  · exact .inl h2
  · exact .inr ⟨g, cap, cur, hv, by omega, hr⟩
end

/-- new bytes, written out -/
theorem Ob.lit (w : World) {base : Nat} (hb : base ≤ w.heap.size) (cs : Array Value) (l : List UInt8) (n : Nat) (hn : l.length = n) (hm : n ≤ maxLen) (h : cs.toList = bcs l) : Ob (w.alloc (.cells cs 5)) base (some ⟨w.heap.size, 0, none⟩) n n l := by
  have hs : cs.size = n := by rw [← Array.length_toList, h, bcs_length, hn]
  refine ⟨hn, by rw [bcs_length, hn]; omega, .inr ⟨w.heap.size, n, cs, rfl, hb, heap_alloc_new w _, Nat.le_refl _, hm, by omega, ?_⟩⟩
  rw [h, List.take_of_length_le (by rw [bcs_length]; omega)]

theorem below_of_grown {w w' : World} {base : Nat} {row : Option Nat} (hg : w.grownBy w' row) (hb : base ≤ w.heap.size) (hr : ∀ k, row = some k → base ≤ k) : Below base w w' :=
  ⟨hg.os, hg.tape, hg.output, hg.size, fun i hi => hg.block i (by omega) (fun e => by have := hr _ e.symm; omega)⟩

/-- append onto a row of the call's own, whatever the source -/
theorem run_app {P : Program} (w : World) {ts ty : TypeId} (bt : BT P ts 5) {base : Nat} {A : Option Addr} {n c : Nat} {l : List UInt8} (hown : Ob w base A n c l)
    {A2 : Option Addr} {n2 c2 : Nat} {l2 : List UInt8} (hr : Rb w A2 n2 c2 l2) (hm : n + n2 ≤ 1099511627776) (hbase : base ≤ w.heap.size) :
    ∃ A' n' c' w', (Builtin.append_ #[ts, ts] ty #[.slice A n c, .slice A2 n2 c2]).run P w = .ok (.slice A' n' c') w' ∧ Ob w' base A' n' c' (l ++ l2) ∧ Below base w w' ∧ w.grownBy w' (Value.slice A n c).ownBlock := by
  obtain ⟨i, hi, hz0, hz1, hz2⟩ := info_parts bt.info
  have hbel : ∀ {w'}, w.grownBy w' (Value.slice A n c).ownBlock → Below base w w' := fun hg => below_of_grown hg hbase fun k hk => (hown.blk k hk).1
  have fin : ∀ v' w', w'.ownsRow base 5 1 v' (n + n2) (bcs l ++ bcs l2) → ∃ A' n' c', v' = .slice A' n' c' ∧ Ob w' base A' n' c' (l ++ l2) := by
    intro v' w' h
    have hl : (l ++ l2).length = n + n2 := by rw [List.length_append, hown.1, hr.1]
    rw [← bcs_append] at h
    have h2 := h.2
    rcases h2 with ⟨hv, h0⟩ | ⟨g, cap, cur, hv, _⟩
    · refine ⟨none, 0, 0, hv, by omega, ?_⟩
      rw [hv, h0] at h
      exact h
    · refine ⟨_, _, _, hv, hl, ?_⟩
      rw [hv] at h
      exact h
  cases A2 with
  | none =>
    have hn2 : n2 = 0 := by
      rcases hr.2.2 with h | ⟨b, off, h, _⟩
      · have := hr.1; rw [bcs_nil h] at this; simpa using this.symm
      · cases h
    subst hn2
    have hl2 : l2 = [] := List.eq_nil_of_length_eq_zero hr.1
    subst hl2
    refine ⟨A, n, c, w, ?_, by simpa using hown, Below.refl _ _, World.grownBy.refl w _⟩
    rcases hown.2.2 with ⟨hv, h0⟩ | ⟨g, cap, cur, hv, _, _, hnc, _⟩
    · injection hv with h1 h2 h3
      subst h1 h2 h3
      simp [Builtin.append_, run_underlying bt.sl, sizeOf, typeInfo, hi, Builtin.lenOf, Builtin.firstCells]
    · injection hv with h1 h2 h3
      subst h1 h3
      simp [Builtin.append_, run_underlying bt.sl, sizeOf, typeInfo, hi, Builtin.lenOf, Builtin.firstCells, hnc, storeCells]
  | some ad =>
    have hcells : ∀ j u, (bcs l2)[j]? = some u → w.cell? (ad.add j) = some u := by
      intro j u hu
      rcases hr.2.2 with h | ⟨b, off, h, _, hc⟩
      · rw [h] at hu; simp at hu
      · injection h with h
        subst h
        rw [add_plain]
        exact hc j u hu
    obtain ⟨v', w', hrun, h2, h3, _, _⟩ := run_append_own_at (P := P) w base ts ty 5 i (.int .u8 0) 1 1 bt.sl hi hz0 hz1 hz2 rfl (by omega) (.slice A n c) n (bcs l) hown.2 ad n2 c2 (bcs l2)
      (by rw [bcs_length, hr.1]; omega) hcells (bcs_one l2) (by simp only [maxLen]; omega) (by omega) hbase
    obtain ⟨A', n', c', rfl, hob⟩ := fin v' w' h2
    exact ⟨A', n', c', w', hrun, hob, hbel h3, h3⟩

theorem wpList_app {P : Program} {w : World} {ops : Array Oper} {rest : List Oper} {o : Oper} {a : Act} {Q : Exit → Act → World → Prop} {ts : TypeId} (bt : BT P ts 5) (hgd : o.guard = none) (s x : Operand)
    (ho : o.op = .call { callee := .builtin .append, args := #[s, x], argTypes := #[ts, ts] })
    {base : Nat} {A : Option Addr} {n c : Nat} {l : List UInt8} (hs : a.eval s = .slice A n c) (hown : Ob w base A n c l)
    {A2 : Option Addr} {n2 c2 : Nat} {l2 : List UInt8} (hx : a.eval x = .slice A2 n2 c2) (hr : Rb w A2 n2 c2 l2) (hm : n + n2 ≤ 1099511627776) (hbase : base ≤ w.heap.size)
    (h : ∀ A' n' c' w', Ob w' base A' n' c' (l ++ l2) → Below base w w' → w.grownBy w' (Value.slice A n c).ownBlock → wpList P ops Q rest (a.put o.dst (.slice A' n' c')) w') : wpList P ops Q (o :: rest) a w := by
  refine wpList_plain hgd fun _ hK => ?_
  obtain ⟨A', n', c', w', hrun, h2, h3, h4⟩ := run_app (P := P) w (ty := o.type) bt hown hr hm hbase
  unfold Oper.wp execOp
  simp only [ho, resolve, invoke, builtin, Sem.run_bind, Sem.run_pure, Result.andThen_ok, List.map_toArray, List.map_cons, List.map_nil, hs, hx, hrun]
  exact hK _ _ (h A' n' c' w' h2 h3 h4)

/-- Block g is the cells cs of element type t, none frozen. -/
def Bk (w : World) (g : Nat) (t : TypeId) (cs : List Value) : Prop := w.heap[g]? = some (.cells cs.toArray t (0, 0))
section
variable {w w' : World} {g : Nat} {t : TypeId} {cs : List Value}
theorem Bk.lt (h : Bk w g t cs) : g < w.heap.size := by
  rcases Nat.lt_or_ge g w.heap.size with hlt | hge
  · exact hlt
  · unfold Bk at h; rw [Array.getElem?_eq_none hge] at h; cases h
theorem Bk.cell (h : Bk w g t cs) (i : Nat) : w.cell? ⟨g, i, none⟩ = cs[i]? := by
  unfold Bk at h
  simp [World.cell?, h]
theorem Bk.frozen (h : Bk w g t cs) (i : Nat) : w.frozen? ⟨g, i, none⟩ = false := by
  unfold Bk at h
  simp [World.frozen?, h]
theorem Bk.new (w : World) (t : TypeId) (cs : Array Value) : Bk (w.alloc (.cells cs t)) w.heap.size t cs.toList := heap_alloc_new w _
theorem Bk.alloc (h : Bk w g t cs) (o : Obj) : Bk (w.alloc o) g t cs := (Below.heap_alloc w o g h.lt).trans h
theorem Bk.set_ (h : Bk w g t cs) (i : Nat) (u : Value) : Bk (w.setCell ⟨g, i, none⟩ u) g t (cs.set i u) := by
  unfold Bk at h ⊢
  simp [World.setCell, Array.getElem?_modify, h]
theorem Bk.far (h : Bk w g t cs) {p : Addr} (hp : g ≠ p.block) (u : Value) : Bk (w.setCell p u) g t cs := (Below.heap_setCell w p u g hp).trans h
theorem Bk.below {B : Nat} (h : Bk w g t cs) (hb : Below B w w') (hg : g < B) : Bk w' g t cs := (hb.block g hg).trans h
theorem Bk.later (h : Bk w g t cs) (hb : Below w.heap.size w w') : Bk w' g t cs := h.below hb h.lt
theorem Bk.grown {row : Option Nat} (h : Bk w g t cs) (hb : w.grownBy w' row) (hg : row ≠ some g) : Bk w' g t cs := (hb.block g h.lt (fun e => hg e.symm)).trans h
end
theorem grownBy_setCell (w : World) (g i : Nat) (u : Value) : w.grownBy (w.setCell ⟨g, i, none⟩ u) (some g) :=
  ⟨rfl, rfl, rfl, by simp [World.setCell], fun k _ hne => Below.heap_setCell w _ u k (fun e => hne (by rw [e]))⟩
/-- the last m bytes of n, most significant first -/
def dig : Nat → Nat → List UInt8
  | _, 0 => []
  | n, m + 1 => dig (n / 256) m ++ [UInt8.ofNat (n % 256)]
theorem dig_length : ∀ (m n : Nat), (dig n m).length = m
  | 0, _ => rfl
  | m + 1, n => by simp [dig, dig_length m]
theorem over_nil (cs : List Value) (off : Nat) : splice cs off [] = cs := by simp [splice]
theorem over_dig (cs : List Value) (off n m : Nat) (h : off + (m + 1) ≤ cs.length) :
    splice (cs.set (off + m) (.int .u8 ((n % 256 : Nat) : Int))) off (bcs (dig (n / 256) m)) = splice cs off (bcs (dig n (m + 1))) := by
  have e : (bcs (dig n (m + 1))) = bcs (dig (n / 256) m) ++ [.int .u8 ((n % 256 : Nat) : Int)] := by
    rw [dig, bcs_append]
    simp [bcs]
  rw [e]
  unfold splice
  rw [List.take_set_of_le (by omega), bcs_length, dig_length, List.length_append, bcs_length, dig_length]
  have hd : List.drop (off + m) (cs.set (off + m) (.int .u8 ((n % 256 : Nat) : Int))) = .int .u8 ((n % 256 : Nat) : Int) :: List.drop (off + m + 1) cs := by
    rw [List.drop_eq_getElem_cons (by simp; omega)]
    simp [List.drop_set]
  rw [hd]
  simp [Nat.add_assoc]

theorem cutA_some (g off c k : Nat) (h : c ≠ k) : cutA (some ⟨g, off, none⟩) c k 1 = some ⟨g, off + k, none⟩ := by
  simp [cutA, h, add_plain]
theorem Ob.of_bk {w : World} {g base n : Nat} {l : List UInt8} (h : Bk w g 5 (bcs l)) (hb : base ≤ g) (hn : l.length = n) (hm : n ≤ maxLen) : Ob w base (some ⟨g, 0, none⟩) n n l :=
  ⟨hn, by rw [bcs_length, hn]; omega, .inr ⟨g, n, _, rfl, hb, h, Nat.le_refl _, hm, by simp [bcs_length, hn], by rw [List.take_of_length_le (by simp [bcs_length, hn])]⟩⟩

/-- make([]byte, n) -/
theorem wpList_mk {P : Program} {w : World} {ops : Array Oper} {rest : List Oper} {o : Oper} {a : Act} {Q : Exit → Act → World → Prop} {ts : TypeId} (bt : BT P ts 5) (hgd : o.guard = none) (x : Operand)
    (hop : o.op = Op.makeSlice ts x x) (L : Int) (n : Nat) (hl : a.eval x = .int .i64 L) (hL : L = (n : Int)) (hm : n ≤ 1099511627776)
    (h : ∀ w', Bk w' w.heap.size 5 (List.replicate n (.int .u8 0)) → Below w.heap.size w w' → w.heap.size < w'.heap.size → wpList P ops Q rest (a.put o.dst (.slice (some ⟨w.heap.size, 0, none⟩) n n)) w') : wpList P ops Q (o :: rest) a w := by
  refine wpList_plain hgd fun _ hK => ?_
  obtain ⟨i, hi, hz0, hz1, hz2⟩ := info_parts bt.info
  subst hL
  have hr := run_make (P := P) w ts 5 i (.int .u8 0) bt.sl hi hz0 .i64 .i64 n n (by omega) (by omega) (by rw [hz2]; omega) (by omega)
  simp only [Int.toNat_natCast, hz1] at hr
  unfold Oper.wp execOp
  simp only [hop, hl, hr, Sem.run_bind, Sem.run_pure, Result.andThen_ok]
  refine hK _ _ (h _ ?_ ((Below.refl _ _).alloc (Nat.le_refl _) _) (by simp))
  have e : madeCells (Value.int .u8 0).cells (n * 1) = (List.replicate n (Value.int .u8 0)).toArray := by
    apply Array.ext
    · simp [size_madeCells]
    · intro j h1 h2
      simp [madeCells, Value.cells, Nat.mod_one]
  unfold Bk
  rw [heap_alloc_new, e]

/-- copy into a block of the call's own; the operation is told by the slot k that it writes -/
theorem wpList_cpy {P : Program} {w : World} {ops : Array Oper} {rest : List Oper} {o : Oper} {a : Act} {Q : Exit → Act → World → Prop} {ts : TypeId} (k : Nat) (hdst : o.dst = some k) (bt : BT P ts 5) (hgd : o.guard = none) (d s : Operand)
    (ho : o.op = .call { callee := .builtin .copy, args := #[d, s], argTypes := #[ts, ts] })
    {A1 A2 : Option Addr} {n1 c1 n2 c2 : Nat} (hd : a.eval d = .slice A1 n1 c1) (hs : a.eval s = .slice A2 n2 c2)
    (g off : Nat) (cs : List Value) (hg : Bk w g 5 cs) (hA : n2 = 0 ∨ A1 = some ⟨g, off, none⟩) (l : List UInt8) (hr : Rb w A2 n2 c2 l) (hle : n2 ≤ n1) (hfit : off + n2 ≤ cs.length)
    (B : Nat) (w0 : World) (hb : Below B w0 w) (hBg : B ≤ g)
    (h : ∀ w', Bk w' g 5 (splice cs off (bcs l)) → Below B w0 w' → wpList P ops Q rest (a.put o.dst (goInt n2)) w') : wpList P ops Q (o :: rest) a w := by
  obtain ⟨i, hi, hz0, hz1, hz2⟩ := info_parts bt.info
  have hl : (bcs l).length = n2 := by rw [bcs_length, hr.1]
  refine wpList_copy_splice hgd d s ts ts ho 5 bt.sl (by simp [hi, hz1]) _ _ _ _ _ _ hd hs g off cs 5 hg (bcs l) ?_ ?_ (by omega) (bcs_one l) B w0 hb hBg ?_
  · rw [hl]; exact (Nat.min_eq_left hle).symm
  · intro h0
    rcases hA with h1 | h1
    · omega
    · obtain ⟨b, o2, hA2, _, hc⟩ := hr.2.2.at_ h0
      exact ⟨h1, _, hA2, fun j v hj => by rw [add_plain]; exact hc j v hj⟩
  · intro w' h1 h2
    rw [hl]
    exact h w' h1.out h2

theorem cutA_zero (A : Option Addr) (c s : Nat) : cutA A c 0 s = A := by
  unfold cutA
  split
  · rfl
  · cases A <;> simp [Addr.add]

theorem pow_le_seven (i : Nat) (h : i ≤ 7) : 256 ^ i ≤ 72057594037927936 := Nat.le_trans (Nat.pow_le_pow_right (by decide) h) (by decide)

theorem Rb.setCell {w : World} {A : Option Addr} {n c : Nat} {l : List UInt8} (h : Rb w A n c l) {p : Addr} (hp : ∀ a, A = some a → a.block ≠ p.block) (u : Value) : Rb (w.setCell p u) A n c l := by
  refine ⟨h.1, h.2.1, ?_⟩
  rcases h.2.2 with h' | ⟨b, off, hA, hb, hc⟩
  · exact .inl h'
  · refine .inr ⟨b, off, hA, by simpa [World.setCell] using hb, fun i u' hu => ?_⟩
    rw [World.cell?_setCell_other w p ⟨b, off + i, none⟩ u (fun e => hp _ hA (by rw [e]))]
    exact hc i u' hu

theorem Ob.setCell {w : World} {base : Nat} {A : Option Addr} {n c : Nat} {l : List UInt8} (h : Ob w base A n c l) {p : Addr} (hp : p.block < base) (u : Value) : Ob (w.setCell p u) base A n c l :=
  ⟨h.1, ownsRow_setCell_below h.2 hp u⟩

/-! ### A world with more blocks behind it: what a callee leaves -/
/-- w with the blocks bs behind its own, and d answers drawn -/
def plus (w : World) (bs : List Obj) (d : Nat) : World := { w with heap := w.heap ++ bs.toArray, drawn := d }
section
variable {w W : World} {bs : List Obj} {d : Nat}
@[go_sem] theorem size_plus (w : World) (bs : List Obj) (d : Nat) : (plus w bs d).heap.size = w.heap.size + bs.length := by simp [plus]
theorem block_plus {n : Nat} (h : n < w.heap.size) : (plus w bs d).heap[n]? = w.heap[n]? := by
  simp [plus, Array.getElem?_append, h]
@[go_sem] theorem cell_plus (w : World) (bs : List Obj) (d : Nat) (n i : Nat) (hn : n < w.heap.size) : (plus w bs d).cell? ⟨n, i, none⟩ = w.cell? ⟨n, i, none⟩ := World.cell?_of_block (block_plus hn)
@[go_sem] theorem frozen_plus (w : World) (bs : List Obj) (d : Nat) (n i : Nat) (hn : n < w.heap.size) : (plus w bs d).frozen? ⟨n, i, none⟩ = w.frozen? ⟨n, i, none⟩ := World.frozen?_of_block (block_plus hn)
@[go_sem] theorem setCell_plus (w : World) (bs : List Obj) (d : Nat) (n i : Nat) (v : Value) (hn : n < w.heap.size) : (plus w bs d).setCell ⟨n, i, none⟩ v = plus (w.setCell ⟨n, i, none⟩ v) bs d := by
  simp only [plus, World.setCell, World.mk.injEq, and_true]
  apply Array.ext
  · simp
  · intro j h1 h2
    simp only [Array.getElem_append, Array.getElem_modify, Array.size_modify] at *
    by_cases hj : j < w.heap.size
    · simp [hj]
    · simp [hj]
      intro e
      omega
@[go_sem] theorem lt_more {n m k : Nat} (h : n < m) : (n < m + k) = True := eq_true (by omega)
@[go_sem] theorem lt_more2 {n m k0 k1 : Nat} (h : n < m) : (n < m + k0 + k1) = True := eq_true (by omega)
@[go_sem] theorem lt_more3 {n m k0 k1 k2 : Nat} (h : n < m) : (n < m + k0 + k1 + k2) = True := eq_true (by omega)
@[go_sem] theorem lt_more4 {n m k0 k1 k2 k3 : Nat} (h : n < m) : (n < m + k0 + k1 + k2 + k3) = True := eq_true (by omega)
@[go_sem] theorem lt_more5 {n m k0 k1 k2 k3 k4 : Nat} (h : n < m) : (n < m + k0 + k1 + k2 + k3 + k4) = True := eq_true (by omega)
@[go_sem] theorem lt_more6 {n m k0 k1 k2 k3 k4 k5 : Nat} (h : n < m) : (n < m + k0 + k1 + k2 + k3 + k4 + k5) = True := eq_true (by omega)
@[go_sem] theorem lt_more7 {n m k0 k1 k2 k3 k4 k5 k6 : Nat} (h : n < m) : (n < m + k0 + k1 + k2 + k3 + k4 + k5 + k6) = True := eq_true (by omega)
@[go_sem] theorem lt_more8 {n m k0 k1 k2 k3 k4 k5 k6 k7 : Nat} (h : n < m) : (n < m + k0 + k1 + k2 + k3 + k4 + k5 + k6 + k7) = True := eq_true (by omega)
@[go_sem] theorem lt_more9 {n m k0 k1 k2 k3 k4 k5 k6 k7 k8 : Nat} (h : n < m) : (n < m + k0 + k1 + k2 + k3 + k4 + k5 + k6 + k7 + k8) = True := eq_true (by omega)
@[go_sem] theorem lt_more10 {n m k0 k1 k2 k3 k4 k5 k6 k7 k8 k9 : Nat} (h : n < m) : (n < m + k0 + k1 + k2 + k3 + k4 + k5 + k6 + k7 + k8 + k9) = True := eq_true (by omega)
@[go_sem] theorem plus_drew (w : World) (bs : List Obj) (d : Nat) : plus w.drew bs d = plus w bs d := rfl
@[go_sem] theorem plus_drewN (w : World) (bs : List Obj) (d n : Nat) : plus (w.drewN n) bs d = plus w bs d := rfl
@[go_sem] theorem drew_plus (w : World) (bs : List Obj) (d : Nat) : (plus w bs d).drew = plus w bs (d + 1) := rfl
@[go_sem] theorem drewN_plus (w : World) (bs : List Obj) (d n : Nat) : (plus w bs d).drewN n = plus w bs (d + n) := rfl
theorem plus_of (h : Below W.heap.size W w) : ∃ bs d, w = plus W bs d := by
  refine ⟨(w.heap.toList.drop W.heap.size), w.drawn, ?_⟩
  have hh : w.heap = W.heap ++ (w.heap.toList.drop W.heap.size).toArray := by
    apply Array.ext_getElem?
    intro j
    rw [Array.getElem?_append]
    split
    · rename_i hj
      exact h.block j hj
    · rename_i hj
      simp only [List.getElem?_toArray, List.getElem?_drop]
      rw [show W.heap.size + (j - W.heap.size) = j from by omega]
      simp
  have h1 := h.os
  have h2 := h.tape
  have h3 := h.output
  cases w
  simp only [plus] at *
  subst h1 h2 h3
  rw [← hh]
theorem below_plus (w : World) (bs : List Obj) (d : Nat) : Below w.heap.size w (plus w bs d) := ⟨rfl, rfl, rfl, by simp [plus], fun _ hk => block_plus hk⟩
theorem toPlus {B : Nat} {a : World} (h : Below B a w) (hB : B ≤ w.heap.size) (bs : List Obj) (d : Nat) : Below B a (plus w bs d) := h.trans ((below_plus w bs d).mono hB)
theorem Rb.plus_ {A : Option Addr} {n c : Nat} {l : List UInt8} (h : Rb w A n c l) (bs : List Obj) (d : Nat) : Rb (plus w bs d) A n c l := h.later (below_plus w bs d)
theorem Ob.plus_ {base : Nat} {A : Option Addr} {n c : Nat} {l : List UInt8} (h : Ob w base A n c l) (bs : List Obj) (d : Nat) : Ob (plus w bs d) base A n c l := h.later (below_plus w bs d)
theorem Ob.alloc {base : Nat} {A : Option Addr} {n c : Nat} {l : List UInt8} (h : Ob w base A n c l) (o : Obj) : Ob (w.alloc o) base A n c l := ⟨h.1, h.2.alloc o⟩
end

/-- The call returns new bytes l, and changes nothing that was there. -/
def RetB (w : World) (l : List UInt8) (e : Ending) (w' : World) : Prop := ∃ A n c bs d, e = .returned (.slice A n c) ∧ w' = plus w bs d ∧ Ob (plus w bs d) w.heap.size A n c l
theorem RetB.mk {w w' : World} {l : List UInt8} {A : Option Addr} {n c : Nat} (ho : Ob w' w.heap.size A n c l) (hb : Below w.heap.size w w') : RetB w l (.returned (.slice A n c)) w' := by
  obtain ⟨bs, d, rfl⟩ := plus_of hb
  exact ⟨A, n, c, bs, d, rfl, rfl, ho⟩
theorem grown_plus {W w' : World} {bs : List Obj} {d r : Nat} (h : (plus W bs d).grownBy w' (some r)) (hr : W.heap.size ≤ r) : ∃ bs' d', w' = plus W bs' d' := by
  refine plus_of ?_
  have h2 : Below W.heap.size (plus W bs d) w' := below_of_grown h (by simp [size_plus]) (fun k hk => by injection hk with hk; omega)
  exact (below_plus W bs d).trans h2
/-- append onto a row of the call's own; W0: the world ahead of all own rows -/
theorem wpList_appP {P : Program} {w : World} {ops : Array Oper} {rest : List Oper} {o : Oper} {a : Act} {Q : Exit → Act → World → Prop} {ts : TypeId} (W0 : World) (bt : BT P ts 5) (hgd : o.guard = none) (s x : Operand)
    (ho : o.op = .call { callee := .builtin .append, args := #[s, x], argTypes := #[ts, ts] }) (hW : Below W0.heap.size W0 w)
    {A : Option Addr} {n c : Nat} {l : List UInt8} (hs : a.eval s = .slice A n c) (hown : Ob w W0.heap.size A n c l)
    {A2 : Option Addr} {n2 c2 : Nat} {l2 : List UInt8} (hx : a.eval x = .slice A2 n2 c2) (hr : Rb w A2 n2 c2 l2) (hm : n + n2 ≤ 1099511627776)
    (h : ∀ A' n' c' bs d, Ob (plus W0 bs d) W0.heap.size A' n' c' (l ++ l2) → w.grownBy (plus W0 bs d) (Value.slice A n c).ownBlock → wpList P ops Q rest (a.put o.dst (.slice A' n' c')) (plus W0 bs d)) : wpList P ops Q (o :: rest) a w := by
  refine wpList_app bt hgd s x ho hs hown hx hr hm hW.size ?_
  intro A' n' c' w' h1 h2 h3
  obtain ⟨bs, d, rfl⟩ := plus_of (hW.trans h2)
  exact h A' n' c' bs d h1 h3
/-- append([]byte{}, x...): the block of the empty literal is the last one -/
theorem wpList_app0 {P : Program} {W0 : World} {ops : Array Oper} {rest : List Oper} {o : Oper} {a : Act} {Q : Exit → Act → World → Prop} {ts : TypeId} (bt : BT P ts 5) (hgd : o.guard = none) (s x : Operand)
    (ho : o.op = .call { callee := .builtin .append, args := #[s, x], argTypes := #[ts, ts] }) {k : Nat} (hs : a.eval s = .slice (some ⟨k, 0, none⟩) 0 0) (hk : k = W0.heap.size)
    {A2 : Option Addr} {n2 c2 : Nat} {l2 : List UInt8} (hx : a.eval x = .slice A2 n2 c2) (hr : Rb W0 A2 n2 c2 l2) (hm : n2 ≤ 1099511627776)
    (h : ∀ A' n' c' bs d, Ob (plus W0 bs d) W0.heap.size A' n' c' l2 → wpList P ops Q rest (a.put o.dst (.slice A' n' c')) (plus W0 bs d)) : wpList P ops Q (o :: rest) a (W0.alloc (.cells #[] 5)) := by
  subst hk
  refine wpList_appP W0 bt hgd s x ho ((Below.refl _ _).alloc (Nat.le_refl _) _) hs (Ob.lit W0 (Nat.le_refl _) #[] [] 0 rfl (Nat.zero_le _) rfl) hx (hr.alloc _) (by omega) ?_
  intro A' n' c' bs d h1 _
  exact h A' n' c' bs d h1

theorem Ob.drew {w : World} {base : Nat} {A : Option Addr} {n c : Nat} {l : List UInt8} (h : Ob w base A n c l) : Ob w.drew base A n c l := h
theorem Bk.drew {w : World} {g : Nat} {t : TypeId} {cs : List Value} (h : Bk w g t cs) : Bk w.drew g t cs := h
theorem grownBy_drew {w w' : World} {row : Option Nat} (h : w.grownBy w' row) : w.grownBy w'.drew row := ⟨h.os, h.tape, h.output, h.size, h.block⟩

theorem still_of {P : Program} {f : FuncId} {args : Array Value} {w : World} {v : Value} (h : Calls P f args w fun e w' => e = .returned v ∧ w = w') : Calls P f args w fun e w' => e = .returned v ∧ w' = w :=
  h.mono fun _ _ ⟨h1, h2⟩ => ⟨h1, h2.symm⟩
/-- a region that draws its order: n operations that leave the world alone, then the rest in their order -/
theorem wp_tail {P : Program} {id : Nat} {Q : Exit → Act → World → Prop} {a : Act} {w : World} {l : List Oper} (n : Nat) (hm : P.follows .mixedOrders = true) (hB : Region.lexTailB .any l.toArray n = true)
    (h : wpStill P l.toArray w.drew (fun a' => wpList P l.toArray Q (l.drop n) a' w.drew) (l.take n) a) : (Code.region id l.toArray true).wp P Q a w := wp_region_still_tail n hm hB h
/-- the world under a name, with what is needed of it -/
theorem gen_world {P : Program} {c : Code} {Q : Exit → Act → World → Prop} {a : Act} {w : World} (I : World → Prop) (hI : I w) (h : ∀ w, I w → Code.wp P c Q a w) : Code.wp P c Q a w := h w hI
theorem belowN {B : Nat} {a w : World} (h : Below B a w) (n : Nat) : Below B a (w.drewN n) := ⟨h.os, h.tape, h.output, h.size, h.block⟩
theorem quiet_same {P : Program} {f : FuncId} {args : Array Value} {w : World} {n : Nat} {v : Value}
    (h : Calls P f args (w.drewN n) fun e w' => e = .returned v ∧ w.drewN n = w') : Calls P f args (w.drewN n) fun e w'' => e = .returned v ∧ ∃ m, w'' = w.drewN m :=
  h.mono fun _ _ ⟨he, hm⟩ => ⟨he, n, hm.symm⟩
/-- The call returns v, and changes nothing that was there. -/
def RetV (w : World) (v : Value) (e : Ending) (w' : World) : Prop := ∃ bs d, e = .returned v ∧ w' = plus w bs d
theorem RetV.mk {w w' : World} {v : Value} (hb : Below w.heap.size w w') : RetV w v (.returned v) w' := by
  obtain ⟨bs, d, rfl⟩ := plus_of hb
  exact ⟨bs, d, rfl, rfl⟩
/-- a literal of bytes behind a world with more blocks -/
theorem Rb.litP {W0 : World} {bs : List Obj} {d k n : Nat} (cs : Array Value) (l : List UInt8) (hk : k = W0.heap.size + bs.length) (hn : l.length = n) (hm : n ≤ maxLen) (h : cs.toList = bcs l) : Rb ((plus W0 bs d).alloc (.cells cs 5)) (some ⟨k, 0, none⟩) n n l := by
  have := (Ob.lit (plus W0 bs d) (Nat.le_refl _) cs l n hn hm h).rb
  rw [size_plus, ← hk] at this
  exact this
theorem belowP {a w : World} (h : Below a.heap.size a w) (bs : List Obj) (d : Nat) : Below a.heap.size a (plus w bs d) := toPlus h h.size bs d
theorem Rb.litW {W : World} {k n : Nat} (cs : Array Value) (l : List UInt8) (hk : k = W.heap.size) (hn : l.length = n) (hm : n ≤ maxLen) (h : cs.toList = bcs l) : Rb (W.alloc (.cells cs 5)) (some ⟨k, 0, none⟩) n n l := by
  subst hk
  exact (Ob.lit W (Nat.le_refl _) cs l n hn hm h).rb
/-! ### A region that draws its order, whose operations read what was there and whose calls make memory and hand back plain values -/
theorem plus_plus (w : World) (bs bs' : List Obj) (d d' : Nat) : plus (plus w bs d) bs' d' = plus w (bs ++ bs') d' := by simp [plus, Array.append_assoc]
/-- more blocks, and a count of draws -/
structure Ext where
  bs : List Obj
  d : Nat
instance : Inhabited Ext := ⟨⟨[], 0⟩⟩
end Go.Proofs.Ytknoenceccpkhaa

/- A region that draws its order, by what each operation's value is good for: every operation reads, or makes memory, and changes nothing that was there; a tail may follow in its order. -/
namespace Go.Proofs.Ytknoenceccpkhaa
open Go.RowKit Go.ChangeShapes Go.WideShapes
set_option linter.unusedVariables false

/-- w' is w with more blocks -/
def Ex (w w' : World) : Prop := ∃ x : Ext, w' = plus w x.bs x.d
theorem Ex.refl (w : World) : Ex w w := ⟨⟨[], w.drawn⟩, by simp [plus]⟩
theorem Ex.trans {a b c : World} (h : Ex a b) (h' : Ex b c) : Ex a c := by
  obtain ⟨x, rfl⟩ := h
  obtain ⟨y, rfl⟩ := h'
  exact ⟨⟨x.bs ++ y.bs, y.d⟩, plus_plus _ _ _ _ _⟩
theorem Ex.of {w w' : World} (h : Below w.heap.size w w') : Ex w w' := by
  obtain ⟨bs, d, rfl⟩ := plus_of h
  exact ⟨⟨bs, d⟩, rfl⟩
theorem Ex.below {w w' : World} (h : Ex w w') : Below w.heap.size w w' := by
  obtain ⟨x, rfl⟩ := h
  exact below_plus _ _ _
theorem Ex.alloc (w : World) (o : Obj) : Ex w (w.alloc o) := Ex.of ((Below.refl _ _).alloc (Nat.le_refl _) o)
theorem Ex.plus_ (w : World) (bs : List Obj) (d : Nat) : Ex w (plus w bs d) := ⟨⟨bs, d⟩, rfl⟩

/-- what a value is good for; it stays so -/
structure MP where
  p : Value → World → Prop
  mono : ∀ v w w', p v w → Ex w w' → p v w'
def MP.any : MP := ⟨fun _ _ => True, fun _ _ _ _ _ => trivial⟩
def MP.eq (c : Value) : MP := ⟨fun v _ => v = c, fun _ _ _ h _ => h⟩
def MP.rb (l : List UInt8) : MP := ⟨fun v w => ∃ A n c, v = .slice A n c ∧ Rb w A n c l, fun _ _ _ ⟨A, n, c, h1, h2⟩ h => ⟨A, n, c, h1, h2.later h.below⟩⟩
def MP.ob (base : Nat) (l : List UInt8) : MP := ⟨fun v w => ∃ A n c, v = .slice A n c ∧ Ob w base A n c l, fun _ _ _ ⟨A, n, c, h1, h2⟩ h => ⟨A, n, c, h1, h2.later h.below⟩⟩

section
variable {P : Program} {ops : Array Oper} {Q : Exit → Act → World → Prop}

def cnt (listed : Array Bool) : Nat → Nat
  | 0 => 0
  | n + 1 => cnt listed n + (if listed.getD n true then 0 else 1)
theorem cnt_set {listed : Array Bool} {i : Nat} (hi : listed.getD i true = false) : ∀ n, cnt (listed.setIfInBounds i true) n + (if i < n then 1 else 0) = cnt listed n
  | 0 => by simp [cnt]
  | n + 1 => by
    have ih := cnt_set hi n
    have hs : i < listed.size := by
      rcases Nat.lt_or_ge i listed.size with h | h
      · exact h
      · simp [Array.getElem?_eq_none h] at hi
    simp only [cnt]
    by_cases hn : i = n
    · subst hn
      have e : (listed.setIfInBounds i true).getD i true = true := by simp [hs]
      rw [e, hi]
      simp at ih ⊢
      omega
    · rw [getD_set_ne true hn]
      have e2 : (if i < n + 1 then 1 else 0) = (if i < n then 1 else 0) := by split <;> split <;> omega
      omega
theorem cnt_zero {listed : Array Bool} : ∀ n, cnt listed n = 0 → ∀ i, i < n → listed.getD i true = true
  | 0, _, i, h => by omega
  | n + 1, h, i, hi => by
    simp only [cnt] at h
    by_cases hn : i = n
    · subst hn
      cases hg : listed.getD i true with
      | true => rfl
      | false => rw [hg] at h; simp at h
    · exact cnt_zero n (by omega) i (by omega)
theorem cnt_first {listed : Array Bool} : ∀ n, cnt listed n ≠ 0 → ∃ i, i < n ∧ listed.getD i true = false ∧ ∀ j, j < i → listed.getD j true = true
  | 0, h => by simp [cnt] at h
  | n + 1, h => by
    by_cases h0 : cnt listed n = 0
    · refine ⟨n, by omega, ?_, fun j hj => cnt_zero n h0 j hj⟩
      simp only [cnt, h0] at h
      cases hg : listed.getD n true with
      | true => rw [hg] at h; simp at h
      | false => rfl
    · obtain ⟨i, h1, h2, h3⟩ := cnt_first n h0
      exact ⟨i, by omega, h2, h3⟩
theorem cnt_init (m : Nat) : ∀ n, n ≤ m → cnt (Array.replicate m false) n = n
  | 0, _ => rfl
  | n + 1, h => by
    simp only [cnt, cnt_init m n (by omega)]
    have : (Array.replicate m false).getD n true = false := by simp [show n < m by omega]
    rw [this]
    simp

/-- may the region be walked so: n operations ahead of the tail, N slots -/
def relB (ops : Array Oper) (n N : Nat) : Bool :=
  decide (n ≤ ops.size) && (decide (n = ops.size) || (Region.sinkB .any ops n && Region.chainB .any ops n)) &&
  Region.seqB .any ops (ops.size - n) n ((List.range ops.size).map fun i => decide (i < n)).toArray &&
  (List.range n).all fun i => match ops[i]? with
    | none => false
    | some o => (match o.dst with | some s => decide (s < N) | none => false) && (o.after.all fun e => !Region.binds .any e || decide (e.on < i)) &&
      (List.range n).all fun j => j == i || (match (ops[j]?).bind (·.dst) with | some s => o.dst != some s | none => false)
/-- what operation i sees in slot s is what lay there ahead of the region -/
def outB (ops : Array Oper) (n i s : Nat) : Bool := (List.range n).all fun j => j == i || (match (ops[j]?).bind (·.dst) with | some d => d != s || Region.waitsFor .any ops j i | none => true)
/-- operation i waits for operation j, which writes slot s -/
def depB (ops : Array Oper) (n i j s : Nat) : Bool := decide (j < n) && Region.waitsFor .any ops i j && ((ops[j]?).bind (·.dst) == some s)

def putAll : List Oper → (Nat → Value) → Nat → Act → Act
  | [], _, _, a => a
  | o :: r, vs, k, a => putAll r vs (k + 1) (a.put o.dst (vs k))

theorem eval_put_same {a : Act} {s : Nat} {v : Value} (h : s < a.tmps.size) : (a.put (some s) v).eval (.tmp s) = v := by simp [Act.put, Act.eval, h]
theorem size_put (a : Act) (d : Option Tmp) (v : Value) : (a.put d v).tmps.size = a.tmps.size := by cases d <;> simp [Act.put]
theorem defers_put (a : Act) (d : Option Tmp) (v : Value) : (a.put d v).defers = a.defers := by cases d <;> rfl
theorem putAll_size : ∀ (l : List Oper) (vs : Nat → Value) (k : Nat) (a : Act), (putAll l vs k a).tmps.size = a.tmps.size
  | [], _, _, _ => rfl
  | o :: r, vs, k, a => by rw [putAll, putAll_size r, size_put]
theorem putAll_defers : ∀ (l : List Oper) (vs : Nat → Value) (k : Nat) (a : Act), (putAll l vs k a).defers = a.defers
  | [], _, _, _ => rfl
  | o :: r, vs, k, a => by rw [putAll, putAll_defers r, defers_put]
theorem putAll_eval (A : Act) (s : Nat) : ∀ (l : List Oper) (vs : Nat → Value) (k : Nat) (a : Act), s < a.tmps.size → (∀ j o, l[j]? = some o → o.dst = some s → vs (k + j) = A.eval (.tmp s)) →
    ((∃ o ∈ l, o.dst = some s) → (putAll l vs k a).eval (.tmp s) = A.eval (.tmp s)) ∧ ((∀ o ∈ l, o.dst ≠ some s) → (putAll l vs k a).eval (.tmp s) = a.eval (.tmp s))
  | [], _, _, _, _, _ => ⟨fun ⟨o, h, _⟩ => (by cases h), fun _ => rfl⟩
  | o :: r, vs, k, a, hs, hv => by
    have ih := putAll_eval A s r vs (k + 1) (a.put o.dst (vs k)) (by rw [size_put]; exact hs) (fun j o' hj hd => by
      have := hv (j + 1) o' (by simpa using hj) hd
      rw [← this]
      congr 1
      omega)
    rw [putAll]
    constructor
    · rintro ⟨o', ho', hd⟩
      by_cases hr : ∃ o'' ∈ r, o''.dst = some s
      · exact ih.1 hr
      · rcases List.mem_cons.1 ho' with rfl | h
        · rw [ih.2 (fun o'' h h' => hr ⟨o'', h, h'⟩), hd, eval_put_same hs]
          exact hv 0 _ rfl hd
        · exact absurd ⟨o', h, hd⟩ hr
    · intro hn
      rw [ih.2 (fun o' h => hn o' (List.mem_cons_of_mem _ h)), Act.eval_put (fun d hd e => hn o (List.mem_cons_self) (by rw [hd]; injection e with e; rw [e]))]
theorem act_ext {a b : Act} (h1 : a.tmps.size = b.tmps.size) (h2 : a.defers = b.defers) (h3 : ∀ s, s < a.tmps.size → a.eval (.tmp s) = b.eval (.tmp s)) : a = b := by
  cases a with | mk ta da =>
  cases b with | mk tb db =>
  simp only at h1 h2 h3
  subst h2
  congr 1
  refine Array.ext h1 fun i hi hj => ?_
  have := h3 i hi
  simpa [Act.eval, hi, hj] using this

structure RInv (ops : Array Oper) (n : Nat) (a0 : Act) (w0 : World) (Φ : Nat → MP) (listed : Array Bool) (A : Act) (w : World) : Prop where
  head : HeadInv .any ops n listed
  ex : Ex w0 w
  size : A.tmps.size = a0.tmps.size
  defers : A.defers = a0.defers
  out : ∀ s, (∀ j, j < n → ∀ o, ops[j]? = some o → listed.getD j false = true → o.dst ≠ some s) → A.eval (.tmp s) = a0.eval (.tmp s)
  ins : ∀ j, j < n → ∀ o s, ops[j]? = some o → listed.getD j false = true → o.dst = some s → (Φ j).p (A.eval (.tmp s)) w

theorem wanted_if {o : Oper} {tmps : Array Value} {X Y : Prop} (h : o.guard = none) (hx : X) : if Region.wanted o (yielded ops tmps) = true then X else Y := by
  rw [if_pos (by simp [Region.wanted, h])]
  exact hx
theorem wp_rel {id : Nat} {a : Act} {w : World} {l : List Oper} (n N : Nat) (hN : a.tmps.size = N) (hm : P.follows .mixedOrders = true) (hB : relB l.toArray n N = true) (Φ : Nat → MP)
    (step : ∀ i, i < n → ∀ o, l[i]? = some o → ∀ (A : Act) (x : Ext), (∀ s, outB l.toArray n i s = true → A.eval (.tmp s) = a.eval (.tmp s)) → (∀ j s, depB l.toArray n i j s = true → (Φ j).p (A.eval (.tmp s)) (plus w x.bs x.d)) →
      ∀ K : Act → World → Prop, Shut (∀ v w', Ex (plus w x.bs x.d) w' → (Φ i).p v w' → K (A.put o.dst v) w') → if Region.wanted o (yielded l.toArray A.tmps) = true then o.wp P A (plus w x.bs x.d) K Q else K (A.put o.dst undef) (plus w x.bs x.d))
    (fin : ∀ (vs : Nat → Value) (x : Ext), (∀ i, i < n → (Φ i).p (vs i) (plus w x.bs x.d)) → wpList P l.toArray Q (l.drop n) (putAll (l.take n) vs 0 a) (plus w x.bs x.d)) : (Code.region id l.toArray true).wp P Q a w := by
  unfold relB at hB
  simp only [Bool.and_eq_true, decide_eq_true_eq] at hB
  obtain ⟨⟨⟨hn, htail⟩, hseq⟩, hall⟩ := hB
  have hal : ∀ i, i < n → ∃ o s, l.toArray[i]? = some o ∧ o.dst = some s ∧ s < N ∧ (∀ e ∈ o.after, Region.binds .any e = true → e.on < i) ∧ ∀ j, j < n → j ≠ i → ∃ oj sj, l.toArray[j]? = some oj ∧ oj.dst = some sj ∧ sj ≠ s := by
    intro i hi
    have h1 := List.all_eq_true.1 hall i (List.mem_range.2 hi)
    cases ho : l.toArray[i]? with
    | none => rw [ho] at h1; cases h1
    | some o =>
      rw [ho] at h1
      simp only [Bool.and_eq_true] at h1
      obtain ⟨⟨h2, h3⟩, h4⟩ := h1
      cases hd : o.dst with
      | none => rw [hd] at h2; cases h2
      | some s =>
        rw [hd] at h2 h4
        refine ⟨o, s, rfl, hd, by simpa using h2, fun e he hb => ?_, fun j hj hji => ?_⟩
        · have := (Array.all_eq_true_iff_forall_mem.1 h3) e he
          rw [hb] at this
          simpa using this
        · have h5 := List.all_eq_true.1 h4 j (List.mem_range.2 hj)
          cases hoj : l.toArray[j]? with
          | none => rw [hoj] at h5; simp [hji] at h5
          | some oj =>
            rw [hoj] at h5
            cases hdj : oj.dst with
            | none => simp [hdj, hji] at h5
            | some sj =>
              simp [hdj, hji] at h5
              exact ⟨oj, sj, rfl, hdj, fun e => h5 e.symm⟩
  have main : ∀ (f : Nat) (listed : Array Bool) (A : Act) (w' : World), RInv l.toArray n a w Φ listed A w' → cnt listed n = f → wpAny P .any l.toArray Q (f + (l.toArray.size - n)) listed A w' := by
    intro f
    induction f with
    | zero =>
      intro listed A w' inv hc
      have hl : ∀ i, i < n → listed.getD i true = true := cnt_zero n hc
      have el : listed = ((List.range l.toArray.size).map fun i => decide (i < n)).toArray := by
        apply Array.ext
        · simp [inv.head.size]
        · intro i h1 h2
          by_cases hi : i < n
          · have := hl i hi
            simp only [Array.getD_eq_getD_getElem?, Array.getElem?_eq_getElem h1, Option.getD_some] at this
            simp [this, hi]
          · have := inv.head.tail i (by omega) (by rw [← inv.head.size]; exact h1)
            simp only [Array.getD_eq_getD_getElem?, Array.getElem?_eq_getElem h1, Option.getD_some] at this
            simp [this, hi]
      have eA : A = putAll (l.take n) (fun j => ((l.toArray[j]?).bind (·.dst)).elim undef (fun s => A.eval (.tmp s))) 0 a := by
        refine act_ext (by rw [putAll_size, inv.size]) (by rw [putAll_defers, inv.defers]) fun s hs => ?_
        have H := putAll_eval A s (l.take n) (fun j => ((l.toArray[j]?).bind (·.dst)).elim undef (fun s => A.eval (.tmp s))) 0 a (by rw [← inv.size]; exact hs) (fun j o hj hd => by
          have hjn : j < n := by
            have := (List.getElem?_eq_some_iff.1 hj).1
            simp at this
            omega
          have : l.toArray[j]? = some o := by simpa [hjn] using hj
          simp [this, hd])
        by_cases he : ∃ o ∈ l.take n, o.dst = some s
        · exact (H.1 he).symm
        · rw [H.2 (fun o h h' => he ⟨o, h, h'⟩)]
          refine inv.out s fun j hj o ho _ hd => he ⟨o, ?_, hd⟩
          rw [List.mem_take_iff_getElem]
          have hjl := (Array.getElem?_eq_some_iff.1 ho)
          obtain ⟨h1, h2⟩ := hjl
          exact ⟨j, by simp at h1; omega, by simpa using h2⟩
      rw [Nat.zero_add]
      obtain ⟨x, rfl⟩ := inv.ex
      have := wpAny_of_seq (md := .any) (Q' := Q) (P := P) (ops := l.toArray) (l.drop n) n listed A (plus w x.bs x.d) (fun j => by simp [List.getElem?_drop]) (by
        rw [el]
        have : (l.drop n).length = l.toArray.size - n := by simp
        rw [this]
        exact hseq) (by
        rw [eA]
        refine fin _ x fun i hi => ?_
        obtain ⟨o, s, ho, hd, _⟩ := hal i hi
        have hli : listed.getD i false = true := by
          have := hl i hi
          have hsz : i < listed.size := by rw [inv.head.size]; exact (Array.getElem?_eq_some_iff.1 ho).1
          simpa [hsz] using this
        have := inv.ins i hi o s ho hli hd
        simpa [ho, hd] using this)
      have e2 : (l.drop n).length = l.toArray.size - n := by simp
      rwa [e2] at this
    | succ f ih =>
      intro listed A w' inv hc
      rw [show f + 1 + (l.toArray.size - n) = (f + (l.toArray.size - n)) + 1 by omega]
      obtain ⟨i0, hi0, hun0, hprev⟩ := cnt_first n (by rw [hc]; omega)
      have hready0 : i0 ∈ Region.ready .any l.toArray listed := by
        obtain ⟨o, s, ho, hd, _, hlt, _⟩ := hal i0 hi0
        refine mem_ready.2 ⟨hun0, o, ho, fun e he hb => ?_⟩
        have h1 := hlt e he hb
        have h2 := hprev e.on h1
        have hsz : e.on < listed.size := by rw [inv.head.size]; have := (Array.getElem?_eq_some_iff.1 ho).1; omega
        simpa [hsz] using h2
      refine ⟨fun h => (by rw [h] at hready0; cases hready0), fun i hi => ?_⟩
      obtain ⟨hun, o, ho, hdeps⟩ := mem_ready.1 hi
      have hin : i < n := by
        rcases Nat.lt_or_ge i n with h | h
        · exact h
        · have hsz := (Array.getElem?_eq_some_iff.1 ho).1
          simp only [Bool.or_eq_true, decide_eq_true_eq, Bool.and_eq_true] at htail
          rcases htail with ht | ht
          · omega
          · exact absurd hi (tail_waits ht.1 ht.2 (by omega) inv.head _ i0 rfl hi0 hun0 i h)
      obtain ⟨o', s, ho', hd, hsN, hlt, hother⟩ := hal i hin
      have : o' = o := Option.some.inj (ho'.symm.trans ho)
      subst this
      obtain ⟨x, rfl⟩ := inv.ex
      have unl : ∀ j, listed.getD j false = true → j ≠ i := fun j hj e => by subst e; rw [getD_both hun] at hj; cases hj
      have hstep := step i hin o' (by simpa using ho) A x (fun s' hs' => inv.out s' fun j hj oj hoj hlj hdj => by
          have h1 := List.all_eq_true.1 hs' j (List.mem_range.2 hj)
          have hji := unl j hlj
          rw [hoj] at h1
          simp only [Option.bind_some, hdj] at h1
          simp only [Bool.or_eq_true, beq_iff_eq, bne_self_eq_false, Bool.false_eq_true, false_or] at h1
          rcases h1 with h1 | h1
          · exact hji h1
          · obtain ⟨oj', hoj', e, he, hb, hon⟩ := Region.waitsFor_spec h1
            have : oj' = oj := Option.some.inj (hoj'.symm.trans hoj)
            subst this
            have h2 := inv.head.closed j oj' hoj hlj e he hb
            rw [hon, getD_both hun] at h2
            cases h2)
        (fun j s' hs' => by
          simp only [depB, Bool.and_eq_true, decide_eq_true_eq] at hs'
          obtain ⟨⟨hj, hw⟩, hds⟩ := hs'
          obtain ⟨oi, hoi, e, he, hb, hon⟩ := Region.waitsFor_spec hw
          have : oi = o' := Option.some.inj (hoi.symm.trans ho)
          subst this
          have hlj := hdeps e he hb
          rw [hon] at hlj
          cases hoj : l.toArray[j]? with
          | none => rw [hoj] at hds; simp at hds
          | some oj =>
            rw [hoj] at hds
            simp only [Option.bind_some, beq_iff_eq] at hds
            exact inv.ins j hj oj s' hoj hlj hds)
      have next : ∀ v w'', Ex (plus w x.bs x.d) w'' → (Φ i).p v w'' → wpAny P .any l.toArray Q (f + (l.toArray.size - n)) (listed.setIfInBounds i true) (A.put o'.dst v) w'' := by
        intro v w'' hex hp
        refine ih _ _ _ ?_ ?_
        · refine ⟨inv.head.set hi hin, (Ex.plus_ w x.bs x.d).trans hex, by rw [size_put, inv.size], by rw [defers_put, inv.defers], fun s' hs' => ?_, fun j hj oj s' hoj hlj hdj => ?_⟩
          · have hne : s ≠ s' := fun e => by
              subst e
              refine hs' i hin o' ho ?_ hd
              have hsz : i < listed.size := by rw [inv.head.size]; exact (Array.getElem?_eq_some_iff.1 ho).1
              simp [hsz]
            rw [Act.eval_put (fun d hd' e => by rw [hd] at hd'; injection hd' with hd'; injection e with e; exact hne (hd'.trans e.symm))]
            refine inv.out s' fun j hj oj hoj hlj => hs' j hj oj hoj (getD_set_true hlj)
          · by_cases hji : j = i
            · subst hji
              have : oj = o' := Option.some.inj (hoj.symm.trans ho)
              subst this
              rw [hd] at hdj
              injection hdj with hdj
              subst hdj
              rw [hd, eval_put_same (by rw [inv.size, hN]; exact hsN)]
              exact hp
            · have hlj' : listed.getD j false = true := by rw [getD_set_ne false (Ne.symm hji)] at hlj; exact hlj
              obtain ⟨oj', sj, hoj', hdj', hne⟩ := hother j hj hji
              have : oj' = oj := Option.some.inj (hoj'.symm.trans hoj)
              subst this
              rw [hdj] at hdj'
              injection hdj' with hdj'
              subst hdj'
              rw [Act.eval_put (fun d hd' e => by rw [hd] at hd'; injection hd' with hd'; injection e with e; exact hne (e.trans hd'.symm))]
              exact (Φ j).mono _ _ _ (inv.ins j hj oj' s' hoj hlj' hdj) hex
        · have := cnt_set hun n
          rw [if_pos hin] at this
          omega
      have hs := hstep _ next
      unfold wpOp
      rw [ho]
      simp only
      split
      · rename_i hw
        rw [if_pos hw] at hs
        exact .inl hs
      · rename_i hw
        rw [if_neg hw] at hs
        exact hs
  refine wp_region_any hm ?_
  have h0 : ({ w with drawn := w.drawn + 1 } : World) = w.drew := rfl
  have H := main n (Array.replicate l.toArray.size false) a w.drew ⟨⟨by simp, fun j oj _ hl => (by rw [getD_replicate_false] at hl; cases hl), fun t _ ht => getD_in (by simpa using ht) (getD_replicate_false _ _)⟩,
    ⟨⟨[], w.drawn + 1⟩, by show ({ w with drawn := w.drawn + 1 } : World) = _; simp [plus]⟩, rfl, rfl, fun s _ => rfl, fun j hj o s _ hl => (by rw [getD_replicate_false] at hl; cases hl)⟩ (cnt_init _ n hn)
  rw [show n + (l.toArray.size - n) = l.toArray.size by omega] at H
  exact H
/-! ### The same, with operations that hold no memory taken as soon as they may be: they may stand behind the tail's first -/
def sinkE (ops : Array Oper) (n : Nat) (pu : List Nat) : Bool :=
  (List.range n).all fun i => pu.contains i || (List.range (n + 1)).any fun j => decide (i < j) && (j == n || !pu.contains j) && Region.waitsFor .any ops j i
theorem tail_waitsE {n : Nat} {pu : List Nat} {listed : Array Bool} (hs : sinkE ops n pu = true) (hc : Region.chainB .any ops n = true) (inv : HeadInv .any ops n listed) :
    ∀ (d i : Nat), n - i = d → i < n → pu.contains i = false → listed.getD i true = false → ∀ t, n ≤ t → t ∉ Region.ready .any ops listed := by
  intro d
  induction d using Nat.strongRecOn with
  | _ d ih =>
    intro i hd hi hpu hun t ht hr
    obtain ⟨_, ot, hot, hall⟩ := mem_ready.1 hr
    have htlt : t < ops.size := (Array.getElem?_eq_some_iff.1 hot).1
    by_cases htn : t = n
    · subst htn
      have h1 := List.all_eq_true.1 hs i (List.mem_range.2 hi)
      rw [hpu, Bool.false_or] at h1
      obtain ⟨j, hj, hj2⟩ := List.any_eq_true.1 h1
      simp only [Bool.and_eq_true, decide_eq_true_eq] at hj2
      obtain ⟨⟨hij, hjp⟩, hw⟩ := hj2
      obtain ⟨oj, hoj, e, he, hb, hon⟩ := Region.waitsFor_spec hw
      have hjle : j ≤ t := by have := List.mem_range.1 hj; omega
      by_cases hjt : j = t
      · subst hjt
        have : oj = ot := Option.some.inj (hoj.symm.trans hot)
        subst this
        have h2 := hall e he hb
        rw [hon, getD_both hun] at h2
        cases h2
      · cases hl : listed.getD j false with
        | true =>
          have h2 := inv.closed j oj hoj hl e he hb
          rw [hon, getD_both hun] at h2
          cases h2
        | false =>
          have hjs : j < listed.size := by rw [inv.size]; omega
          have hpj : pu.contains j = false := by
            simp only [Bool.or_eq_true, beq_iff_eq, hjt, false_or, Bool.not_eq_true'] at hjp
            exact hjp
          exact ih (t - j) (by omega) j rfl (by omega) hpj (getD_in hjs hl) t (Nat.le_refl _) hr
    · have h1 := List.all_eq_true.1 hc t (List.mem_range.2 htlt)
      simp only [Bool.or_eq_true, decide_eq_true_eq] at h1
      rcases h1 with h1 | h1
      · omega
      · obtain ⟨o', ho', e, he, hb, hon⟩ := Region.waitsFor_spec h1
        have : o' = ot := Option.some.inj (ho'.symm.trans hot)
        subst this
        have h2 := hall e he hb
        rw [hon, getD_both (inv.tail (t - 1) (by omega) (by omega))] at h2
        cases h2
def relE (ops : Array Oper) (n N : Nat) (pu : List Nat) : Bool :=
  decide (n ≤ ops.size) && Region.noSelect ops && sinkE ops n pu && Region.chainB .any ops n &&
  Region.seqB .any ops (ops.size - n) n ((List.range ops.size).map fun i => decide (i < n)).toArray &&
  ((List.range n).all fun i => match ops[i]? with
    | none => false
    | some o => (match o.dst with | some s => decide (s < N) | none => false) && (o.after.all fun e => !Region.binds .any e || decide (e.on < i)) &&
      (List.range n).all fun j => j == i || (match (ops[j]?).bind (·.dst) with | some s => o.dst != some s | none => false)) &&
  pu.all fun i => match ops[i]? with
    | none => false
    | some oi => (List.range ops.size).all fun j => j == i || (match ops[j]? with | some oj => Region.waitsFor .any ops j i || Region.waitsFor .any ops i j || oi.apart ops oj | none => true)

theorem wp_relE {id : Nat} {a : Act} {w : World} {l : List Oper} (n N : Nat) (pu : List Nat) (hN : a.tmps.size = N) (hm : P.follows .mixedOrders = true) (hB : relE l.toArray n N pu = true) (Φ : Nat → MP)
    (step : ∀ i, i < n → ∀ o, l[i]? = some o → ∀ (A : Act) (x : Ext), (∀ s, outB l.toArray n i s = true → A.eval (.tmp s) = a.eval (.tmp s)) → (∀ j s, depB l.toArray n i j s = true → (Φ j).p (A.eval (.tmp s)) (plus w x.bs x.d)) →
      if pu.contains i = true then ∃ v, Yields P l.toArray o v A ∧ (Φ i).p v (plus w x.bs x.d) else
      ∀ K : Act → World → Prop, Shut (∀ v w', Ex (plus w x.bs x.d) w' → (Φ i).p v w' → K (A.put o.dst v) w') → if Region.wanted o (yielded l.toArray A.tmps) = true then o.wp P A (plus w x.bs x.d) K (NoPanic Q) else K (A.put o.dst undef) (plus w x.bs x.d))
    (fin : ∀ (vs : Nat → Value) (x : Ext), (∀ i, i < n → (Φ i).p (vs i) (plus w x.bs x.d)) → wpList P l.toArray (NoPanic Q) (l.drop n) (putAll (l.take n) vs 0 a) (plus w x.bs x.d)) : (Code.region id l.toArray true).wp P Q a w := by
  unfold relE at hB
  simp only [Bool.and_eq_true, decide_eq_true_eq] at hB
  obtain ⟨⟨⟨⟨⟨⟨hn, hsel⟩, hsink⟩, hchain⟩, hseq⟩, hall⟩, hpure⟩ := hB
  have hal : ∀ i, i < n → ∃ o s, l.toArray[i]? = some o ∧ o.dst = some s ∧ s < N ∧ (∀ e ∈ o.after, Region.binds .any e = true → e.on < i) ∧ ∀ j, j < n → j ≠ i → ∃ oj sj, l.toArray[j]? = some oj ∧ oj.dst = some sj ∧ sj ≠ s := by
    intro i hi
    have h1 := List.all_eq_true.1 hall i (List.mem_range.2 hi)
    cases ho : l.toArray[i]? with
    | none => rw [ho] at h1; cases h1
    | some o =>
      rw [ho] at h1
      simp only [Bool.and_eq_true] at h1
      obtain ⟨⟨h2, h3⟩, h4⟩ := h1
      cases hd : o.dst with
      | none => rw [hd] at h2; cases h2
      | some s =>
        rw [hd] at h2 h4
        refine ⟨o, s, rfl, hd, by simpa using h2, fun e he hb => ?_, fun j hj hji => ?_⟩
        · have := (Array.all_eq_true_iff_forall_mem.1 h3) e he
          rw [hb] at this
          simpa using this
        · have h5 := List.all_eq_true.1 h4 j (List.mem_range.2 hj)
          cases hoj : l.toArray[j]? with
          | none => rw [hoj] at h5; simp [hji] at h5
          | some oj =>
            rw [hoj] at h5
            cases hdj : oj.dst with
            | none => simp [hdj, hji] at h5
            | some sj =>
              simp [hdj, hji] at h5
              exact ⟨oj, sj, rfl, hdj, fun e => h5 e.symm⟩
  refine wp_region_noPanic ?_
  have main : ∀ (f : Nat) (listed : Array Bool) (A : Act) (w' : World), RInv l.toArray n a w Φ listed A w' → cnt listed n = f → wpAny P .any l.toArray (NoPanic Q) (f + (l.toArray.size - n)) listed A w' := by
    intro f
    induction f with
    | zero =>
      intro listed A w' inv hc
      have hl : ∀ i, i < n → listed.getD i true = true := cnt_zero n hc
      have el : listed = ((List.range l.toArray.size).map fun i => decide (i < n)).toArray := by
        apply Array.ext
        · simp [inv.head.size]
        · intro i h1 h2
          by_cases hi : i < n
          · have := hl i hi
            simp only [Array.getD_eq_getD_getElem?, Array.getElem?_eq_getElem h1, Option.getD_some] at this
            simp [this, hi]
          · have := inv.head.tail i (by omega) (by rw [← inv.head.size]; exact h1)
            simp only [Array.getD_eq_getD_getElem?, Array.getElem?_eq_getElem h1, Option.getD_some] at this
            simp [this, hi]
      have eA : A = putAll (l.take n) (fun j => ((l.toArray[j]?).bind (·.dst)).elim undef (fun s => A.eval (.tmp s))) 0 a := by
        refine act_ext (by rw [putAll_size, inv.size]) (by rw [putAll_defers, inv.defers]) fun s hs => ?_
        have H := putAll_eval A s (l.take n) (fun j => ((l.toArray[j]?).bind (·.dst)).elim undef (fun s => A.eval (.tmp s))) 0 a (by rw [← inv.size]; exact hs) (fun j o hj hd => by
          have hjn : j < n := by
            have := (List.getElem?_eq_some_iff.1 hj).1
            simp at this
            omega
          have : l.toArray[j]? = some o := by simpa [hjn] using hj
          simp [this, hd])
        by_cases he : ∃ o ∈ l.take n, o.dst = some s
        · exact (H.1 he).symm
        · rw [H.2 (fun o h h' => he ⟨o, h, h'⟩)]
          refine inv.out s fun j hj o ho _ hd => he ⟨o, ?_, hd⟩
          rw [List.mem_take_iff_getElem]
          have hjl := (Array.getElem?_eq_some_iff.1 ho)
          obtain ⟨h1, h2⟩ := hjl
          exact ⟨j, by simp at h1; omega, by simpa using h2⟩
      rw [Nat.zero_add]
      obtain ⟨x, rfl⟩ := inv.ex
      have := wpAny_of_seq (md := .any) (Q' := NoPanic Q) (P := P) (ops := l.toArray) (l.drop n) n listed A (plus w x.bs x.d) (fun j => by simp [List.getElem?_drop]) (by
        rw [el]
        have : (l.drop n).length = l.toArray.size - n := by simp
        rw [this]
        exact hseq) (by
        rw [eA]
        refine fin _ x fun i hi => ?_
        obtain ⟨o, s, ho, hd, _⟩ := hal i hi
        have hli : listed.getD i false = true := by
          have := hl i hi
          have hsz : i < listed.size := by rw [inv.head.size]; exact (Array.getElem?_eq_some_iff.1 ho).1
          simpa [hsz] using this
        have := inv.ins i hi o s ho hli hd
        simpa [ho, hd] using this)
      have e2 : (l.drop n).length = l.toArray.size - n := by simp
      rwa [e2] at this
    | succ f ih =>
      intro listed A w' inv hc
      rw [show f + 1 + (l.toArray.size - n) = (f + (l.toArray.size - n)) + 1 by omega]
      obtain ⟨i0, hi0, hun0, hprev⟩ := cnt_first n (by rw [hc]; omega)
      have hready0 : i0 ∈ Region.ready .any l.toArray listed := by
        obtain ⟨o, s, ho, hd, _, hlt, _⟩ := hal i0 hi0
        refine mem_ready.2 ⟨hun0, o, ho, fun e he hb => ?_⟩
        have h1 := hlt e he hb
        have h2 := hprev e.on h1
        have hsz : e.on < listed.size := by rw [inv.head.size]; have := (Array.getElem?_eq_some_iff.1 ho).1; omega
        simpa [hsz] using h2
      obtain ⟨x, rfl⟩ := inv.ex
      -- what an operation's step says, at a state that is reached
      have facts : ∀ i, i < n → i ∈ Region.ready .any l.toArray listed → ∃ o s, l.toArray[i]? = some o ∧ l[i]? = some o ∧ o.dst = some s ∧ listed.getD i true = false ∧
          (∀ s', outB l.toArray n i s' = true → A.eval (.tmp s') = a.eval (.tmp s')) ∧ (∀ j s', depB l.toArray n i j s' = true → (Φ j).p (A.eval (.tmp s')) (plus w x.bs x.d)) ∧
          ∀ v w'', Ex (plus w x.bs x.d) w'' → (Φ i).p v w'' → wpAny P .any l.toArray (NoPanic Q) (f + (l.toArray.size - n)) (listed.setIfInBounds i true) (A.put o.dst v) w'' := by
        intro i hin hi
        obtain ⟨hun, o', ho, hdeps⟩ := mem_ready.1 hi
        obtain ⟨o2, s, ho', hd, hsN, hlt, hother⟩ := hal i hin
        have : o2 = o' := Option.some.inj (ho'.symm.trans ho)
        subst this
        have unl : ∀ j, listed.getD j false = true → j ≠ i := fun j hj e => by subst e; rw [getD_both hun] at hj; cases hj
        refine ⟨o2, s, ho, by simpa using ho, hd, hun, fun s' hs' => inv.out s' fun j hj oj hoj hlj hdj => ?_, fun j s' hs' => ?_, ?_⟩
        · have h1 := List.all_eq_true.1 hs' j (List.mem_range.2 hj)
          have hji := unl j hlj
          rw [hoj] at h1
          simp only [Option.bind_some, hdj] at h1
          simp only [Bool.or_eq_true, beq_iff_eq, bne_self_eq_false, Bool.false_eq_true, false_or] at h1
          rcases h1 with h1 | h1
          · exact hji h1
          · obtain ⟨oj', hoj', e, he, hb, hon⟩ := Region.waitsFor_spec h1
            have : oj' = oj := Option.some.inj (hoj'.symm.trans hoj)
            subst this
            have h2 := inv.head.closed j oj' hoj hlj e he hb
            rw [hon, getD_both hun] at h2
            cases h2
        · simp only [depB, Bool.and_eq_true, decide_eq_true_eq] at hs'
          obtain ⟨⟨hj, hw⟩, hds⟩ := hs'
          obtain ⟨oi, hoi, e, he, hb, hon⟩ := Region.waitsFor_spec hw
          have : oi = o2 := Option.some.inj (hoi.symm.trans ho)
          subst this
          have hlj := hdeps e he hb
          rw [hon] at hlj
          cases hoj : l.toArray[j]? with
          | none => rw [hoj] at hds; simp at hds
          | some oj =>
            rw [hoj] at hds
            simp only [Option.bind_some, beq_iff_eq] at hds
            exact inv.ins j hj oj s' hoj hlj hds
        · intro v w'' hex hp
          refine ih _ _ _ ?_ ?_
          · refine ⟨inv.head.set hi hin, (Ex.plus_ w x.bs x.d).trans hex, by rw [size_put, inv.size], by rw [defers_put, inv.defers], fun s' hs' => ?_, fun j hj oj s' hoj hlj hdj => ?_⟩
            · have hne : s ≠ s' := fun e => by
                subst e
                refine hs' i hin o2 ho ?_ hd
                have hsz : i < listed.size := by rw [inv.head.size]; exact (Array.getElem?_eq_some_iff.1 ho).1
                simp [hsz]
              rw [Act.eval_put (fun d hd' e => by rw [hd] at hd'; injection hd' with hd'; injection e with e; exact hne (hd'.trans e.symm))]
              refine inv.out s' fun j hj oj hoj hlj => hs' j hj oj hoj (getD_set_true hlj)
            · by_cases hji : j = i
              · subst hji
                have : oj = o2 := Option.some.inj (hoj.symm.trans ho)
                subst this
                rw [hd] at hdj
                injection hdj with hdj
                subst hdj
                rw [hd, eval_put_same (by rw [inv.size, hN]; exact hsN)]
                exact hp
              · have hlj' : listed.getD j false = true := by rw [getD_set_ne false (Ne.symm hji)] at hlj; exact hlj
                obtain ⟨oj', sj, hoj', hdj', hne⟩ := hother j hj hji
                have : oj' = oj := Option.some.inj (hoj'.symm.trans hoj)
                subst this
                rw [hdj] at hdj'
                injection hdj' with hdj'
                subst hdj'
                rw [Act.eval_put (fun d hd' e => by rw [hd] at hd'; injection hd' with hd'; injection e with e; exact hne (e.trans hd'.symm))]
                exact (Φ j).mono _ _ _ (inv.ins j hj oj' s' hoj hlj' hdj) hex
          · have := cnt_set hun n
            rw [if_pos hin] at this
            omega
      by_cases hp0 : pu.contains i0 = true
      · obtain ⟨o, s, ho, hol, hd, hun, h1, h2, next⟩ := facts i0 hi0 hready0
        have hst := step i0 hi0 o hol A x h1 h2
        rw [if_pos hp0] at hst
        obtain ⟨v, hy, hv⟩ := hst
        refine wpAny_first ho (Region.noSelect_spec hsel) (fun c a' w'' h => ?_) _ listed A _ (fun j oj hoj hji hunj hno => ?_) hready0 hy (next v _ (Ex.refl _) hv)
        · exact h
        · have hpi := List.all_eq_true.1 hpure i0 (by simpa using hp0)
          rw [ho] at hpi
          have h3 := List.all_eq_true.1 hpi j (List.mem_range.2 (Array.getElem?_eq_some_iff.1 hoj).1)
          rw [hoj] at h3
          simp only [Bool.or_eq_true, beq_iff_eq, hji, false_or] at h3
          rcases h3 with (h3 | h3) | h3
          · obtain ⟨oj', hoj', e, he, hb, hon⟩ := Region.waitsFor_spec h3
            have : oj' = oj := Option.some.inj (hoj'.symm.trans hoj)
            subst this
            exact absurd hon (hno e he hb)
          · obtain ⟨oi', hoi', e, he, hb, hon⟩ := Region.waitsFor_spec h3
            have : oi' = o := Option.some.inj (hoi'.symm.trans ho)
            subst this
            have h4 := (mem_ready.1 hready0).2
            obtain ⟨o9, ho9, hdeps⟩ := h4
            have : o9 = oi' := Option.some.inj (ho9.symm.trans ho)
            subst this
            have h5 := hdeps e he hb
            rw [hon, getD_both hunj] at h5
            cases h5
          · exact h3
      · have hp0' : pu.contains i0 = false := by simpa using hp0
        refine ⟨fun h => (by rw [h] at hready0; cases hready0), fun i hi => ?_⟩
        have hin : i < n := by
          rcases Nat.lt_or_ge i n with h | h
          · exact h
          · exact absurd hi (tail_waitsE hsink hchain inv.head _ i0 rfl hi0 hp0' hun0 i h)
        obtain ⟨o, s, ho, hol, hd, hun, h1, h2, next⟩ := facts i hin hi
        have hst := step i hin o hol A x h1 h2
        by_cases hpi : pu.contains i = true
        · rw [if_pos hpi] at hst
          obtain ⟨v, hy, hv⟩ := hst
          exact hy.wpOp ho (next v _ (Ex.refl _) hv)
        · rw [if_neg hpi] at hst
          have hs := hst _ next
          unfold wpOp
          rw [ho]
          simp only
          split
          · rename_i hw
            rw [if_pos hw] at hs
            exact .inl hs
          · rename_i hw
            rw [if_neg hw] at hs
            exact hs
  refine wp_region_any hm ?_
  have H := main n (Array.replicate l.toArray.size false) a w.drew ⟨⟨by simp, fun j oj _ hl => (by rw [getD_replicate_false] at hl; cases hl), fun t _ ht => getD_in (by simpa using ht) (getD_replicate_false _ _)⟩,
    ⟨⟨[], w.drawn + 1⟩, by show ({ w with drawn := w.drawn + 1 } : World) = _; simp [plus]⟩, rfl, rfl, fun s _ => rfl, fun j hj o s _ hl => (by rw [getD_replicate_false] at hl; cases hl)⟩ (cnt_init _ n hn)
  rw [show n + (l.toArray.size - n) = l.toArray.size by omega] at H
  exact H
end
/-- the slot of a guard -/
theorem slot_of {x : Option Value} {b : Bool} (h : x.getD undef = .bool b) : x = some (.bool b) := by
  cases x with
  | none => simp [undef] at h
  | some v => simp at h; rw [h]
theorem slot_un {x : Option Value} (h : x.getD undef = undef) : x = none ∨ x = some undef := by
  cases x with
  | none => exact .inl rfl
  | some v => simp at h; exact .inr (by rw [h])
end Go.Proofs.Ytknoenceccpkhaa

/- Whole arrays and structs out of and into blocks; results in memory. -/
namespace Go.Proofs.Ytknoenceccpkhaa
open Go.RowKit
set_option linter.unusedVariables false
set_option linter.unusedSimpArgs false

theorem Bk.range {w : World} {g : Nat} {t : TypeId} {cs : List Value} (h : Bk w g t cs) : w.rangeAt g 0 cs := fun j v hv => by rw [Nat.zero_add, h.cell]; exact hv
/-- a result that is a whole array or struct, in a block -/
theorem bodyPost_agg {P : Program} {fn : Func} {R : Ending → World → Prop} {a : Act} {w : World} {slot ty g : Nat} {d : TypeDesc} {cs : List Value} (hfr : fn.results = #[.cell slot ty]) (hs : a.tmps.getD slot undef = .pointer (some ⟨g, 0, none⟩))
    (hb : w.rangeAt g 0 cs) (hu : P.underlying ty = some d) (hd : d.isRow = true) (hi : (P.info? ty).map (·.size) = some cs.length) (hdf : a.defers = []) (hR : R (.returned (.agg cs.toArray)) w) : bodyPost P fn R .ret a w := by
  refine bodyPost_ret (v := .agg cs.toArray) ?_ hdf hR
  have h1 := run_loadVar_mid (P := P) w g 0 ty cs d hb hu hd hi
  have hs' : a.tmps[slot]?.getD undef = .pointer (some ⟨g, 0, none⟩) := by simpa using hs
  simp [results, hfr, hs', asAddr, h1]
/-- a block's cells, all stored anew -/
theorem Bk.setCells {w : World} {g : Nat} {t : TypeId} : ∀ (new old : List Value) (o : Nat), Bk w g t old → o + new.length = old.length → Bk (w.setCells g o new) g t (old.take o ++ new) := by
  intro new
  induction new generalizing w with
  | nil => intro old o h hl; simp only [List.length_nil, Nat.add_zero] at hl; simp only [World.setCells, List.append_nil, List.take_of_length_le (Nat.le_of_eq hl.symm)]; exact h
  | cons v r ih =>
    intro old o h hl
    rw [World.setCells]
    have h1 := ih (old.set o v) (o + 1) (h.set_ o v) (by simp only [List.length_set, List.length_cons] at *; omega)
    have e : (old.set o v).take (o + 1) ++ r = old.take o ++ v :: r := by
      rw [List.take_succ_eq_append_getElem (by simp only [List.length_set, List.length_cons] at *; omega)]
      simp [List.take_set_of_le]
    rw [e] at h1
    exact h1
theorem Below.setCells {B : Nat} {a : World} {g : Nat} (hg : B ≤ g) : ∀ (new : List Value) (o : Nat) (w : World), Below B a w → Below B a (w.setCells g o new)
  | [], _, _, h => h
  | v :: r, o, w, h => Below.setCells hg r (o + 1) _ (h.setCell hg v)
/-- is it this operation? -/
theorem at_op {P : Program} {w : World} {ops : Array Oper} {rest : List Oper} {o : Oper} {a : Act} {Q : Exit → Act → World → Prop} (op : Op) (h : o.op = op) (x : wpList P ops Q (o :: rest) a w) : wpList P ops Q (o :: rest) a w := x
/-- a part of a block that is known whole, as an aggregate -/
theorem wpList_ldA {P : Program} {w : World} {ops : Array Oper} {rest : List Oper} {o : Oper} {a : Act} {Q : Exit → Act → World → Prop} (ty : TypeId) (x : Operand) (ho : o.op = .load ty x) (hgd : o.guard = none)
    {g off : Nat} {t : TypeId} {cs : List Value} {d : TypeDesc} (part : List Value) (hx : a.eval x = .pointer (some ⟨g, off, none⟩)) (hb : Bk w g t cs) (hp : (cs.drop off).take part.length = part)
    (hu : P.underlying ty = some d) (hd : d.isRow = true) (hi : (P.info? ty).map (·.size) = some part.length) (h : wpList P ops Q rest (a.put o.dst (.agg part.toArray)) w) : wpList P ops Q (o :: rest) a w := by
  refine wpList_load_mid hgd ty x ho g off hx part d (fun j v hv => ?_) hu hd hi h
  rw [hb.cell]
  rw [← hp, List.getElem?_take] at hv
  split at hv
  · rw [List.getElem?_drop] at hv; exact hv
  · cases hv
/-- an aggregate stored over a whole block -/
theorem wpList_stA {P : Program} {w : World} {ops : Array Oper} {rest : List Oper} {o : Oper} {a : Act} {Q : Exit → Act → World → Prop} (ty : TypeId) (x y : Operand) (ho : o.op = .store ty x y) (hgd : o.guard = none)
    {g : Nat} {t : TypeId} (new old : List Value) (hl : new.length = old.length) (h1 : ∀ u ∈ new, u.oneCell' = true) (hx : a.eval x = .pointer (some ⟨g, 0, none⟩)) (hy : a.eval y = .agg new.toArray) (hb : Bk w g t old)
    (hi : (P.info? ty).map (·.size) = some new.length) (h : ∀ w', Bk w' g t new → w.grownBy w' (some g) → wpList P ops Q rest (a.put o.dst undef) w') : wpList P ops Q (o :: rest) a w := by
  refine wpList_store_mid hgd ty x y ho g 0 new.toArray hx hy (fun j hj => ?_) (by simpa using hi) (all_oneCell_toArray h1) (h _ ?_ ?_)
  · rw [Nat.zero_add]
    have hj' : j < old.length := by rw [← hl]; simpa using hj
    exact ⟨by rw [hb.cell, List.getElem?_eq_getElem hj']; rfl, hb.frozen j⟩
  · have := Bk.setCells new old 0 hb (by omega)
    simpa using this
  · generalize 0 = k
    clear hi h hb hy hl
    induction new generalizing w k with
    | nil => exact World.grownBy.refl _ _
    | cons v r ih => exact (grownBy_setCell _ _ _ _).trans (ih (fun u hu => h1 u (List.mem_cons_of_mem _ hu)) _)
theorem below_grown {w w1 w2 : World} {g : Nat} (h : Below w.heap.size w w1) (hg : w1.grownBy w2 (some g)) (hl : w.heap.size ≤ g) : Below w.heap.size w w2 :=
  h.trans (below_of_grown hg h.size (fun k hk => by injection hk with hk; omega))
theorem Bk.newK {W : World} {k : Nat} (t : TypeId) (cs : Array Value) (l : List Value) (hk : k = W.heap.size) (hl : cs.toList = l) : Bk (W.alloc (.cells cs t)) k t l := by
  subst hk
  subst hl
  exact Bk.new W t cs
theorem Below.allocS {a w : World} (h : Below a.heap.size a w) (o : Obj) : Below a.heap.size a (w.alloc o) := h.alloc h.size o
def MP.blk (base : Nat) (t : TypeId) (cs : List Value) : MP := ⟨fun v w => ∃ g, v = .pointer (some ⟨g, 0, none⟩) ∧ base ≤ g ∧ Bk w g t cs, fun _ _ _ ⟨g, h1, h2, h3⟩ h => ⟨g, h1, h2, h3.later h.below⟩⟩
end Go.Proofs.Ytknoenceccpkhaa

/- Slices whose elements have s cells each (structs, ints): read, cut, owned, appended to. No program in sight. -/
namespace Go.Proofs.Ytknoenceccpkhaa
open Go.RowKit Go.ChangeShapes Go.WideShapes
set_option linter.unusedVariables false
set_option linter.unusedSimpArgs false

/-- a slice type, its element type, the element's zero value, its cells and bytes -/
structure ET (P : Program) (ts e : TypeId) (z : Value) (s by_ : Nat) : Prop where
  sl : P.underlying ts = some (.slice e)
  info : (P.info? e).map (fun i => (i.zero, i.size, i.bytes)) = some (some z, s, by_)
  zs : z.cells.size = s
  pos : 0 < s
  small : by_ ≤ 64
/-- a slice reads as the cells cs -/
def Rs (s : Nat) (w : World) (A : Option Addr) (n c : Nat) (cs : List Value) : Prop := cs.length = n * s ∧ n ≤ c ∧ Rd w w.heap.size A cs
/-- a slice of the call's own (its block from base on) reads as cs -/
def Os (e : TypeId) (s : Nat) (w : World) (base : Nat) (A : Option Addr) (n c : Nat) (cs : List Value) : Prop := w.ownsRow base e s (.slice A n c) n cs

theorem Rd.cutS {w : World} {B : Nat} {A : Option Addr} {cs : List Value} (h : Rd w B A cs) {s c k : Nat} (hc : cs.length ≤ c * s) : Rd w B (cutA A c k s) (cs.drop (k * s)) := by
  by_cases hk : cs.length ≤ k * s
  · exact .inl (List.drop_eq_nil_of_le hk)
  rcases h with h | ⟨b, off, hA, hb, hcell⟩
  · exact .inl (by simp [h])
  · have hck : ¬ c = k := fun e => by subst e; exact hk hc
    refine .inr ⟨b, off + k * s, ?_, hb, fun i u hu => ?_⟩
    · subst hA
      simp only [cutA, if_neg hck, Option.map_some, Addr.add]
      split
      · simp_all
      · rfl
    · rw [Nat.add_assoc]
      rw [List.getElem?_drop] at hu
      exact hcell _ _ hu
theorem Rd.of_ownS {w : World} {A : Option Addr} {cs : List Value} {base : Nat} {e : TypeId} {s n c : Nat} (h : w.ownsRow base e s (.slice A n c) n cs) : Rd w w.heap.size A cs := by
  rcases Nat.eq_zero_or_pos n with h0 | h0
  · subst h0
    exact .inl (List.eq_nil_of_length_eq_zero (by simpa using h.1))
  · obtain ⟨g, cap, hv, _, hlt⟩ := h.form h0
    have hA : A = some ⟨g, 0, none⟩ := by injection hv
    subst hA
    refine .inr ⟨g, 0, rfl, hlt, fun i u hu => ?_⟩
    have := h.cells (g := g) rfl i u hu
    have hplain : (⟨g, 0, none⟩ : Addr).add i = ⟨g, 0 + i, none⟩ := by unfold Addr.add; split <;> simp_all
    rwa [hplain] at this
section
variable {s : Nat} {w w' : World} {base : Nat} {e : TypeId} {A : Option Addr} {n c : Nat} {cs : List Value}
theorem Rs.nil_ : Rs s w none 0 0 [] := ⟨by simp, Nat.le_refl _, .inl rfl⟩
theorem Rs.later (h : Rs s w A n c cs) (hb : Below w.heap.size w w') : Rs s w' A n c cs := ⟨h.1, h.2.1, (h.2.2.below hb).more hb.size⟩
theorem Rs.drew (h : Rs s w A n c cs) : Rs s w.drew A n c cs := h
theorem Rs.alloc (h : Rs s w A n c cs) (o : Obj) : Rs s (w.alloc o) A n c cs := ⟨h.1, h.2.1, (h.2.2.alloc (Nat.le_refl _) o).more (by simp)⟩
theorem Rs.plus_ (h : Rs s w A n c cs) (bs : List Obj) (d : Nat) : Rs s (plus w bs d) A n c cs := h.later (below_plus w bs d)
theorem Rs.take (h : Rs s w A n c cs) {k : Nat} (hk : k ≤ n) : Rs s w A k c (cs.take (k * s)) := ⟨by rw [List.length_take, h.1]; exact Nat.min_eq_left (Nat.mul_le_mul_right _ hk), Nat.le_trans hk h.2.1, h.2.2.take _⟩
theorem Rs.cut (h : Rs s w A n c cs) {k : Nat} (hk : k ≤ n) : Rs s w (cutA A c k s) (n - k) (c - k) (cs.drop (k * s)) :=
  ⟨by rw [List.length_drop, h.1, Nat.sub_mul], by have := h.2.1; omega, h.2.2.cutS (by rw [h.1]; exact Nat.mul_le_mul_right _ h.2.1)⟩
theorem Rs.grown (h : Rs s w A n c cs) {row : Option Nat} (hg : w.grownBy w' row) (hr : ∀ a, A = some a → some a.block ≠ row) : Rs s w' A n c cs := by
  refine ⟨h.1, h.2.1, ?_⟩
  rcases h.2.2 with h' | ⟨b, off, hA, hbl, hc⟩
  · exact .inl h'
  · exact .inr ⟨b, off, hA, Nat.lt_of_lt_of_le hbl hg.size, fun i u hu => (World.cell?_of_block (hg.block b hbl (hr _ hA))).trans (hc i u hu)⟩
/-- the i-th element's cells -/
theorem Rs.at_ (h : Rs s w A n c cs) (hn : 0 < n) (hs : 0 < s) : ∃ b off, A = some ⟨b, off, none⟩ ∧ b < w.heap.size ∧ ∀ i u, cs[i]? = some u → w.cell? ⟨b, off + i, none⟩ = some u :=
  h.2.2.at_ (by rw [h.1]; exact Nat.mul_pos hn hs)
theorem Os.rs (h : Os e s w base A n c cs) : Rs s w A n c cs := by
  refine ⟨h.1, ?_, Rd.of_ownS h⟩
  rcases h.2 with ⟨hv, h0⟩ | ⟨g, cap, cur, hv, _, _, hnc, _⟩
  · omega
  · injection hv with _ _ h3
    omega
theorem Os.nil_ : Os e s w base none 0 0 [] := World.ownsRow_nil w base _ s
theorem Os.blk (h : Os e s w base A n c cs) : ∀ k, (Value.slice A n c).ownBlock = some k → base ≤ k ∧ k < w.heap.size := h.lt
theorem Os.grown {row : Option Nat} (h : Os e s w base A n c cs) (hg : w.grownBy w' row) (hne : ∀ k, (Value.slice A n c).ownBlock = some k → row ≠ some k) : Os e s w' base A n c cs := by
  refine h.kept hg ?_
  cases hk : (Value.slice A n c).ownBlock with
  | none => exact .inl rfl
  | some k => exact .inr (fun e => hne k hk e.symm)
theorem Os.later (h : Os e s w base A n c cs) (hb : Below w.heap.size w w') : Os e s w' base A n c cs := h.grown (grownBy_of_below hb) (fun _ _ => by simp)
theorem Os.plus_ (h : Os e s w base A n c cs) (bs : List Obj) (d : Nat) : Os e s (plus w bs d) base A n c cs := h.later (below_plus w bs d)
theorem Os.mono {base' : Nat} (h : Os e s w base A n c cs) (hb : base' ≤ base) : Os e s w base' A n c cs := by
  refine ⟨h.1, ?_⟩
  rcases h.2 with h2 | ⟨g, cap, cur, hv, hg, hr⟩
  · exact .inl h2
  · exact .inr ⟨g, cap, cur, hv, by omega, hr⟩
end
/-- new elements, written out -/
theorem Os.lit (w : World) {base s : Nat} {e : TypeId} (hb : base ≤ w.heap.size) (cs : Array Value) (n : Nat) (hn : cs.size = n * s) (hm : n ≤ maxLen) : Os e s (w.alloc (.cells cs e)) base (some ⟨w.heap.size, 0, none⟩) n n cs.toList :=
  ⟨by simpa using hn, .inr ⟨w.heap.size, n, cs, rfl, hb, heap_alloc_new w _, Nat.le_refl _, hm, hn, List.take_of_length_le (by simp [hn])⟩⟩
/-- a block whose cells are the elements (whatever its type) -/
theorem Rs.of_bk {w : World} {g s n c : Nat} {t : TypeId} {cs : List Value} (h : Bk w g t cs) (hn : cs.length = n * s) (hc : n ≤ c) : Rs s w (some ⟨g, 0, none⟩) n c cs :=
  ⟨hn, hc, .inr ⟨g, 0, rfl, h.lt, fun i u hu => by rw [Nat.zero_add]; exact (h.cell i).trans hu⟩⟩

/-- append onto a row of the call's own, whatever the source -/
theorem run_appS {P : Program} (w : World) {ts ty e : TypeId} {z : Value} {s by_ : Nat} (et : ET P ts e z s by_) {base : Nat} {A : Option Addr} {n c : Nat} {l : List Value} (hown : Os e s w base A n c l)
    {A2 : Option Addr} {n2 c2 : Nat} {l2 : List Value} (hr : Rs s w A2 n2 c2 l2) (h1 : ∀ u ∈ l2, u.oneCell' = true) (hm : n + n2 ≤ 1099511627776) (hbase : base ≤ w.heap.size) :
    ∃ A' n' c' w', (Builtin.append_ #[ts, ts] ty #[.slice A n c, .slice A2 n2 c2]).run P w = .ok (.slice A' n' c') w' ∧ n' = n + n2 ∧ Os e s w' base A' n' c' (l ++ l2) ∧ Below base w w' ∧ w.grownBy w' (Value.slice A n c).ownBlock := by
  obtain ⟨i, hi, hz0, hz1, hz2⟩ := info_parts et.info
  have hbel : ∀ {w'}, w.grownBy w' (Value.slice A n c).ownBlock → Below base w w' := fun hg => below_of_grown hg hbase fun k hk => (hown.blk k hk).1
  have fin : ∀ v' w', w'.ownsRow base e s v' (n + n2) (l ++ l2) → ∃ A' n' c', v' = .slice A' n' c' ∧ n' = n + n2 ∧ Os e s w' base A' n' c' (l ++ l2) := by
    intro v' w' h
    have h2 := h.2
    rcases h2 with ⟨hv, h0⟩ | ⟨g, cap, cur, hv, _⟩
    · refine ⟨none, 0, 0, hv, h0.symm, ?_⟩
      rw [hv, h0] at h
      exact h
    · refine ⟨_, _, _, hv, rfl, ?_⟩
      rw [hv] at h
      exact h
  cases A2 with
  | none =>
    have hl2 : l2 = [] := by
      rcases hr.2.2 with h | ⟨b, off, h, _⟩
      · exact h
      · cases h
    have hn2 : n2 = 0 := by
      have h3 := hr.1
      rw [hl2] at h3
      rcases Nat.eq_zero_or_pos n2 with h | h
      · exact h
      · have := Nat.mul_pos h et.pos
        simp at h3
        omega
    subst hn2
    subst hl2
    refine ⟨A, n, c, w, ?_, rfl, by simpa using hown, Below.refl _ _, World.grownBy.refl w _⟩
    rcases hown.2 with ⟨hv, h0⟩ | ⟨g, cap, cur, hv, _, _, hnc, _⟩
    · injection hv with h1 h2 h3
      subst h1 h2 h3
      simp [Builtin.append_, run_underlying et.sl, sizeOf, typeInfo, hi, Builtin.lenOf, Builtin.firstCells]
    · injection hv with h1 h2 h3
      subst h1 h3
      simp [Builtin.append_, run_underlying et.sl, sizeOf, typeInfo, hi, Builtin.lenOf, Builtin.firstCells, hnc, storeCells]
  | some ad =>
    have hcells : ∀ j u, l2[j]? = some u → w.cell? (ad.add j) = some u := by
      intro j u hu
      rcases hr.2.2 with h | ⟨b, off, h, _, hc⟩
      · rw [h] at hu; simp at hu
      · injection h with h
        subst h
        rw [add_plain]
        exact hc j u hu
    have hby : (n + n2) * by_ ≤ 140737488355328 := Nat.le_trans (Nat.mul_le_mul hm et.small) (by decide)
    obtain ⟨v', w', hrun, h2, h3, _, _⟩ := run_append_own_at (P := P) w base ts ty e i z s by_ et.sl hi hz0 hz1 hz2 et.zs et.pos (.slice A n c) n l hown ad n2 c2 l2
      hr.1 hcells h1 (by simp only [maxLen]; omega) hby hbase
    obtain ⟨A', n', c', rfl, hn', hob⟩ := fin v' w' h2
    exact ⟨A', n', c', w', hrun, hn', hob, hbel h3, h3⟩

theorem wpList_appS {P : Program} {w : World} {ops : Array Oper} {rest : List Oper} {o : Oper} {a : Act} {Q : Exit → Act → World → Prop} {ts e : TypeId} {z : Value} {sz by_ : Nat} (et : ET P ts e z sz by_) (hgd : o.guard = none) (s x : Operand)
    (ho : o.op = .call { callee := .builtin .append, args := #[s, x], argTypes := #[ts, ts] })
    {base : Nat} {A : Option Addr} {n c : Nat} {l : List Value} (hs : a.eval s = .slice A n c) (hown : Os e sz w base A n c l)
    {A2 : Option Addr} {n2 c2 : Nat} {l2 : List Value} (hx : a.eval x = .slice A2 n2 c2) (hr : Rs sz w A2 n2 c2 l2) (h1 : ∀ u ∈ l2, u.oneCell' = true) (hm : n + n2 ≤ 1099511627776) (hbase : base ≤ w.heap.size)
    (h : ∀ A' n' c' w', n' = n + n2 → Os e sz w' base A' n' c' (l ++ l2) → Below base w w' → w.grownBy w' (Value.slice A n c).ownBlock → wpList P ops Q rest (a.put o.dst (.slice A' n' c')) w') : wpList P ops Q (o :: rest) a w := by
  refine wpList_plain hgd fun _ hK => ?_
  obtain ⟨A', n', c', w', hrun, h0, h2, h3, h4⟩ := run_appS (P := P) w (ty := o.type) et hown hr h1 hm hbase
  unfold Oper.wp execOp
  simp only [ho, resolve, invoke, builtin, Sem.run_bind, Sem.run_pure, Result.andThen_ok, List.map_toArray, List.map_cons, List.map_nil, hs, hx, hrun]
  exact hK _ _ (h A' n' c' w' h0 h2 h3 h4)

/-- the cells of pairs of ints -/
def prs (k : IntKind) (L : List (Int × Int)) : List Value := L.flatMap fun p => [.int .i64 p.1, .int k p.2]
theorem prs_length (k : IntKind) : ∀ L : List (Int × Int), (prs k L).length = L.length * 2
  | [] => rfl
  | p :: L => by
    have := prs_length k L
    simp only [prs, List.flatMap_cons, List.length_append, List.length_cons, List.length_nil] at this ⊢
    omega
theorem prs_append (k : IntKind) (a b : List (Int × Int)) : prs k (a ++ b) = prs k a ++ prs k b := by simp [prs]
theorem prs_at (k : IntKind) : ∀ (L : List (Int × Int)) (i : Nat) (h : i < L.length), (prs k L)[2 * i]? = some (.int .i64 L[i].1) ∧ (prs k L)[2 * i + 1]? = some (.int k L[i].2)
  | [], i, h => by simp at h
  | p :: L, 0, _ => by simp [prs]
  | p :: L, i + 1, h => by
    have := prs_at k L i (by simpa using h)
    simp only [prs, List.flatMap_cons] at this ⊢
    rw [show 2 * (i + 1) = 2 * i + 1 + 1 by omega]
    simpa using this
end Go.Proofs.Ytknoenceccpkhaa

/- A region that draws its order, by words that are chosen one by one (wp_rel, wp_relE, step for step). -/
namespace Go.Proofs.Ytknoenceccpkhaa
open Go.RowKit
set_option linter.unusedVariables false

/-- the words so far, and one more for operation k -/
def upd (k : Nat) (p : MP) (f : Nat → MP) : Nat → MP := fun j => bif Nat.beq j k then p else f j
theorem upd_same (k : Nat) (p : MP) (f : Nat → MP) : upd k p f k = p := by simp [upd]
theorem upd_ne {j k : Nat} (h : j ≠ k) (p : MP) (f : Nat → MP) : upd k p f j = f j := by
  have : Nat.beq j k = false := by
    cases hb : Nat.beq j k with
    | false => rfl
    | true => exact absurd (Nat.eq_of_beq_eq_true hb) h
  simp [upd, this]
theorem eval_tmp (a : Act) (s : Nat) : a.eval (.tmp s) = a.tmps[s]?.getD undef := by simp [Act.eval]
section
variable {P : Program} {Q : Exit → Act → World → Prop}
/-- operation i does what its word says, whenever its turn comes -/
def StepOk (body : Nat → Oper → Act → World → MP → Prop) (l : List Oper) (n : Nat) (a : Act) (w : World) (φs : Nat → MP) (i : Nat) (φ : MP) : Prop :=
  ∀ o, l[i]? = some o → ∀ (A : Act) (x : Ext), (∀ s, outB l.toArray n i s = true → A.eval (.tmp s) = a.eval (.tmp s)) → (∀ j s, depB l.toArray n i j s = true → (φs j).p (A.eval (.tmp s)) (plus w x.bs x.d)) → body i o A (plus w x.bs x.d) φ
def Steps (fin : (Nat → MP) → Prop) (body : Nat → Oper → Act → World → MP → Prop) (l : List Oper) (n : Nat) (a : Act) (w : World) : Nat → Nat → (Nat → MP) → Prop
  | 0, _, φs => fin φs
  | r + 1, i, φs => ∃ φ, StepOk body l n a w φs i φ ∧ Steps fin body l n a w r (i + 1) (upd i φ φs)
variable {fin : (Nat → MP) → Prop} {body : Nat → Oper → Act → World → MP → Prop}
theorem Steps.all {l : List Oper} {n : Nat} {a : Act} {w : World} (hdep : ∀ i, i < n → ∀ j s, depB l.toArray n i j s = true → j < i) : ∀ (r i : Nat) (φs : Nat → MP), i + r = n → Steps fin body l n a w r i φs → (∀ j, j < i → StepOk body l n a w φs j (φs j)) →
    ∃ Φ : Nat → MP, (∀ i, i < n → StepOk body l n a w Φ i (Φ i)) ∧ fin Φ
  | 0, i, φs, hi, hs, hd => ⟨φs, fun j hj => hd j (by omega), hs⟩
  | r + 1, i, φs, hi, hs, hd => by
    obtain ⟨φ, h1, h2⟩ := hs
    refine Steps.all hdep r (i + 1) (upd i φ φs) (by omega) h2 fun j hj => ?_
    have conv : ∀ k (ψ : MP), k ≤ i → k < n → StepOk body l n a w φs k ψ → StepOk body l n a w (upd i φ φs) k ψ := by
      intro k ψ hk hkn h o ho A x hO hD
      refine h o ho A x hO (fun j' s hj' => ?_)
      have hlt := hdep k hkn j' s hj'
      have := hD j' s hj'
      rwa [upd_ne (by omega)] at this
    by_cases hji : j = i
    · subst hji
      rw [upd_same]
      exact conv j φ (Nat.le_refl _) (by omega) h1
    · rw [upd_ne hji]
      exact conv j (φs j) (by omega) (by omega) (hd j (by omega))
theorem all_dep {ops : Array Oper} {n : Nat} {g : Nat → Oper → Bool} (hall : ((List.range n).all fun i => match ops[i]? with
    | none => false
    | some o => (match o.dst with | some s => g s o | none => false) && (o.after.all fun e => !Region.binds .any e || decide (e.on < i)) &&
      (List.range n).all fun j => j == i || (match (ops[j]?).bind (·.dst) with | some s => o.dst != some s | none => false)) = true) : ∀ i, i < n → ∀ j s, depB ops n i j s = true → j < i := by
  intro i hi j s hd
  have h1 := List.all_eq_true.1 hall i (List.mem_range.2 hi)
  simp only [depB, Bool.and_eq_true, decide_eq_true_eq] at hd
  obtain ⟨o, ho, e, he, hb, hon⟩ := Region.waitsFor_spec hd.1.2
  rw [ho] at h1
  simp only [Bool.and_eq_true] at h1
  have h3 := (Array.all_eq_true_iff_forall_mem.1 h1.1.2) e he
  rw [hb] at h3
  have : e.on < i := by simpa using h3
  omega
def bodyS (P : Program) (Q : Exit → Act → World → Prop) (l : List Oper) (i : Nat) (o : Oper) (A : Act) (w : World) (φ : MP) : Prop :=
  ∀ K : Act → World → Prop, Shut (∀ v w', Ex w w' → φ.p v w' → K (A.put o.dst v) w') → if Region.wanted o (yielded l.toArray A.tmps) = true then o.wp P A w K Q else K (A.put o.dst undef) w
def bodyE (P : Program) (Q : Exit → Act → World → Prop) (l : List Oper) (pu : List Nat) (i : Nat) (o : Oper) (A : Act) (w : World) (φ : MP) : Prop :=
  if pu.contains i = true then ∃ v, Yields P l.toArray o v A ∧ φ.p v w else bodyS P (NoPanic Q) l i o A w φ
def finS (P : Program) (Q : Exit → Act → World → Prop) (l : List Oper) (n : Nat) (a : Act) (w : World) (φs : Nat → MP) : Prop :=
  ∀ (vs : Nat → Value) (x : Ext), (∀ i, i < n → (φs i).p (vs i) (plus w x.bs x.d)) → wpList P l.toArray Q (l.drop n) (putAll (l.take n) vs 0 a) (plus w x.bs x.d)
theorem wp_relS {id : Nat} {a : Act} {w : World} {l : List Oper} (n N : Nat) (hN : a.tmps.size = N) (hm : P.follows .mixedOrders = true) (hB : relB l.toArray n N = true)
    (h : Steps (finS P Q l n a w) (bodyS P Q l) l n a w n 0 (fun _ => MP.any)) : (Code.region id l.toArray true).wp P Q a w := by
  have hdep : ∀ i, i < n → ∀ j s, depB l.toArray n i j s = true → j < i := by
    have hB' := hB
    unfold relB at hB'
    simp only [Bool.and_eq_true] at hB'
    exact all_dep (g := fun s _ => decide (s < N)) (by exact hB'.2)
  obtain ⟨Φ, h1, h2⟩ := Steps.all hdep n 0 _ (by omega) h (fun j hj => absurd hj (by omega))
  exact wp_rel n N hN hm hB Φ (fun i hi o ho A x hO hD K hK => h1 i hi o ho A x hO hD K hK) h2
theorem wp_relES {id : Nat} {a : Act} {w : World} {l : List Oper} (n N : Nat) (pu : List Nat) (hN : a.tmps.size = N) (hm : P.follows .mixedOrders = true) (hB : relE l.toArray n N pu = true)
    (h : Steps (finS P (NoPanic Q) l n a w) (bodyE P Q l pu) l n a w n 0 (fun _ => MP.any)) : (Code.region id l.toArray true).wp P Q a w := by
  have hdep : ∀ i, i < n → ∀ j s, depB l.toArray n i j s = true → j < i := by
    have hB' := hB
    unfold relE at hB'
    simp only [Bool.and_eq_true] at hB'
    exact all_dep (g := fun s _ => decide (s < N)) (by exact hB'.1.2)
  obtain ⟨Φ, h1, h2⟩ := Steps.all hdep n 0 _ (by omega) h (fun j hj => absurd hj (by omega))
  exact wp_relE n N pu hN hm hB Φ (fun i hi o ho A x hO hD => h1 i hi o ho A x hO hD) h2
/-- one operation more; its word is found by the proof -/
theorem Steps.one (φ : MP) {l : List Oper} {n : Nat} {a : Act} {w : World} {r i : Nat} {φs : Nat → MP} (i' : Nat) (hi : i + 1 = i')
    (h : ∀ o, l[i]? = some o → ∀ (A : Act) (x : Ext), (∀ s, outB l.toArray n i s = true → A.eval (.tmp s) = a.eval (.tmp s)) → (∀ j s, depB l.toArray n i j s = true → (φs j).p (A.eval (.tmp s)) (plus w x.bs x.d)) →
      ∀ K : Act → World → Prop, Shut (∀ v w', Ex (plus w x.bs x.d) w' → φ.p v w' → K (A.put o.dst v) w') → if Region.wanted o (yielded l.toArray A.tmps) = true then o.wp P A (plus w x.bs x.d) K Q else K (A.put o.dst undef) (plus w x.bs x.d))
    (h' : Steps fin (bodyS P Q l) l n a w r i' (upd i φ φs)) : Steps fin (bodyS P Q l) l n a w (r + 1) i φs := by
  subst hi
  exact ⟨φ, fun o ho A x hO hD => h o ho A x hO hD, h'⟩
theorem Steps.oneE (φ : MP) {l : List Oper} {n : Nat} {a : Act} {w : World} {r i : Nat} {φs : Nat → MP} {pu : List Nat} (i' : Nat) (hi : i + 1 = i') (hp : pu.contains i = false)
    (h : ∀ o, l[i]? = some o → ∀ (A : Act) (x : Ext), (∀ s, outB l.toArray n i s = true → A.eval (.tmp s) = a.eval (.tmp s)) → (∀ j s, depB l.toArray n i j s = true → (φs j).p (A.eval (.tmp s)) (plus w x.bs x.d)) →
      ∀ K : Act → World → Prop, Shut (∀ v w', Ex (plus w x.bs x.d) w' → φ.p v w' → K (A.put o.dst v) w') → if Region.wanted o (yielded l.toArray A.tmps) = true then o.wp P A (plus w x.bs x.d) K (NoPanic Q) else K (A.put o.dst undef) (plus w x.bs x.d))
    (h' : Steps fin (bodyE P Q l pu) l n a w r i' (upd i φ φs)) : Steps fin (bodyE P Q l pu) l n a w (r + 1) i φs := by
  subst hi
  refine ⟨φ, fun o ho A x hO hD => ?_, h'⟩
  unfold bodyE
  rw [if_neg (by rw [hp]; decide)]
  exact h o ho A x hO hD
theorem Steps.oneP (v : Value) {l : List Oper} {n : Nat} {a : Act} {w : World} {r i : Nat} {φs : Nat → MP} {pu : List Nat} (i' : Nat) (hi : i + 1 = i') (hp : pu.contains i = true)
    (h : ∀ o, l[i]? = some o → ∀ (A : Act) (x : Ext), (∀ s, outB l.toArray n i s = true → A.eval (.tmp s) = a.eval (.tmp s)) → (∀ j s, depB l.toArray n i j s = true → (φs j).p (A.eval (.tmp s)) (plus w x.bs x.d)) → Yields P l.toArray o v A)
    (h' : Steps fin (bodyE P Q l pu) l n a w r i' (upd i (MP.eq v) φs)) : Steps fin (bodyE P Q l pu) l n a w (r + 1) i φs := by
  subst hi
  refine ⟨MP.eq v, fun o ho A x hO hD => ?_, h'⟩
  unfold bodyE
  rw [if_pos hp]
  exact ⟨v, h o ho A x hO hD, rfl⟩
theorem Steps.fin_ {l : List Oper} {n : Nat} {a : Act} {w : World} {i : Nat} {φs : Nat → MP} (h : ∀ (vs : Nat → Value) (x : Ext), (∀ i, i < n → (φs i).p (vs i) (plus w x.bs x.d)) → wpList P l.toArray Q (l.drop n) (putAll (l.take n) vs 0 a) (plus w x.bs x.d)) : Steps (finS P Q l n a w) body l n a w 0 i φs := h
end
/-! ### loads of one cell -/
theorem run_loadAt_one {P : Program} (w : World) (b o : Nat) (ty : TypeId) (v : Value) (d : TypeDesc) (hc : w.cell? ⟨b, o, none⟩ = some v) (hu : P.underlying ty = some d) (hd : d.isRow = false) :
    (Instr.loadAt ty (.pointer (some ⟨b, o, none⟩))).run P w = .ok v w := by
  have hagg : (isAgg ty).run P w = .ok false w := by
    unfold isAgg
    rw [Sem.run_bind, run_underlying hu w]
    cases d <;> simp_all
  simp [Instr.loadAt, Instr.sureAddr, loadVar, Sem.run_bind, hagg, run_load, hc]
theorem wp_ld1 {P : Program} {Q : Exit → Act → World → Prop} {o : Oper} {a : Act} {w : World} {K : Act → World → Prop} (ty : TypeId) (x : Operand) (ho : o.op = .load ty x) {g off : Nat} {t : TypeId} {cs : List Value} {v : Value} {d : TypeDesc}
    (hx : a.eval x = .pointer (some ⟨g, off, none⟩)) (hb : Bk w g t cs) (hv : cs[off]? = some v) (hu : P.underlying ty = some d) (hd : d.isRow = false) (h : K (a.put o.dst v) w) : o.wp P a w K Q := by
  unfold Oper.wp execOp
  simp only [ho, hx, Sem.run_bind, run_loadAt_one w g off ty v d ((hb.cell off).trans hv) hu hd, Result.andThen_ok]
  exact h
theorem wp_ldA {P : Program} {Q : Exit → Act → World → Prop} {o : Oper} {a : Act} {w : World} {K : Act → World → Prop} (ty : TypeId) (x : Operand) (ho : o.op = .load ty x) {g off : Nat} {t : TypeId} {cs : List Value} {d : TypeDesc} (part : List Value)
    (hx : a.eval x = .pointer (some ⟨g, off, none⟩)) (hb : Bk w g t cs) (hp : (cs.drop off).take part.length = part) (hu : P.underlying ty = some d) (hd : d.isRow = true) (hi : (P.info? ty).map (·.size) = some part.length) (h : K (a.put o.dst (.agg part.toArray)) w) : o.wp P a w K Q := by
  refine wp_load_mid ty x ho g off hx part d (fun j v hv => ?_) hu hd hi h
  rw [hb.cell]
  rw [← hp, List.getElem?_take] at hv
  split at hv
  · rw [List.getElem?_drop] at hv; exact hv
  · cases hv
/-! ### stores of one cell -/
end Go.Proofs.Ytknoenceccpkhaa

/- Contracts of bytes.Clone, slices.Clone and of the package octet. -/
namespace Go.Proofs.Ytknoenceccpkhaa
open Go.RowKit
set_option linter.unusedVariables false
attribute [local go_sem ↓] sliced_cut

attribute [local go_sem] cutA_zero

theorem bt : BT Try.prog 24 5 := ⟨Try.underlying24, Try.underlying5, by kernel_rfl⟩

set_option maxHeartbeats 400000 in
/-- octet.digits: n written over the m bytes from off on. -/
theorem digits_any (A : Option Addr) (g off m c : Nat) (cs : List Value) (n : Nat) (w : World) (hA : m = 0 ∨ A = some ⟨g, off, none⟩) (hg : Bk w g 5 cs) (hm : off + m ≤ cs.length) (hc : m ≤ 1099511627776) (hn : n < 18446744073709551616) :
    Calls Try.prog 105 #[.slice A m c, .int .u64 n] w fun e w' => e = .returned (.tuple #[]) ∧ Bk w' g 5 (splice cs off (bcs (dig n m))) ∧ w.grownBy w' (some g) := by
  go_enter Try.func105, Try.ntmps105
  go_wp2
  go_loopw [1, 4] (fun x i wr => ∃ j N : Nat, ∃ ks : List Value, j ≤ m ∧ N < 18446744073709551616 ∧ x = .int .u64 N ∧ i = .int .i64 ((j : Int) - 1) ∧ ks.length = cs.length ∧ Bk wr g 5 ks ∧ splice ks off (bcs (dig N j)) = splice cs off (bcs (dig n m)) ∧ w.grownBy wr (some g)) (fun _ i _ => (intOf i + 1).toNat)
  case atStart => exact ⟨m, n, cs, Nat.le_refl _, hn, rfl, rfl, rfl, hg, rfl, World.grownBy.refl _ _⟩
  case round =>
    obtain ⟨j, N, ks, hj, hN, rfl, rfl, hk, hb, ho, hgr⟩ := hrel
    have HO := Lib.hid ho
    have HK := Lib.hid hk
    have hk1 : off + m ≤ ks.length := by omega
    clear ho hk
    by_cases h0 : j = 0
    · subst h0
      go_wp2
      go_end0
      refine ⟨rfl, ?_, hgr⟩
      rw [← HO.out]
      simpa [dig, bcs, over_nil] using hb
    · rcases hA with h | rfl
      · omega
      obtain ⟨k, rfl⟩ : ∃ k, j = k + 1 := ⟨j - 1, by omega⟩
      have hlt : off + k < ks.length := by omega
      have hcell : wr.cell? ⟨g, off + k, none⟩ = some ks[off + k] := by rw [hb.cell, List.getElem?_eq_getElem hlt]
      have hfr := hb.frozen (off + k)
      go_wp2
      refine ⟨⟨k, N / 256, ks.set (off + k) (.int .u8 ((N % 256 : Nat) : Int)), by omega, by omega, by simp, rfl, by rw [List.length_set]; exact HK.out, by simpa using hb.set_ (off + k) _, ?_, hgr.trans (grownBy_setCell _ _ _ _)⟩, by simp [intOf]⟩
      rw [over_dig ks off N k (by omega)]
      exact HO.out

theorem put_cells (l : List UInt8) (n size k : Nat) (h : l.length = k) : splice (splice (List.replicate (k + size) (.int .u8 0)) 0 (bcs l)) k (bcs (dig n size)) = bcs (l ++ dig n size) := by
  subst h
  simp only [splice, bcs_append, bcs_length, dig_length, List.take_zero, List.nil_append, Nat.zero_add]
  rw [List.take_left' (bcs_length l)]
  simp [List.drop_append, bcs_length]

/-- The block r is a Reader of the bytes l. -/
def Rdr (w : World) (r : Nat) (l : List UInt8) (bad : Bool) : Prop := ∃ A n c, Bk w r 181 [.slice A n c, .bool bad] ∧ l.length = n ∧ n ≤ c ∧ Rd w r A (bcs l)
theorem Rdr.lt {w : World} {r : Nat} {l : List UInt8} {bad : Bool} (h : Rdr w r l bad) : r < w.heap.size := by
  obtain ⟨A, n, c, h, _⟩ := h
  exact h.lt
theorem Rdr.later {w w' : World} {r : Nat} {l : List UInt8} {bad : Bool} (h : Rdr w r l bad) (hb : Below w.heap.size w w') : Rdr w' r l bad := by
  have hlt := h.lt
  obtain ⟨A, n, c, h1, h2, h3, h4⟩ := h
  exact ⟨A, n, c, h1.later hb, h2, h3, h4.below ⟨hb.os, hb.tape, hb.output, hb.size, fun k hk => hb.block k (by omega)⟩⟩

/-- what a reader's call leaves: the reader moved on, nothing else changed -/
def RetP (W : World) (bs : List Obj) (d r : Nat) (l : List UInt8) (bad : Bool) (v : Value) (e : Ending) (w' : World) : Prop :=
  ∃ bs' d', e = .returned v ∧ w' = plus W bs' d' ∧ Rdr (plus W bs' d') r l bad ∧ (plus W bs d).grownBy (plus W bs' d') (some r)
theorem RetP.mk {W : World} {bs : List Obj} {d r : Nat} {l : List UInt8} {bad : Bool} {v : Value} {e : Ending} {w' : World} (hr : W.heap.size ≤ r) (he : e = .returned v) (h1 : Rdr w' r l bad) (h2 : (plus W bs d).grownBy w' (some r)) : RetP W bs d r l bad v e w' := by
  obtain ⟨bs', d', rfl⟩ := grown_plus h2 hr
  exact ⟨bs', d', he, rfl, h1, h2⟩
end Go.Proofs.Ytknoenceccpkhaa

/- Contracts of the reference's numbers and bytes (counterfoilref01). -/
namespace Go.Proofs.Ytknoenceccpkhaa
open Go.RowKit
set_option linter.unusedVariables false
attribute [local go_sem ↓] sliced_cut

attribute [local go_sem] cutA_zero

set_option maxHeartbeats 400000 in
theorem refBytes_any (n size : Nat) (w : World) (hn : n < 18446744073709551616) (hs : size ≤ 8) :
    Calls Try.prog 49 #[.int .u64 n, .int .i64 size] w (RetB w (dig n size)) := by
  have q1 : (size : Int) ≤ 8 := by omega
  go_enter Try.func49, Try.ntmps49
  go_wp2_with (at_make; refine wpList_mk bt rfl (.tmp 11) rfl _ size rfl rfl (by omega) ?_; intro w1 hb1 hbe1 hs1)
  go_loopw [0, 6] (fun x i wr => ∃ j N : Nat, ∃ ks : List Value, j ≤ size ∧ N < 18446744073709551616 ∧ x = .int .u64 N ∧ i = .int .i64 ((j : Int) - 1) ∧ ks.length = size ∧ Bk wr w.heap.size 5 ks ∧ splice ks 0 (bcs (dig N j)) = bcs (dig n size) ∧ Below w.heap.size w wr) (fun _ i _ => (intOf i + 1).toNat)
  case atStart =>
    refine ⟨size, n, _, Nat.le_refl _, hn, rfl, rfl, by simp, hb1, ?_, hbe1⟩
    simp [splice, bcs_length, dig_length]
  case round =>
    obtain ⟨j, N, ks, hj, hN, rfl, rfl, hk, hb, ho, hgr⟩ := hrel
    have HO := Lib.hid ho
    have HK := Lib.hid hk
    have hk1 : size ≤ ks.length := by omega
    clear ho hk
    by_cases h0 : j = 0
    · subst h0
      have hlen : (dig n size).length = size := dig_length _ _
      go_wp2
      go_ret
      have he : ks = bcs (dig n size) := by rw [← HO.out]; simp [dig, bcs, over_nil]
      rw [he] at hb
      exact RetB.mk (Ob.of_bk hb (Nat.le_refl _) (dig_length _ _) (by simp [maxLen]; omega)) hgr
    · obtain ⟨k, rfl⟩ : ∃ k, j = k + 1 := ⟨j - 1, by omega⟩
      have hlt : k < ks.length := by omega
      have hcell : wr.cell? ⟨w.heap.size, k, none⟩ = some ks[k] := by rw [hb.cell, List.getElem?_eq_getElem hlt]
      have hfr := hb.frozen k
      go_wp2
      refine ⟨⟨k, N / 256, ks.set k (.int .u8 ((N % 256 : Nat) : Int)), by omega, by omega, by simp, rfl, by rw [List.length_set]; exact HK.out, by simpa using hb.set_ k _, ?_, hgr.setCell (Nat.le_refl _) _⟩, by simp [intOf]⟩
      have := over_dig ks 0 N k (by omega)
      rw [Nat.zero_add] at this
      rw [this]
      exact HO.out

/-- A slice of slices of bytes. -/
def RdL (w : World) (A : Option Addr) (m : Nat) (L : List (List UInt8)) : Prop :=
  ∃ cs : List Value, cs.length = m ∧ L.length = m ∧ Rd w w.heap.size A cs ∧ ∀ (i : Nat) (u : Value), cs[i]? = some u → ∃ (A' : Option Addr) (n c : Nat), u = Value.slice A' n c ∧ ∃ l, L[i]? = some l ∧ Rb w A' n c l
theorem take_flatten_succ (L : List (List UInt8)) (i : Nat) (l : List UInt8) (h : L[i]? = some l) : (L.take (i + 1)).flatten = (L.take i).flatten ++ l := by
  rw [List.take_add_one, h]
  simp
theorem total_take (L : List (List UInt8)) : ∀ i, (L.take i).flatten.length ≤ L.flatten.length := by
  intro i
  have : L.flatten = (L.take i).flatten ++ (L.drop i).flatten := by rw [← List.flatten_append, List.take_append_drop]
  rw [this, List.length_append]
  omega

set_option maxHeartbeats 800000 in
theorem refJoin_any (A : Option Addr) (m c : Nat) (L : List (List UInt8)) (w : World) (h : RdL w A m L) (hm : m ≤ 1000000) (ht : L.flatten.length ≤ 549755813888) :
    Calls Try.prog 89 #[.slice A m c] w (RetB w L.flatten) := by
  obtain ⟨cs, h1, h2, hrd, hel⟩ := h
  have H1 := Lib.hid h1
  have H2 := Lib.hid h2
  have HE := Lib.hid hel
  clear h1 h2 hel
  go_enter Try.func89, Try.ntmps89
  go_wp2
  go_loopw [3, 4] (fun x i wr => ∃ j : Nat, ∃ A' n' c', j ≤ m ∧ i = .int .i64 j ∧ x = .slice A' n' c' ∧ Ob wr w.heap.size A' n' c' (L.take j).flatten ∧ Below w.heap.size w wr) (fun _ i _ => m - (intOf i).toNat)
  case atStart => exact ⟨0, none, 0, 0, Nat.zero_le _, rfl, rfl, Ob.nil_, Below.refl _ _⟩
  case round =>
    obtain ⟨j, A', n', c', hj, rfl, rfl, ho, hb⟩ := hrel
    by_cases hlt : j < m
    · obtain ⟨b, off, rfl, hbl, hcell⟩ := hrd.at_ (by rw [H1.out]; omega)
      have hjc : j < cs.length := by rw [H1.out]; exact hlt
      obtain ⟨A2, n2, c2, he, l, hl, hr2⟩ := HE.out j _ (List.getElem?_eq_getElem hjc)
      have hcj : wr.cell? ⟨b, off + j, none⟩ = some (.slice A2 n2 c2) := by
        rw [hb.cell (p := ⟨b, off + j, none⟩) hbl, ← he]
        exact hcell j _ (List.getElem?_eq_getElem hjc)
      have hsz : n' + n2 ≤ 1099511627776 := by
        have e1 := take_flatten_succ L j l hl
        have e2 := total_take L (j + 1)
        have e3 := ho.len
        have e4 := hr2.1
        rw [e1, List.length_append] at e2
        omega
      have HS := Lib.hid (take_flatten_succ L j l hl)
      clear hcell hrd hl he
      go_wp2_with (at_builtin; refine wpList_appP w bt rfl (.tmp 11) (.tmp 15) rfl hb rfl ho rfl (hr2.later hb) hsz ?_; intro A3 n3 c3 bs3 d3 ho3 _)
      go_roundw
      case rel => exact ⟨j + 1, A3, n3, c3, by omega, by go_num, rfl, by rw [HS.out]; exact ho3, below_plus _ _ _⟩
      case measure => simp [intOf]; omega
    · obtain rfl : j = m := by omega
      go_wp2
      go_ret
      rw [List.take_of_length_le (by rw [H2.out]; omega)] at ho
      exact RetB.mk ho hb
end Go.Proofs.Ytknoenceccpkhaa

/- A reader's calls, by the place k in the bytes L; the values are letters. -/
namespace Go.Proofs.Ytknoenceccpkhaa
open Go.RowKit
set_option linter.unusedVariables false

theorem Rdr.far {w : World} {r : Nat} {l : List UInt8} {bad : Bool} (h : Rdr w r l bad) {p : Addr} (hp : r < p.block) (u : Value) : Rdr (w.setCell p u) r l bad := by
  obtain ⟨A, n, c, h1, h2, h3, h4⟩ := h
  exact ⟨A, n, c, h1.far (by omega) u, h2, h3, h4.setCell (by omega) u⟩
end Go.Proofs.Ytknoenceccpkhaa

/- More of the readers: Bytes, Bad, Left, Rest, in any world. -/
namespace Go.Proofs.Ytknoenceccpkhaa
open Go.RowKit
set_option linter.unusedVariables false
attribute [local go_sem ↓] sliced_cut

attribute [local go_sem] cutA_zero

theorem Rd.rb {w : World} {B n c : Nat} {A : Option Addr} {l : List UInt8} (h : Rd w B A (bcs l)) (hB : B ≤ w.heap.size) (hl : l.length = n) (hc : n ≤ c) : Rb w A n c l := ⟨hl, hc, h.more hB⟩
end Go.Proofs.Ytknoenceccpkhaa

/- octet.Put without room; addr.Bytes, addr.Key. -/
namespace Go.Proofs.Ytknoenceccpkhaa
open Go.RowKit
set_option linter.unusedVariables false
set_option linter.unusedSimpArgs false
attribute [local go_sem ↓] sliced_cut

attribute [local go_sem] cutA_zero

/-- The call returns new bytes l without room, and changes nothing that was there. -/
def RetF (w : World) (l : List UInt8) (e : Ending) (w' : World) : Prop := ∃ A n bs d, e = .returned (.slice A n n) ∧ w' = plus w bs d ∧ Ob (plus w bs d) w.heap.size A n n l
theorem RetF.mk {w w' : World} {l : List UInt8} {A : Option Addr} {n : Nat} (ho : Ob w' w.heap.size A n n l) (hb : Below w.heap.size w w') : RetF w l (.returned (.slice A n n)) w' := by
  obtain ⟨bs, d, rfl⟩ := plus_of hb
  exact ⟨A, n, bs, d, rfl, rfl, ho⟩
theorem RetF.b {w w' : World} {l : List UInt8} {e : Ending} (h : RetF w l e w') : RetB w l e w' := by
  obtain ⟨A, n, bs, d, h1, h2, h3⟩ := h
  exact ⟨A, n, n, bs, d, h1, h2, h3⟩
theorem RetV.is_ {w w' : World} {v v' : Value} (hv : v' = v) (hb : Below w.heap.size w w') : RetV w v (.returned v') w' := by
  subst hv
  exact RetV.mk hb
/-- new bytes without room, in a block from base on -/
def MP.of (base : Nat) (l : List UInt8) : MP := ⟨fun v w => ∃ A n, v = .slice A n n ∧ Ob w base A n n l, fun _ _ _ ⟨A, n, h1, h2⟩ h => ⟨A, n, h1, h2.later h.below⟩⟩

set_option maxHeartbeats 800000 in
set_option maxRecDepth 100000 in
theorem put_full (A : Option Addr) (k c : Nat) (l : List UInt8) (n : Nat) (size : Nat) (w : World) (hr : Rb w A k c l) (hk : k ≤ 549755813888) (hn : n < 18446744073709551616) (hs0 : 1 ≤ size) (hs : size ≤ 8) :
    Calls Try.prog 57 #[.slice A k c, .int .u64 n, .int .i64 size] w (RetF w (l ++ dig n size)) := by
  go_enter Try.func57, Try.ntmps57
  go_wp2_with (first
    | (at_make; refine wpList_mk bt rfl (.tmp 14) rfl _ (k + size) rfl (by omega) (by omega) ?_; intro w1 hb1 hbe1 hs1)
    | (refine wpList_cpy 18 rfl bt rfl (.tmp 16) (.tmp 17) rfl rfl rfl w.heap.size 0 _ hb1 (.inr rfl) l (hr.later hbe1) (by omega) (by simp) w.heap.size w hbe1 (Nat.le_refl _) ?_; intro w2 hb2 hbe2)
    | (go_at_call 105; refine (digits_any _ w.heap.size k size _ (splice (List.replicate (k + size) (.int .u8 0)) 0 (bcs l)) n _ (.inr (by rw [cutA_some _ _ _ _ (by omega)]; simp)) hb2 (by rw [length_splice _ _ _ (by simp [bcs_length, hr.1])]; simp) (by omega) hn).mono ?_; rintro e w3 ⟨rfl, hb3, hg3⟩))
  go_ret
  rw [put_cells l n size k hr.1] at hb3
  exact RetF.mk (Ob.of_bk hb3 (Nat.le_refl _) (by simp [dig_length, hr.1]) (by simp [maxLen]; omega)) (hbe2.trans (below_of_grown hg3 hbe2.size (fun k hk => by injection hk with hk; omega)))

end Go.Proofs.Ytknoenceccpkhaa

/- A region that draws its order and builds structs or rows in new blocks: stores into the new blocks may stand anywhere among the other operations. -/
namespace Go.Proofs.Ytknoenceccpkhaa
open Go.RowKit
set_option linter.unusedVariables false
set_option linter.unusedSimpArgs false

/-- what a value v is good for, beside the value u of another operation; it stays so as memory grows, and as blocks of the types S are written -/
structure MW (base : Nat) (S : TypeId → Bool) where
  p : Value → Value → World → Prop
  ex : ∀ v u w w', p v u w → Ex w w' → p v u w'
  st : ∀ v u w b t cs k x, p v u w → Bk w b t cs → S t = true → base ≤ b → p v u (w.setCell ⟨b, k, none⟩ x)
section
variable {base : Nat} {S : TypeId → Bool}
def MW.any : MW base S := ⟨fun _ _ _ => True, fun _ _ _ _ _ _ => trivial, fun _ _ _ _ _ _ _ _ _ _ _ _ => trivial⟩
def MW.eq (c : Value) : MW base S := ⟨fun v _ _ => v = c, fun _ _ _ _ h _ => h, fun _ _ _ _ _ _ _ _ h _ _ _ => h⟩
/-- a slice over the other's block -/
def MW.sl (n : Nat) : MW base S := ⟨fun v u _ => ∃ b, u = .pointer (some ⟨b, 0, none⟩) ∧ v = .slice (some ⟨b, 0, none⟩) n n, fun _ _ _ _ h _ => h, fun _ _ _ _ _ _ _ _ h _ _ _ => h⟩
/-- no more than that it is a word that holds of the value alone -/
def MW.of (q : Value → Prop) : MW base S := ⟨fun v _ _ => q v, fun _ _ _ _ h _ => h, fun _ _ _ _ _ _ _ _ h _ _ _ => h⟩
theorem Ob.setB {w : World} {A : Option Addr} {n c : Nat} {l : List UInt8} {b : Nat} {t : TypeId} {cs : List Value} {k : Nat} {x : Value} (h : Ob w base A n c l) (hb : Bk w b t cs) (ht : t ≠ 5) : Ob (w.setCell ⟨b, k, none⟩ x) base A n c l := by
  refine h.grown (grownBy_setCell w b k x) fun j hj e => ?_
  injection e with e
  subst e
  rcases h.2.2 with ⟨hv, _⟩ | ⟨g, cap, cur, hv, _, hg, _⟩
  · rw [hv] at hj
    simp [Value.ownBlock] at hj
  · rw [hv] at hj
    simp [Value.ownBlock] at hj
    subst hj
    rw [Bk] at hb
    rw [hb] at hg
    injection hg with hg
    injection hg with _ h2
    exact ht h2
theorem S_ne {t : TypeId} (hS : S 5 = false) (ht : S t = true) : t ≠ 5 := fun e => by subst e; rw [hS] at ht; cases ht
/-- new bytes -/
def MW.ob (hS : S 5 = false) (l : List UInt8) : MW base S := ⟨fun v _ w => ∃ A n c, v = .slice A n c ∧ Ob w base A n c l, fun _ _ _ _ ⟨A, n, c, h1, h2⟩ h => ⟨A, n, c, h1, h2.later h.below⟩,
  fun _ _ _ _ _ _ _ _ ⟨A, n, c, h1, h2⟩ hb hs _ => ⟨A, n, c, h1, h2.setB hb (S_ne hS hs)⟩⟩
end

/-- where a stored value comes from: another operation of the region, or it is known -/
inductive BSrc | op (j : Nat) | val (v : Value)
def BSrc.get (vs : Nat → Value) : BSrc → Value | .op j => vs j | .val v => v
/-- a block that is built: the operation that makes it, its cells' type, its cells as they are made, the stores into it: operation, cell, value -/
structure Bld where
  a : Nat
  t : TypeId
  cs : List Value
  sts : List (Nat × Nat × BSrc)
def Bld.at_ (B : Bld) (done : Nat → Bool) (vs : Nat → Value) (k : Nat) : Value :=
  match B.sts.find? (fun e => e.2.1 == k) with
  | some e => if done e.1 then e.2.2.get vs else B.cs.getD k undef
  | none => B.cs.getD k undef
def Bld.cells (B : Bld) (done : Nat → Bool) (vs : Nat → Value) : List Value := (List.range B.cs.length).map (B.at_ done vs)
section
variable {P : Program} {Q : Exit → Act → World → Prop}
/-- operation i waits for operation j, over at most f others -/
def tw (ops : Array Oper) (n : Nat) : Nat → Nat → Nat → Bool
  | 0, i, j => Region.waitsFor .any ops i j
  | f + 1, i, j => Region.waitsFor .any ops i j || (List.range n).any fun k => Region.waitsFor .any ops i k && tw ops n f k j
theorem tw_listed {ops : Array Oper} {n : Nat} {listed : Array Bool} (inv : HeadInv .any ops n listed) : ∀ (f i j : Nat), (∀ k, Region.waitsFor .any ops i k = true → listed.getD k false = true) → tw ops n f i j = true → listed.getD j false = true
  | 0, i, j, h, ht => h j ht
  | f + 1, i, j, h, ht => by
    simp only [tw, Bool.or_eq_true] at ht
    rcases ht with ht | ht
    · exact h j ht
    · obtain ⟨k, _, hk⟩ := List.any_eq_true.1 ht
      simp only [Bool.and_eq_true] at hk
      refine tw_listed inv f k j (fun k' hk' => ?_) hk.2
      obtain ⟨ok, hok, e, he, hb, hon⟩ := Region.waitsFor_spec hk'
      rw [← hon]
      exact inv.closed k ok hok (h k hk.1) e he hb
end
end Go.Proofs.Ytknoenceccpkhaa

/- A region that draws its order, some of whose operations change known blocks, one behind the other (calls on a reader): the others read, or make memory. -/
namespace Go.Proofs.Ytknoenceccpkhaa
open Go.RowKit
set_option linter.unusedVariables false
set_option linter.unusedSimpArgs false

/-- w' is w with other cells in the blocks D, and more blocks -/
structure Chg (D : Nat → Prop) (w w' : World) : Prop where
  os : w'.os = w.os
  tape : w'.tape = w.tape
  output : w'.output = w.output
  size : w.heap.size ≤ w'.heap.size
  block : ∀ b, b < w.heap.size → ¬ D b → w'.heap[b]? = w.heap[b]?
section
variable {D : Nat → Prop} {w w' w'' : World}
theorem Chg.refl (w : World) : Chg D w w := ⟨rfl, rfl, rfl, Nat.le_refl _, fun _ _ _ => rfl⟩
theorem Chg.trans (h : Chg D w w') (h' : Chg D w' w'') : Chg D w w'' := ⟨h'.os.trans h.os, h'.tape.trans h.tape, h'.output.trans h.output, Nat.le_trans h.size h'.size, fun b hb hd => (h'.block b (Nat.lt_of_lt_of_le hb h.size) hd).trans (h.block b hb hd)⟩
theorem Chg.below {B : Nat} (h : Chg D w w') (hD : ∀ b, D b → B ≤ b) (hB : B ≤ w.heap.size) : Below B w w' := ⟨h.os, h.tape, h.output, h.size, fun b hb => h.block b (by omega) (fun hd => by have := hD b hd; omega)⟩
theorem Chg.of_below (h : Below w.heap.size w w') : Chg D w w' := ⟨h.os, h.tape, h.output, h.size, fun b hb _ => h.block b hb⟩
theorem Chg.ex (h : Ex w w') : Chg D w w' := .of_below h.below
theorem Chg.grown {row : Option Nat} (h : w.grownBy w' row) (hr : ∀ k, row = some k → D k) : Chg D w w' := ⟨h.os, h.tape, h.output, h.size, fun b hb hd => h.block b hb (fun e => hd (hr b e.symm))⟩
theorem Bk.chg {g : Nat} {t : TypeId} {cs : List Value} (h : Bk w g t cs) (hc : Chg D w w') (hd : ¬ D g) : Bk w' g t cs := (hc.block g h.lt hd).trans h
theorem Rb.chg {A : Option Addr} {n c : Nat} {l : List UInt8} (h : Rb w A n c l) (hc : Chg D w w') (hd : ∀ a, A = some a → ¬ D a.block) : Rb w' A n c l := by
  refine ⟨h.1, h.2.1, ?_⟩
  rcases h.2.2 with h' | ⟨b, off, hA, hb, hcell⟩
  · exact .inl h'
  · exact .inr ⟨b, off, hA, Nat.lt_of_lt_of_le hb hc.size, fun i u hu => (World.cell?_of_block (hc.block b hb (hd _ hA))).trans (hcell i u hu)⟩
theorem Ob.chg {base : Nat} {A : Option Addr} {n c : Nat} {l : List UInt8} (h : Ob w base A n c l) (hc : Chg D w w') (hd : ∀ b, D b → b < base) : Ob w' base A n c l := by
  refine ⟨h.1, h.2.1, ?_⟩
  rcases h.2.2 with h' | ⟨g, cap, cur, hv, hg, hh, hr⟩
  · exact .inl h'
  · refine .inr ⟨g, cap, cur, hv, hg, ?_, hr⟩
    rw [hc.block g (by rcases Nat.lt_or_ge g w.heap.size with h1 | h1; exact h1; rw [Array.getElem?_eq_none h1] at hh; cases hh) (fun hd' => by have := hd g hd'; omega)]
    exact hh
end
/-- what a value is good for, whatever happens in the blocks D -/
structure MC (D : Nat → Prop) where
  p : Value → World → Prop
  mono : ∀ v w w', p v w → Chg D w w' → p v w'
def MC.any {D : Nat → Prop} : MC D := ⟨fun _ _ => True, fun _ _ _ _ _ => trivial⟩
def MC.eq {D : Nat → Prop} (c : Value) : MC D := ⟨fun v _ => v = c, fun _ _ _ h _ => h⟩
def MC.ob {D : Nat → Prop} (base : Nat) (hd : ∀ b, D b → b < base) (l : List UInt8) : MC D := ⟨fun v w => ∃ A n c, v = .slice A n c ∧ Ob w base A n c l, fun _ _ _ ⟨A, n, c, h1, h2⟩ h => ⟨A, n, c, h1, h2.chg h hd⟩⟩
def MC.blk {D : Nat → Prop} (base : Nat) (hd : ∀ b, D b → b < base) (t : TypeId) (cs : List Value) : MC D := ⟨fun v w => ∃ g, v = .pointer (some ⟨g, 0, none⟩) ∧ base ≤ g ∧ Bk w g t cs, fun _ _ _ ⟨g, h1, h2, h3⟩ h => ⟨g, h1, h2, h3.chg h (fun hg => by have := hd g hg; omega)⟩⟩

section
variable {P : Program} {Q : Exit → Act → World → Prop}
end
end Go.Proofs.Ytknoenceccpkhaa

/- A region that draws its order, some of whose operations change known blocks, one behind the other; these may be stores (no slot). -/
namespace Go.Proofs.Ytknoenceccpkhaa
open Go.RowKit
set_option linter.unusedVariables false
set_option linter.unusedSimpArgs false

theorem Chg.one {D : Nat → Prop} {w w' : World} {g : Nat} (h : w.grownBy w' (some g)) (hg : D g) : Chg D w w' := Chg.grown h (fun k hk => by injection hk with hk; subst hk; exact hg)
section
variable {P : Program} {Q : Exit → Act → World → Prop}
end
end Go.Proofs.Ytknoenceccpkhaa

/- A region that draws its order: each operation's value has a word and owns blocks; an operation may change the blocks of the words that it consumes. -/
namespace Go.Proofs.Ytknoenceccpkhaa
open Go.RowKit
set_option linter.unusedVariables false
set_option linter.unusedSimpArgs false

/-- the blocks F of w are as they were -/
structure Kept (F : Nat → Prop) (w w' : World) : Prop where
  os : w'.os = w.os
  tape : w'.tape = w.tape
  output : w'.output = w.output
  size : w.heap.size ≤ w'.heap.size
  block : ∀ b, b < w.heap.size → F b → w'.heap[b]? = w.heap[b]?
theorem Kept.refl (F : Nat → Prop) (w : World) : Kept F w w := ⟨rfl, rfl, rfl, Nat.le_refl _, fun _ _ _ => rfl⟩
theorem Kept.chg {F D : Nat → Prop} {w w' w'' : World} (h : Kept F w w') (h' : Chg D w' w'') (hd : ∀ b, F b → ¬ D b) : Kept F w w'' :=
  ⟨h'.os.trans h.os, h'.tape.trans h.tape, h'.output.trans h.output, Nat.le_trans h.size h'.size, fun b hb hf => (h'.block b (Nat.lt_of_lt_of_le hb h.size) (hd b hf)).trans (h.block b hb hf)⟩
theorem Kept.of_chg {F D : Nat → Prop} {w w' : World} (h' : Chg D w w') (hd : ∀ b, F b → ¬ D b) : Kept F w w' := (Kept.refl F w).chg h' hd
theorem Kept.below {F : Nat → Prop} {w w' : World} {B : Nat} (h : Kept F w w') (hB : B ≤ w.heap.size) (hf : ∀ b, b < B → F b) : Below B w w' := ⟨h.os, h.tape, h.output, h.size, fun b hb => h.block b (by omega) (hf b hb)⟩
theorem Bk.kept {F : Nat → Prop} {w w' : World} {g : Nat} {t : TypeId} {cs : List Value} (h : Bk w g t cs) (hk : Kept F w w') (hf : F g) : Bk w' g t cs := (hk.block g h.lt hf).trans h
theorem Rb.kept {F : Nat → Prop} {w w' : World} {A : Option Addr} {n c : Nat} {l : List UInt8} (h : Rb w A n c l) (hk : Kept F w w') (hf : ∀ a, A = some a → a.block < w.heap.size → F a.block) : Rb w' A n c l := by
  refine ⟨h.1, h.2.1, ?_⟩
  rcases h.2.2 with h' | ⟨b, off, hA, hb, hc⟩
  · exact .inl h'
  · exact .inr ⟨b, off, hA, Nat.lt_of_lt_of_le hb hk.size, fun i u hu => (World.cell?_of_block (hk.block b hb (hf _ hA hb))).trans (hc i u hu)⟩
/-- a word of a value v, beside the value u of another operation, and the blocks that it owns -/
structure Own (prot : Nat → Prop) where
  p : Value → Value → World → Prop
  fp : Value → Value → Nat → Prop
  lt : ∀ v u w b, p v u w → fp v u b → b < w.heap.size
  keep : ∀ v u w w', p v u w → Kept (fun b => fp v u b ∨ prot b) w w' → p v u w'
section
variable {prot : Nat → Prop}
def Own.any : Own prot := ⟨fun _ _ _ => True, fun _ _ _ => False, fun _ _ _ _ _ h => h.elim, fun _ _ _ _ _ _ => trivial⟩
def Own.eq (c : Value) : Own prot := ⟨fun v _ _ => v = c, fun _ _ _ => False, fun _ _ _ _ _ h => h.elim, fun _ _ _ _ h _ => h⟩
/-- a block -/
def Own.blk (t : TypeId) (cs : List Value) : Own prot := ⟨fun v _ w => ∃ g, v = .pointer (some ⟨g, 0, none⟩) ∧ Bk w g t cs, fun v _ b => v = .pointer (some ⟨b, 0, none⟩),
  fun v u w b ⟨g, h1, h2⟩ h3 => (by rw [h1] at h3; injection h3 with h3; injection h3 with h3; injection h3 with h3; subst h3; exact h2.lt),
  fun v u w w' ⟨g, h1, h2⟩ hk => ⟨g, h1, h2.kept hk (.inl h1)⟩⟩
/-- own bytes, from base on -/
def Own.ob (base : Nat) (l : List UInt8) : Own prot := ⟨fun v _ w => ∃ A n c, v = .slice A n c ∧ Ob w base A n c l, fun v _ b => v.ownBlock = some b,
  fun v u w b ⟨A, n, c, h1, h2⟩ h3 => (by subst h1; exact (h2.blk b h3).2),
  fun v u w w' ⟨A, n, c, h1, h2⟩ hk => ⟨A, n, c, h1, by
    refine ⟨h2.1, h2.2.1, ?_⟩
    have hlt := h2.blk
    rcases h2.2.2 with h' | ⟨g, cap, cur, hv, hg, hh, hr⟩
    · exact .inl h'
    · have ho : (Value.slice A n c).ownBlock = some g := by rw [hv]; rfl
      refine .inr ⟨g, cap, cur, hv, hg, ?_, hr⟩
      rw [hk.block g (hlt g ho).2 (.inl (by subst h1; exact ho))]
      exact hh⟩⟩
/-- own bytes without room -/
def Own.of (base : Nat) (l : List UInt8) : Own prot := ⟨fun v _ w => ∃ A n, v = .slice A n n ∧ Ob w base A n n l, fun v _ b => v.ownBlock = some b,
  fun v u w b ⟨A, n, h1, h2⟩ h3 => (by subst h1; exact (h2.blk b h3).2),
  fun v u w w' ⟨A, n, h1, h2⟩ hk => ⟨A, n, h1, by
    obtain ⟨A', n', c', e1, e2⟩ := (Own.ob (prot := prot) base l).keep v u w w' ⟨A, n, n, h1, h2⟩ hk
    rw [h1] at e1
    injection e1 with x y z
    subst x y z
    exact e2⟩⟩
end
/-- a value that is made of another operation's value -/
def Own.fn {prot : Nat → Prop} (g : Value → Value) : Own prot := ⟨fun v u _ => v = g u, fun _ _ _ => False, fun _ _ _ _ _ h => h.elim, fun _ _ _ _ h _ => h⟩
theorem own_ptr {g b : Nat} (h : Value.pointer (some ⟨g, 0, none⟩) = .pointer (some ⟨b, 0, none⟩)) : g = b := by
  injection h with h
  injection h with h
  injection h with h
/-- a pointer's block, one of whose cells is a slice of own bytes without room (v) -/
def Own.holds {prot : Nat → Prop} (base : Nat) (t : TypeId) (cs : Value → List Value) (l : List UInt8) : Own prot := ⟨fun v u w => ∃ g A n, u = .pointer (some ⟨g, 0, none⟩) ∧ v = .slice A n n ∧ Bk w g t (cs v) ∧ Ob w base A n n l,
  fun v u b => u = .pointer (some ⟨b, 0, none⟩) ∨ v.ownBlock = some b,
  fun v u w b ⟨g, A, n, h1, h2, h3, h4⟩ h => (by
    rcases h with h | h
    · rw [h1] at h; rw [← own_ptr h]; exact h3.lt
    · subst h2; exact (h4.blk b h).2),
  fun v u w w' ⟨g, A, n, h1, h2, h3, h4⟩ hk => by
    refine ⟨g, A, n, h1, h2, h3.kept hk (.inl (.inl h1)), ?_⟩
    obtain ⟨A', n', e1, e2⟩ := (Own.of (prot := prot) base l).keep v u w w' ⟨A, n, h2, h4⟩ ⟨hk.os, hk.tape, hk.output, hk.size, fun b hb h => hk.block b hb (by rcases h with h | h; exact .inl (.inr h); exact .inr h)⟩
    rw [h2] at e1
    injection e1 with x y z
    subst x y
    exact e2⟩
theorem chgX {D : Nat → Prop} {w w' : World} (h : Ex w w') : Chg D w w' := Chg.ex h
section
variable {P : Program} {Q : Exit → Act → World → Prop}
def useB (ops : Array Oper) (n f : Nat) (cons : Nat → List Nat) (i j : Nat) : Bool := (decide (n ≤ j) || tw ops n f i j) && (List.range n).all fun c => !(cons c).contains j || c == i || tw ops n f c i
def lastB (n : Nat) (cons : Nat → List Nat) (j : Nat) : Bool := (List.range n).all fun c => !(cons c).contains j
def ownB (ops : Array Oper) (n m N f : Nat) (rel : Nat → Nat) (cons : Nat → List Nat) : Bool :=
  decide (n = ops.size) && Region.seqB .any ops (ops.size - n) n ((List.range ops.size).map fun i => decide (i < n)).toArray &&
  ((List.range n).all fun i => match ops[i]? with
    | none => false
    | some o => (match o.dst with | some s => decide (s < N) | none => true) && (o.after.all fun e => !Region.binds .any e || decide (e.on < i)) &&
      ((List.range n).all fun j => j == i || (match o.dst, (ops[j]?).bind (·.dst) with | some s, some s' => s != s' | _, _ => true)) &&
      (rel i == i || tw ops n f i (rel i) || decide (n ≤ rel i)) &&
      ((cons i).all fun j => decide (j < n + m) && (decide (n ≤ j) || tw ops n f i j) && (List.range n).all fun c => c == i || !(cons c).contains j)) &&
  ((List.range m).all fun t => decide (n ≤ rel (n + t)))

def Live (n : Nat) (cons : Nat → List Nat) (listed : Array Bool) (j : Nat) : Prop := (n ≤ j ∨ listed.getD j false = true) ∧ ∀ c, c < n → (cons c).contains j = true → listed.getD c false = false
structure OInv (ops : Array Oper) (n m : Nat) (a0 : Act) (w0 : World) {prot : Nat → Prop} (Φ : Nat → Own prot) (rel : Nat → Nat) (cons : Nat → List Nat) (vs0 : Nat → Value) (listed : Array Bool) (A : Act) (w : World) (vs : Nat → Value) : Prop where
  head : HeadInv .any ops n listed
  kept : Kept prot w0 w
  size : A.tmps.size = a0.tmps.size
  defers : A.defers = a0.defers
  out : ∀ s, (∀ j, j < n → ∀ o, ops[j]? = some o → listed.getD j false = true → o.dst ≠ some s) → A.eval (.tmp s) = a0.eval (.tmp s)
  ins : ∀ j, j < n → ∀ o s, ops[j]? = some o → listed.getD j false = true → o.dst = some s → A.eval (.tmp s) = vs j
  virt : ∀ j, n ≤ j → vs j = vs0 j
  word : ∀ j, j < n + m → Live n cons listed j → (Φ j).p (vs j) (vs (rel j)) w
  dis : ∀ j k, j < n + m → k < n + m → j ≠ k → Live n cons listed j → Live n cons listed k → ∀ b, (Φ j).fp (vs j) (vs (rel j)) b → ¬ (Φ k).fp (vs k) (vs (rel k)) b
  fresh : ∀ j, j < n + m → Live n cons listed j → ∀ b, (Φ j).fp (vs j) (vs (rel j)) b → ¬ prot b

/-- what is known where operation i is carried out -/
structure AtO (ops : Array Oper) (n m f : Nat) (a0 : Act) (w0 : World) {prot : Nat → Prop} (Φ : Nat → Own prot) (rel : Nat → Nat) (cons : Nat → List Nat) (vs0 : Nat → Value) (i : Nat) (A : Act) (w : World) (vs : Nat → Value) : Prop where
  kept : Kept prot w0 w
  out : ∀ s, outB ops n i s = true → A.eval (.tmp s) = a0.eval (.tmp s)
  dep : ∀ j s, depB ops n i j s = true → A.eval (.tmp s) = vs j
  virt : ∀ j, n ≤ j → vs j = vs0 j
  word : ∀ j, j < n + m → useB ops n f cons i j = true → (Φ j).p (vs j) (vs (rel j)) w
  dis : ∀ j k, j < n + m → k < n + m → j ≠ k → useB ops n f cons i j = true → useB ops n f cons i k = true → ∀ b, (Φ j).fp (vs j) (vs (rel j)) b → ¬ (Φ k).fp (vs k) (vs (rel k)) b
  fresh : ∀ j, j < n + m → useB ops n f cons i j = true → ∀ b, (Φ j).fp (vs j) (vs (rel j)) b → ¬ prot b
/-- the blocks of the words that operation i consumes -/
def Eaten {prot : Nat → Prop} (Φ : Nat → Own prot) (rel : Nat → Nat) (cons : Nat → List Nat) (vs : Nat → Value) (i b : Nat) : Prop := ∃ j, (cons i).contains j = true ∧ (Φ j).fp (vs j) (vs (rel j)) b

theorem wp_own {id : Nat} {a : Act} {w : World} {l : List Oper} (prot : Nat → Prop) (n m N f : Nat) (rel : Nat → Nat) (cons : Nat → List Nat) (vs0 : Nat → Value) (hN : a.tmps.size = N) (hm : P.follows .mixedOrders = true) (hB : ownB l.toArray n m N f rel cons = true)
    (Φ : Nat → Own prot) (hprot : ∀ b, prot b → b < w.heap.size)
    (w0 : ∀ t, t < m → (Φ (n + t)).p (vs0 (n + t)) (vs0 (rel (n + t))) w)
    (d0 : ∀ t t', t < m → t' < m → t ≠ t' → ∀ b, (Φ (n + t)).fp (vs0 (n + t)) (vs0 (rel (n + t))) b → ¬ (Φ (n + t')).fp (vs0 (n + t')) (vs0 (rel (n + t'))) b)
    (f0 : ∀ t, t < m → ∀ b, (Φ (n + t)).fp (vs0 (n + t)) (vs0 (rel (n + t))) b → ¬ prot b)
    (step : ∀ i, i < n → ∀ o, l[i]? = some o → ∀ (A : Act) (w' : World) (vs : Nat → Value), AtO l.toArray n m f a w Φ rel cons vs0 i A w' vs →
      ∀ K : Act → World → Prop, Shut (∀ v w'', Chg (Eaten Φ rel cons vs i) w' w'' → (Φ i).p v (if rel i = i then v else vs (rel i)) w'' → (∀ b, (Φ i).fp v (if rel i = i then v else vs (rel i)) b → Eaten Φ rel cons vs i b ∨ w'.heap.size ≤ b) → K (A.put o.dst v) w'') →
        if Region.wanted o (yielded l.toArray A.tmps) = true then o.wp P A w' K Q else K (A.put o.dst undef) w')
    (fin : ∀ (vs : Nat → Value) (w' : World), Kept prot w w' → (∀ j, n ≤ j → vs j = vs0 j) → (∀ j, j < n + m → lastB n cons j = true → (Φ j).p (vs j) (vs (rel j)) w') →
      (∀ j k, j < n + m → k < n + m → j ≠ k → lastB n cons j = true → lastB n cons k = true → ∀ b, (Φ j).fp (vs j) (vs (rel j)) b → ¬ (Φ k).fp (vs k) (vs (rel k)) b) →
      (∀ j, j < n + m → lastB n cons j = true → ∀ b, (Φ j).fp (vs j) (vs (rel j)) b → ¬ prot b) → wpList P l.toArray Q (l.drop n) (putAll (l.take n) vs 0 a) w') : (Code.region id l.toArray true).wp P Q a w := by
  unfold ownB at hB
  simp only [Bool.and_eq_true, decide_eq_true_eq] at hB
  obtain ⟨⟨⟨hn, hseq⟩, hall⟩, hvirt⟩ := hB
  have hal : ∀ i, i < n → ∃ o, l.toArray[i]? = some o ∧ (∀ s, o.dst = some s → s < N) ∧ (∀ e ∈ o.after, Region.binds .any e = true → e.on < i) ∧ (∀ j, j < n → j ≠ i → ∀ oj, l.toArray[j]? = some oj → ∀ s s', o.dst = some s → oj.dst = some s' → s ≠ s') ∧
      (rel i = i ∨ tw l.toArray n f i (rel i) = true ∨ n ≤ rel i) ∧ (∀ j, (cons i).contains j = true → j < n + m ∧ (n ≤ j ∨ tw l.toArray n f i j = true) ∧ ∀ c, c < n → (cons c).contains j = true → c = i) := by
    intro i hi
    have h1 := List.all_eq_true.1 hall i (List.mem_range.2 hi)
    cases ho : l.toArray[i]? with
    | none => rw [ho] at h1; cases h1
    | some o =>
      rw [ho] at h1
      simp only [Bool.and_eq_true] at h1
      obtain ⟨⟨⟨⟨h2, h3⟩, h4⟩, h5⟩, h6⟩ := h1
      refine ⟨o, rfl, fun s hs => ?_, fun e he hb => ?_, fun j hj hji oj hoj s s' hs hs' => ?_, ?_, fun j hj => ?_⟩
      · rw [hs] at h2; simpa using h2
      · have := (Array.all_eq_true_iff_forall_mem.1 h3) e he
        rw [hb] at this
        simpa using this
      · have h7 := List.all_eq_true.1 h4 j (List.mem_range.2 hj)
        rw [hoj, hs] at h7
        simp [hs', hji] at h7
        exact h7
      · simp only [Bool.or_eq_true, beq_iff_eq, decide_eq_true_eq] at h5
        rcases h5 with (h5 | h5) | h5
        · exact .inl h5
        · exact .inr (.inl h5)
        · exact .inr (.inr h5)
      · have h7 := List.all_eq_true.1 h6 j (by simpa using hj)
        simp only [Bool.and_eq_true, Bool.or_eq_true, decide_eq_true_eq] at h7
        refine ⟨h7.1.1, h7.1.2, fun c hc hcj => ?_⟩
        have h8 := List.all_eq_true.1 h7.2 c (List.mem_range.2 hc)
        simp only [Bool.or_eq_true, beq_iff_eq, hcj, Bool.not_true, Bool.false_eq_true, or_false] at h8
        exact h8
  have hvr : ∀ j, n ≤ j → j < n + m → n ≤ rel j := fun j h1 h2 => by
    have := List.all_eq_true.1 hvirt (j - n) (List.mem_range.2 (by omega))
    simpa [Nat.add_sub_cancel' h1] using this
  have main : ∀ (q : Nat) (listed : Array Bool) (A : Act) (w' : World) (vs : Nat → Value), OInv l.toArray n m a w Φ rel cons vs0 listed A w' vs → cnt listed n = q → wpAny P .any l.toArray Q (q + (l.toArray.size - n)) listed A w' := by
    intro q
    induction q with
    | zero =>
      intro listed A w' vs inv hc
      have hl : ∀ i, i < n → listed.getD i true = true := cnt_zero n hc
      have hlf : ∀ i, i < n → listed.getD i false = true := fun i hi => by
        have := hl i hi
        have hsz : i < listed.size := by rw [inv.head.size]; omega
        simpa [hsz] using this
      have el : listed = ((List.range l.toArray.size).map fun i => decide (i < n)).toArray := by
        apply Array.ext
        · simp [inv.head.size]
        · intro i h1 h2
          by_cases hi : i < n
          · have := hl i hi
            simp only [Array.getD_eq_getD_getElem?, Array.getElem?_eq_getElem h1, Option.getD_some] at this
            simp [this, hi]
          · have := inv.head.tail i (by omega) (by rw [← inv.head.size]; exact h1)
            simp only [Array.getD_eq_getD_getElem?, Array.getElem?_eq_getElem h1, Option.getD_some] at this
            simp [this, hi]
      have eA : A = putAll (l.take n) vs 0 a := by
        refine act_ext (by rw [putAll_size, inv.size]) (by rw [putAll_defers, inv.defers]) fun s hs => ?_
        have H := putAll_eval A s (l.take n) vs 0 a (by rw [← inv.size]; exact hs) (fun j o hj hd => by
          have hjn : j < n := by
            have := (List.getElem?_eq_some_iff.1 hj).1
            simp at this
            omega
          have : l.toArray[j]? = some o := by simpa [hjn] using hj
          rw [Nat.zero_add]
          exact (inv.ins j hjn o s this (hlf j hjn) hd).symm)
        by_cases he : ∃ o ∈ l.take n, o.dst = some s
        · exact (H.1 he).symm
        · rw [H.2 (fun o h h' => he ⟨o, h, h'⟩)]
          refine inv.out s fun j hj o ho _ hd => he ⟨o, ?_, hd⟩
          rw [List.mem_take_iff_getElem]
          have hjl := (Array.getElem?_eq_some_iff.1 ho)
          obtain ⟨h1, h2⟩ := hjl
          exact ⟨j, by simp at h1; omega, by simpa using h2⟩
      rw [Nat.zero_add]
      have lv : ∀ j, lastB n cons j = true → j < n + m → Live n cons listed j := fun j hj hjm => ⟨by
        rcases Nat.lt_or_ge j n with h | h
        · exact .inr (hlf j h)
        · exact .inl h, fun c hc hcj => by
          have := List.all_eq_true.1 hj c (List.mem_range.2 hc)
          rw [hcj] at this
          cases this⟩
      have := wpAny_of_seq (md := .any) (Q' := Q) (P := P) (ops := l.toArray) (l.drop n) n listed A w' (fun j => by simp [List.getElem?_drop]) (by
        rw [el]
        have : (l.drop n).length = l.toArray.size - n := by simp
        rw [this]
        exact hseq) (by
        rw [eA]
        exact fin vs w' inv.kept inv.virt (fun j hj hl => inv.word j hj (lv j hl hj)) (fun j k hj hk hjk h1 h2 => inv.dis j k hj hk hjk (lv j h1 hj) (lv k h2 hk)) (fun j hj hl => inv.fresh j hj (lv j hl hj)))
      have e2 : (l.drop n).length = l.toArray.size - n := by simp
      rwa [e2] at this
    | succ q ih =>
      intro listed A w' vs inv hc
      rw [show q + 1 + (l.toArray.size - n) = (q + (l.toArray.size - n)) + 1 by omega]
      obtain ⟨i0, hi0, hun0, hprev⟩ := cnt_first n (by rw [hc]; omega)
      have hready0 : i0 ∈ Region.ready .any l.toArray listed := by
        obtain ⟨o, ho, _, hlt, _⟩ := hal i0 hi0
        refine mem_ready.2 ⟨hun0, o, ho, fun e he hb => ?_⟩
        have h1 := hlt e he hb
        have h2 := hprev e.on h1
        have hsz : e.on < listed.size := by rw [inv.head.size]; have := (Array.getElem?_eq_some_iff.1 ho).1; omega
        simpa [hsz] using h2
      refine ⟨fun h => (by rw [h] at hready0; cases hready0), fun i hi => ?_⟩
      obtain ⟨hun, o, ho, hdeps⟩ := mem_ready.1 hi
      have hin : i < n := by
        have hsz := (Array.getElem?_eq_some_iff.1 ho).1
        omega
      obtain ⟨o', ho', hsN, hlt, hother, hrel, hcons⟩ := hal i hin
      have : o' = o := Option.some.inj (ho'.symm.trans ho)
      subst this
      have unl : ∀ j, listed.getD j false = true → j ≠ i := fun j hj e => by subst e; rw [getD_both hun] at hj; cases hj
      have hsz : i < listed.size := by rw [inv.head.size]; exact (Array.getElem?_eq_some_iff.1 ho).1
      have outs : ∀ s', outB l.toArray n i s' = true → A.eval (.tmp s') = a.eval (.tmp s') := fun s' hs' => inv.out s' fun j hj oj hoj hlj hdj => by
          have h1 := List.all_eq_true.1 hs' j (List.mem_range.2 hj)
          have hji := unl j hlj
          rw [hoj] at h1
          simp only [Option.bind_some, hdj] at h1
          simp only [Bool.or_eq_true, beq_iff_eq, bne_self_eq_false, Bool.false_eq_true, false_or] at h1
          rcases h1 with h1 | h1
          · exact hji h1
          · obtain ⟨oj', hoj', e, he, hb, hon⟩ := Region.waitsFor_spec h1
            have : oj' = oj := Option.some.inj (hoj'.symm.trans hoj)
            subst this
            have h2 := inv.head.closed j oj' hoj hlj e he hb
            rw [hon, getD_both hun] at h2
            cases h2
      have wl : ∀ j, Region.waitsFor .any l.toArray i j = true → listed.getD j false = true := fun j hw => by
          obtain ⟨oi, hoi, e, he, hb, hon⟩ := Region.waitsFor_spec hw
          have : oi = o' := Option.some.inj (hoi.symm.trans ho)
          subst this
          rw [← hon]
          exact hdeps e he hb
      have deps : ∀ j s', depB l.toArray n i j s' = true → A.eval (.tmp s') = vs j := fun j s' hs' => by
          simp only [depB, Bool.and_eq_true, decide_eq_true_eq] at hs'
          obtain ⟨⟨hj, hw⟩, hds⟩ := hs'
          have hlj := wl j hw
          cases hoj : l.toArray[j]? with
          | none => rw [hoj] at hds; simp at hds
          | some oj =>
            rw [hoj] at hds
            simp only [Option.bind_some, beq_iff_eq] at hds
            exact inv.ins j hj oj s' hoj hlj hds
      have lst' : ∀ j, j ≠ i → (listed.setIfInBounds i true).getD j false = listed.getD j false := fun j hj => getD_set_ne false (Ne.symm hj)
      -- what waits for i is not listed
      have wait : ∀ c, tw l.toArray n f c i = true → listed.getD c false = false := fun c hc => by
        cases hlc : listed.getD c false with
        | false => rfl
        | true =>
          have := tw_listed inv.head f c i (fun k' hk' => by
            obtain ⟨ok, hok, e, he, hb, hon⟩ := Region.waitsFor_spec hk'
            rw [← hon]
            exact inv.head.closed _ ok hok hlc e he hb) hc
          exact absurd rfl (unl _ this)
      have usable : ∀ j, useB l.toArray n f cons i j = true → Live n cons listed j := fun j hj => by
        simp only [useB, Bool.and_eq_true, Bool.or_eq_true, decide_eq_true_eq] at hj
        refine ⟨?_, fun c hc hcj => ?_⟩
        · rcases hj.1 with h | h
          · exact .inl h
          · exact .inr (tw_listed inv.head f i j wl h)
        · have := List.all_eq_true.1 hj.2 c (List.mem_range.2 hc)
          simp only [hcj, Bool.not_true, Bool.false_or, Bool.or_eq_true, beq_iff_eq] at this
          rcases this with h | h
          · subst h; exact getD_both hun
          · exact wait c h
      have eaten : ∀ j, (cons i).contains j = true → j < n + m ∧ Live n cons listed j := fun j hj => by
        obtain ⟨h1, h2, h3⟩ := hcons j hj
        refine ⟨h1, ?_, fun c hc hcj => ?_⟩
        · rcases h2 with h | h
          · exact .inl h
          · exact .inr (tw_listed inv.head f i j wl h)
        · rw [h3 c hc hcj]; exact getD_both hun
      have next : ∀ v w'', Chg (Eaten Φ rel cons vs i) w' w'' → (Φ i).p v (if rel i = i then v else vs (rel i)) w'' → (∀ b, (Φ i).fp v (if rel i = i then v else vs (rel i)) b → Eaten Φ rel cons vs i b ∨ w'.heap.size ≤ b) → wpAny P .any l.toArray Q (q + (l.toArray.size - n)) (listed.setIfInBounds i true) (A.put o'.dst v) w'' := by
        intro v w'' hch hp hfp
        have hfe : ∀ b, prot b → ¬ Eaten Φ rel cons vs i b := fun b hb ⟨j, hj, hjb⟩ => by
          obtain ⟨h1, h2⟩ := eaten j hj
          exact inv.fresh j h1 h2 b hjb hb
        -- what lives behind the step, other than i
        have old : ∀ j, j < n + m → j ≠ i → Live n cons (listed.setIfInBounds i true) j → Live n cons listed j ∧ (cons i).contains j = false := fun j hjm hji hl => by
          refine ⟨⟨?_, fun c hc hcj => ?_⟩, ?_⟩
          · rcases hl.1 with h | h
            · exact .inl h
            · exact .inr (by rw [lst' j hji] at h; exact h)
          · have := hl.2 c hc hcj
            by_cases hci : c = i
            · subst hci; exact getD_both hun
            · rw [lst' c hci] at this; exact this
          · cases hcj : (cons i).contains j with
            | false => rfl
            | true =>
              have := hl.2 i hin hcj
              simp [hsz] at this
        have rne : ∀ j, j < n + m → j ≠ i → Live n cons listed j → rel j ≠ i := fun j hjm hji hl e => by
          rcases Nat.lt_or_ge j n with h | h
          · obtain ⟨_, _, _, _, _, hr, _⟩ := hal j h
            rcases hr with hr | hr | hr
            · exact hji (hr.symm.trans e)
            · rw [e] at hr
              have := wait j hr
              rcases hl.1 with h2 | h2
              · omega
              · rw [this] at h2; cases h2
            · omega
          · have := hvr j h hjm
            omega
        have hv : ∀ j, j < n + m → j ≠ i → Live n cons listed j → (if j = i then v else vs j) = vs j ∧ (if rel j = i then v else vs (rel j)) = vs (rel j) := fun j hjm hji hl => ⟨if_neg hji, if_neg (rne j hjm hji hl)⟩
        have hvi : (if i = i then v else vs i) = v ∧ (if rel i = i then v else vs (rel i)) = (if rel i = i then v else vs (rel i)) := ⟨if_pos rfl, rfl⟩
        have fi : ∀ k, k < n + m → k ≠ i → Live n cons listed k → (cons i).contains k = false → ∀ b, (Φ i).fp v (if rel i = i then v else vs (rel i)) b → ¬ (Φ k).fp (vs k) (vs (rel k)) b := fun k hk hki hl hck b hb hkb => by
          rcases hfp b hb with ⟨j, hj, hjb⟩ | h
          · obtain ⟨h1, h2⟩ := eaten j hj
            refine inv.dis j k h1 hk (fun e => ?_) h2 hl b hjb hkb
            subst e
            rw [hj] at hck
            cases hck
          · have := (Φ k).lt _ _ _ b (inv.word k hk hl) hkb
            omega
        refine ih _ _ _ (fun k => if k = i then v else vs k) ?_ ?_
        · refine ⟨inv.head.set hi hin, inv.kept.chg hch hfe, by rw [size_put, inv.size], by rw [defers_put, inv.defers], fun s' hs' => ?_, fun j hj oj s' hoj hlj hdj => ?_, fun j hj => ?_, fun j hj hl => ?_, fun j k hj hk hjk h1 h2 b => ?_, fun j hj hl b => ?_⟩
          · rw [Act.eval_put (fun d hd' e => by
              injection e with e
              subst e
              exact hs' i hin o' ho (by simp [hsz]) hd')]
            refine inv.out s' fun j hj oj hoj hlj => hs' j hj oj hoj (getD_set_true hlj)
          · by_cases hji : j = i
            · subst hji
              have : oj = o' := Option.some.inj (hoj.symm.trans ho)
              subst this
              rw [hdj, eval_put_same (by rw [inv.size, hN]; exact hsN s' hdj), if_pos rfl]
            · have hlj' : listed.getD j false = true := by rw [lst' j hji] at hlj; exact hlj
              rw [Act.eval_put (fun d hd' e => by
                injection e with e
                exact hother j hj hji oj hoj d s' hd' hdj e.symm)]
              rw [if_neg hji]
              exact inv.ins j hj oj s' hoj hlj' hdj
          · show (if j = i then v else vs j) = vs0 j
            rw [if_neg (by omega)]
            exact inv.virt j hj
          · by_cases hji : j = i
            · subst hji
              show (Φ j).p (if j = j then v else vs j) (if rel j = j then v else vs (rel j)) w''
              rw [if_pos rfl]
              exact hp
            · obtain ⟨hlo, hnc⟩ := old j hj hji hl
              obtain ⟨e1, e2⟩ := hv j hj hji hlo
              show (Φ j).p (if j = i then v else vs j) (if rel j = i then v else vs (rel j)) w''
              rw [e1, e2]
              refine (Φ j).keep _ _ _ _ (inv.word j hj hlo) (Kept.of_chg hch fun b hb => ?_)
              rcases hb with hb | hb
              · rintro ⟨k, hk, hkb⟩
                obtain ⟨h3, h4⟩ := eaten k hk
                refine inv.dis k j h3 hj (fun e => ?_) h4 hlo b hkb hb
                subst e
                rw [hk] at hnc
                cases hnc
              · exact hfe b hb
          · show (Φ j).fp (if j = i then v else vs j) (if rel j = i then v else vs (rel j)) b → ¬ (Φ k).fp (if k = i then v else vs k) (if rel k = i then v else vs (rel k)) b
            by_cases hji : j = i
            · subst hji
              have hkj : k ≠ j := fun e => hjk e.symm
              obtain ⟨hlo, hnc⟩ := old k hk hkj h2
              obtain ⟨e1, e2⟩ := hv k hk hkj hlo
              rw [if_pos rfl, e1, e2]
              exact fi k hk hkj hlo hnc b
            · obtain ⟨hlo, hnc⟩ := old j hj hji h1
              obtain ⟨e1, e2⟩ := hv j hj hji hlo
              rw [e1, e2]
              by_cases hki : k = i
              · subst hki
                rw [if_pos rfl]
                exact fun x y => fi j hj hji hlo hnc b y x
              · obtain ⟨hlk, _⟩ := old k hk hki h2
                obtain ⟨e3, e4⟩ := hv k hk hki hlk
                rw [e3, e4]
                exact inv.dis j k hj hk hjk hlo hlk b
          · show (Φ j).fp (if j = i then v else vs j) (if rel j = i then v else vs (rel j)) b → ¬ prot b
            by_cases hji : j = i
            · subst hji
              rw [if_pos rfl]
              intro hb hpb
              rcases hfp b hb with h | h
              · exact hfe b hpb h
              · have := hprot b hpb
                have := inv.kept.size
                omega
            · obtain ⟨hlo, _⟩ := old j hj hji hl
              obtain ⟨e1, e2⟩ := hv j hj hji hlo
              rw [e1, e2]
              exact inv.fresh j hj hlo b
        · have := cnt_set hun n
          rw [if_pos hin] at this
          omega
      have hs := step i hin o' (by simpa using ho) A w' vs ⟨inv.kept, outs, deps, inv.virt, fun j hj hu => inv.word j hj (usable j hu), fun j k hj hk hjk h1 h2 => inv.dis j k hj hk hjk (usable j h1) (usable k h2), fun j hj hu => inv.fresh j hj (usable j hu)⟩ (wpAny P .any l.toArray Q (q + (l.toArray.size - n)) (listed.setIfInBounds i true)) next
      unfold wpOp
      rw [ho]
      simp only
      split
      · rename_i hw
        rw [if_pos hw] at hs
        exact .inl hs
      · rename_i hw
        rw [if_neg hw] at hs
        exact hs
  refine wp_region_any hm ?_
  have nl : ∀ j, Live n cons (Array.replicate l.toArray.size false) j → n ≤ j := fun j hj => by
    rcases hj.1 with h | h
    · exact h
    · rw [getD_replicate_false] at h; cases h
  have H := main n (Array.replicate l.toArray.size false) a w.drew vs0 ⟨⟨by simp, fun j oj _ hl => (by rw [getD_replicate_false] at hl; cases hl), fun t _ ht => getD_in (by simpa using ht) (getD_replicate_false _ _)⟩,
    ⟨rfl, rfl, rfl, Nat.le_refl _, fun _ _ _ => rfl⟩, rfl, rfl, fun s _ => rfl, fun j hj o s _ hl => (by rw [getD_replicate_false] at hl; cases hl), fun _ _ => rfl,
    fun j hj hl => by
      have h1 := nl j hl
      have := w0 (j - n) (by omega)
      rw [Nat.add_sub_cancel' h1] at this
      exact (Φ j).keep _ _ _ _ this ⟨rfl, rfl, rfl, Nat.le_refl _, fun _ _ _ => rfl⟩,
    fun j k hj hk hjk h1 h2 => by
      have h3 := nl j h1
      have h4 := nl k h2
      have := d0 (j - n) (k - n) (by omega) (by omega) (by omega)
      rw [Nat.add_sub_cancel' h3, Nat.add_sub_cancel' h4] at this
      exact this,
    fun j hj hl => by
      have h1 := nl j hl
      have := f0 (j - n) (by omega)
      rw [Nat.add_sub_cancel' h1] at this
      exact this⟩ (cnt_init _ n (by omega))
  rw [show n + (l.toArray.size - n) = l.toArray.size by omega] at H
  exact H
end
end Go.Proofs.Ytknoenceccpkhaa

/- What many texts need: numbers of bytes, rows that are appended, addresses, stores into the middle of a block. -/
namespace Go.Proofs.Ytknoenceccpkhaa
open Go.RowKit
set_option linter.unusedVariables false
set_option linter.unusedSimpArgs false
attribute [local go_sem ↓] sliced_cut

attribute [local go_sem] cutA_zero

theorem wanted_ifG {ops : Array Oper} {o : Oper} {tmps : Array Value} {X Y : Prop} (h : Region.wanted o (yielded ops tmps) = true) (hx : X) : if Region.wanted o (yielded ops tmps) = true then X else Y := by
  rw [if_pos h]
  exact hx
theorem whole_ (cs : List Value) : (cs.drop 0).take cs.length = cs := by rw [List.drop_zero]; exact List.take_of_length_le (Nat.le_refl _)
theorem take_set_succ {α : Type} (l : List α) (o : Nat) (v : α) (h : o < l.length) : (l.set o v).take (o + 1) = l.take o ++ [v] := by
  rw [List.take_succ_eq_append_getElem (by simpa using h), List.take_set_of_le (Nat.le_refl _)]
  simp
theorem Bk.setMid {w : World} {g : Nat} {t : TypeId} : ∀ (new old : List Value) (o : Nat), Bk w g t old → o + new.length ≤ old.length → Bk (w.setCells g o new) g t (splice old o new) := by
  intro new
  induction new generalizing w with
  | nil => intro old o h hl; simp only [World.setCells, over_nil]; exact h
  | cons v r ih =>
    intro old o h hl
    simp only [List.length_cons] at hl
    have := ih (old.set o v) (o + 1) (h.set_ o v) (by simp; omega)
    have e : splice (old.set o v) (o + 1) r = splice old o (v :: r) := by
      unfold splice
      rw [take_set_succ old o v (by omega), List.drop_set_of_lt (by omega)]
      simp [Nat.add_assoc, Nat.add_comm 1]
    rw [e] at this
    exact this
/-- an aggregate stored into the middle of a block -/
theorem wpList_stM {P : Program} {w : World} {ops : Array Oper} {rest : List Oper} {o : Oper} {a : Act} {Q : Exit → Act → World → Prop} (ty : TypeId) (x y : Operand) (ho : o.op = .store ty x y) (hgd : o.guard = none)
    {g off : Nat} {t : TypeId} (new old : List Value) (hl : off + new.length ≤ old.length) (h1 : ∀ u ∈ new, u.oneCell' = true) (hx : a.eval x = .pointer (some ⟨g, off, none⟩)) (hy : a.eval y = .agg new.toArray) (hb : Bk w g t old)
    (hi : (P.info? ty).map (·.size) = some new.length) (h : ∀ w', Bk w' g t (splice old off new) → w.grownBy w' (some g) → wpList P ops Q rest (a.put o.dst undef) w') : wpList P ops Q (o :: rest) a w := by
  refine wpList_store_mid hgd ty x y ho g off new.toArray hx hy (fun j hj => ?_) (by simpa using hi) (all_oneCell_toArray h1) (h _ (Bk.setMid new old off hb hl) ?_)
  · have hj' : off + j < old.length := by simp at hj; omega
    exact ⟨by rw [hb.cell, List.getElem?_eq_getElem hj']; rfl, hb.frozen _⟩
  · generalize off = k
    clear hi h hb hy hl hx
    induction new generalizing w k with
    | nil => exact World.grownBy.refl _ _
    | cons v r ih => exact (grownBy_setCell _ _ _ _).trans (ih (fun u hu => h1 u (List.mem_cons_of_mem _ hu)) _)
end Go.Proofs.Ytknoenceccpkhaa

/- cmp.Compare, hrw.ahead, slices.MinFunc (chapter 16). -/
namespace Go.Proofs.Ytknoenceccpkhaa
open Go.RowKit
set_option linter.unusedVariables false
set_option linter.unusedSimpArgs false
attribute [local go_sem ↓] sliced_cut

attribute [local go_sem] cutA_zero

/-- the cells of a scored member -/
def scC (p : Int × Int) : List Value := [.int .i64 p.1, .int .u64 p.2]
theorem scC_one (p : Int × Int) : ∀ u ∈ scC p, u.oneCell' = true := by simp [scC, Value.oneCell']
theorem szSc (p : Int × Int) : (Try.prog.info? 170).map (·.size) = some (scC p).length := by kernel_rfl
theorem rowSc : ∃ d, Try.prog.underlying 170 = some d ∧ d.isRow = true := ⟨_, Try.underlying170, rfl⟩
set_option maxHeartbeats 4000000 in
set_option maxRecDepth 100000 in
theorem isNaN_i64 (x : Int) (w : World) : Calls Try.prog 151 #[.int .i64 x] w (RetV w (.bool false)) := by
  go_enter Try.func151, Try.ntmps151
  go_wp2
  go_ret
  exact RetV.is_ (by simp) (Below.refl _ _)
set_option maxHeartbeats 4000000 in
set_option maxRecDepth 100000 in
theorem compare_i64 (x y : Int) (w : World) : Calls Try.prog 129 #[.int .i64 x, .int .i64 y] w (RetV w (.int .i64 (cmp3 x y))) := by
  obtain ⟨z, hz⟩ : ∃ z, z = cmp3 x y := ⟨_, rfl⟩
  have HZ := Lib.hid hz
  rw [← hz]
  clear hz
  rcases Int.lt_trichotomy x y with h | h | h
  · have d1 : decide (x < y) = true := by simp only [decide_eq_true_eq]; omega
    go_enter Try.func129, Try.ntmps129
    go_wp2_with (first
      | (go_at_call 151; (with_reducible refine (isNaN_i64 _ _).mono ?_); rintro e w1 ⟨bs, d, rfl, rfl⟩))
    go_ret
    exact RetV.is_ (by rw [HZ.out]; simp [cmp3, h]) (belowP (belowP (Below.refl _ _) _ _) _ _)
  · have d1 : decide (x < y) = false := by simp only [decide_eq_false_iff_not]; omega
    have d2 : decide (y < x) = false := by simp only [decide_eq_false_iff_not]; omega
    go_enter Try.func129, Try.ntmps129
    go_wp2_with (first
      | (go_at_call 151; (with_reducible refine (isNaN_i64 _ _).mono ?_); rintro e w1 ⟨bs, d, rfl, rfl⟩))
    go_ret
    exact RetV.is_ (by rw [HZ.out]; simp [cmp3, h]) (belowP (belowP (Below.refl _ _) _ _) _ _)
  · have d1 : decide (x < y) = false := by simp only [decide_eq_false_iff_not]; omega
    have d2 : decide (y < x) = true := by simp only [decide_eq_true_eq]; omega
    go_enter Try.func129, Try.ntmps129
    go_wp2_with (first
      | (go_at_call 151; (with_reducible refine (isNaN_i64 _ _).mono ?_); rintro e w1 ⟨bs, d, rfl, rfl⟩))
    go_ret
    exact RetV.is_ (by rw [HZ.out, cmp3, if_neg (by omega), if_pos h]; rfl) (belowP (belowP (Below.refl _ _) _ _) _ _)
set_option maxHeartbeats 4000000 in
set_option maxRecDepth 100000 in
theorem isNaN_u64 (x : Int) (w : World) : Calls Try.prog 150 #[.int .u64 x] w (RetV w (.bool false)) := by
  go_enter Try.func150, Try.ntmps150
  go_wp2
  go_ret
  exact RetV.is_ (by simp) (Below.refl _ _)
set_option maxHeartbeats 4000000 in
set_option maxRecDepth 100000 in
theorem compare_u64 (x y : Int) (w : World) : Calls Try.prog 128 #[.int .u64 x, .int .u64 y] w (RetV w (.int .i64 (cmp3 x y))) := by
  obtain ⟨z, hz⟩ : ∃ z, z = cmp3 x y := ⟨_, rfl⟩
  have HZ := Lib.hid hz
  rw [← hz]
  clear hz
  rcases Int.lt_trichotomy x y with h | h | h
  · have d1 : decide (x < y) = true := by simp only [decide_eq_true_eq]; omega
    go_enter Try.func128, Try.ntmps128
    go_wp2_with (first
      | (go_at_call 150; (with_reducible refine (isNaN_u64 _ _).mono ?_); rintro e w1 ⟨bs, d, rfl, rfl⟩))
    go_ret
    exact RetV.is_ (by rw [HZ.out]; simp [cmp3, h]) (belowP (belowP (Below.refl _ _) _ _) _ _)
  · have d1 : decide (x < y) = false := by simp only [decide_eq_false_iff_not]; omega
    have d2 : decide (y < x) = false := by simp only [decide_eq_false_iff_not]; omega
    go_enter Try.func128, Try.ntmps128
    go_wp2_with (first
      | (go_at_call 150; (with_reducible refine (isNaN_u64 _ _).mono ?_); rintro e w1 ⟨bs, d, rfl, rfl⟩))
    go_ret
    exact RetV.is_ (by rw [HZ.out]; simp [cmp3, h]) (belowP (belowP (Below.refl _ _) _ _) _ _)
  · have d1 : decide (x < y) = false := by simp only [decide_eq_false_iff_not]; omega
    have d2 : decide (y < x) = true := by simp only [decide_eq_true_eq]; omega
    go_enter Try.func128, Try.ntmps128
    go_wp2_with (first
      | (go_at_call 150; (with_reducible refine (isNaN_u64 _ _).mono ?_); rintro e w1 ⟨bs, d, rfl, rfl⟩))
    go_ret
    exact RetV.is_ (by rw [HZ.out, cmp3, if_neg (by omega), if_pos h]; rfl) (belowP (belowP (Below.refl _ _) _ _) _ _)
set_option maxHeartbeats 4000000 in
set_option maxRecDepth 100000 in
theorem ahead_any (p q : Int × Int) (w : World) : Calls Try.prog 94 #[.agg (scC p).toArray, .agg (scC q).toArray] w (RetV w (.int .i64 (aheadI p q))) := by
  obtain ⟨p1, p2⟩ := p
  obtain ⟨q1, q2⟩ := q
  show Calls Try.prog 94 #[.agg #[.int .i64 p1, .int .u64 p2], .agg #[.int .i64 q1, .int .u64 q2]] w _
  have HA : RowKit.Hid (aheadI (p1, p2) (q1, q2) = if cmp3 q2 p2 = 0 then cmp3 p1 q1 else cmp3 q2 p2) := Lib.hid rfl
  generalize aheadI (p1, p2) (q1, q2) = r at *
  have HU := Lib.hid (fun w => compare_u64 q2 p2 w)
  have HI := Lib.hid (fun w => compare_i64 p1 q1 w)
  generalize cmp3 q2 p2 = a at *
  generalize cmp3 p1 q1 = b at *
  cases h : decide (a = 0) with
  | true =>
    have ha : a = 0 := of_decide_eq_true h
    subst ha
    go_enter Try.func94, Try.ntmps94
    go_wp2_with (first
      | (go_at_call 128; (with_reducible refine (HU.out _).mono ?_); rintro e w1 ⟨bs, d, rfl, rfl⟩)
      | (go_at_call 129; (with_reducible refine (HI.out _).mono ?_); rintro e w1 ⟨bs, d, rfl, rfl⟩))
    go_ret
    exact RetV.is_ (by rw [HA.out]; simp) (belowP (belowP (Below.allocS (Below.allocS (Below.refl _ _) _) _) _ _) _ _)
  | false =>
    have ha : ¬ a = 0 := of_decide_eq_false h
    have hb : (a != 0) = true := by rw [bne_iff_ne]; exact ha
    go_enter Try.func94, Try.ntmps94
    go_wp2_with (first
      | (go_at_call 128; (with_reducible refine (HU.out _).mono ?_); rintro e w1 ⟨bs, d, rfl, rfl⟩))
    go_ret
    exact RetV.is_ (by rw [HA.out, if_neg ha]; rfl) (belowP (Below.allocS (Below.allocS (Below.refl _ _) _) _) _ _)
set_option maxHeartbeats 4000000 in
set_option maxRecDepth 100000 in
theorem minF_any (A : Option Addr) (n c : Nat) (m : Int × Int) (t : List (Int × Int)) (w : World) (h : Rs 2 w A n c (prs .u64 (m :: t))) (hm : n ≤ 1000000) :
    Calls Try.prog 97 #[.slice A n c, .func (.func 94) #[] #[]] w (RetV w (.agg (scC (pickS m t)).toArray)) := by
  obtain ⟨du, u1, u2⟩ := rowSc
  have hln := h.1
  have hcp := h.2.1
  rw [prs_length] at hln
  have hln1 : t.length + 1 = n := by simp only [List.length_cons] at hln; omega
  obtain ⟨b, off, rfl, hbl, hcell⟩ := h.at_ (by omega) (by decide)
  have d1 : decide ((n : Int) < 1) = false := by simp only [decide_eq_false_iff_not]; omega
  have i0 : (0 : Int) < (n : Int) := by omega
  have HC := Lib.hid (fun (j : Nat) (hj : j < t.length + 1) => (prs_at .u64 (m :: t) j (by simpa using hj)))
  have q0 : w.cell? ⟨b, off, none⟩ = some (.int .i64 m.1) := hcell 0 _ rfl
  have q1 : w.cell? ⟨b, off + 1, none⟩ = some (.int .u64 m.2) := hcell 1 _ rfl
  have HD := Lib.hid hcell
  clear hcell h hln
  go_enter Try.func97, Try.ntmps97
  go_upto_region 3 with (fail)
  go_wp2_with (fail)
  have b4 : Bk ((w.alloc (.cells #[.int .i64 0, .int .u64 0] 170)).alloc (.cells #[.int .i64 m.1, .int .u64 m.2] 170)) w.heap.size 170 (scC (0, 0)) := (Bk.new w 170 #[.int .i64 0, .int .u64 0]).alloc _
  have b5 : Bk ((w.alloc (.cells #[.int .i64 0, .int .u64 0] 170)).alloc (.cells #[.int .i64 m.1, .int .u64 m.2] 170)) (w.heap.size + 1) 170 (scC m) := Bk.newK _ _ _ (by simp) rfl
  have be : Below w.heap.size w ((w.alloc (.cells #[.int .i64 0, .int .u64 0] 170)).alloc (.cells #[.int .i64 m.1, .int .u64 m.2] 170)) := Below.allocS (Below.allocS (Below.refl _ _) _) _
  have B4 := Lib.hid b4
  have B5 := Lib.hid b5
  have BE := Lib.hid be
  clear b4 b5 be q0 q1
  generalize (w.alloc (.cells #[.int .i64 0, .int .u64 0] 170)).alloc (.cells #[.int .i64 m.1, .int .u64 m.2] 170) = V at *
  go_loopw [6] (fun i wr => ∃ (j : Nat) (r : Int × Int), j + 1 ≤ n ∧ i = .int .i64 ((j + 1 : Nat) : Int) ∧ Bk wr w.heap.size 170 (scC (0, 0)) ∧ Bk wr (w.heap.size + 1) 170 (scC r) ∧ pickS r (t.drop j) = pickS m t ∧ Below w.heap.size w wr) (fun i _ => n - (intOf i).toNat)
  case atStart => exact ⟨0, m, by omega, rfl, B4.out, B5.out, rfl, BE.out⟩
  case round =>
    clear B4 B5 BE
    obtain ⟨j, r, hj, rfl, h4, h5, hp, he⟩ := hrel
    have HP := Lib.hid hp
    clear hp
    obtain ⟨k, hk⟩ : ∃ k, k = j + 1 := ⟨_, rfl⟩
    rw [← hk] at hj ⊢
    have HK := Lib.hid hk
    clear hk
    by_cases hlt : k < n
    · have hjt : j < t.length := by have := HK.out; omega
      obtain ⟨y, hy⟩ : ∃ y, y = t[j] := ⟨_, rfl⟩
      have hpk : pickS (if aheadI y r < 0 then y else r) (t.drop (j + 1)) = pickS m t := by
        have := HP.out
        rw [List.drop_eq_getElem_cons hjt] at this
        rw [hy]; exact this
      have HR : RowKit.Hid (∀ w', Below w.heap.size w w' → w'.rangeAt b (off + k * 2) (scC y)) := Lib.hid (fun w' hb i u hu => by
        have hc := HC.out k (by omega)
        have e : (m :: t)[k]'(by simp; omega) = y := by have h1 := HK.out; subst h1; rw [hy]; rfl
        rw [e] at hc
        rw [hb.cell (p := ⟨b, _, none⟩) hbl]
        match i, hu with
        | 0, hu => rw [Nat.add_zero, Nat.mul_comm]; exact (HD.out _ _ hc.1).trans hu
        | 1, hu => rw [Nat.add_assoc, Nat.mul_comm k 2]; exact (HD.out _ _ hc.2).trans hu
        | i + 2, hu => simp [scC] at hu)
      have HA := Lib.hid (fun w => ahead_any y r w)
      clear hy
      generalize aheadI y r = q at *
      have HP0 := Lib.hid hpk
      clear hpk
      have ik : (k : Int) < (n : Int) := by omega
      go_upto_region 7 with (fail)
      go_wp2
      refine wp_relS 8 33 rfl (by kernel_rfl) (by kernel_rfl) ?_
      apply Steps.one (MP.eq _) 1 rfl
      · intro o ho FA x hO hD K hK
        obtain rfl := Option.some.inj ho.symm
        clear ho
        have e1 := hO 1 (by kernel_rfl)
        simp only [eval_tmp, List.getElem?_toArray, List.getElem?_cons_succ, List.getElem?_cons_zero, Option.getD_some] at e1
        have ev1 := Lib.hid ((eval_tmp FA 1).trans e1)
        clear hO hD
        go_simp
        exact hK.out _ _ (Ex.refl _) rfl
      apply Steps.one (MP.eq _) 2 rfl
      · intro o ho FA x hO hD K hK
        obtain rfl := Option.some.inj ho.symm
        clear ho
        have e0 := hO 0 (by kernel_rfl)
        simp only [eval_tmp, List.getElem?_toArray, List.getElem?_cons_succ, List.getElem?_cons_zero, Option.getD_some] at e0
        have ev0 := Lib.hid ((eval_tmp FA 0).trans e0)
        clear hO hD
        go_simp
        exact hK.out _ _ (Ex.refl _) rfl
      apply Steps.one (MP.eq _) 3 rfl
      · intro o ho FA x hO hD K hK
        obtain rfl := Option.some.inj ho.symm
        clear ho
        have e6 := hO 6 (by kernel_rfl)
        simp only [eval_tmp, List.getElem?_toArray, List.getElem?_cons_succ, List.getElem?_cons_zero, Option.getD_some] at e6
        have ev6 := Lib.hid ((eval_tmp FA 6).trans e6)
        clear hO hD
        go_simp
        exact hK.out _ _ (Ex.refl _) rfl
      apply Steps.one (MP.eq _) 4 rfl
      · intro o ho FA x hO hD K hK
        obtain rfl := Option.some.inj ho.symm
        clear ho
        have ev21 : FA.eval (.tmp 21) = _ := hD 1 21 (by kernel_rfl)
        have e21 := (eval_tmp FA 21).symm.trans ev21
        replace ev21 := Lib.hid ev21
        have ev22 : FA.eval (.tmp 22) = _ := hD 2 22 (by kernel_rfl)
        have e22 := (eval_tmp FA 22).symm.trans ev22
        replace ev22 := Lib.hid ev22
        clear hO hD
        go_simp
        exact hK.out _ _ (Ex.refl _) rfl
      apply Steps.one (MP.eq _) 5 rfl
      · intro o ho FA x hO hD K hK
        obtain rfl := Option.some.inj ho.symm
        clear ho
        have ev23 : FA.eval (.tmp 23) = _ := hD 3 23 (by kernel_rfl)
        have e23 := (eval_tmp FA 23).symm.trans ev23
        replace ev23 := Lib.hid ev23
        clear hO hD
        refine wanted_if rfl ?_
        refine wp_load_mid 170 (.tmp 23) rfl b (off + k * 2) ev23.out (scC y) _ (HR.out _ (belowP he _ _)) u1 u2 (szSc _) ?_
        exact hK.out _ _ (Ex.refl _) rfl
      apply Steps.one (MP.eq _) 6 rfl
      · intro o ho FA x hO hD K hK
        obtain rfl := Option.some.inj ho.symm
        clear ho
        have e5 := hO 5 (by kernel_rfl)
        simp only [eval_tmp, List.getElem?_toArray, List.getElem?_cons_succ, List.getElem?_cons_zero, Option.getD_some] at e5
        have ev5 := Lib.hid ((eval_tmp FA 5).trans e5)
        clear hO hD
        refine wanted_if rfl ?_
        refine wp_ldA 170 (.tmp 5) rfl (scC r) ev5.out (h5.later (below_plus _ _ _)) (whole_ _) u1 u2 (szSc _) ?_
        exact hK.out _ _ (Ex.refl _) rfl
      apply Steps.one (MP.eq _) 7 rfl
      · intro o ho FA x hO hD K hK
        obtain rfl := Option.some.inj ho.symm
        clear ho
        have ev20 : FA.eval (.tmp 20) = _ := hD 0 20 (by kernel_rfl)
        have e20 := (eval_tmp FA 20).symm.trans ev20
        replace ev20 := Lib.hid ev20
        have ev24 : FA.eval (.tmp 24) = _ := hD 4 24 (by kernel_rfl)
        have e24 := (eval_tmp FA 24).symm.trans ev24
        replace ev24 := Lib.hid ev24
        have ev25 : FA.eval (.tmp 25) = _ := hD 5 25 (by kernel_rfl)
        have e25 := (eval_tmp FA 25).symm.trans ev25
        replace ev25 := Lib.hid ev25
        clear hO hD
        go_simp
        refine (HA.out _).mono ?_
        rintro e w1 ⟨bs2, d2, rfl, rfl⟩
        exact hK.out _ _ (Ex.plus_ _ _ _) rfl
      apply Steps.one (MP.eq _) 8 rfl
      · intro o ho FA x hO hD K hK
        obtain rfl := Option.some.inj ho.symm
        clear ho
        have ev26 : FA.eval (.tmp 26) = _ := hD 6 26 (by kernel_rfl)
        have e26 := (eval_tmp FA 26).symm.trans ev26
        replace ev26 := Lib.hid ev26
        clear hO hD
        go_simp
        exact hK.out _ _ (Ex.refl _) rfl
      refine Steps.fin_ (fun vs x hp => ?_)
      have p0 : vs 0 = _ := hp 0 (by omega)
      have p1 : vs 1 = _ := hp 1 (by omega)
      have p2 : vs 2 = _ := hp 2 (by omega)
      have p3 : vs 3 = _ := hp 3 (by omega)
      have p4 : vs 4 = _ := hp 4 (by omega)
      have p5 : vs 5 = _ := hp 5 (by omega)
      have p6 : vs 6 = _ := hp 6 (by omega)
      have p7 : vs 7 = _ := hp 7 (by omega)
      clear hp
      simp only [List.take_succ_cons, List.take_zero, List.drop_succ_cons, List.drop_zero, putAll, Nat.zero_add, Nat.reduceAdd, Act.put, List.setIfInBounds_toArray, List.set_cons_zero, List.set_cons_succ, p0, p1, p2, p3, p4, p5, p6, p7]
      clear p0 p1 p2 p3 p4 p5 p6 p7
      clear vs
      replace h4 := h4.later (below_plus _ x.bs x.d)
      replace h5 := h5.later (below_plus _ x.bs x.d)
      replace he := belowP he x.bs x.d
      generalize plus wr x.bs x.d = w2 at *
      have hpk0 := HP0.out
      clear HP0
      cases hd : decide (q < 0) with
      | true =>
        have hy := of_decide_eq_true hd
        rw [if_pos hy] at hpk0
        have HPK := Lib.hid hpk0
        clear hpk0 hy
        go_wp2_with (first
          | (refine at_op (.load 170 (.tmp 30)) rfl ?_; refine wpList_load_mid rfl _ (.tmp 30) rfl b (off + k * 2) rfl (scC y) _ (HR.out _ he) u1 u2 (szSc _) ?_)
          | (refine at_op (.store 170 (.tmp 5) (.tmp 31)) rfl ?_; refine wpList_stA (t := 170) 170 (.tmp 5) (.tmp 31) rfl rfl (scC y) (scC r) rfl (scC_one _) rfl rfl h5 (szSc _) ?_; intro w3 hn hg))
        have e4 := h4.grown hg (by simp)
        have e5 := below_grown he hg (by omega)
        exact ⟨⟨k, y, by omega, by go_num, e4, hn, by rw [HK.out]; exact HPK.out, e5⟩, by simp [intOf]; omega⟩
      | false =>
        have hy := of_decide_eq_false hd
        rw [if_neg hy] at hpk0
        have HPK := Lib.hid hpk0
        clear hpk0 hy
        go_wp2_with (fail)
        exact ⟨⟨k, r, by omega, by go_num, h4, h5, by rw [HK.out]; exact HPK.out, he⟩, by simp [intOf]; omega⟩
    · have hr : r = pickS m t := by
        have h1 := HP.out
        have h2 := HK.out
        rw [List.drop_eq_nil_of_le (by omega)] at h1
        exact h1
      have ik : ¬ (k : Int) < (n : Int) := by omega
      go_wp2_with (first
        | (refine at_op (.load 170 (.tmp 5)) rfl ?_; refine wpList_ldA (t := 170) 170 (.tmp 5) rfl rfl (scC r) rfl (h5) (whole_ _) u1 u2 (szSc _) ?_)
        | (refine at_op (.store 170 (.tmp 4) (.tmp 32)) rfl ?_; refine wpList_stA (t := 170) 170 (.tmp 4) (.tmp 32) rfl rfl (scC r) (scC (0, 0)) rfl (scC_one _) rfl rfl h4 (szSc _) ?_; intro w3 hn hg))
      refine bodyPost_agg Try.results97 rfl hn.range u1 u2 (szSc _) rfl ?_
      rw [hr]
      exact RetV.mk (below_grown he hg (Nat.le_refl _))
end Go.Proofs.Ytknoenceccpkhaa

/- Contracts of siphash's mixing. -/
namespace Go.Proofs.Ytknoenceccpkhaa
open Go.RowKit
set_option linter.unusedVariables false
set_option linter.unusedSimpArgs false
attribute [local go_sem ↓] sliced_cut

attribute [local go_sem] cutA_zero

/-- a word turned -/
def rolC (k : Nat) (x : UInt64) : UInt64 := UInt64.ofNat (x.toNat * 2 ^ k % 18446744073709551616 ||| x.toNat / 2 ^ (64 - k))
theorem rol_ex (k : Nat) (x : UInt64) : ∃ y, y = rolC k x := ⟨_, rfl⟩
/-- the same, shut to evaluation -/
noncomputable def rol (k : Nat) (x : UInt64) : UInt64 := Classical.choose (rol_ex k x)
theorem rol_def (k : Nat) (x : UInt64) : rol k x = rolC k x := Classical.choose_spec (rol_ex k x)
/-- sum and exclusive or of words, under names that simp leaves alone -/
def uadd (x y : UInt64) : UInt64 := x + y
def uxor (x y : UInt64) : UInt64 := x ^^^ y
theorem wadd (x y : UInt64) : IntKind.u64.wrap ((x.toNat : Int) + (y.toNat : Int)) = ((uadd x y).toNat : Int) := by
  unfold uadd
  rw [UInt64.toNat_add, IntKind.wrap_u64]
  omega
theorem wxor (x y : UInt64) : bits .xor .u64 (x.toNat : Int) (y.toNat : Int) = ((uxor x y).toNat : Int) := by
  unfold uxor
  rw [u64_xor_nat _ _ x.toNat_lt y.toNat_lt, UInt64.toNat_xor]
attribute [local go_sem] wadd wxor

theorem rol_eq (k : Nat) (hk : k ≤ 64) (x : UInt64) (A B : Nat) (hA : 2 ^ k = A) (hB : 2 ^ (64 - k) = B) : bits .or .u64 (IntKind.u64.wrap ((x.toNat : Int) * (A : Nat))) ((x.toNat : Int) / (B : Nat)) = ((rol k x).toNat : Int) := by
  have hx := x.toNat_lt
  subst hA hB
  have e1 : IntKind.u64.wrap ((x.toNat : Int) * ((2 ^ k : Nat) : Int)) = ((x.toNat * 2 ^ k % 18446744073709551616 : Nat) : Int) := by
    rw [IntKind.wrap_u64]
    simp
  have e2 : (x.toNat : Int) / ((2 ^ (64 - k) : Nat) : Int) = ((x.toNat / 2 ^ (64 - k) : Nat) : Int) := by simp
  have h1 : x.toNat * 2 ^ k % 18446744073709551616 < 2 ^ 64 := Nat.mod_lt _ (by decide)
  have h2 : x.toNat / 2 ^ (64 - k) < 2 ^ 64 := Nat.lt_of_le_of_lt (Nat.div_le_self _ _) hx
  rw [e1, e2, u64_or_nat _ _ (by simpa using h1) (by simpa using h2), rol_def, rolC, UInt64.toNat_ofNat']
  rw [Nat.mod_eq_of_lt (Nat.or_lt_two_pow h1 h2)]
theorem rol13 (x : UInt64) : bits .or .u64 (IntKind.u64.wrap ((x.toNat : Int) * 8192)) ((x.toNat : Int) / 2251799813685248) = ((rol 13 x).toNat : Int) := rol_eq 13 (by decide) x 8192 2251799813685248 (by decide) (by decide)
theorem rotl13 (x : UInt64) (w : World) : Calls Try.prog 152 #[.int .u64 (x.toNat : Int), .int .i64 13] w fun e w' => e = .returned (.int .u64 ((rol 13 x).toNat : Int)) ∧ w = w' := by
  have hx := x.toNat_lt
  have hk : bits .and .u64 13 63 = 13 := by decide +kernel
  have hr := rol13 x
  go_enter Try.func152, Try.ntmps152
  go_wp2
  go_ret
  exact ⟨rfl, rfl⟩
theorem turn13 (x : UInt64) (w : World) : Calls Try.prog 153 #[.int .u64 (x.toNat : Int), .int .u64 13] w fun e w' => e = .returned (.int .u64 ((rol 13 x).toNat : Int)) ∧ w = w' := by
  have hx := x.toNat_lt
  have hr := rol13 x
  go_enter Try.func153, Try.ntmps153
  go_wp2
  go_ret
  exact ⟨rfl, rfl⟩
theorem rol16 (x : UInt64) : bits .or .u64 (IntKind.u64.wrap ((x.toNat : Int) * 65536)) ((x.toNat : Int) / 281474976710656) = ((rol 16 x).toNat : Int) := rol_eq 16 (by decide) x 65536 281474976710656 (by decide) (by decide)
theorem rotl16 (x : UInt64) (w : World) : Calls Try.prog 152 #[.int .u64 (x.toNat : Int), .int .i64 16] w fun e w' => e = .returned (.int .u64 ((rol 16 x).toNat : Int)) ∧ w = w' := by
  have hx := x.toNat_lt
  have hk : bits .and .u64 16 63 = 16 := by decide +kernel
  have hr := rol16 x
  go_enter Try.func152, Try.ntmps152
  go_wp2
  go_ret
  exact ⟨rfl, rfl⟩
theorem turn16 (x : UInt64) (w : World) : Calls Try.prog 153 #[.int .u64 (x.toNat : Int), .int .u64 16] w fun e w' => e = .returned (.int .u64 ((rol 16 x).toNat : Int)) ∧ w = w' := by
  have hx := x.toNat_lt
  have hr := rol16 x
  go_enter Try.func153, Try.ntmps153
  go_wp2
  go_ret
  exact ⟨rfl, rfl⟩
theorem rol17 (x : UInt64) : bits .or .u64 (IntKind.u64.wrap ((x.toNat : Int) * 131072)) ((x.toNat : Int) / 140737488355328) = ((rol 17 x).toNat : Int) := rol_eq 17 (by decide) x 131072 140737488355328 (by decide) (by decide)
theorem rotl17 (x : UInt64) (w : World) : Calls Try.prog 152 #[.int .u64 (x.toNat : Int), .int .i64 17] w fun e w' => e = .returned (.int .u64 ((rol 17 x).toNat : Int)) ∧ w = w' := by
  have hx := x.toNat_lt
  have hk : bits .and .u64 17 63 = 17 := by decide +kernel
  have hr := rol17 x
  go_enter Try.func152, Try.ntmps152
  go_wp2
  go_ret
  exact ⟨rfl, rfl⟩
theorem turn17 (x : UInt64) (w : World) : Calls Try.prog 153 #[.int .u64 (x.toNat : Int), .int .u64 17] w fun e w' => e = .returned (.int .u64 ((rol 17 x).toNat : Int)) ∧ w = w' := by
  have hx := x.toNat_lt
  have hr := rol17 x
  go_enter Try.func153, Try.ntmps153
  go_wp2
  go_ret
  exact ⟨rfl, rfl⟩
theorem rol21 (x : UInt64) : bits .or .u64 (IntKind.u64.wrap ((x.toNat : Int) * 2097152)) ((x.toNat : Int) / 8796093022208) = ((rol 21 x).toNat : Int) := rol_eq 21 (by decide) x 2097152 8796093022208 (by decide) (by decide)
theorem rotl21 (x : UInt64) (w : World) : Calls Try.prog 152 #[.int .u64 (x.toNat : Int), .int .i64 21] w fun e w' => e = .returned (.int .u64 ((rol 21 x).toNat : Int)) ∧ w = w' := by
  have hx := x.toNat_lt
  have hk : bits .and .u64 21 63 = 21 := by decide +kernel
  have hr := rol21 x
  go_enter Try.func152, Try.ntmps152
  go_wp2
  go_ret
  exact ⟨rfl, rfl⟩
theorem turn21 (x : UInt64) (w : World) : Calls Try.prog 153 #[.int .u64 (x.toNat : Int), .int .u64 21] w fun e w' => e = .returned (.int .u64 ((rol 21 x).toNat : Int)) ∧ w = w' := by
  have hx := x.toNat_lt
  have hr := rol21 x
  go_enter Try.func153, Try.ntmps153
  go_wp2
  go_ret
  exact ⟨rfl, rfl⟩
theorem rol32 (x : UInt64) : bits .or .u64 (IntKind.u64.wrap ((x.toNat : Int) * 4294967296)) ((x.toNat : Int) / 4294967296) = ((rol 32 x).toNat : Int) := rol_eq 32 (by decide) x 4294967296 4294967296 (by decide) (by decide)
theorem rotl32 (x : UInt64) (w : World) : Calls Try.prog 152 #[.int .u64 (x.toNat : Int), .int .i64 32] w fun e w' => e = .returned (.int .u64 ((rol 32 x).toNat : Int)) ∧ w = w' := by
  have hx := x.toNat_lt
  have hk : bits .and .u64 32 63 = 32 := by decide +kernel
  have hr := rol32 x
  go_enter Try.func152, Try.ntmps152
  go_wp2
  go_ret
  exact ⟨rfl, rfl⟩
theorem turn32 (x : UInt64) (w : World) : Calls Try.prog 153 #[.int .u64 (x.toNat : Int), .int .u64 32] w fun e w' => e = .returned (.int .u64 ((rol 32 x).toNat : Int)) ∧ w = w' := by
  have hx := x.toNat_lt
  have hr := rol32 x
  go_enter Try.func153, Try.ntmps153
  go_wp2
  go_ret
  exact ⟨rfl, rfl⟩

/-- four words -/
structure W4 where
  a : UInt64
  b : UInt64
  c : UInt64
  d : UInt64
def W4.cells (v : W4) : List Value := [.int .u64 (v.a.toNat : Int), .int .u64 (v.b.toNat : Int), .int .u64 (v.c.toNat : Int), .int .u64 (v.d.toNat : Int)]
noncomputable def st0 (v : W4) : W4 := ⟨uadd v.a v.b, v.b, v.c, v.d⟩
noncomputable def st1 (v : W4) : W4 := ⟨v.a, uxor (rol 13 v.b) v.a, v.c, v.d⟩
noncomputable def st2 (v : W4) : W4 := ⟨rol 32 v.a, v.b, v.c, v.d⟩
noncomputable def st3 (v : W4) : W4 := ⟨v.a, v.b, uadd v.c v.d, v.d⟩
noncomputable def st4 (v : W4) : W4 := ⟨v.a, v.b, v.c, uxor (rol 16 v.d) v.c⟩
noncomputable def st5 (v : W4) : W4 := ⟨uadd v.a v.d, v.b, v.c, v.d⟩
noncomputable def st6 (v : W4) : W4 := ⟨v.a, v.b, v.c, uxor (rol 21 v.d) v.a⟩
noncomputable def st7 (v : W4) : W4 := ⟨v.a, v.b, uadd v.c v.b, v.d⟩
noncomputable def st8 (v : W4) : W4 := ⟨v.a, uxor (rol 17 v.b) v.c, v.c, v.d⟩
noncomputable def st9 (v : W4) : W4 := ⟨v.a, v.b, rol 32 v.c, v.d⟩
noncomputable def sround (v : W4) : W4 := st9 (st8 (st7 (st6 (st5 (st4 (st3 (st2 (st1 (st0 (v))))))))))

def RetW (w : World) (g : Nat) (t : TypeId) (v : W4) (e : Ending) (w' : World) : Prop := e = .returned (.tuple #[]) ∧ Bk w' g t v.cells ∧ w.grownBy w' (some g)
end Go.Proofs.Ytknoenceccpkhaa

/- siphash's round. -/
namespace Go.Proofs.Ytknoenceccpkhaa
open Go.RowKit
set_option linter.unusedVariables false
attribute [local go_sem ↓] sliced_cut

attribute [local go_sem] cutA_zero wadd wxor

set_option maxHeartbeats 4000000 in
set_option maxRecDepth 100000 in
theorem round_any (g : Nat) (v : W4) (w : World) (h0 : Bk w g 206 v.cells) : Calls Try.prog 133 #[.pointer (some ⟨g, 0, none⟩)] w (RetW w g 206 (sround v)) := by
  go_enter Try.func133, Try.ntmps133
  go_wp2
  have q0 : w.cell? ⟨g, 0, none⟩ = some (.int .u64 (v.a.toNat : Int)) := h0.cell 0
  have q1 : w.cell? ⟨g, 1, none⟩ = some (.int .u64 (v.b.toNat : Int)) := h0.cell 1
  have f := h0.frozen 0
  refine wp_tail 11 (by kernel_rfl) (by kernel_rfl) ?_
  simp only [List.take_succ_cons, List.take_zero, List.drop_succ_cons, List.drop_zero]
  repeat still_step
  refine wpStill_nil ?_
  go_wp2
  clear q0 q1 f
  refine gen_world (fun w' => Bk w' g 206 (st0 v).cells ∧ w.grownBy w' (some g)) ⟨Bk.drew (by simpa [W4.cells, st0] using h0.set_ 0 _), grownBy_drew (grownBy_setCell _ _ _ _)⟩ ?_
  rintro w1 ⟨h1, k1⟩
  obtain ⟨v1, e1⟩ : ∃ u, u = st0 v := ⟨_, rfl⟩
  rw [← e1] at h1
  have E1 := Lib.hid e1
  clear e1
  go_wp2
  have q0 : w1.cell? ⟨g, 0, none⟩ = some (.int .u64 (v1.a.toNat : Int)) := h1.cell 0
  have q1 : w1.cell? ⟨g, 1, none⟩ = some (.int .u64 (v1.b.toNat : Int)) := h1.cell 1
  have f := h1.frozen 1
  refine wp_tail 13 (by kernel_rfl) (by kernel_rfl) ?_
  simp only [List.take_succ_cons, List.take_zero, List.drop_succ_cons, List.drop_zero]
  repeat (first | still_step | still_call (still_of (rotl13 _ _)))
  refine wpStill_nil ?_
  go_wp2
  clear q0 q1 f
  refine gen_world (fun w' => Bk w' g 206 (st1 v1).cells ∧ w1.grownBy w' (some g)) ⟨Bk.drew (by simpa [W4.cells, st1] using h1.set_ 1 _), grownBy_drew (grownBy_setCell _ _ _ _)⟩ ?_
  rintro w2 ⟨h2, k2⟩
  obtain ⟨v2, e2⟩ : ∃ u, u = st1 v1 := ⟨_, rfl⟩
  rw [← e2] at h2
  have E2 := Lib.hid e2
  clear e2
  go_wp2
  have q0 : w2.cell? ⟨g, 0, none⟩ = some (.int .u64 (v2.a.toNat : Int)) := h2.cell 0
  have f := h2.frozen 0
  refine wp_tail 8 (by kernel_rfl) (by kernel_rfl) ?_
  simp only [List.take_succ_cons, List.take_zero, List.drop_succ_cons, List.drop_zero]
  repeat (first | still_step | still_call (still_of (rotl32 _ _)))
  refine wpStill_nil ?_
  go_wp2
  clear q0 f
  refine gen_world (fun w' => Bk w' g 206 (st2 v2).cells ∧ w2.grownBy w' (some g)) ⟨Bk.drew (by simpa [W4.cells, st2] using h2.set_ 0 _), grownBy_drew (grownBy_setCell _ _ _ _)⟩ ?_
  rintro w3 ⟨h3, k3⟩
  obtain ⟨v3, e3⟩ : ∃ u, u = st2 v2 := ⟨_, rfl⟩
  rw [← e3] at h3
  have E3 := Lib.hid e3
  clear e3
  go_wp2
  have q2 : w3.cell? ⟨g, 2, none⟩ = some (.int .u64 (v3.c.toNat : Int)) := h3.cell 2
  have q3 : w3.cell? ⟨g, 3, none⟩ = some (.int .u64 (v3.d.toNat : Int)) := h3.cell 3
  have f := h3.frozen 2
  refine wp_tail 11 (by kernel_rfl) (by kernel_rfl) ?_
  simp only [List.take_succ_cons, List.take_zero, List.drop_succ_cons, List.drop_zero]
  repeat still_step
  refine wpStill_nil ?_
  go_wp2
  clear q2 q3 f
  refine gen_world (fun w' => Bk w' g 206 (st3 v3).cells ∧ w3.grownBy w' (some g)) ⟨Bk.drew (by simpa [W4.cells, st3] using h3.set_ 2 _), grownBy_drew (grownBy_setCell _ _ _ _)⟩ ?_
  rintro w4 ⟨h4, k4⟩
  obtain ⟨v4, e4⟩ : ∃ u, u = st3 v3 := ⟨_, rfl⟩
  rw [← e4] at h4
  have E4 := Lib.hid e4
  clear e4
  go_wp2
  have q2 : w4.cell? ⟨g, 2, none⟩ = some (.int .u64 (v4.c.toNat : Int)) := h4.cell 2
  have q3 : w4.cell? ⟨g, 3, none⟩ = some (.int .u64 (v4.d.toNat : Int)) := h4.cell 3
  have f := h4.frozen 3
  refine wp_tail 13 (by kernel_rfl) (by kernel_rfl) ?_
  simp only [List.take_succ_cons, List.take_zero, List.drop_succ_cons, List.drop_zero]
  repeat (first | still_step | still_call (still_of (rotl16 _ _)))
  refine wpStill_nil ?_
  go_wp2
  clear q2 q3 f
  refine gen_world (fun w' => Bk w' g 206 (st4 v4).cells ∧ w4.grownBy w' (some g)) ⟨Bk.drew (by simpa [W4.cells, st4] using h4.set_ 3 _), grownBy_drew (grownBy_setCell _ _ _ _)⟩ ?_
  rintro w5 ⟨h5, k5⟩
  obtain ⟨v5, e5⟩ : ∃ u, u = st4 v4 := ⟨_, rfl⟩
  rw [← e5] at h5
  have E5 := Lib.hid e5
  clear e5
  go_wp2
  have q0 : w5.cell? ⟨g, 0, none⟩ = some (.int .u64 (v5.a.toNat : Int)) := h5.cell 0
  have q3 : w5.cell? ⟨g, 3, none⟩ = some (.int .u64 (v5.d.toNat : Int)) := h5.cell 3
  have f := h5.frozen 0
  refine wp_tail 11 (by kernel_rfl) (by kernel_rfl) ?_
  simp only [List.take_succ_cons, List.take_zero, List.drop_succ_cons, List.drop_zero]
  repeat still_step
  refine wpStill_nil ?_
  go_wp2
  clear q0 q3 f
  refine gen_world (fun w' => Bk w' g 206 (st5 v5).cells ∧ w5.grownBy w' (some g)) ⟨Bk.drew (by simpa [W4.cells, st5] using h5.set_ 0 _), grownBy_drew (grownBy_setCell _ _ _ _)⟩ ?_
  rintro w6 ⟨h6, k6⟩
  obtain ⟨v6, e6⟩ : ∃ u, u = st5 v5 := ⟨_, rfl⟩
  rw [← e6] at h6
  have E6 := Lib.hid e6
  clear e6
  go_wp2
  have q0 : w6.cell? ⟨g, 0, none⟩ = some (.int .u64 (v6.a.toNat : Int)) := h6.cell 0
  have q3 : w6.cell? ⟨g, 3, none⟩ = some (.int .u64 (v6.d.toNat : Int)) := h6.cell 3
  have f := h6.frozen 3
  refine wp_tail 13 (by kernel_rfl) (by kernel_rfl) ?_
  simp only [List.take_succ_cons, List.take_zero, List.drop_succ_cons, List.drop_zero]
  repeat (first | still_step | still_call (still_of (rotl21 _ _)))
  refine wpStill_nil ?_
  go_wp2
  clear q0 q3 f
  refine gen_world (fun w' => Bk w' g 206 (st6 v6).cells ∧ w6.grownBy w' (some g)) ⟨Bk.drew (by simpa [W4.cells, st6] using h6.set_ 3 _), grownBy_drew (grownBy_setCell _ _ _ _)⟩ ?_
  rintro w7 ⟨h7, k7⟩
  obtain ⟨v7, e7⟩ : ∃ u, u = st6 v6 := ⟨_, rfl⟩
  rw [← e7] at h7
  have E7 := Lib.hid e7
  clear e7
  go_wp2
  have q1 : w7.cell? ⟨g, 1, none⟩ = some (.int .u64 (v7.b.toNat : Int)) := h7.cell 1
  have q2 : w7.cell? ⟨g, 2, none⟩ = some (.int .u64 (v7.c.toNat : Int)) := h7.cell 2
  have f := h7.frozen 2
  refine wp_tail 11 (by kernel_rfl) (by kernel_rfl) ?_
  simp only [List.take_succ_cons, List.take_zero, List.drop_succ_cons, List.drop_zero]
  repeat still_step
  refine wpStill_nil ?_
  go_wp2
  clear q1 q2 f
  refine gen_world (fun w' => Bk w' g 206 (st7 v7).cells ∧ w7.grownBy w' (some g)) ⟨Bk.drew (by simpa [W4.cells, st7] using h7.set_ 2 _), grownBy_drew (grownBy_setCell _ _ _ _)⟩ ?_
  rintro w8 ⟨h8, k8⟩
  obtain ⟨v8, e8⟩ : ∃ u, u = st7 v7 := ⟨_, rfl⟩
  rw [← e8] at h8
  have E8 := Lib.hid e8
  clear e8
  go_wp2
  have q1 : w8.cell? ⟨g, 1, none⟩ = some (.int .u64 (v8.b.toNat : Int)) := h8.cell 1
  have q2 : w8.cell? ⟨g, 2, none⟩ = some (.int .u64 (v8.c.toNat : Int)) := h8.cell 2
  have f := h8.frozen 1
  refine wp_tail 13 (by kernel_rfl) (by kernel_rfl) ?_
  simp only [List.take_succ_cons, List.take_zero, List.drop_succ_cons, List.drop_zero]
  repeat (first | still_step | still_call (still_of (rotl17 _ _)))
  refine wpStill_nil ?_
  go_wp2
  clear q1 q2 f
  refine gen_world (fun w' => Bk w' g 206 (st8 v8).cells ∧ w8.grownBy w' (some g)) ⟨Bk.drew (by simpa [W4.cells, st8] using h8.set_ 1 _), grownBy_drew (grownBy_setCell _ _ _ _)⟩ ?_
  rintro w9 ⟨h9, k9⟩
  obtain ⟨v9, e9⟩ : ∃ u, u = st8 v8 := ⟨_, rfl⟩
  rw [← e9] at h9
  have E9 := Lib.hid e9
  clear e9
  go_wp2
  have q2 : w9.cell? ⟨g, 2, none⟩ = some (.int .u64 (v9.c.toNat : Int)) := h9.cell 2
  have f := h9.frozen 2
  refine wp_tail 8 (by kernel_rfl) (by kernel_rfl) ?_
  simp only [List.take_succ_cons, List.take_zero, List.drop_succ_cons, List.drop_zero]
  repeat (first | still_step | still_call (still_of (rotl32 _ _)))
  refine wpStill_nil ?_
  go_wp2
  clear q2 f
  go_end0
  have h10 : Bk (w9.setCell ⟨g, 2, none⟩ (.int .u64 ((rol 32 v9.c).toNat : Int))) g 206 (st9 v9).cells := by simpa [W4.cells, st9] using h9.set_ 2 (.int .u64 ((rol 32 v9.c).toNat : Int))
  have e : st9 v9 = sround v := by rw [E9.out, E8.out, E7.out, E6.out, E5.out, E4.out, E3.out, E2.out, E1.out]; rfl
  rw [e] at h10
  exact ⟨rfl, Bk.drew h10, ((((((((k1.trans k2).trans k3).trans k4).trans k5).trans k6).trans k7).trans k8).trans k9).trans (grownBy_drew (grownBy_setCell _ _ _ _))⟩
end Go.Proofs.Ytknoenceccpkhaa

/- Words out of bytes, least significant first: siphash.little and its reference; plain facts. -/
namespace Go.Proofs.Ytknoenceccpkhaa
open Go.RowKit
set_option linter.unusedVariables false
attribute [local go_sem ↓] sliced_cut

attribute [local go_sem] cutA_zero

def lnum : List UInt8 → Nat
  | [] => 0
  | b :: l => b.toNat + 256 * lnum l
theorem lnum_append : ∀ (a b : List UInt8), lnum (a ++ b) = lnum a + 256 ^ a.length * lnum b
  | [], b => by simp [lnum]
  | x :: a, b => by
    simp only [List.cons_append, lnum, lnum_append a b, List.length_cons, Nat.pow_succ, Nat.mul_add]
    rw [← Nat.mul_assoc, Nat.mul_comm 256 (256 ^ a.length), Nat.add_assoc]
theorem lnum_lt : ∀ (l : List UInt8), lnum l < 256 ^ l.length
  | [] => by simp [lnum]
  | b :: l => by
    have h := lnum_lt l
    have hb := b.toNat_lt
    simp only [lnum, List.length_cons, Nat.pow_succ]
    omega
theorem lnum_take_succ (l : List UInt8) (j : Nat) (h : j < l.length) : lnum (l.take (j + 1)) = lnum (l.take j) + l[j].toNat * 256 ^ j := by
  rw [List.take_succ_eq_append_getElem h, lnum_append, List.length_take, Nat.min_eq_left (by omega)]
  simp [lnum, Nat.mul_comm]
theorem lnum_drop (l : List UInt8) (j : Nat) (h : j < l.length) : lnum (l.drop j) = l[j].toNat + 256 * lnum (l.drop (j + 1)) := by
  rw [List.drop_eq_getElem_cons h]
  rfl
/-- the word of at most eight bytes -/
def lit (l : List UInt8) : UInt64 := UInt64.ofNat (lnum l)
theorem pow256_le (k : Nat) (h : k ≤ 8) : 256 ^ k ≤ 18446744073709551616 := Nat.le_trans (Nat.pow_le_pow_right (by decide) h) (by decide)
theorem lit_toNat (l : List UInt8) (h : l.length ≤ 8) : (lit l).toNat = lnum l := by
  unfold lit
  rw [UInt64.toNat_ofNat']
  exact Nat.mod_eq_of_lt (Nat.lt_of_lt_of_le (lnum_lt l) (pow256_le _ h))
theorem or_place (N x k P : Nat) (hP : 256 ^ k = P) (hk : k ≤ 7) (hN : N < P) (hx : x < 256) : bits .or .u64 (N : Int) ((x : Int) * (P : Nat)) = ((N + x * P : Nat) : Int) := by
  have h1 : P ≤ 72057594037927936 := by rw [← hP]; exact pow_le_seven k hk
  have h2 : x * P ≤ 255 * 72057594037927936 := Nat.mul_le_mul (by omega) h1
  have h := u64_or_nat N (x * P) (by omega) (by omega)
  have e : (256 : Nat) ^ k = 2 ^ (8 * k) := by rw [Nat.pow_mul]
  rw [Nat.or_comm, nat_join (8 * k) (x * P) N (by rw [← hP, e]; exact Nat.mul_mod_left _ _) (by rw [← e, hP]; exact hN), Nat.add_comm] at h
  simpa using h

theorem or_shl (N x j : Nat) (hj : j ≤ 7) (hN : N < 256 ^ j) (hx : x < 256) : bits .or .u64 (N : Int) (IntKind.u64.wrap ((x : Int) * 2 ^ (8 * j))) = ((N + x * 256 ^ j : Nat) : Int) := by
  have e : (256 : Nat) ^ j = 2 ^ (8 * j) := by rw [Nat.pow_mul]
  have h1 : 256 ^ j ≤ 72057594037927936 := pow_le_seven j hj
  have h2 : x * 256 ^ j ≤ 255 * 72057594037927936 := Nat.mul_le_mul (by omega) h1
  have e2 : (x : Int) * 2 ^ (8 * j) = ((x * 256 ^ j : Nat) : Int) := by rw [e]; simp
  have e3 : IntKind.u64.wrap ((x : Int) * 2 ^ (8 * j)) = (x : Int) * ((256 ^ j : Nat) : Int) := by
    rw [e2, IntKind.wrap_u64, Int.natCast_mul]
    have : ((x * 256 ^ j : Nat) : Int) = (x : Int) * ((256 ^ j : Nat) : Int) := by simp
    omega
  rw [e3]
  exact or_place N x j (256 ^ j) rfl hj hN hx

set_option maxHeartbeats 1000000 in
theorem little_any (A : Option Addr) (n c : Nat) (l : List UInt8) (w : World) (h : Rb w A n c l) (h8 : n ≤ 8) :
    Calls Try.prog 132 #[.slice A n c] w fun e w' => e = .returned (.int .u64 ((lit l).toNat : Int)) ∧ w = w' := by
  have HL := Lib.hid h.1
  have hrd := h.2.2
  rw [lit_toNat l (by rw [HL.out]; exact h8)]
  go_enter Try.func132, Try.ntmps132
  go_wp2
  go_loop [3, 4, 5, 8] (fun x y z i => ∃ j : Nat, j ≤ n ∧ i = .int .i64 j ∧ x = .int .u64 (lnum (l.take j) : Nat)) (fun _ _ _ i => n - (intOf i).toNat)
  case atStart => exact ⟨0, Nat.zero_le _, rfl, rfl⟩
  case round =>
    obtain ⟨j, hj, rfl, rfl⟩ := hrel
    by_cases hlt : j < n
    · obtain ⟨b, off, rfl, hb, hcell⟩ := hrd.at_ (by rw [bcs_length, HL.out]; omega)
      have hjl : j < l.length := by rw [HL.out]; omega
      have hcj : w.cell? ⟨b, off + j, none⟩ = some (.int .u8 (l[j].toNat : Int)) := hcell j _ (bcs_get _ _ hjl)
      have HS := Lib.hid (lnum_take_succ l j hjl)
      have hN : lnum (l.take j) < 256 ^ j := by
        have := lnum_lt (l.take j)
        rwa [List.length_take, Nat.min_eq_left (by omega)] at this
      have hx : l[j].toNat < 256 := l[j].toNat_lt
      have hj8 : j < 8 := by omega
      generalize l[j].toNat = x at *
      generalize lnum (l.take j) = N at *
      clear hcell hrd
      have s1 : (0 : Int) ≤ 8 * (j : Int) := by omega
      have s2 : 8 * (j : Int) ≤ 56 := by omega
      go_wp2
      refine ⟨⟨j + 1, by omega, by go_num, ?_⟩, by simp [intOf]; omega⟩
      rw [HS.out, or_shl N x j (by omega) hN hx]
    · obtain rfl : j = n := by omega
      go_wp2
      go_ret
      rw [List.take_of_length_le (by rw [HL.out]; omega)]
      exact ⟨rfl, rfl⟩

set_option maxHeartbeats 1000000 in
theorem refLittle_any (A : Option Addr) (c : Nat) (l : List UInt8) (w : World) (h : Rb w A 8 c l) :
    Calls Try.prog 134 #[.slice A 8 c] w fun e w' => e = .returned (.int .u64 ((lit l).toNat : Int)) ∧ w = w' := by
  have HL := Lib.hid h.1
  rw [lit_toNat l (by rw [HL.out]; omega)]
  obtain ⟨b, off, rfl, hb, hcell⟩ := h.2.2.at_ (by rw [bcs_length, HL.out]; omega)
  go_enter Try.func134, Try.ntmps134
  go_wp2
  go_loop [3, 4] (fun x i => ∃ j : Nat, j ≤ 8 ∧ i = .int .i64 ((j : Int) - 1) ∧ x = .int .u64 (lnum (l.drop j) : Nat)) (fun _ i => (intOf i + 1).toNat)
  case atStart =>
    refine ⟨8, by omega, rfl, ?_⟩
    rw [List.drop_eq_nil_of_le (by rw [HL.out]; omega)]
    rfl
  case round =>
    obtain ⟨j, hj, rfl, rfl⟩ := hrel
    by_cases hlt : j = 0
    · subst hlt
      go_wp2
      go_ret
      exact ⟨rfl, rfl⟩
    · obtain ⟨k, rfl⟩ : ∃ k, j = k + 1 := ⟨j - 1, by omega⟩
      have hjl : k < l.length := by rw [HL.out]; omega
      have hcj : w.cell? ⟨b, off + k, none⟩ = some (.int .u8 (l[k].toNat : Int)) := hcell k _ (bcs_get _ _ hjl)
      have HS := Lib.hid (lnum_drop l k hjl)
      have hN : lnum (l.drop (k + 1)) < 72057594037927936 := by
        have h1 := lnum_lt (l.drop (k + 1))
        rw [List.length_drop, HL.out] at h1
        exact Nat.lt_of_lt_of_le h1 (pow_le_seven _ (by omega))
      have hx : l[k].toNat < 256 := l[k].toNat_lt
      have hk8 : k < 8 := by omega
      generalize l[k].toNat = x at *
      generalize lnum (l.drop (k + 1)) = N at *
      clear hcell
      go_wp2
      refine ⟨⟨k, by omega, rfl, ?_⟩, by simp [intOf]⟩
      rw [HS.out]
      congr 1
      omega
end Go.Proofs.Ytknoenceccpkhaa

/- siphash: absorb, start, Sum. -/
namespace Go.Proofs.Ytknoenceccpkhaa
open Go.RowKit
set_option linter.unusedVariables false
attribute [local go_sem ↓] sliced_cut

attribute [local go_sem] cutA_zero wadd wxor

noncomputable def inD (v : W4) (m : UInt64) : W4 := ⟨v.a, v.b, v.c, uxor v.d m⟩
noncomputable def inA (v : W4) (m : UInt64) : W4 := ⟨uxor v.a m, v.b, v.c, v.d⟩
noncomputable def absorb (v : W4) (m : UInt64) : W4 := inA (sround (sround (inD v m))) m
/-- the first j chunks of l are absorbed -/
noncomputable def feed (v : W4) (l : List UInt8) : Nat → W4
  | 0 => v
  | j + 1 => absorb (feed v l j) (lit ((l.drop (8 * j)).take 8))
noncomputable def begin4 (key : List UInt8) : W4 := ⟨uxor (lit (key.take 8)) 8317987319222330741, uxor (lit (key.drop 8)) 7237128888997146477, uxor (lit (key.take 8)) 7816392313619706465, uxor (lit (key.drop 8)) 8387220255154660723⟩
noncomputable def inC (v : W4) : W4 := ⟨v.a, v.b, uxor v.c 255, v.d⟩
noncomputable def lastW (l : List UInt8) : UInt64 := UInt64.ofNat (lnum (l.drop (8 * (l.length / 8))) + l.length % 256 * 72057594037927936)
noncomputable def finish (v : W4) : UInt64 :=
  let u := sround (sround (sround (sround (inC v))))
  uxor (uxor (uxor u.a u.b) u.c) u.d
noncomputable def sip (key l : List UInt8) : UInt64 := finish (absorb (feed (begin4 key) l (l.length / 8)) (lastW l))

set_option maxHeartbeats 2000000 in
set_option maxRecDepth 100000 in
theorem absorb_any (g : Nat) (v : W4) (m : UInt64) (w : World) (h : Bk w g 206 v.cells) : Calls Try.prog 131 #[.pointer (some ⟨g, 0, none⟩), .int .u64 (m.toNat : Int)] w (RetW w g 206 (absorb v m)) := by
  have q3 : w.cell? ⟨g, 3, none⟩ = some (.int .u64 (v.d.toNat : Int)) := h.cell 3
  have ff := h.frozen 3
  go_enter Try.func131, Try.ntmps131
  go_wp2
  refine wp_tail 8 (by kernel_rfl) (by kernel_rfl) ?_
  simp only [List.take_succ_cons, List.take_zero, List.drop_succ_cons, List.drop_zero]
  repeat still_step
  refine wpStill_nil ?_
  go_wp2_with fail
  clear q3
  have h1 : Bk (w.setCell ⟨g, 3, none⟩ (.int .u64 ((uxor v.d m).toNat : Int))).drew g 206 (inD v m).cells := Bk.drew (h.set_ 3 _)
  refine (round_any g (inD v m) _ h1).mono ?_
  rintro e w2 ⟨rfl, h2, hg2⟩
  have hg1 : w.grownBy w2 (some g) := (grownBy_drew (grownBy_setCell _ _ _ _)).trans hg2
  clear hg2 h1 ff
  go_wp2_with fail
  refine (round_any g _ _ h2).mono ?_
  rintro e w3 ⟨rfl, h3, hg3⟩
  obtain ⟨u, e⟩ : ∃ u, u = sround (sround (inD v m)) := ⟨_, rfl⟩
  rw [← e] at h3
  have E := Lib.hid e
  clear e
  have q0 : w3.cell? ⟨g, 0, none⟩ = some (.int .u64 (u.a.toNat : Int)) := h3.cell 0
  have f0 := h3.frozen 0
  go_wp2
  refine wp_tail 8 (by kernel_rfl) (by kernel_rfl) ?_
  simp only [List.take_succ_cons, List.take_zero, List.drop_succ_cons, List.drop_zero]
  repeat still_step
  refine wpStill_nil ?_
  go_wp2
  go_end0
  refine ⟨rfl, Bk.drew ?_, grownBy_drew ((hg1.trans hg3).trans (grownBy_setCell _ _ _ _))⟩
  unfold absorb
  rw [← E.out]
  exact h3.set_ 0 _

theorem wxorc (x : UInt64) (k : Nat) (hk : k < 18446744073709551616) : bits .xor .u64 (x.toNat : Int) (k : Nat) = ((uxor x (UInt64.ofNat k)).toNat : Int) := by
  have e : k = (UInt64.ofNat k).toNat := by rw [UInt64.toNat_ofNat', Nat.mod_eq_of_lt hk]
  have := wxor x (UInt64.ofNat k)
  rw [← e] at this
  exact this
theorem xc1 (x : UInt64) : bits .xor .u64 (x.toNat : Int) 8317987319222330741 = ((uxor x 8317987319222330741).toNat : Int) := wxorc x 8317987319222330741 (by decide)
theorem xc2 (x : UInt64) : bits .xor .u64 (x.toNat : Int) 7237128888997146477 = ((uxor x 7237128888997146477).toNat : Int) := wxorc x 7237128888997146477 (by decide)
theorem xc3 (x : UInt64) : bits .xor .u64 (x.toNat : Int) 7816392313619706465 = ((uxor x 7816392313619706465).toNat : Int) := wxorc x 7816392313619706465 (by decide)
theorem xc4 (x : UInt64) : bits .xor .u64 (x.toNat : Int) 8387220255154660723 = ((uxor x 8387220255154660723).toNat : Int) := wxorc x 8387220255154660723 (by decide)
theorem xc5 (x : UInt64) : bits .xor .u64 (x.toNat : Int) 255 = ((uxor x 255).toNat : Int) := wxorc x 255 (by decide)
attribute [local go_sem] xc1 xc2 xc3 xc4 xc5

theorem key_rb {w : World} {key : List UInt8} (hk : key.length = 16) (t : TypeId) : Rb (w.alloc (.cells (bcs key).toArray t)) (some ⟨w.heap.size, 0, none⟩) 16 16 key := by
  refine ⟨hk, Nat.le_refl _, .inr ⟨w.heap.size, 0, rfl, by simp, fun i u hu => ?_⟩⟩
  rw [Nat.zero_add]
  simpa using hu

theorem key_rb8 {w : World} {key : List UInt8} (hk : key.length = 16) (t : TypeId) : Rb (w.alloc (.cells (bcs key).toArray t)) (some ⟨w.heap.size, 8, none⟩) 8 8 (key.drop 8) := by
  have h := (key_rb (w := w) hk t).cut (k := 8) (by omega)
  rw [cutA_some _ _ _ _ (by omega)] at h
  exact h

set_option maxHeartbeats 2000000 in
set_option maxRecDepth 100000 in
theorem start_any (key : List UInt8) (hk : key.length = 16) (w : World) : Calls Try.prog 130 #[.agg (bcs key).toArray] w
    fun e w' => e = .returned (.agg (begin4 key).cells.toArray) ∧ ∃ bs d, w' = plus w bs d := by
  have hrb := fun t => (key_rb (w := w) hk t).take (k := 8) (by omega)
  have hrc := fun t => key_rb8 (w := w) hk t
  go_enter Try.func130, Try.ntmps130
  go_wp2_with fail
  go_quiet ((go_at_call 132; exact quiet_same (little_any _ _ _ _ _ (by with_reducible first | exact ((hrb _).alloc _).drewN _ | exact ((hrc _).alloc _).drewN _) (by omega))))
  go_wp2
  refine bodyPost_ret (v := .agg (begin4 key).cells.toArray) (by simp [results, Try.results130, go_sem, begin4, W4.cells]) rfl ⟨rfl, plus_of ?_⟩
  repeat (first | exact Below.refl _ _ | refine Below.setCell ?_ (by simp) _ | refine belowN ?_ _ | refine Below.alloc ?_ (by simp) _)
end Go.Proofs.Ytknoenceccpkhaa

/- siphash.Sum. -/
namespace Go.Proofs.Ytknoenceccpkhaa
open Go.RowKit
set_option linter.unusedVariables false
attribute [local go_sem ↓] sliced_cut

attribute [local go_sem] cutA_zero wadd wxor xc5

/-- sixteen bytes -/
def K16 (key : List UInt8) : Prop := key.length = 16
theorem wpList_ldKey {w : World} {ops : Array Oper} {rest : List Oper} {o : Oper} {a : Act} {Q : Exit → Act → World → Prop} (x : Operand) (ho : o.op = .load 165 x) (hgd : o.guard = none)
    {g : Nat} {t : TypeId} {key : List UInt8} (hk : K16 key) (hx : a.eval x = .pointer (some ⟨g, 0, none⟩)) (hb : Bk w g t (bcs key)) (h : wpList Try.prog ops Q rest (a.put o.dst (.agg (bcs key).toArray)) w) : wpList Try.prog ops Q (o :: rest) a w :=
  wpList_load_mid hgd _ x ho g 0 hx (bcs key) _ hb.range Try.underlying165 rfl (by rw [bcs_length, show key.length = 16 from hk]; kernel_rfl) h

theorem start4 (key : List UInt8) (hk : key.length = 16) (w : World) : Calls Try.prog 130 #[.agg (bcs key).toArray] w
    fun e w' => ∃ v bs d, e = .returned (.agg #[.int .u64 (v.a.toNat : Int), .int .u64 (v.b.toNat : Int), .int .u64 (v.c.toNat : Int), .int .u64 (v.d.toNat : Int)]) ∧ w' = plus w bs d ∧ begin4 key = v :=
  (start_any key hk w).mono fun _ _ ⟨h1, bs, d, h2⟩ => ⟨begin4 key, bs, d, h1, h2, rfl⟩
theorem last_or (n : Nat) (r : List UInt8) (hr : r.length ≤ 7) : bits .or .u64 (IntKind.u64.wrap ((n : Int) * 72057594037927936)) ((lit r).toNat : Int) = ((UInt64.ofNat (lnum r + n % 256 * 72057594037927936)).toNat : Int) := by
  have h1 : lnum r < 72057594037927936 := Nat.lt_of_lt_of_le (lnum_lt r) (pow_le_seven _ hr)
  rw [lit_toNat r (by omega), UInt64.toNat_ofNat']
  have e : IntKind.u64.wrap ((n : Int) * 72057594037927936) = ((n % 256 * 72057594037927936 : Nat) : Int) := by
    rw [IntKind.wrap_u64]
    omega
  rw [e, u64_or_nat _ _ (by omega) (by omega), nat_join 56 (n % 256 * 72057594037927936) (lnum r) (by omega) h1]
  have : (lnum r + n % 256 * 72057594037927936) % 2 ^ 64 = n % 256 * 72057594037927936 + lnum r := by omega
  rw [this]
noncomputable def rounds4 : Nat → W4 → W4
  | 0, v => v
  | k + 1, v => sround (rounds4 k v)
theorem feed_take (v : W4) (l : List UInt8) (j : Nat) : feed v l (j + 1) = absorb (feed v l j) (lit ((l.drop (8 * j)).take 8)) := rfl
set_option maxHeartbeats 2000000 in
set_option maxRecDepth 100000 in
theorem sum_any (key : List UInt8) (hk : K16 key) (A : Option Addr) (n c : Nat) (l : List UInt8) (w : World) (hr : Rb w A n c l) (hm : n ≤ 1099511627776) : Calls Try.prog 95 #[.agg (bcs key).toArray, .slice A n c] w
    (RetV w (.int .u64 ((sip key l).toNat : Int))) := by
  go_enter Try.func95, Try.ntmps95
  go_wp2_with (refine wpList_ldKey (.tmp 2) rfl rfl hk rfl (Bk.new _ _ _) ?_)
  refine (start4 key hk _).mono ?_
  rintro e w1 ⟨v, bs, d, rfl, rfl, hv⟩
  have HV := Lib.hid hv
  clear hv
  go_wp2_with fail
  have hbk := Bk.new (plus (w.alloc (.cells (bcs key).toArray 165)) bs d) 206 #[.int .u64 (v.a.toNat : Int), .int .u64 (v.b.toNat : Int), .int .u64 (v.c.toNat : Int), .int .u64 (v.d.toNat : Int)]
  simp only [size_plus, World.size_alloc] at hbk
  have hbe : Below w.heap.size w ((plus (w.alloc (.cells (bcs key).toArray 165)) bs d).alloc (.cells #[.int .u64 (v.a.toNat : Int), .int .u64 (v.b.toNat : Int), .int .u64 (v.c.toNat : Int), .int .u64 (v.d.toNat : Int)] 206)) :=
    (toPlus ((Below.refl _ _).alloc (Nat.le_refl _) _) (by simp) bs d).alloc (by simp [size_plus]; omega) _
  obtain ⟨g, hg⟩ : ∃ g, g = w.heap.size + 1 + bs.length := ⟨_, rfl⟩
  have hgl : w.heap.size ≤ g := by omega
  rw [← hg] at hbk ⊢
  have HG := Lib.hid hg
  clear hg
  have HB := Lib.hid hbk
  have HE := Lib.hid hbe
  clear hbk hbe
  generalize (plus (w.alloc (.cells (bcs key).toArray 165)) bs d).alloc (.cells #[.int .u64 (v.a.toNat : Int), .int .u64 (v.b.toNat : Int), .int .u64 (v.c.toNat : Int), .int .u64 (v.d.toNat : Int)] 206) = w0 at HB HE ⊢
  go_loopw [1] (fun b wr => ∃ j m : Nat, ∃ A c, m + 8 * j = n ∧ b = .slice A m c ∧ Rb w A m c (l.drop (8 * j)) ∧ Bk wr g 206 (feed v l j).cells ∧ Below w.heap.size w wr) (fun b _ => match b with | .slice _ n _ => n | _ => 0)
  case atStart => exact ⟨0, n, A, c, rfl, rfl, hr, HB.out, HE.out⟩
  case round =>
    obtain ⟨j, m, A1, c1, hj, rfl, hr1, hb1, he1⟩ := hrel
    have HJ := Lib.hid hj
    have hmn : m ≤ n := by omega
    clear hj
    have hc1 := hr1.cap
    by_cases hlt : 8 ≤ m
    · go_wp2_with (first
        | (go_at_call 132; refine (little_any _ _ _ ((l.drop (8 * j)).take 8) _ ((hr1.take hlt).later he1) (by omega)).mono ?_; rintro e w2 ⟨rfl, rfl⟩)
        | (go_at_call 131; refine (absorb_any g _ _ _ hb1).mono ?_; rintro e w3 ⟨rfl, hb3, hg3⟩))
      refine ⟨⟨j + 1, m - 8, cutA A1 c1 8 1, c1 - 8, by have := HJ.out; omega, rfl, ?_, by rw [feed_take]; exact hb3, he1.trans (below_of_grown hg3 he1.size (fun k hk => by injection hk with hk; omega))⟩, by simp; omega⟩
      have := hr1.cut (k := 8) hlt
      rwa [List.drop_drop] at this
    · have hrl : (l.drop (8 * j)).length ≤ 7 := by rw [hr1.1]; omega
      have hlo := last_or n _ hrl
      go_wp2_with fail
      refine (little_any _ _ _ _ _ (hr1.later he1) (by omega)).mono ?_
      rintro e w2 ⟨rfl, rfl⟩
      obtain ⟨lw, hlw⟩ : ∃ lw, lw = UInt64.ofNat (lnum (l.drop (8 * j)) + n % 256 * 72057594037927936) := ⟨_, rfl⟩
      rw [← hlw] at hlo
      have HL := Lib.hid hlw
      clear hlw
      go_wp2_with fail
      refine (absorb_any g _ lw _ hb1).mono ?_
      rintro e w3 ⟨rfl, hb3, hg3⟩
      clear hlo
      have he3 := he1.trans (below_of_grown hg3 he1.size (fun k hk => by injection hk with hk; omega))
      have hjn : j = n / 8 := by have := HJ.out; omega
      have hu : absorb (feed v l j) lw = absorb (feed v l (l.length / 8)) (lastW l) := by
        unfold lastW
        rw [HL.out, hr.1, ← hjn]
      rw [hu] at hb3
      obtain ⟨u, hu2⟩ : ∃ u, u = absorb (feed v l (l.length / 8)) (lastW l) := ⟨_, rfl⟩
      rw [← hu2] at hb3
      have HU := Lib.hid hu2
      have q2 : w3.cell? ⟨g, 2, none⟩ = some (.int .u64 (u.c.toNat : Int)) := hb3.cell 2
      have f2 := hb3.frozen 2
      clear hu hu2 hjn hg3 he1 hb1
      go_wp2
      have hb4 : Bk (w3.setCell ⟨g, 2, none⟩ (.int .u64 ((uxor u.c 255).toNat : Int))) g 206 (inC u).cells := hb3.set_ 2 _
      have he4 : Below w.heap.size w (w3.setCell ⟨g, 2, none⟩ (.int .u64 ((uxor u.c 255).toNat : Int))) := he3.setCell hgl _
      have HB4 := Lib.hid hb4
      have HE4 := Lib.hid he4
      clear hb4 he4 q2 f2 hb3 he3
      generalize w3.setCell ⟨g, 2, none⟩ (.int .u64 ((uxor u.c 255).toNat : Int)) = w4 at HB4 HE4 ⊢
      go_loopw [31] (fun i wr => ∃ k : Nat, k ≤ 4 ∧ i = .int .i64 k ∧ Bk wr g 206 (rounds4 k (inC u)).cells ∧ Below w.heap.size w wr) (fun i _ => 4 - (intOf i).toNat)
      case atStart => exact ⟨0, by omega, rfl, HB4.out, HE4.out⟩
      case round =>
        obtain ⟨k, hk4, rfl, hb5, he5⟩ := hrel
        by_cases hk5 : k < 4
        · go_wp2_with (go_at_call 133; refine (round_any g _ _ hb5).mono ?_; rintro e w6 ⟨rfl, hb6, hg6⟩)
          exact ⟨⟨k + 1, by omega, by go_num, hb6, he5.trans (below_of_grown hg6 he5.size (fun k hk => by injection hk with hk; omega))⟩, by simp [intOf]; omega⟩
        · obtain rfl : k = 4 := by omega
          generalize hx : rounds4 4 (inC u) = x at hb5
          have HX := Lib.hid hx
          clear hx
          have q0 : wr.cell? ⟨g, 0, none⟩ = some (.int .u64 (x.a.toNat : Int)) := hb5.cell 0
          have q1 : wr.cell? ⟨g, 1, none⟩ = some (.int .u64 (x.b.toNat : Int)) := hb5.cell 1
          have q2 : wr.cell? ⟨g, 2, none⟩ = some (.int .u64 (x.c.toNat : Int)) := hb5.cell 2
          have q3 : wr.cell? ⟨g, 3, none⟩ = some (.int .u64 (x.d.toNat : Int)) := hb5.cell 3
          go_wp2
          go_ret
          have e : uxor (uxor (uxor x.a x.b) x.c) x.d = sip key l := by rw [← HX.out, HU.out, ← HV.out]; rfl
          rw [e]
          exact RetV.mk he5
end Go.Proofs.Ytknoenceccpkhaa

/- The reference's round of siphash. -/
namespace Go.Proofs.Ytknoenceccpkhaa
open Go.RowKit
set_option linter.unusedVariables false
attribute [local go_sem ↓] sliced_cut

attribute [local go_sem] cutA_zero wadd wxor

set_option maxHeartbeats 4000000 in
set_option maxRecDepth 100000 in
theorem refRound_any (v : W4) (w : World) : Calls Try.prog 135 #[.agg #[.int .u64 (v.a.toNat : Int), .int .u64 (v.b.toNat : Int), .int .u64 (v.c.toNat : Int), .int .u64 (v.d.toNat : Int)]] w
    (RetV w (.agg #[.int .u64 ((sround v).a.toNat : Int), .int .u64 ((sround v).b.toNat : Int), .int .u64 ((sround v).c.toNat : Int), .int .u64 ((sround v).d.toNat : Int)])) := by
  go_enter Try.func135, Try.ntmps135
  go_wp2_with (go_at_call 153; refine (turn32 _ _).mono ?_; rintro e w' ⟨rfl, rfl⟩)
  refine wp_tail 7 (by kernel_rfl) (by kernel_rfl) ?_
  simp only [List.take_succ_cons, List.take_zero, List.drop_succ_cons, List.drop_zero]
  repeat (first | still_step | still_call (still_of (turn13 _ _)))
  refine wpStill_nil ?_
  go_wp2_with (go_at_call 153; refine (turn32 _ _).mono ?_; rintro e w' ⟨rfl, rfl⟩)
  refine wp_tail 7 (by kernel_rfl) (by kernel_rfl) ?_
  simp only [List.take_succ_cons, List.take_zero, List.drop_succ_cons, List.drop_zero]
  repeat (first | still_step | still_call (still_of (turn16 _ _)))
  refine wpStill_nil ?_
  go_wp2_with (go_at_call 153; refine (turn32 _ _).mono ?_; rintro e w' ⟨rfl, rfl⟩)
  refine wp_tail 7 (by kernel_rfl) (by kernel_rfl) ?_
  simp only [List.take_succ_cons, List.take_zero, List.drop_succ_cons, List.drop_zero]
  repeat (first | still_step | still_call (still_of (turn21 _ _)))
  refine wpStill_nil ?_
  go_wp2_with (go_at_call 153; refine (turn32 _ _).mono ?_; rintro e w' ⟨rfl, rfl⟩)
  refine wp_tail 7 (by kernel_rfl) (by kernel_rfl) ?_
  simp only [List.take_succ_cons, List.take_zero, List.drop_succ_cons, List.drop_zero]
  repeat (first | still_step | still_call (still_of (turn17 _ _)))
  refine wpStill_nil ?_
  go_wp2_with (go_at_call 153; refine (turn32 _ _).mono ?_; rintro e w' ⟨rfl, rfl⟩)
  refine bodyPost_ret (v := .agg #[.int .u64 ((sround v).a.toNat : Int), .int .u64 ((sround v).b.toNat : Int), .int .u64 ((sround v).c.toNat : Int), .int .u64 ((sround v).d.toNat : Int)]) (by simp [results, Try.results135, go_sem, sround, st0, st1, st2, st3, st4, st5, st6, st7, st8, st9]) rfl (RetV.mk ?_)
  repeat (first | exact Below.refl _ _ | refine Below.setCell ?_ (by simp) _ | refine belowN ?_ _ | refine Below.drew ?_ | refine Below.alloc ?_ (by simp) _)
end Go.Proofs.Ytknoenceccpkhaa

/- Siphash, plain: the padded bytes and the last word. -/
namespace Go.Proofs.Ytknoenceccpkhaa
set_option linter.unusedVariables false

def pad (l : List UInt8) : List UInt8 := l ++ List.replicate (7 - l.length % 8) 0 ++ [UInt8.ofNat (l.length % 256)]
theorem pad_length (l : List UInt8) : (pad l).length = 8 * (l.length / 8 + 1) := by
  simp only [pad, List.length_append, List.length_replicate, List.length_cons, List.length_nil]
  omega
theorem lnum_zeros : ∀ k, lnum (List.replicate k 0) = 0
  | 0 => rfl
  | k + 1 => by simp [List.replicate_succ, lnum, lnum_zeros k]
theorem chunk_pad (l : List UInt8) (j : Nat) (h : 8 * j + 8 ≤ l.length) : ((pad l).drop (8 * j)).take 8 = (l.drop (8 * j)).take 8 := by
  unfold pad
  rw [List.append_assoc, List.drop_append_of_le_length (by omega), List.take_append_of_le_length (by rw [List.length_drop]; omega)]
theorem feed_congr (v : W4) (l : List UInt8) : ∀ j, j ≤ l.length / 8 → feed v (pad l) j = feed v l j
  | 0, _ => rfl
  | j + 1, h => by rw [feed, feed, feed_congr v l j (by omega), chunk_pad l j (by omega)]
theorem last_pad (l : List UInt8) : lit (((pad l).drop (8 * (l.length / 8))).take 8) = lastW l := by
  have hp := pad_length l
  rw [List.take_of_length_le (by rw [List.length_drop]; omega)]
  unfold lit lastW pad
  rw [List.append_assoc, List.drop_append_of_le_length (by omega), lnum_append, lnum_append, lnum_zeros, List.length_replicate, List.length_drop]
  congr 1
  have e : l.length - 8 * (l.length / 8) = l.length % 8 := by omega
  have e2 : lnum [UInt8.ofNat (l.length % 256)] = l.length % 256 := by simp [lnum]
  rw [e, e2, Nat.zero_add, ← Nat.mul_assoc, ← Nat.pow_add, show l.length % 8 + (7 - l.length % 8) = 7 by omega, Nat.mul_comm (256 ^ 7)]
theorem feed_pad (v : W4) (l : List UInt8) : feed v (pad l) (l.length / 8 + 1) = absorb (feed v l (l.length / 8)) (lastW l) := by
  rw [feed, feed_congr v l _ (Nat.le_refl _), last_pad]
end Go.Proofs.Ytknoenceccpkhaa

/- The reference's Sum of siphash. -/
namespace Go.Proofs.Ytknoenceccpkhaa
open Go.RowKit
set_option linter.unusedVariables false
attribute [local go_sem ↓] sliced_cut

attribute [local go_sem] cutA_zero wadd wxor xc1 xc2 xc3 xc4 xc5

set_option maxHeartbeats 2000000 in
set_option maxRecDepth 100000 in
theorem refSum_any (key : List UInt8) (hk : K16 key) (A : Option Addr) (n c : Nat) (l : List UInt8) (w : World) (hr : Rb w A n c l) (hm : n ≤ 549755813888) : Calls Try.prog 96 #[.agg (bcs key).toArray, .slice A n c] w
    (RetV w (.int .u64 ((sip key l).toNat : Int))) := by
  have hrb := fun t => (key_rb (w := w) hk t).take (k := 8) (by omega)
  have hrc := fun t => key_rb8 (w := w) hk t
  go_enter Try.func96, Try.ntmps96
  go_wp2_with fail
  go_quiet ((go_at_call 134; exact quiet_same (refLittle_any _ _ _ _ (by with_reducible first | exact (hrb _).drewN _ | exact (hrc _).drewN _))))
  go_wp2_with (at_builtin; refine wpList_app0 bt rfl (.tmp 24) (.tmp 25) rfl rfl (by simp) rfl (((hr.alloc _).drewN _).alloc _) (by omega) ?_; intro A1 n1 c1 bs1 d1 ho1)
  obtain ⟨v, hv⟩ : ∃ v, v = begin4 key := ⟨_, rfl⟩
  have hb0 : Bk (((w.alloc (.cells (bcs key).toArray 87)).drewN nq).alloc (.cells #[.int .u64 ((uxor (lit (List.take 8 key)) 8317987319222330741).toNat : Int), .int .u64 ((uxor (lit (List.drop 8 key)) 7237128888997146477).toNat : Int), .int .u64 ((uxor (lit (List.take 8 key)) 7816392313619706465).toNat : Int), .int .u64 ((uxor (lit (List.drop 8 key)) 8387220255154660723).toNat : Int)] 210)) (w.heap.size + 1) 210 v.cells := by
    rw [hv]
    have := Bk.new ((w.alloc (.cells (bcs key).toArray 87)).drewN nq) 210 (begin4 key).cells.toArray
    rw [show (((w.alloc (.cells (bcs key).toArray 87)).drewN nq)).heap.size = w.heap.size + 1 by simp] at this
    exact this
  have hbe : Below w.heap.size w (((w.alloc (.cells (bcs key).toArray 87)).drewN nq).alloc (.cells #[.int .u64 ((uxor (lit (List.take 8 key)) 8317987319222330741).toNat : Int), .int .u64 ((uxor (lit (List.drop 8 key)) 7237128888997146477).toNat : Int), .int .u64 ((uxor (lit (List.take 8 key)) 7816392313619706465).toNat : Int), .int .u64 ((uxor (lit (List.drop 8 key)) 8387220255154660723).toNat : Int)] 210)) := by
    repeat (first | exact Below.refl _ _ | refine Below.setCell ?_ (by simp) _ | refine belowN ?_ _ | refine Below.drew ?_ | refine Below.alloc ?_ (by simp) _)
  have hsz : (((w.alloc (.cells (bcs key).toArray 87)).drewN nq).alloc (.cells #[.int .u64 ((uxor (lit (List.take 8 key)) 8317987319222330741).toNat : Int), .int .u64 ((uxor (lit (List.drop 8 key)) 7237128888997146477).toNat : Int), .int .u64 ((uxor (lit (List.take 8 key)) 7816392313619706465).toNat : Int), .int .u64 ((uxor (lit (List.drop 8 key)) 8387220255154660723).toNat : Int)] 210)).heap.size = w.heap.size + 1 + 1 := by simp
  have HV := Lib.hid hv
  have HZ := Lib.hid hsz
  have HB := Lib.hid hb0
  have HE := Lib.hid hbe
  have HO := Lib.hid ho1
  clear hv hsz hb0 hbe ho1 hrb hrc
  generalize ((w.alloc (.cells (bcs key).toArray 87)).drewN nq).alloc _ = W0 at HB HE HZ HO ⊢
  have hn1 : n1 = n := by rw [← HO.out.1, hr.1]
  subst hn1
  obtain ⟨g, hg⟩ : ∃ g, g = w.heap.size + 1 := ⟨_, rfl⟩
  rw [← hg] at HZ HB ⊢
  have HG := Lib.hid hg
  have hgw : w.heap.size ≤ g := by omega
  have hgW : g < W0.heap.size := by have := HZ.out; omega
  clear hg
  go_loopw [8] (fun a wr => ∃ k m : Nat, ∃ A c bs d, a = .slice A m c ∧ n1 + k = m ∧ k ≤ 7 - n1 % 8 ∧ wr = plus W0 bs d ∧ Ob (plus W0 bs d) W0.heap.size A m c (l ++ List.replicate k 0)) (fun a _ => match a with | .slice _ m _ => n1 + 8 - m | _ => 0)
  case atStart => exact ⟨0, n1, A1, c1, bs1, d1, rfl, rfl, by omega, rfl, by simpa using HO.out⟩
  case round =>
    obtain ⟨k, m, A2, c2, bs2, d2, rfl, hm2, hk2, rfl, ho2⟩ := hrel
    have HM := Lib.hid hm2
    have hm3 : m ≤ 549755813900 := by omega
    by_cases hlt : k < 7 - n1 % 8
    · have t1 : ((m : Int) % 8 != 7) = true := by rw [bne_iff_ne]; omega
      have t2 : ((m : Int) % 8 == 7) = false := beq_eq_false_iff_ne.2 (by omega)
      clear hm2
      go_wp2_with (at_builtin; refine wpList_appP W0 bt rfl (.tmp 31) (.tmp 32) rfl ((below_plus _ _ _).alloc (by simp [size_plus]) _) rfl (ho2.alloc _) rfl (Rb.litP _ [0] rfl rfl (by decide) rfl) (by omega) ?_; intro A3 n3 c3 bs3 d3 ho3 _)
      have hn3 : n3 = m + 1 := by rw [← ho3.1, List.length_append, ho2.1]; rfl
      subst hn3
      refine ⟨⟨k + 1, m + 1, A3, c3, bs3, d3, rfl, by have := HM.out; omega, by omega, rfl, ?_⟩, by have := HM.out; simp; omega⟩
      rw [List.replicate_succ', ← List.append_assoc]
      exact ho3
    · have t1 : ((m : Int) % 8 != 7) = false := by rw [bne_eq_false_iff_eq]; omega
      have t2 : ((m : Int) % 8 == 7) = true := beq_iff_eq.2 (by omega)
      obtain rfl : k = 7 - n1 % 8 := by omega
      clear hm2
      go_wp2_with (at_builtin; refine wpList_appP W0 bt rfl (.tmp 34) (.tmp 39) rfl ((below_plus _ _ _).alloc (by simp [size_plus]) _) rfl (ho2.alloc _) rfl (Rb.litP _ [UInt8.ofNat (n1 % 256)] rfl rfl (by decide) (by simp [bcs])) (by omega) ?_; intro A3 n3 c3 bs3 d3 ho3 _)
      have hp : l ++ List.replicate (7 - n1 % 8) 0 ++ [UInt8.ofNat (n1 % 256)] = pad l := by unfold pad; rw [hr.1]
      rw [hp] at ho3
      obtain ⟨q, hq⟩ : ∃ q, q = n1 / 8 + 1 := ⟨_, rfl⟩
      have hn3 : n3 = 8 * q := by rw [← ho3.1, pad_length, hr.1, hq]
      have HN := Lib.hid hn3
      have HQ := Lib.hid hq
      have hq3 : n3 ≤ 549755813900 := by omega
      have hcap := ho3.rb.cap
      have HO3 := Lib.hid ho3
      clear hp hq hn3 ho3 t1 t2 ho2 HM hlt hk2 hm3
      go_loopw [9] (fun x wr => ∃ j i : Nat, j ≤ q ∧ 8 * j = i ∧ x = .int .i64 i ∧ Ob wr W0.heap.size A3 n3 c3 (pad l) ∧ Bk wr g 210 (feed v (pad l) j).cells ∧ Below w.heap.size w wr) (fun x _ => n3 - (intOf x).toNat)
      case atStart => exact ⟨0, 0, Nat.zero_le _, rfl, rfl, HO3.out, HB.out.later (below_plus _ _ _), toPlus HE.out (by have := HZ.out; omega) _ _⟩
      case round =>
        obtain ⟨j, i, hj, hi, rfl, ho4, hb4, he4⟩ := hrel
        have HI := Lib.hid hi
        have hgr := hb4.lt
        by_cases hlt : j < q
        · have hin : i + 8 ≤ n3 := by have := HN.out; omega
          have hi0 : i < n3 := by omega
          clear hi
          obtain ⟨u, hu⟩ : ∃ u, u = feed v (pad l) j := ⟨_, rfl⟩
          rw [← hu] at hb4
          have HU := Lib.hid hu
          clear hu
          have q0 : wr.cell? ⟨g, 0, none⟩ = some (.int .u64 (u.a.toNat : Int)) := hb4.cell 0
          have q1 : wr.cell? ⟨g, 1, none⟩ = some (.int .u64 (u.b.toNat : Int)) := hb4.cell 1
          have q2 : wr.cell? ⟨g, 2, none⟩ = some (.int .u64 (u.c.toNat : Int)) := hb4.cell 2
          have q3 : wr.cell? ⟨g, 3, none⟩ = some (.int .u64 (u.d.toNat : Int)) := hb4.cell 3
          have f0 := hb4.frozen 0
          have f1 := hb4.frozen 1
          have f2 := hb4.frozen 2
          have f3 := hb4.frozen 3
          go_wp2_with fail
          refine (refLittle_any _ _ (((pad l).drop i).take 8) _ ((ho4.rb.cut (k := i) (by omega)).take (k := 8) (by omega))).mono ?_
          rintro e w5 ⟨rfl, rfl⟩
          generalize hmm : lit (((pad l).drop i).take 8) = mm
          have HM := Lib.hid hmm
          clear hmm
          go_wp2_with fail
          refine (refRound_any ⟨u.a, u.b, u.c, uxor u.d mm⟩ _).mono ?_
          rintro e w6 ⟨bs6, d6, rfl, rfl⟩
          go_wp2_with fail
          refine (refRound_any (sround ⟨u.a, u.b, u.c, uxor u.d mm⟩) _).mono ?_
          rintro e w7 ⟨bs7, d7, rfl, rfl⟩
          generalize hx : sround (sround ⟨u.a, u.b, u.c, uxor u.d mm⟩) = x
          have HX := Lib.hid hx
          clear hx
          go_wp2
          have hsz := he4.size
          refine ⟨⟨j + 1, i + 8, by omega, by have := HI.out; omega, by go_num, ?_, ?_, ?_⟩, by simp [intOf]; omega⟩
          · with_reducible repeat (first | exact ho4 | refine Ob.plus_ ?_ _ _ | refine Ob.setCell ?_ hgW _)
          · have e : feed v (pad l) (j + 1) = ⟨uxor x.a mm, x.b, x.c, x.d⟩ := by
              rw [feed_take, HI.out, ← HU.out, HM.out, ← HX.out]
              rfl
            rw [e]
            refine Bk.later (Bk.later ?_ (below_plus _ _ _)) (below_plus _ _ _)
            exact (((((hb4.set_ 3 _).set_ 0 _).set_ 1 _).set_ 2 _).set_ 3 _).set_ 0 _
          · with_reducible repeat (first | exact he4 | refine belowP ?_ _ _ | refine Below.setCell ?_ hgw _)
        · have hin : i = n3 := by have := HN.out; omega
          have d1 : decide (i < n3) = false := by simp; omega
          obtain rfl : j = q := by omega
          clear hi hlt
          obtain ⟨u, hu⟩ : ∃ u, u = feed v (pad l) j := ⟨_, rfl⟩
          rw [← hu] at hb4
          have HU := Lib.hid hu
          have HI3 := Lib.hid hin
          clear hu hin
          have q0 : wr.cell? ⟨g, 0, none⟩ = some (.int .u64 (u.a.toNat : Int)) := hb4.cell 0
          have q1 : wr.cell? ⟨g, 1, none⟩ = some (.int .u64 (u.b.toNat : Int)) := hb4.cell 1
          have q2 : wr.cell? ⟨g, 2, none⟩ = some (.int .u64 (u.c.toNat : Int)) := hb4.cell 2
          have q3 : wr.cell? ⟨g, 3, none⟩ = some (.int .u64 (u.d.toNat : Int)) := hb4.cell 3
          have f0 := hb4.frozen 0
          have f1 := hb4.frozen 1
          have f2 := hb4.frozen 2
          have f3 := hb4.frozen 3
          go_wp2_with fail
          refine (refRound_any ⟨u.a, u.b, uxor u.c 255, u.d⟩ _).mono ?_
          rintro e w6 ⟨bs6, d6, rfl, rfl⟩
          go_wp2_with fail
          refine (refRound_any (sround ⟨u.a, u.b, uxor u.c 255, u.d⟩) _).mono ?_
          rintro e w7 ⟨bs7, d7, rfl, rfl⟩
          go_wp2_with fail
          refine (refRound_any (sround (sround ⟨u.a, u.b, uxor u.c 255, u.d⟩)) _).mono ?_
          rintro e w8 ⟨bs8, d8, rfl, rfl⟩
          go_wp2_with fail
          refine (refRound_any (sround (sround (sround ⟨u.a, u.b, uxor u.c 255, u.d⟩))) _).mono ?_
          rintro e w9 ⟨bs9, d9, rfl, rfl⟩
          generalize hx : sround (sround (sround (sround ⟨u.a, u.b, uxor u.c 255, u.d⟩))) = x
          have HX := Lib.hid hx
          clear hx
          have hsz := he4.size
          go_wp2
          go_ret
          have e : uxor (uxor (uxor x.a x.b) x.c) x.d = sip key l := by
            unfold sip
            rw [hr.1, show n1 / 8 = j - 1 by have := HQ.out; omega, ← HX.out, HU.out, HQ.out, ← hr.1, feed_pad, HV.out]
            rfl
          rw [e]
          refine RetV.mk ?_
          with_reducible repeat (first | exact he4 | refine belowP ?_ _ _ | refine Below.setCell ?_ hgw _)
end Go.Proofs.Ytknoenceccpkhaa

