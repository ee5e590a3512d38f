/- The plain law of HrwKeeps: the least of scored members (descending score, ascending number) hangs on no order, and stays if another one goes. No program in sight. -/
import Derived.Below
namespace Go.Proofs.Ytfmkndemkpecpaa
set_option linter.unusedVariables false

/-- three ways: cmp.Compare of ints -/
def cmp3 (a b : Int) : Int := if a < b then -1 else if b < a then 1 else 0
/-- ahead: descending score, ascending number -/
def aheadI (p q : Int × Int) : Int := if cmp3 q.2 p.2 = 0 then cmp3 p.1 q.1 else cmp3 q.2 p.2
def ltS (a b : Int × Int) : Prop := b.2 < a.2 ∨ a.2 = b.2 ∧ a.1 < b.1
theorem ahead_lt (a b : Int × Int) : aheadI a b < 0 ↔ ltS a b := by
  unfold aheadI ltS cmp3
  repeat' split
  all_goals omega
/-- the pick, from a first one on -/
def pickS (m : Int × Int) : List (Int × Int) → Int × Int
  | [] => m
  | y :: t => pickS (if aheadI y m < 0 then y else m) t
theorem pickS_spec : ∀ (L : List (Int × Int)) (m : Int × Int), pickS m L ∈ m :: L ∧ ∀ z ∈ m :: L, ¬ ltS z (pickS m L)
  | [], m => ⟨by simp [pickS], fun z hz => by simp only [List.mem_cons, List.not_mem_nil, or_false] at hz; subst hz; unfold ltS pickS; omega⟩
  | y :: t, m => by
    obtain ⟨h1, h2⟩ := pickS_spec t (if aheadI y m < 0 then y else m)
    rw [show pickS m (y :: t) = pickS (if aheadI y m < 0 then y else m) t from rfl]
    generalize pickS (if aheadI y m < 0 then y else m) t = r at *
    by_cases hy : aheadI y m < 0
    · rw [if_pos hy] at h1 h2
      have hlt := (ahead_lt y m).1 hy
      have h3 := h2 y (by simp)
      refine ⟨List.mem_cons_of_mem _ h1, fun z hz => ?_⟩
      rcases List.mem_cons.1 hz with rfl | hz
      · unfold ltS at hlt h3 ⊢; omega
      · exact h2 z hz
    · rw [if_neg hy] at h1 h2
      have hlt : ¬ ltS y m := fun e => hy ((ahead_lt y m).2 e)
      have h3 := h2 m (by simp)
      refine ⟨?_, fun z hz => ?_⟩
      · rcases List.mem_cons.1 h1 with h | h
        · exact h ▸ List.mem_cons_self ..
        · exact List.mem_cons_of_mem _ (List.mem_cons_of_mem _ h)
      · rcases List.mem_cons.1 hz with rfl | hz
        · exact h3
        · rcases List.mem_cons.1 hz with rfl | hz
          · unfold ltS at hlt h3 ⊢; omega
          · exact h2 z (List.mem_cons_of_mem _ hz)
/-- the choice among scored members -/
def pk : List (Int × Int) → Int × Bool
  | [] => (0, false)
  | m :: t => ((pickS m t).1, true)
theorem pk_of {L : List (Int × Int)} {r : Int × Int} (h1 : r ∈ L) (h2 : ∀ z ∈ L, ¬ ltS z r) : pk L = (r.1, true) := by
  match L, h1, h2 with
  | m :: t, h1, h2 =>
    obtain ⟨h3, h4⟩ := pickS_spec t m
    have a := h2 _ h3
    have b := h4 _ h1
    show ((pickS m t).1, true) = _
    unfold ltS at a b
    have : (pickS m t).1 = r.1 := by omega
    rw [this]
theorem pk_same {L L' : List (Int × Int)} (h : ∀ z, z ∈ L ↔ z ∈ L') : pk L = pk L' := by
  match L, L', h with
  | [], [], _ => rfl
  | [], m :: t, h => exact absurd ((h m).2 (by simp)) (by simp)
  | m :: t, L', h =>
    obtain ⟨h3, h4⟩ := pickS_spec t m
    exact (pk_of h3 h4).trans (pk_of ((h _).1 h3) (fun z hz => h4 z ((h z).2 hz))).symm
theorem pk_less (u v : List (Int × Int)) (x : List (Int × Int)) (i : Int) (hx : ∀ z ∈ x, z.1 = i) (hok : (pk (u ++ x ++ v)).2 = true) : (pk (u ++ x ++ v)).1 = i ∨ pk (u ++ v) = ((pk (u ++ x ++ v)).1, true) := by
  obtain ⟨r, h1, h2⟩ : ∃ r, r ∈ u ++ x ++ v ∧ ∀ z ∈ u ++ x ++ v, ¬ ltS z r := by
    generalize u ++ x ++ v = L at *
    cases L with
    | nil => simp [pk] at hok
    | cons m t => exact ⟨_, (pickS_spec t m).1, (pickS_spec t m).2⟩
  rw [pk_of h1 h2]
  by_cases hr : r ∈ x
  · exact .inl (hx r hr)
  · refine .inr (pk_of ?_ (fun z hz => h2 z ?_))
    · simp only [List.mem_append] at h1 ⊢
      rcases h1 with (h | h) | h
      · exact .inl h
      · exact absurd h hr
      · exact .inr h
    · simp only [List.mem_append] at hz ⊢
      rcases hz with h | h
      · exact .inl (.inl h)
      · exact .inr h
/-- the scored members of a list -/
def scd (S : Int × Int → Int) : List (Int × Int) → List (Int × Int)
  | [] => []
  | m :: t => if 0 < m.2 then (m.1, S m) :: scd S t else scd S t
theorem scd_append (S : Int × Int → Int) : ∀ a b, scd S (a ++ b) = scd S a ++ scd S b
  | [], b => rfl
  | m :: t, b => by
    simp only [List.cons_append, scd]
    split
    · rw [scd_append S t b]; rfl
    · exact scd_append S t b
/-- the law: x[i:] ++ x[:i] chooses alike; without x[i]: alike, unless it was x[i] -/
theorem hrw_law (S : Int × Int → Int) (L : List (Int × Int)) (i : Nat) (hi : i < L.length) :
    pk (scd S (L.drop i ++ L.take i)) = pk (scd S L) ∧ ((pk (scd S L)).2 = true → (pk (scd S L)).1 = L[i].1 ∨ pk (scd S (L.take i ++ L.drop (i + 1))) = ((pk (scd S L)).1, true)) := by
  have e : L = L.take i ++ [L[i]] ++ L.drop (i + 1) := by simp
  constructor
  · refine pk_same fun z => ?_
    conv => rhs; rw [← List.take_append_drop i L]
    rw [scd_append, scd_append, List.mem_append, List.mem_append]
    exact Or.comm
  · intro hok
    have h := pk_less (scd S (L.take i)) (scd S (L.drop (i + 1))) (scd S [L[i]]) L[i].1 (fun z hz => by
      simp only [scd] at hz
      split at hz
      · simp only [List.mem_cons, List.not_mem_nil, or_false] at hz; subst hz; rfl
      · simp at hz)
    rw [← scd_append, ← scd_append, ← scd_append, ← e] at h
    exact h hok
end Go.Proofs.Ytfmkndemkpecpaa
