/- Texts of the law ClientForward, part 6. -/
import Derived.Test.YtlpbahleaeieoaaGreatZClientForward5
set_option linter.unusedVariables false
set_option linter.unusedSimpArgs false
namespace Go.Proofs.YtlpbahleaeieoaaGreat
section
open Go.RowKit
attribute [local go_sem ↓] sliced_cut
attribute [local go_sem] cutA_zero
def adrR (six : Bool) (ah al : Nat) : Bool := six || (ah == 0 && decide (al ≤ 4294967295))
set_option maxRecDepth 100000 in
theorem refAdrRight (six : Bool) (ah al : Nat) (w : World) (h1 : ah < 18446744073709551616) (h2 : al < 18446744073709551616) : Calls Tryz.prog 16 #[.agg #[.bool six, .int .u64 ah, .int .u64 al]] w (RetV w (.bool (adrR six ah al))) := by
 cases six
 ·by_cases ha : ah = 0
  ·subst ha
   go_enter Tryz.func16, Tryz.ntmps16
   go_wp2
   go_ret
   exact RetV.is_ (by simp [adrR]; omega) ((Below.refl _ _).alloc (Nat.le_refl _) _)
  ·have t1 : ((ah : Int) == 0) = false := by simpa using ha
   have t2 : (ah == 0) = false := by simpa using ha
   go_enter Tryz.func16, Tryz.ntmps16
   go_wp2
   go_ret
   exact RetV.is_ (by simp [adrR, t2]) ((Below.refl _ _).alloc (Nat.le_refl _) _)
 ·go_enter Tryz.func16, Tryz.ntmps16
  go_wp2
  go_ret
  exact RetV.is_ (by simp [adrR]) ((Below.refl _ _).alloc (Nat.le_refl _) _)
def rt33 (s6 : Bool) (sh sl : Nat) (d6 : Bool) (dh dl pr : Nat) : Bool := adrR s6 sh sl && (adrR d6 dh dl && ((s6 == d6) && (pr == 6 || pr == 17)))
theorem rt33_F (s6 : Bool) (sh sl : Nat) (d6 : Bool) (dh dl pr : Nat) (k1 : sh < 18446744073709551616) (k2 : sl < 18446744073709551616) (k3 : dh < 18446744073709551616) (k4 : dl < 18446744073709551616) (h : rt33 s6 sh sl d6 dh dl pr = true) : s6 = d6 ∧ rtF s6 sh sl dh dl := by
 simp only [rt33, adrR, Bool.and_eq_true, Bool.or_eq_true, beq_iff_eq, decide_eq_true_eq] at h
 obtain ⟨h1, h2, h3, -⟩ := h
 subst h3
 refine ⟨rfl, fun h0 => ?_, k1, k2, k3, k4⟩
 subst h0
 simp at h1 h2
 omega
set_option maxHeartbeats 4000000 in
set_option maxRecDepth 100000 in
theorem right33_any (s6 : Bool) (sh sl : Nat) (d6 : Bool) (dh dl sp dp pr : Nat) (w : World) (k1 : sh < 18446744073709551616) (k2 : sl < 18446744073709551616) (k3 : dh < 18446744073709551616) (k4 : dl < 18446744073709551616) : Calls Tryz.prog 5 #[.agg (flC s6 sh sl d6 dh dl sp dp pr).toArray] w (RetV w (.bool (rt33 s6 sh sl d6 dh dl pr))) := by
 obtain ⟨dva, va1, va2⟩ := rowAdr
 have HR1 := Lib.hid (fun W => refAdrRight s6 sh sl W k1 k2)
 have HR2 := Lib.hid (fun W => refAdrRight d6 dh dl W k3 k4)
 unfold rt33
 generalize adrR s6 sh sl = q1 at *
 generalize adrR d6 dh dl = q2 at *
 obtain ⟨dvf1, vf1, vf2⟩ := rowFl
 obtain ⟨bf, be, zV⟩ := box1 w 27 (flC s6 sh sl d6 dh dl sp dp pr)
 go_enter Tryz.func5, Tryz.ntmps5
 go_upto_region 1 with (fail)
 generalize w.alloc (.cells (flC s6 sh sl d6 dh dl sp dp pr).toArray 27) = V at *
 cases q1 with
 | false =>
  refine wp_region_lit ?_
  refine wpList_plain rfl (fun K hK => ?_); go_simp; with_reducible refine hK _ _ ?_; clear hK K
  refine wpList_ldA (t := 27) (cs := flC s6 sh sl d6 dh dl sp dp pr) 24 (.tmp 3) rfl rfl ([.bool s6, .int .u64 (sh : Int), .int .u64 (sl : Int)]) rfl (bf) rfl va1 va2 (szAdr _ _ _) ?_
  refine wpList_plain rfl (fun K hK => ?_)
  go_simp
  refine (HR1.out _).mono ?_
  rintro e w1 ⟨bs1, d1, rfl, rfl⟩
  with_reducible refine hK _ _ ?_
  clear hK K
  replace bf := bf.later (below_plus _ bs1 d1)
  replace be := belowP be bs1 d1
  generalize hWW : plus _ bs1 d1 = W1 at *
  clear hWW
  refine wpList_plain rfl (fun K hK => ?_); go_simp; with_reducible refine hK _ _ ?_; clear hK K
  iterate 3 ((with_reducible refine wpList_skip ?_ ?_); (· first | (go_simp; done) | (go_simp; intro h; cases h)); simp only [Act.put, qsT, qsZ, qsS])
  iterate 2 (refine wpList_plain rfl (fun K hK => ?_); go_simp; with_reducible refine hK _ _ ?_; clear hK K)
  iterate 7 ((with_reducible refine wpList_skip ?_ ?_); (· first | (go_simp; done) | (go_simp; intro h; cases h)); simp only [Act.put, qsT, qsZ, qsS])
  iterate 2 (refine wpList_plain rfl (fun K hK => ?_); go_simp; with_reducible refine hK _ _ ?_; clear hK K)
  iterate 8 ((with_reducible refine wpList_skip ?_ ?_); (· first | (go_simp; done) | (go_simp; intro h; cases h)); simp only [Act.put, qsT, qsZ, qsS])
  iterate 2 (refine wpList_plain rfl (fun K hK => ?_); go_simp; with_reducible refine hK _ _ ?_; clear hK K)
  go_wp2
  go_ret
  exact RetV.is_ (by simp) be
 | true =>
  cases q2 with
  | false =>
   refine wp_region_lit ?_
   refine wpList_plain rfl (fun K hK => ?_); go_simp; with_reducible refine hK _ _ ?_; clear hK K
   refine wpList_ldA (t := 27) (cs := flC s6 sh sl d6 dh dl sp dp pr) 24 (.tmp 3) rfl rfl ([.bool s6, .int .u64 (sh : Int), .int .u64 (sl : Int)]) rfl (bf) rfl va1 va2 (szAdr _ _ _) ?_
   refine wpList_plain rfl (fun K hK => ?_)
   go_simp
   refine (HR1.out _).mono ?_
   rintro e w1 ⟨bs1, d1, rfl, rfl⟩
   with_reducible refine hK _ _ ?_
   clear hK K
   replace bf := bf.later (below_plus _ bs1 d1)
   replace be := belowP be bs1 d1
   generalize hWW : plus _ bs1 d1 = W1 at *
   clear hWW
   refine wpList_plain rfl (fun K hK => ?_); go_simp; with_reducible refine hK _ _ ?_; clear hK K
   refine wpList_step (fun K hK => ?_); go_simp; with_reducible refine hK _ _ ?_; clear hK K
   refine wpList_ldG (t := 27) (cs := flC s6 sh sl d6 dh dl sp dp pr) 24 (.tmp 7) rfl (by go_simp) ([.bool d6, .int .u64 (dh : Int), .int .u64 (dl : Int)]) rfl (bf) rfl va1 va2 (szAdr _ _ _) ?_
   refine wpList_step (fun K hK => ?_)
   go_simp
   refine (HR2.out _).mono ?_
   rintro e w1 ⟨bs1, d1, rfl, rfl⟩
   with_reducible refine hK _ _ ?_
   clear hK K
   replace bf := bf.later (below_plus _ bs1 d1)
   replace be := belowP be bs1 d1
   generalize hWW : plus _ bs1 d1 = W1 at *
   clear hWW
   iterate 2 (refine wpList_plain rfl (fun K hK => ?_); go_simp; with_reducible refine hK _ _ ?_; clear hK K)
   iterate 7 ((with_reducible refine wpList_skip ?_ ?_); (· first | (go_simp; done) | (go_simp; intro h; cases h)); simp only [Act.put, qsT, qsZ, qsS])
   iterate 2 (refine wpList_plain rfl (fun K hK => ?_); go_simp; with_reducible refine hK _ _ ?_; clear hK K)
   iterate 8 ((with_reducible refine wpList_skip ?_ ?_); (· first | (go_simp; done) | (go_simp; intro h; cases h)); simp only [Act.put, qsT, qsZ, qsS])
   iterate 2 (refine wpList_plain rfl (fun K hK => ?_); go_simp; with_reducible refine hK _ _ ?_; clear hK K)
   go_wp2
   go_ret
   exact RetV.is_ (by simp) be
  | true =>
   by_cases h6 : s6 = d6
   ·subst h6
    by_cases hp : pr = 6
    ·subst hp
     refine wp_region_lit ?_
     refine wpList_plain rfl (fun K hK => ?_); go_simp; with_reducible refine hK _ _ ?_; clear hK K
     refine wpList_ldA (t := 27) (cs := flC s6 sh sl s6 dh dl sp dp 6) 24 (.tmp 3) rfl rfl ([.bool s6, .int .u64 (sh : Int), .int .u64 (sl : Int)]) rfl (bf) rfl va1 va2 (szAdr _ _ _) ?_
     refine wpList_plain rfl (fun K hK => ?_)
     go_simp
     refine (HR1.out _).mono ?_
     rintro e w1 ⟨bs1, d1, rfl, rfl⟩
     with_reducible refine hK _ _ ?_
     clear hK K
     replace bf := bf.later (below_plus _ bs1 d1)
     replace be := belowP be bs1 d1
     generalize hWW : plus _ bs1 d1 = W1 at *
     clear hWW
     refine wpList_plain rfl (fun K hK => ?_); go_simp; with_reducible refine hK _ _ ?_; clear hK K
     refine wpList_step (fun K hK => ?_); go_simp; with_reducible refine hK _ _ ?_; clear hK K
     refine wpList_ldG (t := 27) (cs := flC s6 sh sl s6 dh dl sp dp 6) 24 (.tmp 7) rfl (by go_simp) ([.bool s6, .int .u64 (dh : Int), .int .u64 (dl : Int)]) rfl (bf) rfl va1 va2 (szAdr _ _ _) ?_
     refine wpList_step (fun K hK => ?_)
     go_simp
     refine (HR2.out _).mono ?_
     rintro e w1 ⟨bs1, d1, rfl, rfl⟩
     with_reducible refine hK _ _ ?_
     clear hK K
     replace bf := bf.later (below_plus _ bs1 d1)
     replace be := belowP be bs1 d1
     generalize hWW : plus _ bs1 d1 = W1 at *
     clear hWW
     iterate 2 (refine wpList_plain rfl (fun K hK => ?_); go_simp; with_reducible refine hK _ _ ?_; clear hK K)
     iterate 2 (refine wpList_step (fun K hK => ?_); go_simp; with_reducible refine hK _ _ ?_; clear hK K)
     refine wpList_ld1 (t := 27) (cs := flC s6 sh sl s6 dh dl sp dp 6) 4 (.tmp 13) rfl (by go_simp) rfl (bf) rfl Tryz.underlying4 rfl ?_
     iterate 2 (refine wpList_step (fun K hK => ?_); go_simp; with_reducible refine hK _ _ ?_; clear hK K)
     refine wpList_ld1 (t := 27) (cs := flC s6 sh sl s6 dh dl sp dp 6) 4 (.tmp 16) rfl (by go_simp) rfl (bf) rfl Tryz.underlying4 rfl ?_
     refine wpList_step (fun K hK => ?_); go_simp; with_reducible refine hK _ _ ?_; clear hK K
     iterate 2 (refine wpList_plain rfl (fun K hK => ?_); go_simp; with_reducible refine hK _ _ ?_; clear hK K)
     refine wpList_step (fun K hK => ?_); go_simp; with_reducible refine hK _ _ ?_; clear hK K
     refine wpList_ld1 (t := 27) (cs := flC s6 sh sl s6 dh dl sp dp 6) 5 (.tmp 21) rfl (by go_simp) rfl (bf) rfl Tryz.underlying5 rfl ?_
     iterate 2 (refine wpList_step (fun K hK => ?_); go_simp; with_reducible refine hK _ _ ?_; clear hK K)
     iterate 3 ((with_reducible refine wpList_skip ?_ ?_); (· first | (go_simp; done) | (go_simp; intro h; cases h)); simp only [Act.put, qsT, qsZ, qsS])
     refine wpList_step (fun K hK => ?_); go_simp; with_reducible refine hK _ _ ?_; clear hK K
     iterate 2 (refine wpList_plain rfl (fun K hK => ?_); go_simp; with_reducible refine hK _ _ ?_; clear hK K)
     go_wp2
     go_ret
     exact RetV.is_ (by simp) be
    ·have hp2 : ((pr : Int) == 6) = false := by simp; omega
     refine wp_region_lit ?_
     refine wpList_plain rfl (fun K hK => ?_); go_simp; with_reducible refine hK _ _ ?_; clear hK K
     refine wpList_ldA (t := 27) (cs := flC s6 sh sl s6 dh dl sp dp pr) 24 (.tmp 3) rfl rfl ([.bool s6, .int .u64 (sh : Int), .int .u64 (sl : Int)]) rfl (bf) rfl va1 va2 (szAdr _ _ _) ?_
     refine wpList_plain rfl (fun K hK => ?_)
     go_simp
     refine (HR1.out _).mono ?_
     rintro e w1 ⟨bs1, d1, rfl, rfl⟩
     with_reducible refine hK _ _ ?_
     clear hK K
     replace bf := bf.later (below_plus _ bs1 d1)
     replace be := belowP be bs1 d1
     generalize hWW : plus _ bs1 d1 = W1 at *
     clear hWW
     refine wpList_plain rfl (fun K hK => ?_); go_simp; with_reducible refine hK _ _ ?_; clear hK K
     refine wpList_step (fun K hK => ?_); go_simp; with_reducible refine hK _ _ ?_; clear hK K
     refine wpList_ldG (t := 27) (cs := flC s6 sh sl s6 dh dl sp dp pr) 24 (.tmp 7) rfl (by go_simp) ([.bool s6, .int .u64 (dh : Int), .int .u64 (dl : Int)]) rfl (bf) rfl va1 va2 (szAdr _ _ _) ?_
     refine wpList_step (fun K hK => ?_)
     go_simp
     refine (HR2.out _).mono ?_
     rintro e w1 ⟨bs1, d1, rfl, rfl⟩
     with_reducible refine hK _ _ ?_
     clear hK K
     replace bf := bf.later (below_plus _ bs1 d1)
     replace be := belowP be bs1 d1
     generalize hWW : plus _ bs1 d1 = W1 at *
     clear hWW
     iterate 2 (refine wpList_plain rfl (fun K hK => ?_); go_simp; with_reducible refine hK _ _ ?_; clear hK K)
     iterate 2 (refine wpList_step (fun K hK => ?_); go_simp; with_reducible refine hK _ _ ?_; clear hK K)
     refine wpList_ld1 (t := 27) (cs := flC s6 sh sl s6 dh dl sp dp pr) 4 (.tmp 13) rfl (by go_simp) rfl (bf) rfl Tryz.underlying4 rfl ?_
     iterate 2 (refine wpList_step (fun K hK => ?_); go_simp; with_reducible refine hK _ _ ?_; clear hK K)
     refine wpList_ld1 (t := 27) (cs := flC s6 sh sl s6 dh dl sp dp pr) 4 (.tmp 16) rfl (by go_simp) rfl (bf) rfl Tryz.underlying4 rfl ?_
     refine wpList_step (fun K hK => ?_); go_simp; with_reducible refine hK _ _ ?_; clear hK K
     iterate 2 (refine wpList_plain rfl (fun K hK => ?_); go_simp; with_reducible refine hK _ _ ?_; clear hK K)
     refine wpList_step (fun K hK => ?_); go_simp; with_reducible refine hK _ _ ?_; clear hK K
     refine wpList_ld1 (t := 27) (cs := flC s6 sh sl s6 dh dl sp dp pr) 5 (.tmp 21) rfl (by go_simp) rfl (bf) rfl Tryz.underlying5 rfl ?_
     iterate 3 (refine wpList_step (fun K hK => ?_); go_simp; with_reducible refine hK _ _ ?_; clear hK K)
     refine wpList_ld1 (t := 27) (cs := flC s6 sh sl s6 dh dl sp dp pr) 5 (.tmp 25) rfl (by go_simp) rfl (bf) rfl Tryz.underlying5 rfl ?_
     iterate 2 (refine wpList_step (fun K hK => ?_); go_simp; with_reducible refine hK _ _ ?_; clear hK K)
     iterate 2 (refine wpList_plain rfl (fun K hK => ?_); go_simp; with_reducible refine hK _ _ ?_; clear hK K)
     go_wp2
     go_ret
     refine RetV.is_ ?_ be
     by_cases h17 : pr = 17
     ·subst h17; simp
     ·have h17b : ((pr : Int) == 17) = false := by simp; omega
      simp [hp, h17, h17b]
      try omega
   ·have h6b : (s6 == d6) = false := by simpa using h6
    clear h6
    refine wp_region_lit ?_
    refine wpList_plain rfl (fun K hK => ?_); go_simp; with_reducible refine hK _ _ ?_; clear hK K
    refine wpList_ldA (t := 27) (cs := flC s6 sh sl d6 dh dl sp dp pr) 24 (.tmp 3) rfl rfl ([.bool s6, .int .u64 (sh : Int), .int .u64 (sl : Int)]) rfl (bf) rfl va1 va2 (szAdr _ _ _) ?_
    refine wpList_plain rfl (fun K hK => ?_)
    go_simp
    refine (HR1.out _).mono ?_
    rintro e w1 ⟨bs1, d1, rfl, rfl⟩
    with_reducible refine hK _ _ ?_
    clear hK K
    replace bf := bf.later (below_plus _ bs1 d1)
    replace be := belowP be bs1 d1
    generalize hWW : plus _ bs1 d1 = W1 at *
    clear hWW
    refine wpList_plain rfl (fun K hK => ?_); go_simp; with_reducible refine hK _ _ ?_; clear hK K
    refine wpList_step (fun K hK => ?_); go_simp; with_reducible refine hK _ _ ?_; clear hK K
    refine wpList_ldG (t := 27) (cs := flC s6 sh sl d6 dh dl sp dp pr) 24 (.tmp 7) rfl (by go_simp) ([.bool d6, .int .u64 (dh : Int), .int .u64 (dl : Int)]) rfl (bf) rfl va1 va2 (szAdr _ _ _) ?_
    refine wpList_step (fun K hK => ?_)
    go_simp
    refine (HR2.out _).mono ?_
    rintro e w1 ⟨bs1, d1, rfl, rfl⟩
    with_reducible refine hK _ _ ?_
    clear hK K
    replace bf := bf.later (below_plus _ bs1 d1)
    replace be := belowP be bs1 d1
    generalize hWW : plus _ bs1 d1 = W1 at *
    clear hWW
    iterate 2 (refine wpList_plain rfl (fun K hK => ?_); go_simp; with_reducible refine hK _ _ ?_; clear hK K)
    iterate 2 (refine wpList_step (fun K hK => ?_); go_simp; with_reducible refine hK _ _ ?_; clear hK K)
    refine wpList_ld1 (t := 27) (cs := flC s6 sh sl d6 dh dl sp dp pr) 4 (.tmp 13) rfl (by go_simp) rfl (bf) rfl Tryz.underlying4 rfl ?_
    iterate 2 (refine wpList_step (fun K hK => ?_); go_simp; with_reducible refine hK _ _ ?_; clear hK K)
    refine wpList_ld1 (t := 27) (cs := flC s6 sh sl d6 dh dl sp dp pr) 4 (.tmp 16) rfl (by go_simp) rfl (bf) rfl Tryz.underlying4 rfl ?_
    refine wpList_step (fun K hK => ?_); go_simp; with_reducible refine hK _ _ ?_; clear hK K
    iterate 2 (refine wpList_plain rfl (fun K hK => ?_); go_simp; with_reducible refine hK _ _ ?_; clear hK K)
    iterate 8 ((with_reducible refine wpList_skip ?_ ?_); (· first | (go_simp; done) | (go_simp; intro h; cases h)); simp only [Act.put, qsT, qsZ, qsS])
    iterate 2 (refine wpList_plain rfl (fun K hK => ?_); go_simp; with_reducible refine hK _ _ ?_; clear hK K)
    go_wp2
    go_ret
    exact RetV.is_ (by simp [h6b]) be
end

section
open Go.RowKit
def RetRs (s : Nat) (w : World) (cs : List Value) (e : Ending) (w' : World) : Prop := ∃ A n c bs d, e = .returned (.slice A n c) ∧ w' = plus w bs d ∧ Rs s (plus w bs d) A n c cs
theorem RetRs.mk {s : Nat} {w w' : World} {cs : List Value} {A : Option Addr} {n c : Nat} (h : Rs s w' A n c cs) (hb : Below w.heap.size w w') : RetRs s w cs (.returned (.slice A n c)) w' := by
 obtain ⟨bs, d, rfl⟩ := plus_of hb
 exact ⟨A, n, c, bs, d, rfl, rfl, h⟩
def MP.os (e : TypeId) (s base : Nat) (cs : List Value) : MP := ⟨fun v w => ∃ A n c, v = .slice A n c ∧ Os e s w base A n c cs, fun _ _ _ ⟨A, n, c, h1, h2⟩ h => ⟨A, n, c, h1, h2.later h.below⟩⟩
end

section
open Go.RowKit
theorem Rs.chg {D : Nat → Prop} {s : Nat} {w w' : World} {A : Option Addr} {n c : Nat} {cs : List Value} (h : Rs s w A n c cs) (hc : Chg D w w') (hd : ∀ a, A = some a → ¬ D a.block) : Rs s w' A n c cs := by
 refine ⟨h.1, h.2.1, ?_⟩
 rcases h.2.2 with h' | ⟨b, off, hA, hb, hcell⟩
 ·exact .inl h'
 ·refine .inr ⟨b, off, hA, Nat.lt_of_lt_of_le hb hc.size, fun i u hu => ?_⟩
  rw [World.cell?_of_block (w := w) (hc.block b hb (hd _ hA))]
  exact hcell i u hu
theorem Os.chg {D : Nat → Prop} {e : TypeId} {s base : Nat} {w w' : World} {A : Option Addr} {n c : Nat} {cs : List Value} (h : Os e s w base A n c cs) (hc : Chg D w w') (hd : ∀ k, (Value.slice A n c).ownBlock = some k → ¬ D k) : Os e s w' base A n c cs := by
 refine ⟨h.1, ?_⟩
 rcases h.2 with h' | ⟨g, cap, cur, hv, hb, hg, hr⟩
 ·exact .inl h'
 ·have hk : (Value.slice A n c).ownBlock = some g := by rw [hv]; rfl
  exact .inr ⟨g, cap, cur, hv, hb, (hc.block g (h.blk g hk).2 (hd g hk)).trans hg, hr⟩
theorem flat_at {X : Type} (enc : X → List Value) (s : Nat) (hs : ∀ x, (enc x).length = s) : ∀ (L : List X) (j : Nat) (hj : j < L.length) (i : Nat) (u : Value), (enc L[j])[i]? = some u → (L.flatMap enc)[j * s + i]? = some u
 | x :: t, 0, _, i, u, h => by
  have hi : i < (enc x).length := (List.getElem?_eq_some_iff.1 h).1
  simp only [List.flatMap_cons, Nat.zero_mul, Nat.zero_add]
  rw [List.getElem?_append_left hi]
  exact h
 | x :: t, j + 1, hj, i, u, h => by
  have h2 := flat_at enc s hs t j (by simpa using hj) i u h
  simp only [List.flatMap_cons]
  rw [List.getElem?_append_right (by rw [hs, Nat.add_mul]; omega), hs, show (j + 1) * s + i - s = j * s + i by rw [Nat.add_mul]; omega]
  exact h2
theorem flat_len {X : Type} (enc : X → List Value) (s : Nat) (hs : ∀ x, (enc x).length = s) : ∀ L : List X, (L.flatMap enc).length = L.length * s
 | [] => by simp
 | x :: t => by simp [hs, flat_len enc s hs t, Nat.add_mul, Nat.add_comm]
theorem Rs.rangeE {X : Type} {enc : X → List Value} {s : Nat} (hs : ∀ x, (enc x).length = s) {w : World} {b off n c : Nat} {L : List X} (h : Rs s w (some ⟨b, off, none⟩) n c (L.flatMap enc)) (j : Nat) (hj : j < L.length) :
  w.rangeAt b (off + j * s) (enc L[j]) := by
 intro i u hu
 have hp := flat_at enc s hs L j hj i u hu
 rcases h.2.2 with h0 | ⟨b', off', hA, hb, hc⟩
 ·rw [h0] at hp; simp at hp
 ·injection hA with hA
  injection hA with e1 e2
  subst e1 e2
  rw [Nat.add_assoc]
  exact hc _ _ hp
end

section
open Go.RowKit
attribute [local go_sem ↓] sliced_cut
attribute [local go_sem] cutA_zero
structure AkX where
 k : Int
 fl : Nat
 A : Option Addr
 n : Nat
 c : Nat
 l : List UInt8
 x0 : Nat
 x1 : Nat
 x2 : Nat
 x3 : Nat
 x4 : Nat
 x5 : Nat
 x6 : Nat
 x7 : Nat
 B1 : Option Addr
 m1 : Nat
 c1 : Nat
 o1 : List UInt8
 B2 : Option Addr
 m2 : Nat
 c2 : Nat
 o2 : List UInt8
 six : Bool
 ah : Nat
 al : Nat
 pt : Nat
instance : Inhabited AkX := ⟨⟨0, 0, none, 0, 0, [], 0, 0, 0, 0, 0, 0, 0, 0, none, 0, 0, [], none, 0, 0, [], false, 0, 0, 0⟩⟩
def AkX.sg (x : AkX) : List Value := tcC x.x0 x.x1 x.x2 x.x3 x.x4 x.x5 x.x6 x.x7 x.B1 x.m1 x.c1 x.B2 x.m2 x.c2
def AkX.cs (x : AkX) : List Value := .int .i64 x.k :: .int .u8 (x.fl : Int) :: .slice x.A x.n x.c :: (x.sg ++ (adC x.six x.ah x.al ++ [.int .u16 (x.pt : Int)]))
theorem AkX.cs_len (x : AkX) : x.cs.length = 17 := rfl
def AkX.ok (W : World) (x : AkX) : Prop := Rb W x.A x.n x.c x.l ∧ Rb W x.B1 x.m1 x.c1 x.o1 ∧ Rb W x.B2 x.m2 x.c2 x.o2
def AkX.sm (x : AkX) : Prop := x.n ≤ 1048576 ∧ x.m1 ≤ 1048576 ∧ x.m2 ≤ 1048576
def RetAk (w : World) (e : Ending) (w' : World) : Prop := ∃ (b : Bool) (bs : List Obj) (d : Nat), e = .returned (.bool b) ∧ w' = plus w bs d
theorem RetAk.mk {w w' : World} {b : Bool} (h : Below w.heap.size w w') : RetAk w (.returned (.bool b)) w' := by
 obtain ⟨bs, d, -, rfl⟩ := RetV.mk (v := .bool b) h
 exact ⟨b, bs, d, rfl, rfl⟩
set_option maxHeartbeats 4000000 in
set_option maxRecDepth 100000 in
theorem light33_any (L : List AkX) (Aa : Option Addr) (na ca : Nat) (w : World) (hL : Rs 17 w Aa na ca (L.flatMap AkX.cs)) (hok : ∀ x ∈ L, x.sm) (hna : na ≤ 9223372036854775807) : Calls Tryz.prog 6 #[.slice Aa na ca] w (RetAk w) := by
 have hLn : L.length = na := by have := hL.1; rw [flat_len AkX.cs 17 AkX.cs_len] at this; omega
 go_enter Tryz.func6, Tryz.ntmps6
 go_upto_region 3 with (fail)
 go_loopw [3, 4] (fun N I wr => ∃ (i s : Nat), I = .int .i64 (i : Int) ∧ N = .int .i64 (s : Int) ∧ i ≤ na ∧ i ≤ 30 ∧ s ≤ i * 9000 ∧ Below w.heap.size w wr) (fun _ I _ => na - (intOf I).toNat)
 case atStart => exact ⟨0, 0, rfl, rfl, Nat.zero_le _, by omega, Nat.zero_le _, Below.refl _ _⟩
 case round =>
  obtain ⟨i, s, rfl, rfl, hi, hi30, hs, be⟩ := hrel
  have hsb : s ≤ 270000 := by omega
  by_cases hlt : i < na ∧ i < 30
  ·obtain ⟨hlt, h30⟩ := hlt
   have hiL : i < L.length := by omega
   have ii : (i : Int) < (na : Int) := by omega
   have i30 : (i : Int) < 30 := by omega
   have hxo := hok L[i] (List.getElem_mem hiL)
   obtain ⟨bl, ol, rfl, -, -⟩ := hL.at_ (by omega) (by decide)
   have HG := fun (W : World) (hb : Below wr.heap.size wr W) => Rs.rangeE AkX.cs_len (hL.later (be.trans (hb.mono be.size))) i hiL
   generalize L[i] = y at *
   obtain ⟨hx1, hx2, hx3⟩ := hxo
   have Q2 := Lib.hid (fun (W : World) (hb : Below wr.heap.size wr W) => (HG W hb 2 _ rfl : W.cell? ⟨bl, ol + i * 17 + 2, none⟩ = some (.slice y.A y.n y.c)))
   have Q11 := Lib.hid (fun (W : World) (hb : Below wr.heap.size wr W) => (HG W hb 11 _ rfl : W.cell? ⟨bl, ol + i * 17 + 3 + 8, none⟩ = some (.slice y.B1 y.m1 y.c1)))
   have Q12 := Lib.hid (fun (W : World) (hb : Below wr.heap.size wr W) => (HG W hb 12 _ rfl : W.cell? ⟨bl, ol + i * 17 + 3 + 9, none⟩ = some (.slice y.B2 y.m2 y.c2)))
   clear HG
   generalize y.A = xA at *
   generalize y.n = xn at *
   generalize y.c = xc at *
   generalize y.B1 = xA1 at *
   generalize y.m1 = xn1 at *
   generalize y.c1 = xc1 at *
   generalize y.B2 = xA2 at *
   generalize y.m2 = xn2 at *
   generalize y.c2 = xc2 at *
   have W1 := Lib.hid (show IntKind.i64.wrap ((xn : Int) + (xn2 : Int)) = (xn : Int) + (xn2 : Int) from IntWalk.i64_in _ (by omega))
   have W2 := Lib.hid (show IntKind.i64.wrap ((xn : Int) + (xn2 : Int) + (xn1 : Int)) = (xn : Int) + (xn2 : Int) + (xn1 : Int) from IntWalk.i64_in _ (by omega))
   have HS := Lib.hid hs
   clear hs
   go_upto_region 5 with (fail)
   by_cases h5 : 9000 < xn + xn2 + xn1
   ·have i5 : (9000 : Int) < (xn : Int) + (xn2 : Int) + (xn1 : Int) := by omega
    refine wp_relS 26 47 rfl (by kernel_rfl) (by kernel_rfl) ?_
    apply Steps.o1 (MP.eq _) 1 rfl rfl
    ·intro FA x hO hD K hK
     have e3 := hO 3 (by kernel_rfl)
     simp only [eval_tmp, qgT, qgS, qgZ, qoS] at e3
     have ev3 := Lib.hid ((eval_tmp FA 3).trans e3)
     clear hO hD
     go_simp
     exact hK.out _ _ (Ex.refl _) rfl
    apply Steps.o1 (MP.eq _) 2 rfl rfl
    ·intro FA x hO hD K hK
     have e0 := hO 0 (by kernel_rfl)
     simp only [eval_tmp, qgT, qgS, qgZ, qoS] at e0
     have ev0 := Lib.hid ((eval_tmp FA 0).trans e0)
     clear hO hD
     go_simp
     exact hK.out _ _ (Ex.refl _) rfl
    apply Steps.o1 (MP.eq _) 3 rfl rfl
    ·intro FA x hO hD K hK
     have e4 := hO 4 (by kernel_rfl)
     simp only [eval_tmp, qgT, qgS, qgZ, qoS] at e4
     have ev4 := Lib.hid ((eval_tmp FA 4).trans e4)
     clear hO hD
     go_simp
     exact hK.out _ _ (Ex.refl _) rfl
    apply Steps.o1 (MP.eq _) 4 rfl rfl
    ·intro FA x hO hD K hK
     obtain ⟨e16, ev16⟩ := qE (hD 1 16 (by kernel_rfl))
     obtain ⟨e17, ev17⟩ := qE (hD 2 17 (by kernel_rfl))
     clear hO hD
     go_simp
     exact hK.out _ _ (Ex.refl _) rfl
    apply Steps.o1 (MP.eq _) 5 rfl rfl
    ·intro FA x hO hD K hK
     obtain ⟨e18, ev18⟩ := qE (hD 3 18 (by kernel_rfl))
     clear hO hD
     go_simp
     exact hK.out _ _ (Ex.refl _) rfl
    apply Steps.o1 (MP.eq _) 6 rfl rfl
    ·intro FA x hO hD K hK
     obtain ⟨e19, ev19⟩ := qE (hD 4 19 (by kernel_rfl))
     clear hO hD
     have q9 := Q2.out _ (below_plus wr x.bs x.d)
     go_simp
     exact hK.out _ _ (Ex.refl _) rfl
    apply Steps.o1 (MP.eq _) 7 rfl rfl
    ·intro FA x hO hD K hK
     obtain ⟨e20, ev20⟩ := qE (hD 5 20 (by kernel_rfl))
     clear hO hD
     go_simp
     exact hK.out _ _ (Ex.refl _) rfl
    apply Steps.o1 (MP.eq _) 8 rfl rfl
    ·intro FA x hO hD K hK
     have e0 := hO 0 (by kernel_rfl)
     simp only [eval_tmp, qgT, qgS, qgZ, qoS] at e0
     have ev0 := Lib.hid ((eval_tmp FA 0).trans e0)
     clear hO hD
     go_simp
     exact hK.out _ _ (Ex.refl _) rfl
    apply Steps.o1 (MP.eq _) 9 rfl rfl
    ·intro FA x hO hD K hK
     have e4 := hO 4 (by kernel_rfl)
     simp only [eval_tmp, qgT, qgS, qgZ, qoS] at e4
     have ev4 := Lib.hid ((eval_tmp FA 4).trans e4)
     clear hO hD
     go_simp
     exact hK.out _ _ (Ex.refl _) rfl
    apply Steps.o1 (MP.eq _) 10 rfl rfl
    ·intro FA x hO hD K hK
     obtain ⟨e22, ev22⟩ := qE (hD 7 22 (by kernel_rfl))
     obtain ⟨e23, ev23⟩ := qE (hD 8 23 (by kernel_rfl))
     clear hO hD
     go_simp
     exact hK.out _ _ (Ex.refl _) rfl
    apply Steps.o1 (MP.eq _) 11 rfl rfl
    ·intro FA x hO hD K hK
     obtain ⟨e24, ev24⟩ := qE (hD 9 24 (by kernel_rfl))
     clear hO hD
     go_simp
     exact hK.out _ _ (Ex.refl _) rfl
    apply Steps.o1 (MP.eq _) 12 rfl rfl
    ·intro FA x hO hD K hK
     obtain ⟨e25, ev25⟩ := qE (hD 10 25 (by kernel_rfl))
     clear hO hD
     go_simp
     exact hK.out _ _ (Ex.refl _) rfl
    apply Steps.o1 (MP.eq _) 13 rfl rfl
    ·intro FA x hO hD K hK
     obtain ⟨e26, ev26⟩ := qE (hD 11 26 (by kernel_rfl))
     clear hO hD
     have q9 := Q12.out _ (below_plus wr x.bs x.d)
     go_simp
     exact hK.out _ _ (Ex.refl _) rfl
    apply Steps.o1 (MP.eq _) 14 rfl rfl
    ·intro FA x hO hD K hK
     obtain ⟨e27, ev27⟩ := qE (hD 12 27 (by kernel_rfl))
     clear hO hD
     go_simp
     exact hK.out _ _ (Ex.refl _) rfl
    apply Steps.o1 (MP.eq _) 15 rfl rfl
    ·intro FA x hO hD K hK
     obtain ⟨e21, ev21⟩ := qE (hD 6 21 (by kernel_rfl))
     obtain ⟨e28, ev28⟩ := qE (hD 13 28 (by kernel_rfl))
     clear hO hD
     go_simp
     exact hK.out _ _ (Ex.refl _) rfl
    apply Steps.o1 (MP.eq _) 16 rfl rfl
    ·intro FA x hO hD K hK
     have e0 := hO 0 (by kernel_rfl)
     simp only [eval_tmp, qgT, qgS, qgZ, qoS] at e0
     have ev0 := Lib.hid ((eval_tmp FA 0).trans e0)
     clear hO hD
     go_simp
     exact hK.out _ _ (Ex.refl _) rfl
    apply Steps.o1 (MP.eq _) 17 rfl rfl
    ·intro FA x hO hD K hK
     have e4 := hO 4 (by kernel_rfl)
     simp only [eval_tmp, qgT, qgS, qgZ, qoS] at e4
     have ev4 := Lib.hid ((eval_tmp FA 4).trans e4)
     clear hO hD
     go_simp
     exact hK.out _ _ (Ex.refl _) rfl
    apply Steps.o1 (MP.eq _) 18 rfl rfl
    ·intro FA x hO hD K hK
     obtain ⟨e30, ev30⟩ := qE (hD 15 30 (by kernel_rfl))
     obtain ⟨e31, ev31⟩ := qE (hD 16 31 (by kernel_rfl))
     clear hO hD
     go_simp
     exact hK.out _ _ (Ex.refl _) rfl
    apply Steps.o1 (MP.eq _) 19 rfl rfl
    ·intro FA x hO hD K hK
     obtain ⟨e32, ev32⟩ := qE (hD 17 32 (by kernel_rfl))
     clear hO hD
     go_simp
     exact hK.out _ _ (Ex.refl _) rfl
    apply Steps.o1 (MP.eq _) 20 rfl rfl
    ·intro FA x hO hD K hK
     obtain ⟨e33, ev33⟩ := qE (hD 18 33 (by kernel_rfl))
     clear hO hD
     go_simp
     exact hK.out _ _ (Ex.refl _) rfl
    apply Steps.o1 (MP.eq _) 21 rfl rfl
    ·intro FA x hO hD K hK
     obtain ⟨e34, ev34⟩ := qE (hD 19 34 (by kernel_rfl))
     clear hO hD
     have q9 := Q11.out _ (below_plus wr x.bs x.d)
     go_simp
     exact hK.out _ _ (Ex.refl _) rfl
    apply Steps.o1 (MP.eq _) 22 rfl rfl
    ·intro FA x hO hD K hK
     obtain ⟨e35, ev35⟩ := qE (hD 20 35 (by kernel_rfl))
     clear hO hD
     go_simp
     exact hK.out _ _ (Ex.refl _) rfl
    apply Steps.o1 (MP.eq _) 23 rfl rfl
    ·intro FA x hO hD K hK
     obtain ⟨e29, ev29⟩ := qE (hD 14 29 (by kernel_rfl))
     obtain ⟨e36, ev36⟩ := qE (hD 21 36 (by kernel_rfl))
     clear hO hD
     go_simp
     exact hK.out _ _ (Ex.refl _) rfl
    apply Steps.o1 (MP.eq _) 24 rfl rfl
    ·intro FA x hO hD K hK
     obtain ⟨e37, ev37⟩ := qE (hD 22 37 (by kernel_rfl))
     clear hO hD
     go_simp
     exact hK.out _ _ (Ex.refl _) rfl
    apply Steps.o1 (MP.eq _) 25 rfl rfl
    ·intro FA x hO hD K hK
     obtain ⟨e15, ev15⟩ := qE (hD 0 15 (by kernel_rfl))
     obtain ⟨e38, ev38⟩ := qE (hD 23 38 (by kernel_rfl))
     clear hO hD
     go_simp
     exact hK.out _ _ (Ex.refl _) rfl
    apply Steps.o1 (MP.eq _) 26 rfl rfl
    ·intro FA x hO hD K hK
     obtain ⟨e39, ev39⟩ := qE (hD 24 39 (by kernel_rfl))
     clear hO hD
     go_simp
     exact hK.out _ _ (Ex.refl _) rfl
    refine Steps.fin_ (fun vs x hp => ?_)
    have p0 : vs 0 = _ := hp 0 (by omega)
    have p1 : vs 1 = _ := hp 1 (by omega)
    have p2 : vs 2 = _ := hp 2 (by omega)
    have p3 : vs 3 = _ := hp 3 (by omega)
    have p4 : vs 4 = _ := hp 4 (by omega)
    have p5 : vs 5 = _ := hp 5 (by omega)
    have p6 : vs 6 = _ := hp 6 (by omega)
    have p7 : vs 7 = _ := hp 7 (by omega)
    have p8 : vs 8 = _ := hp 8 (by omega)
    have p9 : vs 9 = _ := hp 9 (by omega)
    have p10 : vs 10 = _ := hp 10 (by omega)
    have p11 : vs 11 = _ := hp 11 (by omega)
    have p12 : vs 12 = _ := hp 12 (by omega)
    have p13 : vs 13 = _ := hp 13 (by omega)
    have p14 : vs 14 = _ := hp 14 (by omega)
    have p15 : vs 15 = _ := hp 15 (by omega)
    have p16 : vs 16 = _ := hp 16 (by omega)
    have p17 : vs 17 = _ := hp 17 (by omega)
    have p18 : vs 18 = _ := hp 18 (by omega)
    have p19 : vs 19 = _ := hp 19 (by omega)
    have p20 : vs 20 = _ := hp 20 (by omega)
    have p21 : vs 21 = _ := hp 21 (by omega)
    have p22 : vs 22 = _ := hp 22 (by omega)
    have p23 : vs 23 = _ := hp 23 (by omega)
    have p24 : vs 24 = _ := hp 24 (by omega)
    have p25 : vs 25 = _ := hp 25 (by omega)
    clear hp
    simp only [List.take_succ_cons, List.take_zero, List.drop_succ_cons, List.drop_zero, putAll, Nat.zero_add, Nat.reduceAdd, Act.put, qsT, qsZ, qsS, p0, p1, p2, p3, p4, p5, p6, p7, p8, p9, p10, p11, p12, p13, p14, p15, p16, p17, p18, p19, p20, p21, p22, p23, p24, p25]
    clear p0 p1 p2 p3 p4 p5 p6 p7 p8 p9 p10 p11 p12 p13 p14 p15 p16 p17 p18 p19 p20 p21 p22 p23 p24 p25
    clear vs
    go_wp2
    exact ⟨⟨i + 1, s + 9000, by go_num, by simp only [W1.out, W2.out, if_pos i5]; rw [IntWalk.i64_in _ (by omega)]; push_cast; rfl, by omega, by omega, by have := HS.out; omega, belowP be x.bs x.d⟩, by simp [intOf]; omega⟩
   ·have i5 : ¬ (9000 : Int) < (xn : Int) + (xn2 : Int) + (xn1 : Int) := by omega
    refine wp_relS 26 47 rfl (by kernel_rfl) (by kernel_rfl) ?_
    apply Steps.o1 (MP.eq _) 1 rfl rfl
    ·intro FA x hO hD K hK
     have e3 := hO 3 (by kernel_rfl)
     simp only [eval_tmp, qgT, qgS, qgZ, qoS] at e3
     have ev3 := Lib.hid ((eval_tmp FA 3).trans e3)
     clear hO hD
     go_simp
     exact hK.out _ _ (Ex.refl _) rfl
    apply Steps.o1 (MP.eq _) 2 rfl rfl
    ·intro FA x hO hD K hK
     have e0 := hO 0 (by kernel_rfl)
     simp only [eval_tmp, qgT, qgS, qgZ, qoS] at e0
     have ev0 := Lib.hid ((eval_tmp FA 0).trans e0)
     clear hO hD
     go_simp
     exact hK.out _ _ (Ex.refl _) rfl
    apply Steps.o1 (MP.eq _) 3 rfl rfl
    ·intro FA x hO hD K hK
     have e4 := hO 4 (by kernel_rfl)
     simp only [eval_tmp, qgT, qgS, qgZ, qoS] at e4
     have ev4 := Lib.hid ((eval_tmp FA 4).trans e4)
     clear hO hD
     go_simp
     exact hK.out _ _ (Ex.refl _) rfl
    apply Steps.o1 (MP.eq _) 4 rfl rfl
    ·intro FA x hO hD K hK
     obtain ⟨e16, ev16⟩ := qE (hD 1 16 (by kernel_rfl))
     obtain ⟨e17, ev17⟩ := qE (hD 2 17 (by kernel_rfl))
     clear hO hD
     go_simp
     exact hK.out _ _ (Ex.refl _) rfl
    apply Steps.o1 (MP.eq _) 5 rfl rfl
    ·intro FA x hO hD K hK
     obtain ⟨e18, ev18⟩ := qE (hD 3 18 (by kernel_rfl))
     clear hO hD
     go_simp
     exact hK.out _ _ (Ex.refl _) rfl
    apply Steps.o1 (MP.eq _) 6 rfl rfl
    ·intro FA x hO hD K hK
     obtain ⟨e19, ev19⟩ := qE (hD 4 19 (by kernel_rfl))
     clear hO hD
     have q9 := Q2.out _ (below_plus wr x.bs x.d)
     go_simp
     exact hK.out _ _ (Ex.refl _) rfl
    apply Steps.o1 (MP.eq _) 7 rfl rfl
    ·intro FA x hO hD K hK
     obtain ⟨e20, ev20⟩ := qE (hD 5 20 (by kernel_rfl))
     clear hO hD
     go_simp
     exact hK.out _ _ (Ex.refl _) rfl
    apply Steps.o1 (MP.eq _) 8 rfl rfl
    ·intro FA x hO hD K hK
     have e0 := hO 0 (by kernel_rfl)
     simp only [eval_tmp, qgT, qgS, qgZ, qoS] at e0
     have ev0 := Lib.hid ((eval_tmp FA 0).trans e0)
     clear hO hD
     go_simp
     exact hK.out _ _ (Ex.refl _) rfl
    apply Steps.o1 (MP.eq _) 9 rfl rfl
    ·intro FA x hO hD K hK
     have e4 := hO 4 (by kernel_rfl)
     simp only [eval_tmp, qgT, qgS, qgZ, qoS] at e4
     have ev4 := Lib.hid ((eval_tmp FA 4).trans e4)
     clear hO hD
     go_simp
     exact hK.out _ _ (Ex.refl _) rfl
    apply Steps.o1 (MP.eq _) 10 rfl rfl
    ·intro FA x hO hD K hK
     obtain ⟨e22, ev22⟩ := qE (hD 7 22 (by kernel_rfl))
     obtain ⟨e23, ev23⟩ := qE (hD 8 23 (by kernel_rfl))
     clear hO hD
     go_simp
     exact hK.out _ _ (Ex.refl _) rfl
    apply Steps.o1 (MP.eq _) 11 rfl rfl
    ·intro FA x hO hD K hK
     obtain ⟨e24, ev24⟩ := qE (hD 9 24 (by kernel_rfl))
     clear hO hD
     go_simp
     exact hK.out _ _ (Ex.refl _) rfl
    apply Steps.o1 (MP.eq _) 12 rfl rfl
    ·intro FA x hO hD K hK
     obtain ⟨e25, ev25⟩ := qE (hD 10 25 (by kernel_rfl))
     clear hO hD
     go_simp
     exact hK.out _ _ (Ex.refl _) rfl
    apply Steps.o1 (MP.eq _) 13 rfl rfl
    ·intro FA x hO hD K hK
     obtain ⟨e26, ev26⟩ := qE (hD 11 26 (by kernel_rfl))
     clear hO hD
     have q9 := Q12.out _ (below_plus wr x.bs x.d)
     go_simp
     exact hK.out _ _ (Ex.refl _) rfl
    apply Steps.o1 (MP.eq _) 14 rfl rfl
    ·intro FA x hO hD K hK
     obtain ⟨e27, ev27⟩ := qE (hD 12 27 (by kernel_rfl))
     clear hO hD
     go_simp
     exact hK.out _ _ (Ex.refl _) rfl
    apply Steps.o1 (MP.eq _) 15 rfl rfl
    ·intro FA x hO hD K hK
     obtain ⟨e21, ev21⟩ := qE (hD 6 21 (by kernel_rfl))
     obtain ⟨e28, ev28⟩ := qE (hD 13 28 (by kernel_rfl))
     clear hO hD
     go_simp
     exact hK.out _ _ (Ex.refl _) rfl
    apply Steps.o1 (MP.eq _) 16 rfl rfl
    ·intro FA x hO hD K hK
     have e0 := hO 0 (by kernel_rfl)
     simp only [eval_tmp, qgT, qgS, qgZ, qoS] at e0
     have ev0 := Lib.hid ((eval_tmp FA 0).trans e0)
     clear hO hD
     go_simp
     exact hK.out _ _ (Ex.refl _) rfl
    apply Steps.o1 (MP.eq _) 17 rfl rfl
    ·intro FA x hO hD K hK
     have e4 := hO 4 (by kernel_rfl)
     simp only [eval_tmp, qgT, qgS, qgZ, qoS] at e4
     have ev4 := Lib.hid ((eval_tmp FA 4).trans e4)
     clear hO hD
     go_simp
     exact hK.out _ _ (Ex.refl _) rfl
    apply Steps.o1 (MP.eq _) 18 rfl rfl
    ·intro FA x hO hD K hK
     obtain ⟨e30, ev30⟩ := qE (hD 15 30 (by kernel_rfl))
     obtain ⟨e31, ev31⟩ := qE (hD 16 31 (by kernel_rfl))
     clear hO hD
     go_simp
     exact hK.out _ _ (Ex.refl _) rfl
    apply Steps.o1 (MP.eq _) 19 rfl rfl
    ·intro FA x hO hD K hK
     obtain ⟨e32, ev32⟩ := qE (hD 17 32 (by kernel_rfl))
     clear hO hD
     go_simp
     exact hK.out _ _ (Ex.refl _) rfl
    apply Steps.o1 (MP.eq _) 20 rfl rfl
    ·intro FA x hO hD K hK
     obtain ⟨e33, ev33⟩ := qE (hD 18 33 (by kernel_rfl))
     clear hO hD
     go_simp
     exact hK.out _ _ (Ex.refl _) rfl
    apply Steps.o1 (MP.eq _) 21 rfl rfl
    ·intro FA x hO hD K hK
     obtain ⟨e34, ev34⟩ := qE (hD 19 34 (by kernel_rfl))
     clear hO hD
     have q9 := Q11.out _ (below_plus wr x.bs x.d)
     go_simp
     exact hK.out _ _ (Ex.refl _) rfl
    apply Steps.o1 (MP.eq _) 22 rfl rfl
    ·intro FA x hO hD K hK
     obtain ⟨e35, ev35⟩ := qE (hD 20 35 (by kernel_rfl))
     clear hO hD
     go_simp
     exact hK.out _ _ (Ex.refl _) rfl
    apply Steps.o1 (MP.eq _) 23 rfl rfl
    ·intro FA x hO hD K hK
     obtain ⟨e29, ev29⟩ := qE (hD 14 29 (by kernel_rfl))
     obtain ⟨e36, ev36⟩ := qE (hD 21 36 (by kernel_rfl))
     clear hO hD
     go_simp
     exact hK.out _ _ (Ex.refl _) rfl
    apply Steps.o1 (MP.eq _) 24 rfl rfl
    ·intro FA x hO hD K hK
     obtain ⟨e37, ev37⟩ := qE (hD 22 37 (by kernel_rfl))
     clear hO hD
     go_simp
     exact hK.out _ _ (Ex.refl _) rfl
    apply Steps.o1 (MP.eq _) 25 rfl rfl
    ·intro FA x hO hD K hK
     obtain ⟨e15, ev15⟩ := qE (hD 0 15 (by kernel_rfl))
     obtain ⟨e38, ev38⟩ := qE (hD 23 38 (by kernel_rfl))
     clear hO hD
     go_simp
     exact hK.out _ _ (Ex.refl _) rfl
    apply Steps.o1 (MP.eq _) 26 rfl rfl
    ·intro FA x hO hD K hK
     obtain ⟨e39, ev39⟩ := qE (hD 24 39 (by kernel_rfl))
     clear hO hD
     go_simp
     exact hK.out _ _ (Ex.refl _) rfl
    refine Steps.fin_ (fun vs x hp => ?_)
    have p0 : vs 0 = _ := hp 0 (by omega)
    have p1 : vs 1 = _ := hp 1 (by omega)
    have p2 : vs 2 = _ := hp 2 (by omega)
    have p3 : vs 3 = _ := hp 3 (by omega)
    have p4 : vs 4 = _ := hp 4 (by omega)
    have p5 : vs 5 = _ := hp 5 (by omega)
    have p6 : vs 6 = _ := hp 6 (by omega)
    have p7 : vs 7 = _ := hp 7 (by omega)
    have p8 : vs 8 = _ := hp 8 (by omega)
    have p9 : vs 9 = _ := hp 9 (by omega)
    have p10 : vs 10 = _ := hp 10 (by omega)
    have p11 : vs 11 = _ := hp 11 (by omega)
    have p12 : vs 12 = _ := hp 12 (by omega)
    have p13 : vs 13 = _ := hp 13 (by omega)
    have p14 : vs 14 = _ := hp 14 (by omega)
    have p15 : vs 15 = _ := hp 15 (by omega)
    have p16 : vs 16 = _ := hp 16 (by omega)
    have p17 : vs 17 = _ := hp 17 (by omega)
    have p18 : vs 18 = _ := hp 18 (by omega)
    have p19 : vs 19 = _ := hp 19 (by omega)
    have p20 : vs 20 = _ := hp 20 (by omega)
    have p21 : vs 21 = _ := hp 21 (by omega)
    have p22 : vs 22 = _ := hp 22 (by omega)
    have p23 : vs 23 = _ := hp 23 (by omega)
    have p24 : vs 24 = _ := hp 24 (by omega)
    have p25 : vs 25 = _ := hp 25 (by omega)
    clear hp
    simp only [List.take_succ_cons, List.take_zero, List.drop_succ_cons, List.drop_zero, putAll, Nat.zero_add, Nat.reduceAdd, Act.put, qsT, qsZ, qsS, p0, p1, p2, p3, p4, p5, p6, p7, p8, p9, p10, p11, p12, p13, p14, p15, p16, p17, p18, p19, p20, p21, p22, p23, p24, p25]
    clear p0 p1 p2 p3 p4 p5 p6 p7 p8 p9 p10 p11 p12 p13 p14 p15 p16 p17 p18 p19 p20 p21 p22 p23 p24 p25
    clear vs
    go_wp2
    exact ⟨⟨i + 1, s + (xn + xn2 + xn1), by go_num, by simp only [W1.out, W2.out, if_neg i5]; rw [IntWalk.i64_in _ (by omega)]; push_cast; rfl, by omega, by omega, by have := HS.out; omega, belowP be x.bs x.d⟩, by simp [intOf]; omega⟩
  ·by_cases hin : i < na
   ·have ii : (i : Int) < (na : Int) := by omega
    have i30 : ¬ (i : Int) < 30 := by omega
    by_cases h30 : (na : Int) ≤ 30
    ·by_cases h9 : (s : Int) ≤ 9000
     ·go_wp2
      go_ret
      exact RetAk.mk be
     ·go_wp2
      go_ret
      exact RetAk.mk be
    ·go_wp2
     go_ret
     exact RetAk.mk be
   ·have ii : ¬ (i : Int) < (na : Int) := by omega
    by_cases h30 : (na : Int) ≤ 30
    ·by_cases h9 : (s : Int) ≤ 9000
     ·go_wp2
      go_ret
      exact RetAk.mk be
     ·go_wp2
      go_ret
      exact RetAk.mk be
    ·go_wp2
     go_ret
     exact RetAk.mk be
end

section
open Go.RowKit
attribute [local go_sem ↓] sliced_cut
attribute [local go_sem] cutA_zero
theorem wr4_0 (ts ln id pl tl pr s sl dl : Nat) (o load : List UInt8) (h : 69 + o.length / 4 < 256) : num (((ip4B ts ln id pl tl pr s sl dl o ++ load).drop 0).take 1) = 69 + o.length / 4 := by
 have := num_mid ([]) (dig (ts) 1 ++ dig (ln) 2 ++ dig (id) 2 ++ dig (pl) 2 ++ dig (tl) 1 ++ dig (pr) 1 ++ dig (s) 2 ++ dig (sl) 4 ++ dig (dl) 4 ++ o ++ load) (69 + o.length / 4) 1 0 (by simp [dig_length]) (by omega)
 unfold ip4B
 simpa [List.append_assoc] using this
theorem wr4_1 (ts ln id pl tl pr s sl dl : Nat) (o load : List UInt8) (h : ts < 256) : num (((ip4B ts ln id pl tl pr s sl dl o ++ load).drop 1).take 1) = ts := by
 have := num_mid (dig (69 + o.length / 4) 1) (dig (ln) 2 ++ dig (id) 2 ++ dig (pl) 2 ++ dig (tl) 1 ++ dig (pr) 1 ++ dig (s) 2 ++ dig (sl) 4 ++ dig (dl) 4 ++ o ++ load) (ts) 1 1 (by simp [dig_length]) (by omega)
 unfold ip4B
 simpa [List.append_assoc] using this
theorem wr4_2 (ts ln id pl tl pr s sl dl : Nat) (o load : List UInt8) (h : ln < 65536) : num (((ip4B ts ln id pl tl pr s sl dl o ++ load).drop 2).take 2) = ln := by
 have := num_mid (dig (69 + o.length / 4) 1 ++ dig (ts) 1) (dig (id) 2 ++ dig (pl) 2 ++ dig (tl) 1 ++ dig (pr) 1 ++ dig (s) 2 ++ dig (sl) 4 ++ dig (dl) 4 ++ o ++ load) (ln) 2 2 (by simp [dig_length]) (by omega)
 unfold ip4B
 simpa [List.append_assoc] using this
theorem wr4_3 (ts ln id pl tl pr s sl dl : Nat) (o load : List UInt8) (h : id < 65536) : num (((ip4B ts ln id pl tl pr s sl dl o ++ load).drop 4).take 2) = id := by
 have := num_mid (dig (69 + o.length / 4) 1 ++ dig (ts) 1 ++ dig (ln) 2) (dig (pl) 2 ++ dig (tl) 1 ++ dig (pr) 1 ++ dig (s) 2 ++ dig (sl) 4 ++ dig (dl) 4 ++ o ++ load) (id) 2 4 (by simp [dig_length]) (by omega)
 unfold ip4B
 simpa [List.append_assoc] using this
theorem wr4_4 (ts ln id pl tl pr s sl dl : Nat) (o load : List UInt8) (h : pl < 65536) : num (((ip4B ts ln id pl tl pr s sl dl o ++ load).drop 6).take 2) = pl := by
 have := num_mid (dig (69 + o.length / 4) 1 ++ dig (ts) 1 ++ dig (ln) 2 ++ dig (id) 2) (dig (tl) 1 ++ dig (pr) 1 ++ dig (s) 2 ++ dig (sl) 4 ++ dig (dl) 4 ++ o ++ load) (pl) 2 6 (by simp [dig_length]) (by omega)
 unfold ip4B
 simpa [List.append_assoc] using this
theorem wr4_5 (ts ln id pl tl pr s sl dl : Nat) (o load : List UInt8) (h : tl < 256) : num (((ip4B ts ln id pl tl pr s sl dl o ++ load).drop 8).take 1) = tl := by
 have := num_mid (dig (69 + o.length / 4) 1 ++ dig (ts) 1 ++ dig (ln) 2 ++ dig (id) 2 ++ dig (pl) 2) (dig (pr) 1 ++ dig (s) 2 ++ dig (sl) 4 ++ dig (dl) 4 ++ o ++ load) (tl) 1 8 (by simp [dig_length]) (by omega)
 unfold ip4B
 simpa [List.append_assoc] using this
theorem wr4_6 (ts ln id pl tl pr s sl dl : Nat) (o load : List UInt8) (h : pr < 256) : num (((ip4B ts ln id pl tl pr s sl dl o ++ load).drop 9).take 1) = pr := by
 have := num_mid (dig (69 + o.length / 4) 1 ++ dig (ts) 1 ++ dig (ln) 2 ++ dig (id) 2 ++ dig (pl) 2 ++ dig (tl) 1) (dig (s) 2 ++ dig (sl) 4 ++ dig (dl) 4 ++ o ++ load) (pr) 1 9 (by simp [dig_length]) (by omega)
 unfold ip4B
 simpa [List.append_assoc] using this
theorem wr4_7 (ts ln id pl tl pr s sl dl : Nat) (o load : List UInt8) (h : s < 65536) : num (((ip4B ts ln id pl tl pr s sl dl o ++ load).drop 10).take 2) = s := by
 have := num_mid (dig (69 + o.length / 4) 1 ++ dig (ts) 1 ++ dig (ln) 2 ++ dig (id) 2 ++ dig (pl) 2 ++ dig (tl) 1 ++ dig (pr) 1) (dig (sl) 4 ++ dig (dl) 4 ++ o ++ load) (s) 2 10 (by simp [dig_length]) (by omega)
 unfold ip4B
 simpa [List.append_assoc] using this
theorem wr4_8 (ts ln id pl tl pr s sl dl : Nat) (o load : List UInt8) (h : sl < 4294967296) : num (((ip4B ts ln id pl tl pr s sl dl o ++ load).drop 12).take 4) = sl := by
 have := num_mid (dig (69 + o.length / 4) 1 ++ dig (ts) 1 ++ dig (ln) 2 ++ dig (id) 2 ++ dig (pl) 2 ++ dig (tl) 1 ++ dig (pr) 1 ++ dig (s) 2) (dig (dl) 4 ++ o ++ load) (sl) 4 12 (by simp [dig_length]) (by omega)
 unfold ip4B
 simpa [List.append_assoc] using this
theorem wr4_9 (ts ln id pl tl pr s sl dl : Nat) (o load : List UInt8) (h : dl < 4294967296) : num (((ip4B ts ln id pl tl pr s sl dl o ++ load).drop 16).take 4) = dl := by
 have := num_mid (dig (69 + o.length / 4) 1 ++ dig (ts) 1 ++ dig (ln) 2 ++ dig (id) 2 ++ dig (pl) 2 ++ dig (tl) 1 ++ dig (pr) 1 ++ dig (s) 2 ++ dig (sl) 4) (o ++ load) (dl) 4 16 (by simp [dig_length]) (by omega)
 unfold ip4B
 simpa [List.append_assoc] using this
theorem wr4_opts (ts ln id pl tl pr s sl dl : Nat) (o load : List UInt8) : ((ip4B ts ln id pl tl pr s sl dl o ++ load).drop 20).take o.length = o := by
 unfold ip4B
 rw [show dig (69 + o.length / 4) 1 ++ dig ts 1 ++ dig ln 2 ++ dig id 2 ++ dig pl 2 ++ dig tl 1 ++ dig pr 1 ++ (dig s 2 ++ (dig sl 4 ++ dig dl 4 ++ o)) ++ load = (dig (69 + o.length / 4) 1 ++ dig ts 1 ++ dig ln 2 ++ dig id 2 ++ dig pl 2 ++ dig tl 1 ++ dig pr 1 ++ (dig s 2 ++ (dig sl 4 ++ dig dl 4))) ++ (o ++ load) from by simp [List.append_assoc], List.drop_left' (by simp [dig_length]), List.take_left' rfl]
theorem wr4_load (ts ln id pl tl pr s sl dl : Nat) (o load : List UInt8) (n : Nat) (hn : o.length = n) : (ip4B ts ln id pl tl pr s sl dl o ++ load).drop (20 + n) = load := by
 rw [List.drop_left' (by rw [ip4B_length, hn])]
theorem wr4_head (ts ln id pl tl pr s sl dl : Nat) (o load : List UInt8) (n : Nat) (hn : o.length = n) : (ip4B ts ln id pl tl pr s sl dl o ++ load).take (20 + n) = ip4B ts ln id pl tl pr s sl dl o := by
 rw [List.take_left' (by rw [ip4B_length, hn])]
theorem fd_fill4 (t : Nat) : fd (t + (65535 - fd t)) = 65535 := by
 unfold fd
 split <;> split <;> omega
theorem tot_mid (H R : List UInt8) (hH : H.length % 2 = 0) (s : Nat) (hs : s < 65536) : tot false (H ++ (dig s 2 ++ R)) = tot false H + (s + tot false R) := by
 have h1 : tot false (dig s 2) = s := by rw [dig2 s hs]; simp [tot]; omega
 rw [tot_append, if_pos hH, tot_append, h1, if_pos (by simp [dig_length])]
theorem wr4_sum (ts ln id pl tl pr sl dl : Nat) (o : List UInt8) : 65535 - fd (tot false (ip4B ts ln id pl tl pr (ip4K ts ln id pl tl pr sl dl o) sl dl o)) = 0 := by
 have hk : ip4K ts ln id pl tl pr sl dl o = 65535 - fd (tot false (ip4B ts ln id pl tl pr 0 sl dl o)) := rfl
 have e : ∀ s, s < 65536 → tot false (ip4B ts ln id pl tl pr s sl dl o) = tot false (ip4B ts ln id pl tl pr 0 sl dl o) + s := fun s hs => by
  unfold ip4B
  rw [tot_mid _ _ (by simp [dig_length]) s hs, tot_mid _ _ (by simp [dig_length]) 0 (by decide)]
  omega
 rw [e _ (by rw [hk]; omega), hk, fd_fill4]
end

section
open Go.RowKit
attribute [local go_sem ↓] sliced_cut
attribute [local go_sem] cutA_zero
theorem pl4_st (st mo : Bool) (fo : Nat) (h : fo ≤ 8191) : (pl4 st mo fo / 16384 % 2 == 1) = st := by
 cases st <;> cases mo <;> simp [pl4] <;> omega
theorem pl4_mo (st mo : Bool) (fo : Nat) (h : fo ≤ 8191) : (pl4 st mo fo / 8192 % 2 == 1) = mo := by
 cases st <;> cases mo <;> simp [pl4] <;> omega
theorem pl4_fo (st mo : Bool) (fo : Nat) (h : fo ≤ 8191) : pl4 st mo fo % 8192 = fo := by
 cases st <;> cases mo <;> simp [pl4] <;> omega
theorem hdr4_w (ts ln id : Nat) (st mo : Bool) (fo tl pr sl dl : Nat) (A : Option Addr) (n c : Nat) (o load : List UInt8) (w : World) (h : Rb w A n c (ip4B ts ln id (pl4 st mo fo) tl pr (ip4K ts ln id (pl4 st mo fo) tl pr sl dl o) sl dl o ++ load)) (b1 : ts < 256) (b2 : id < 65536) (b3 : tl < 256) (b4 : pr < 256) (b5 : sl < 4294967296) (b6 : dl < 4294967296) (c1 : o.length ≤ 40) (c2 : o.length % 4 = 0) (c3 : ln = 20 + o.length + load.length) (c4 : ln ≤ 65535) (c5 : fo ≤ 8191) : Calls Tryz.prog 64 #[.slice A n c] w (RetHd w ts ln id st mo fo tl pr (ip4K ts ln id (pl4 st mo fo) tl pr sl dl o) sl dl (20 + o.length) o) := by
 have hn : n = 20 + o.length + load.length := by rw [← h.1, List.length_append, ip4B_length]
 have hk : ip4K ts ln id (pl4 st mo fo) tl pr sl dl o < 65536 := by unfold ip4K; omega
 have hp := pl4_lt st mo fo c5
 have hz : 4 * ((69 + o.length / 4) % 16) = 20 + o.length := by omega
 have t := hdr4_ok A n c (ip4B ts ln id (pl4 st mo fo) tl pr (ip4K ts ln id (pl4 st mo fo) tl pr sl dl o) sl dl o ++ load) w h (by omega) (69 + o.length / 4) ts ln id (pl4 st mo fo) tl pr (ip4K ts ln id (pl4 st mo fo) tl pr sl dl o) sl dl st mo (wr4_0 _ _ _ _ _ _ _ _ _ _ _ (by omega)) (wr4_1 _ _ _ _ _ _ _ _ _ _ _ (by omega)) (wr4_2 _ _ _ _ _ _ _ _ _ _ _ (by omega)) (wr4_3 _ _ _ _ _ _ _ _ _ _ _ (by omega)) (wr4_4 _ _ _ _ _ _ _ _ _ _ _ (by omega)) (wr4_5 _ _ _ _ _ _ _ _ _ _ _ (by omega)) (wr4_6 _ _ _ _ _ _ _ _ _ _ _ (by omega)) (wr4_7 _ _ _ _ _ _ _ _ _ _ _ (by omega)) (wr4_8 _ _ _ _ _ _ _ _ _ _ _ (by omega)) (wr4_9 _ _ _ _ _ _ _ _ _ _ _ (by omega)) (pl4_st st mo fo c5) (pl4_mo st mo fo c5) (by omega) (by omega) (by omega) (by omega) (by omega) (by omega) (by omega) (by rw [hz, wr4_head _ _ _ _ _ _ _ _ _ _ _ _ rfl]; exact wr4_sum _ _ _ _ _ _ _ _ _)
 rw [hz, pl4_fo st mo fo c5, Nat.add_sub_cancel_left, wr4_opts] at t
 exact t
theorem parse4_w (ts ln id : Nat) (st mo : Bool) (fo tl pr sl dl : Nat) (A : Option Addr) (n c : Nat) (o load : List UInt8) (w : World) (h : Rb w A n c (ip4B ts ln id (pl4 st mo fo) tl pr (ip4K ts ln id (pl4 st mo fo) tl pr sl dl o) sl dl o ++ load)) (b1 : ts < 256) (b2 : id < 65536) (b3 : tl < 256) (b4 : pr < 256) (b5 : sl < 4294967296) (b6 : dl < 4294967296) (c1 : o.length ≤ 40) (c2 : o.length % 4 = 0) (c3 : ln = 20 + o.length + load.length) (c4 : ln ≤ 65535) (c5 : fo ≤ 8191) : Calls Tryz.prog 42 #[.slice A n c] w (RetP4 w ts ln id st mo fo tl pr (ip4K ts ln id (pl4 st mo fo) tl pr sl dl o) sl dl o load) := by
 have hn : n = 20 + o.length + load.length := by rw [← h.1, List.length_append, ip4B_length]
 have hk : ip4K ts ln id (pl4 st mo fo) tl pr sl dl o < 65536 := by unfold ip4K; omega
 have hp := pl4_lt st mo fo c5
 have hz : 4 * ((69 + o.length / 4) % 16) = 20 + o.length := by omega
 have t := parse4_ok A n c (ip4B ts ln id (pl4 st mo fo) tl pr (ip4K ts ln id (pl4 st mo fo) tl pr sl dl o) sl dl o ++ load) ts ln id st mo fo tl pr (ip4K ts ln id (pl4 st mo fo) tl pr sl dl o) sl dl (20 + o.length) o w h (by omega) (by omega) (by omega) (by omega) (fun w' hb => hdr4_w ts ln id st mo fo tl pr sl dl A n c o load w' (h.later hb) b1 b2 b3 b4 b5 b6 c1 c2 c3 c4 c5)
 rw [wr4_load _ _ _ _ _ _ _ _ _ _ _ _ rfl, List.take_of_length_le (by omega)] at t
 exact t
end

section
open Go.RowKit
attribute [local go_sem ↓] sliced_cut
attribute [local go_sem] cutA_zero
theorem tcp_good (l : List UInt8) (hl : l.length ≤ 2000000) (g0 : ¬ l.length < 20) (g1 : ¬ num ((l.drop 12).take 1) / 16 < 5) (g2 : num ((l.drop 12).take 1) % 16 = 0) (g3 : ¬ l.length < 4 * (num ((l.drop 12).take 1) / 16)) : TcpAny l (num ((l.drop 0).take 2)) (num ((l.drop 2).take 2)) (num ((l.drop 4).take 4)) (num ((l.drop 8).take 4)) (num ((l.drop 13).take 1)) (num ((l.drop 14).take 2)) (num ((l.drop 16).take 2)) (num ((l.drop 18).take 2)) ((l.drop 20).take (4 * (num ((l.drop 12).take 1) / 16) - 20)) (l.drop (4 * (num ((l.drop 12).take 1) / 16))) 0 := by
 have kf : num ((l.drop 12).take 1) < 256 := num_lt' l 12 1 256 (by decide)
 refine ⟨⟨num_lt' l 0 2 65536 (by decide), num_lt' l 2 2 65536 (by decide), num_lt' l 4 4 4294967296 (by decide), num_lt' l 8 4 4294967296 (by decide), num_lt' l 13 1 256 (by decide), num_lt' l 14 2 65536 (by decide), num_lt' l 16 2 65536 (by decide), num_lt' l 18 2 65536 (by decide)⟩, ⟨?_, ?_, ?_, ?_⟩, fun _ => ⟨by omega, rfl, rfl, g2, by omega, by omega, rfl⟩, fun w A n c h => (tcpParse_okF A n c l w h (by have := h.1; omega) (by have := h.1; omega) _ _ _ _ _ _ _ _ _ rfl rfl rfl rfl rfl rfl rfl rfl rfl (by omega) g2 _ rfl (by have := h.1; omega)).mono fun _ _ => RetSegE.ok, fun w A n c h => (refTcpParse_okF A n c l w h (by have := h.1; omega) (by have := h.1; omega) _ _ _ _ _ _ _ _ _ rfl rfl rfl rfl rfl rfl rfl rfl rfl (by omega) g2 _ rfl (by have := h.1; omega)).mono fun _ _ => RetSegE.ok⟩
 ·rw [List.length_take, List.length_drop]; omega
 ·rw [List.length_take, List.length_drop]; omega
 ·rw [List.length_drop]; omega
 ·rw [List.length_take, List.length_drop, List.length_drop]; omega
def OP33 : List UInt8 := [1, 1, 8, 10, 0, 0, 0, 0, 0, 0, 0, 0]
set_option maxHeartbeats 4000000
set_option maxRecDepth 100000
theorem stamps33 (w : World) : Calls Tryz.prog 24 #[.int .u32 0, .int .u32 0] w (RetB w OP33) := by
 go_enter Tryz.func24, Tryz.ntmps24
 go_upto_region 2 with (fail)
 have r1 : Rb (w.alloc (.cells #[.int .u8 1, .int .u8 1, .int .u8 8, .int .u8 10] 5)) (some ⟨w.heap.size, 0, none⟩) 4 4 [1, 1, 8, 10] := Rb.litW _ _ rfl rfl (by decide) rfl
 have be : Below w.heap.size w (w.alloc (.cells #[.int .u8 1, .int .u8 1, .int .u8 8, .int .u8 10] 5)) := Below.allocS (Below.refl _ _) _
 generalize (w.alloc (.cells #[.int .u8 1, .int .u8 1, .int .u8 8, .int .u8 10] 5)) = V at *
 refine wp_region_lit ?_
 iterate 3 (refine wpList_plain rfl (fun K hK => ?_); go_simp; with_reducible refine hK _ _ ?_; clear hK K)
 refine wpList_plain rfl (fun K hK => ?_)
 go_simp
 refine (put_any _ _ _ _ 0 4 _ r1 (by decide) (by decide) (by decide) (by decide)).mono ?_
 rintro e w1 ⟨A5, n5, k5, bs5, d5, rfl, rfl, o5⟩
 with_reducible refine hK _ _ ?_
 clear hK K
 obtain rfl : n5 = 8 := by rw [← o5.1]; rfl
 iterate 2 (refine wpList_plain rfl (fun K hK => ?_); go_simp; with_reducible refine hK _ _ ?_; clear hK K)
 refine wpList_plain rfl (fun K hK => ?_)
 go_simp
 refine (put_any _ _ _ _ 0 4 _ o5.rb (by decide) (by decide) (by decide) (by decide)).mono ?_
 rintro e w1 ⟨A6, n6, k6, bs6, d6, rfl, rfl, o6⟩
 with_reducible refine hK _ _ ?_
 clear hK K
 obtain rfl : n6 = 12 := by rw [← o6.1]; rfl
 refine wpList_plain rfl (fun K hK => ?_); go_simp; with_reducible refine hK _ _ ?_; clear hK K
 go_wp2
 go_ret
 have b5 := be.trans ((below_plus V bs5 d5).mono be.size)
 exact RetB.mk (o6.mono b5.size) (b5.trans ((below_plus _ bs6 d6).mono b5.size))
theorem run_bP4 (w : World) : (Instr.build 99 #[(3, .bool true), (6, .int .u8 64), (7, .int .u8 6), (9, .agg #[.bool false, .int .u64 0, .int .u64 0]), (10, .agg #[.bool false, .int .u64 0, .int .u64 0])]).run Tryz.prog w = .ok (.agg (h4C 0 0 0 true false ((0 : Nat) : Int) 64 6 0 false 0 0 false 0 0 none 0 0).toArray) w := by kernel_rfl
def pk33 (l : List UInt8) : List UInt8 := ip4B 0 (20 + 0 + l.length) 0 (pl4 true false 0) 64 6 (ip4K 0 (20 + 0 + l.length) 0 (pl4 true false 0) 64 6 0 0 []) 0 0 [] ++ l
theorem carry33 (sp dp g : Nat) (A : Option Addr) (n c : Nat) (l : List UInt8) (w : World) (hB : Bk w g 63 (clC (flC false 0 0 false 0 0 sp dp 6) 0 false 0 0 none 0 0)) (h : Rb w A n c l) (hn : n ≤ 65515) : Calls Tryz.prog 26 #[.pointer (some ⟨g, 0, none⟩), .slice A n c] w (RetBE w (pk33 l) 0) := by
 obtain ⟨dva, va1, va2⟩ := rowAdr
 obtain ⟨dvf, vf1, vf2⟩ := rowFl
 obtain ⟨dvc, vc1, vc2⟩ := rowCl
 have hl := h.1
 have HPK := Lib.hid (fun W (h : Rb W A n c l) => show Calls Tryz.prog 43 #[.agg (h4C 0 0 0 true false ((0 : Nat) : Int) 64 6 0 false 0 0 false 0 0 none 0 0).toArray, .slice A n c] W (RetBE W (pk33 l) 0) from by
  have := packet4_ok 0 0 0 true false 0 64 6 0 0 0 none 0 0 [] A n c l W Rb.nil_ h (by decide) (by decide) (by decide) (by decide) (by decide) (by decide) (by decide) (by decide) (by omega) (by decide)
  rw [← hl] at this ⊢
  exact this)
 clear hl
 go_enter Tryz.func26, Tryz.ntmps26
 go_upto_region 1 with (fail)
 refine wp_region_lit ?_
 iterate 3 (refine wpList_plain rfl (fun K hK => ?_); go_simp; with_reducible refine hK _ _ ?_; clear hK K)
 refine wpList_ldA (t := 63) (cs := clC (flC false 0 0 false 0 0 sp dp 6) 0 false 0 0 none 0 0) 27 (.tmp 9) rfl rfl (flC false 0 0 false 0 0 sp dp 6) rfl (hB) rfl vf1 vf2 (szFl _ _ _ _ _ _ _ _ _ ) ?_
 refine wpList_plain rfl (fun K hK => ?_); go_simp; with_reducible refine hK _ _ ?_; clear hK K
 refine wpList_stA (t := 27) 27 (.tmp 6) (.tmp 10) rfl rfl (flC false 0 0 false 0 0 sp dp 6) fz rfl (flC_one _ _ _ _ _ _ _ _ _ ) rfl rfl (Bk.new _ _ _) (szFl _ _ _ _ _ _ _ _ _ ) ?_
 intro W1 h1 g1
 simp only [Act.put, qsT, qsZ, qsS]
 have be : Below w.heap.size w W1 := below_grown (Below.allocS (Below.refl _ _) _) g1 (Nat.le_refl _)
 have q0 : W1.cell? ⟨w.heap.size, 0, none⟩ = some (.bool false) := h1.cell 0
 go_upto_region 4 with (fail)
 clear q0
 refine wp_region_lit ?_
 refine wpList_plain rfl (fun K hK => ?_); go_simp; with_reducible refine hK _ _ ?_; clear hK K
 refine wpList_ld1 (t := 27) (cs := flC false 0 0 false 0 0 sp dp 6) 5 (.tmp 25) rfl (by rfl) rfl (h1) rfl Tryz.underlying5 rfl ?_
 refine wpList_plain rfl (fun K hK => ?_); go_simp; with_reducible refine hK _ _ ?_; clear hK K
 refine wpList_ldA (t := 27) (cs := flC false 0 0 false 0 0 sp dp 6) 24 (.tmp 27) rfl rfl ([.bool false, .int .u64 0, .int .u64 0]) rfl (h1) rfl va1 va2 (szAdr false 0 0) ?_
 refine wpList_plain rfl (fun K hK => ?_); go_simp; with_reducible refine hK _ _ ?_; clear hK K
 refine wpList_ldA (t := 27) (cs := flC false 0 0 false 0 0 sp dp 6) 24 (.tmp 29) rfl rfl ([.bool false, .int .u64 0, .int .u64 0]) rfl (h1) rfl va1 va2 (szAdr false 0 0) ?_
 simp only [Act.put, qsT, qsZ, qsS]
 refine wpList_build 99 [(3, .const (.bool true)), (6, .const (.int .u8 64)), (7, .tmp 26), (9, .tmp 28), (10, .tmp 30)] rfl rfl (.agg (h4C 0 0 0 true false ((0 : Nat) : Int) 64 6 0 false 0 0 false 0 0 none 0 0).toArray) (run_bP4 _) ?_
 refine wpList_plain rfl (fun K hK => ?_); go_simp; with_reducible refine hK _ _ ?_; clear hK K
 refine wpList_plain rfl (fun K hK => ?_)
 go_simp
 refine (HPK.out _ (h.later be)).mono ?_
 rintro e w1 ⟨A7, n7, k7, bs7, d7, rfl, rfl, r7⟩
 with_reducible refine hK _ _ ?_
 clear hK K
 iterate 4 (refine wpList_plain rfl (fun K hK => ?_); go_simp; with_reducible refine hK _ _ ?_; clear hK K)
 go_wp2
 go_ret2
 obtain ⟨bs9, d9, hw9⟩ := plus_of (be.trans ((below_plus W1 bs7 d7).mono be.size))
 exact ⟨A7, n7, k7, bs9, d9, rfl, hw9, by rw [← hw9]; exact r7⟩
def T33 (sp dp : Nat) : List UInt8 := tcpB sp dp 0 0 (80 + 12 / 4 * 16) 2 65535 (sumOfT false 0 0 false 0 0 sp dp 0 0 2 65535 0 OP33 []) 0 OP33 []
def X33 : PI := { si := false, st := true, tl := 64, s6 := false, sh := 0, sl := 0, d6 := false, dh := 0, dl := 0, sp := num (((T33 0 80).drop 0).take 2), dp := num (((T33 0 80).drop 2).take 2), pr := 6, x0 := num (((T33 0 80).drop 0).take 2), x1 := num (((T33 0 80).drop 2).take 2), x2 := num (((T33 0 80).drop 4).take 4), x3 := num (((T33 0 80).drop 8).take 4), x4 := num (((T33 0 80).drop 13).take 1), x5 := num (((T33 0 80).drop 14).take 2), x6 := num (((T33 0 80).drop 16).take 2), x7 := num (((T33 0 80).drop 18).take 2), o1 := ((T33 0 80).drop 20).take (4 * (num (((T33 0 80).drop 12).take 1) / 16) - 20), o2 := (T33 0 80).drop (4 * (num (((T33 0 80).drop 12).take 1) / 16)) }
theorem x33_4 : X33.x4 = 2 := by decide +kernel
theorem x33_o : X33.o1 = OP33 := by decide +kernel
theorem op33_s : (stampsAt OP33).isSome = true := by decide +kernel
theorem op33_w : stW OP33 = 0 := by decide +kernel
theorem t33_len : (T33 0 80).length = 32 := by decide +kernel
theorem t33_any : TcpAny (T33 0 80) (num (((T33 0 80).drop 0).take 2)) (num (((T33 0 80).drop 2).take 2)) (num (((T33 0 80).drop 4).take 4)) (num (((T33 0 80).drop 8).take 4)) (num (((T33 0 80).drop 13).take 1)) (num (((T33 0 80).drop 14).take 2)) (num (((T33 0 80).drop 16).take 2)) (num (((T33 0 80).drop 18).take 2)) (((T33 0 80).drop 20).take (4 * (num (((T33 0 80).drop 12).take 1) / 16) - 20)) ((T33 0 80).drop (4 * (num (((T33 0 80).drop 12).take 1) / 16))) 0 := tcp_good _ (by decide +kernel) (by decide +kernel) (by decide +kernel) (by decide +kernel) (by decide +kernel)
theorem t33_fine : tkW 0 (65535 - fd (tcT false 0 0 false 0 0 (T33 0 80)) == 0) = 0 := by decide +kernel
theorem pk33_cons : ∃ r, pk33 (T33 0 80) = 69 :: r := ⟨(pk33 (T33 0 80)).drop 1, by decide +kernel⟩
theorem read33 (A : Option Addr) (n c : Nat) (w : World) (h : Rb w A n c (pk33 (T33 0 80))) : Calls Tryz.prog 13 #[.slice A n c] w (RetPI w X33 0) := by
 have up : ∀ w1, Below w.heap.size w w1 → ∀ w2, Below w1.heap.size w1 w2 → Below w.heap.size w w2 := fun w1 h1 w2 h2 => h1.trans (h2.mono h1.size)
 obtain ⟨r, hr⟩ := pk33_cons
 have hl := t33_len
 have HS : ∀ w', Below w.heap.size w w' → Calls Tryz.prog 39 #[.slice A n c] w' fun e w2 => e = .returned (.tuple #[.bool false, .int .i64 0]) ∧ w' = w2 := fun w' hb => tunSix A n c (69 :: r) w' (by rw [← hr]; exact h.later hb) 4 false 0 (.four _ _ (by decide))
 have HP : ∀ w', Below w.heap.size w w' → Calls Tryz.prog 42 #[.slice A n c] w' (RetPE w' 0 52 0 true false 0 64 6 (ip4K 0 52 0 (pl4 true false 0) 64 6 0 0 []) 0 0 [] (T33 0 80) 0) := fun w' hb => by
  have hh := h.later hb
  unfold pk33 at hh
  rw [hl] at hh
  exact parse4_w 0 52 0 true false 0 64 6 0 0 A n c [] (T33 0 80) w' hh (by decide) (by decide) (by decide) (by decide) (by decide) (by decide) (by decide) (by decide) (by rw [hl]; rfl) (by decide) (by decide)
 have Lx : Lk false true 64 false 0 0 0 0 6 false (T33 0 80) 1 0 X33 0 := .go rfl rfl (by decide) _ _ (.tOk _ _ _ _ _ _ _ _ _ _ 0 t33_any rfl t33_fine)
 exact pkRead A n c X33 0 w (fun w1 hb => look_all A n c false true 64 false 0 0 0 0 6 false (T33 0 80) 1 0 w1 X33 0 Lx (by decide) (by decide) (by omega) (by decide) (by decide) (by decide) (by decide) (fun w2 hb2 => open_4 A n c w2 0 52 0 true false 0 64 6 _ 0 0 [] (T33 0 80) 0 (fun w3 hb3 => HS w3 (up w2 (up w1 hb w2 hb2) w3 hb3)) (fun w3 hb3 => HP w3 (up w2 (up w1 hb w2 hb2) w3 hb3))))
end

section
open Go.RowKit
attribute [local go_sem ↓] sliced_cut
attribute [local go_sem] cutA_zero
theorem run_bS3 (sp dp : Nat) (w : World) : (Instr.build 49 #[(0, .int .u16 (sp : Int)), (1, .int .u16 (dp : Int)), (2, .int .u32 0), (4, .int .u8 2), (5, .int .u16 65535), (9, .slice none 0 0)]).run Tryz.prog w = .ok (.agg (sgC sp dp 0 0 2 65535 0 0 none 0 0 none 0 0).toArray) w := by kernel_rfl
theorem run_bF3 (w : World) : (Instr.build 27 #[(4, .int .u8 6), (3, .int .u16 80)]).run Tryz.prog w = .ok (.agg (flC false 0 0 false 0 0 0 80 6).toArray) w := by kernel_rfl
def MP.rbK (n : Nat) (l : List UInt8) : MP := ⟨fun v w => ∃ A c, v = .slice A n c ∧ Rb w A n c l, fun _ _ _ ⟨A, c, h1, h2⟩ h => ⟨A, c, h1, h2.later h.below⟩⟩
def MP.rbF (l : List UInt8) (G : Value → Value) : MP := ⟨fun v w => ∃ A n c, v = G (.slice A n c) ∧ Rb w A n c l, fun _ _ _ ⟨A, n, c, h1, h2⟩ h => ⟨A, n, c, h1, h2.later h.below⟩⟩
def MP.sgr (G : Option Addr × Nat → Option Addr × Nat → List Value) (l l2 : List UInt8) : MP := ⟨fun v w => ∃ o p, v = .agg (G o p).toArray ∧ Rb w o.1 12 o.2 l ∧ Rb w p.1 0 p.2 l2, fun _ _ _ ⟨o, p, h1, h2, h3⟩ h => ⟨o, p, h1, h2.later h.below, h3.later h.below⟩⟩
def RetS3 (w : World) (g : Nat) (l : List UInt8) (e : Ending) (w' : World) : Prop := ∃ A n c, e = .returned (.tuple #[.slice A n c, .int .i64 0]) ∧ Rb w' A n c l ∧ Chg (fun k => k = g) w w'
set_option maxHeartbeats 4000000
set_option maxRecDepth 100000
theorem send33 (sp dp : Nat) (hsp : sp < 65536) (hdp : dp < 65536) (g : Nat) (w : World) (hB : Bk w g 63 (clC (flC false 0 0 false 0 0 sp dp 6) 0 false 0 0 none 0 0)) : Calls Tryz.prog 12 #[.pointer (some ⟨g, 0, none⟩), .int .u8 2, .slice none 0 0] w (RetS3 w g (pk33 (T33 sp dp))) := by
 obtain ⟨dvc, vc1, vc2⟩ := rowCl
 obtain ⟨dvt, u1, u2⟩ := rowSG
 obtain ⟨dva, va1, va2⟩ := rowAdr
 have hb2 : (bits .and .u8 ((2 : Nat) : Int) 23 == 2) = true := by decide +kernel
 have q8 : w.cell? ⟨g, 8, none⟩ = some (.int .u8 6) := hB.cell 8
 have hgl := hB.lt
 go_enter Tryz.func12, Tryz.ntmps12
 go_upto_region 5 with (fail)
 refine wp_relS 18 92 rfl (by kernel_rfl) (by kernel_rfl) ?_
 apply Steps.o1 (MP.eq _) 1 rfl rfl
 ·intro FA x hO hD K hK
  have e0 := hO 0 (by kernel_rfl)
  simp only [eval_tmp, qgT, qgS, qgZ, qoS] at e0
  have ev0 := Lib.hid ((eval_tmp FA 0).trans e0)
  clear hO hD
  go_simp
  exact hK.out _ _ (Ex.refl _) rfl
 apply Steps.o1 (MP.eq _) 2 rfl rfl
 ·intro FA x hO hD K hK
  obtain ⟨e20, ev20⟩ := qE (hD 0 20 (by kernel_rfl))
  clear hO hD
  go_simp
  exact hK.out _ _ (Ex.refl _) rfl
 apply Steps.o1 (MP.eq _) 3 rfl rfl
 ·intro FA x hO hD K hK
  obtain ⟨e21, ev21⟩ := qE (hD 1 21 (by kernel_rfl))
  clear hO hD
  go_simp
  exact hK.out _ _ (Ex.refl _) rfl
 apply Steps.o1 (MP.eq _) 4 rfl rfl
 ·intro FA x hO hD K hK
  obtain ⟨e22, ev22⟩ := qE (hD 2 22 (by kernel_rfl))
  clear hO hD
  go_simp
  exact hK.out _ _ (Ex.refl _) rfl
 apply Steps.o1 (MP.eq _) 5 rfl rfl
 ·intro FA x hO hD K hK
  obtain ⟨e23, ev23⟩ := qE (hD 3 23 (by kernel_rfl))
  clear hO hD
  refine wanted_if rfl ?_
  refine wp_ld1 25 (.tmp 23) rfl ev23.out (hB.later (below_plus _ _ _)) rfl Tryz.underlying25 rfl ?_
  exact hK.out _ _ (Ex.refl _) rfl
 apply Steps.o1 (MP.eq _) 6 rfl rfl
 ·intro FA x hO hD K hK
  have e0 := hO 0 (by kernel_rfl)
  simp only [eval_tmp, qgT, qgS, qgZ, qoS] at e0
  have ev0 := Lib.hid ((eval_tmp FA 0).trans e0)
  clear hO hD
  go_simp
  exact hK.out _ _ (Ex.refl _) rfl
 apply Steps.o1 (MP.eq _) 7 rfl rfl
 ·intro FA x hO hD K hK
  obtain ⟨e25, ev25⟩ := qE (hD 5 25 (by kernel_rfl))
  clear hO hD
  go_simp
  exact hK.out _ _ (Ex.refl _) rfl
 apply Steps.o1 (MP.eq _) 8 rfl rfl
 ·intro FA x hO hD K hK
  obtain ⟨e26, ev26⟩ := qE (hD 6 26 (by kernel_rfl))
  clear hO hD
  go_simp
  exact hK.out _ _ (Ex.refl _) rfl
 apply Steps.o1 (MP.eq _) 9 rfl rfl
 ·intro FA x hO hD K hK
  obtain ⟨e27, ev27⟩ := qE (hD 7 27 (by kernel_rfl))
  clear hO hD
  go_simp
  exact hK.out _ _ (Ex.refl _) rfl
 apply Steps.o1 (MP.eq _) 10 rfl rfl
 ·intro FA x hO hD K hK
  obtain ⟨e28, ev28⟩ := qE (hD 8 28 (by kernel_rfl))
  clear hO hD
  refine wanted_if rfl ?_
  refine wp_ld1 25 (.tmp 28) rfl ev28.out (hB.later (below_plus _ _ _)) rfl Tryz.underlying25 rfl ?_
  exact hK.out _ _ (Ex.refl _) rfl
 apply Steps.o1 (MP.eq _) 11 rfl rfl
 ·intro FA x hO hD K hK
  have e0 := hO 0 (by kernel_rfl)
  simp only [eval_tmp, qgT, qgS, qgZ, qoS] at e0
  have ev0 := Lib.hid ((eval_tmp FA 0).trans e0)
  clear hO hD
  go_simp
  exact hK.out _ _ (Ex.refl _) rfl
 apply Steps.o1 (MP.eq _) 12 rfl rfl
 ·intro FA x hO hD K hK
  obtain ⟨e30, ev30⟩ := qE (hD 10 30 (by kernel_rfl))
  clear hO hD
  go_simp
  exact hK.out _ _ (Ex.refl _) rfl
 apply Steps.o1 (MP.eq _) 13 rfl rfl
 ·intro FA x hO hD K hK
  obtain ⟨e31, ev31⟩ := qE (hD 11 31 (by kernel_rfl))
  clear hO hD
  go_simp
  exact hK.out _ _ (Ex.refl _) rfl
 apply Steps.o1 (MP.eq _) 14 rfl rfl
 ·intro FA x hO hD K hK
  obtain ⟨e32, ev32⟩ := qE (hD 12 32 (by kernel_rfl))
  clear hO hD
  refine wanted_if rfl ?_
  refine wp_ld1 34 (.tmp 32) rfl ev32.out (hB.later (below_plus _ _ _)) rfl Tryz.underlying34 rfl ?_
  exact hK.out _ _ (Ex.refl _) rfl
 apply Steps.o1 (MP.eq _) 15 rfl rfl
 ·intro FA x hO hD K hK
  have e1 := hO 1 (by kernel_rfl)
  simp only [eval_tmp, qgT, qgS, qgZ, qoS] at e1
  have ev1 := Lib.hid ((eval_tmp FA 1).trans e1)
  clear hO hD
  go_simp
  exact hK.out _ _ (Ex.refl _) rfl
 apply Steps.o1 (MP.eq _) 16 rfl rfl
 ·intro FA x hO hD K hK
  have e2 := hO 2 (by kernel_rfl)
  simp only [eval_tmp, qgT, qgS, qgZ, qoS] at e2
  have ev2 := Lib.hid ((eval_tmp FA 2).trans e2)
  clear hO hD
  go_simp
  exact hK.out _ _ (Ex.refl _) rfl
 apply Steps.o1 (MP.eq (.agg (sgC sp dp 0 0 2 65535 0 0 none 0 0 none 0 0).toArray)) 17 rfl rfl
 ·intro FA x hO hD K hK
  obtain ⟨e24, ev24⟩ := qE (hD 4 24 (by kernel_rfl))
  obtain ⟨e29, ev29⟩ := qE (hD 9 29 (by kernel_rfl))
  obtain ⟨e33, ev33⟩ := qE (hD 13 33 (by kernel_rfl))
  obtain ⟨e34, ev34⟩ := qE (hD 14 34 (by kernel_rfl))
  obtain ⟨e35, ev35⟩ := qE (hD 15 35 (by kernel_rfl))
  clear hO hD
  refine wanted_if rfl ?_
  refine wp_buildV 49 [(0, .tmp 24), (1, .tmp 29), (2, .tmp 33), (4, .tmp 34), (5, .const (.int .u16 65535)), (9, .tmp 35)] rfl (.agg (sgC sp dp 0 0 2 65535 0 0 none 0 0 none 0 0).toArray) (by simp only [List.map_cons, List.map_nil, ev24.out, ev29.out, ev33.out, ev34.out, ev35.out]; exact run_bS3 _ _ _) ?_
  exact hK.out _ _ (Ex.refl _) rfl
 apply Steps.o1 (MP.blk w.heap.size 49 (sgC 0 0 0 0 0 0 0 0 none 0 0 none 0 0)) 18 rfl rfl
 ·intro FA x hO hD K hK
  clear hO hD
  go_simp
  refine hK.out _ _ (Ex.alloc _ _) ⟨_, rfl, ?_, ?_⟩
  ·simp [size_plus]
  ·refine Bk.newK _ _ _ ?_ rfl
   simp [size_plus]
 refine Steps.fin_ (fun vs x hp => ?_)
 have p0 : vs 0 = _ := hp 0 (by omega)
 have p1 : vs 1 = _ := hp 1 (by omega)
 have p2 : vs 2 = _ := hp 2 (by omega)
 have p3 : vs 3 = _ := hp 3 (by omega)
 have p4 : vs 4 = _ := hp 4 (by omega)
 have p5 : vs 5 = _ := hp 5 (by omega)
 have p6 : vs 6 = _ := hp 6 (by omega)
 have p7 : vs 7 = _ := hp 7 (by omega)
 have p8 : vs 8 = _ := hp 8 (by omega)
 have p9 : vs 9 = _ := hp 9 (by omega)
 have p10 : vs 10 = _ := hp 10 (by omega)
 have p11 : vs 11 = _ := hp 11 (by omega)
 have p12 : vs 12 = _ := hp 12 (by omega)
 have p13 : vs 13 = _ := hp 13 (by omega)
 have p14 : vs 14 = _ := hp 14 (by omega)
 have p15 : vs 15 = _ := hp 15 (by omega)
 have p16 : vs 16 = _ := hp 16 (by omega)
 have p17 := hp 17 (by omega)
 clear hp
 simp only [List.take_succ_cons, List.take_zero, List.drop_succ_cons, List.drop_zero, putAll, Nat.zero_add, Nat.reduceAdd, Act.put, qsT, qsZ, qsS, p0, p1, p2, p3, p4, p5, p6, p7, p8, p9, p10, p11, p12, p13, p14, p15, p16]
 clear p0 p1 p2 p3 p4 p5 p6 p7 p8 p9 p10 p11 p12 p13 p14 p15 p16
 generalize vs 17 = y17 at *
 clear vs
 obtain ⟨gs, rfl, zgs, hs0⟩ := p17
 clear q8
 have hb0 := below_plus w x.bs x.d
 replace hB := hB.later hb0
 generalize plus w x.bs x.d = V0 at *
 refine wpList_stA (t := 49) 49 (.tmp 8) (.tmp 36) rfl rfl (sgC sp dp 0 0 2 65535 0 0 none 0 0 none 0 0) (sgC 0 0 0 0 0 0 0 0 none 0 0 none 0 0) rfl (sgC_one _ _ _ _ _ _ _ _ _ _ _ _ _ _ ) rfl rfl hs0 (szSG _ _ _ _ _ _ _ _ _ _ _ _ _ _ ) ?_
 intro W1 h1 g1
 simp only [Act.put, qsT, qsZ, qsS]
 have be1 : Below w.heap.size w W1 := below_grown hb0 g1 zgs
 have hB1 := hB.grown g1 (fun e => by injection e with e; omega)
 clear hB g1 hs0
 have q9 : W1.cell? ⟨g, 9, none⟩ = some (.int .u32 0) := hB1.cell 9
 go_upto_region 7 with (fail)
 clear q9
 refine wp_region_lit ?_
 refine wpList_ldA (t := 49) 49 (.tmp 8) rfl rfl (sgC sp dp 0 0 2 65535 0 0 none 0 0 none 0 0) rfl (h1) (whole_ _) u1 u2 (szSG _ _ _ _ _ _ _ _ _ _ _ _ _ _ ) ?_
 refine wpList_plain rfl (fun K hK => ?_)
 go_simp
 refine (tcpFirst_any _ _ _ _ _ _ _ _ _ _ _ _ _ _ _).mono ?_
 rintro e w1 ⟨rfl, bs3, d3, rfl⟩
 rw [hb2]
 with_reducible refine hK _ _ ?_
 clear hK K
 have hbt := below_plus W1 bs3 d3
 have hB2 := hB1.later hbt
 have h2 := h1.later hbt
 have be2 := be1.trans (hbt.mono be1.size)
 clear hbt h1 hB1 be1
 generalize plus W1 bs3 d3 = W2 at *
 go_upto_region 9 with (fail)
 refine wp_region_lit ?_
 iterate 3 (refine wpList_plain rfl (fun K hK => ?_); go_simp; with_reducible refine hK _ _ ?_; clear hK K)
 refine wpList_ld1 (t := 63) (cs := clC (flC false 0 0 false 0 0 sp dp 6) 0 false 0 0 none 0 0) 34 (.tmp 45) rfl (by rfl) rfl (hB2) rfl Tryz.underlying34 rfl ?_
 refine wpList_plain rfl (fun K hK => ?_); go_simp; with_reducible refine hK _ _ ?_; clear hK K
 refine wpList_plain rfl (fun K hK => ?_)
 go_simp
 refine (stamps33 _).mono ?_
 rintro e w1 ⟨A7, n7, k7, bs7, d7, rfl, rfl, ho7⟩
 with_reducible refine hK _ _ ?_
 clear hK K
 obtain rfl : n7 = 12 := by rw [← ho7.1]; rfl
 have c5_ := below_plus W2 bs7 d7
 have h2p := h2.later c5_
 refine wpList_plain rfl (fun K hK => ?_); go_simp; with_reducible refine hK _ _ ?_; clear hK K
 refine wpList_st1 (v := .slice A7 12 k7) (t := 49) (cs := sgC sp dp 0 0 2 65535 0 0 none 0 0 none 0 0) (off := 8) 37 (.tmp 49) (.tmp 48) rfl rfl rfl rfl h2p (Nat.le_of_ble_eq_true rfl) rfl (by kernel_rfl) ?_
 intro W3 h3 g3
 simp only [Act.put, qsT, qsZ, qsS]
 have hB3 := (hB2.later c5_).grown g3 (fun e => by injection e with e; omega)
 replace h3 : Bk W3 gs 49 (sgC sp dp 0 0 2 65535 0 0 A7 12 k7 none 0 0) := h3
 have hgs2 := h2.lt
 have r73 := (ho7.grown g3 (fun k hk e => by have := (ho7.blk k hk).1; injection e with e; omega)).rb
 have be3 : Below w.heap.size w W3 := below_grown (be2.trans (c5_.mono be2.size)) g3 (by omega)
 clear c5_ h2p g3 ho7 h2 hB2 be2
 go_upto_region 10 with (fail)
 refine wp_region_lit ?_
 refine wpList_ldA (t := 49) 49 (.tmp 8) rfl rfl (sgC sp dp 0 0 2 65535 0 0 A7 12 k7 none 0 0) rfl (h3) (whole_ _) u1 u2 (szSG _ _ _ _ _ _ _ _ _ _ _ _ _ _ ) ?_
 refine wpList_plain rfl (fun K hK => ?_)
 go_simp
 refine (tcpRight_yes sp dp 0 0 2 65535 0 0 A7 12 k7 none 0 0 _ (by decide) (by decide) (by decide)).mono ?_
 rintro e w1 ⟨bs8, d8, rfl, rfl⟩
 with_reducible refine hK _ _ ?_
 clear hK K
 refine wpList_plain rfl (fun K hK => ?_); go_simp; with_reducible refine hK _ _ ?_; clear hK K
 have hb8 := below_plus W3 bs8 d8
 have hB4 := hB3.later hb8
 have h4 := h3.later hb8
 have r7 := r73.later hb8
 have be4 := be3.trans (hb8.mono be3.size)
 clear hb8 hB3 h3 r73 be3
 generalize plus W3 bs8 d8 = W4 at *
 obtain ⟨sM, hsM⟩ : ∃ s, sumOfT false 0 0 false 0 0 sp dp 0 0 2 65535 0 OP33 [] = s := ⟨_, rfl⟩
 have HSM := Lib.hid (fun W (h : Rb W A7 12 k7 OP33) => (hsM ▸ segSummed sp dp 0 0 2 65535 0 0 A7 12 k7 none 0 0 false 0 0 false 0 0 OP33 [] W hsp hdp (by decide) (by decide) (by decide) (by decide) (by decide) (by decide) (by decide) (by decide) (by decide) h Rb.nil_ (by decide) (by decide) (by decide) : Calls Tryz.prog 27 #[.agg (sgC sp dp 0 0 2 65535 0 0 A7 12 k7 none 0 0).toArray, .agg (adC false 0 0).toArray, .agg (adC false 0 0).toArray] W (RetSO W sp dp 0 0 2 65535 sM 0 OP33 [])))
 have HBY := Lib.hid (fun W A5 k5 A6 k6 (h5 : Rb W A5 12 k5 OP33) (h6 : Rb W A6 0 k6 []) => (by have := tcpBytes_yes sp dp 0 0 2 65535 sM 0 A5 12 k5 A6 0 k6 OP33 [] W hsp hdp (by decide) (by decide) (by decide) (by decide) (by rw [← hsM]; unfold sumOfT; omega) (by decide) h5 h6 (by decide) (by decide) (by decide); rw [← hsM] at this ⊢; exact this : Calls Tryz.prog 28 #[.agg (sgC sp dp 0 0 2 65535 sM 0 A5 12 k5 A6 0 k6).toArray] W (RetB W (T33 sp dp))))
 have HTL := Lib.hid (show (T33 sp dp).length = 32 by unfold T33; rw [tcpB_lenS]; rfl)
 have HCR := Lib.hid (fun A9 k9 W hB h => carry33 sp dp g A9 32 k9 (T33 sp dp) W hB h (by decide))
 generalize pk33 (T33 sp dp) = PKT at *
 clear hsM
 go_upto_region 12 with (fail)
 refine wp_relS 20 92 rfl (by kernel_rfl) (by kernel_rfl) ?_
 apply Steps.o1 (MP.eq _) 1 rfl rfl
 ·intro FA x hO hD K hK
  have e0 := hO 0 (by kernel_rfl)
  simp only [eval_tmp, qgT, qgS, qgZ, qoS] at e0
  have ev0 := Lib.hid ((eval_tmp FA 0).trans e0)
  clear hO hD
  go_simp
  exact hK.out _ _ (Ex.refl _) rfl
 apply Steps.o1 (MP.eq _) 2 rfl rfl
 ·intro FA x hO hD K hK
  have e8 := hO 8 (by kernel_rfl)
  simp only [eval_tmp, qgT, qgS, qgZ, qoS] at e8
  have ev8 := Lib.hid ((eval_tmp FA 8).trans e8)
  clear hO hD
  refine wanted_if rfl ?_
  refine wp_ldA 49 (.tmp 8) rfl (sgC sp dp 0 0 2 65535 0 0 A7 12 k7 none 0 0) ev8.out (h4.later (below_plus _ _ _)) (whole_ _) u1 u2 (szSG _ _ _ _ _ _ _ _ _ _ _ _ _ _ ) ?_
  exact hK.out _ _ (Ex.refl _) rfl
 apply Steps.o1 (MP.eq _) 3 rfl rfl
 ·intro FA x hO hD K hK
  have e0 := hO 0 (by kernel_rfl)
  simp only [eval_tmp, qgT, qgS, qgZ, qoS] at e0
  have ev0 := Lib.hid ((eval_tmp FA 0).trans e0)
  clear hO hD
  go_simp
  exact hK.out _ _ (Ex.refl _) rfl
 apply Steps.o1 (MP.eq _) 4 rfl rfl
 ·intro FA x hO hD K hK
  obtain ⟨e56, ev56⟩ := qE (hD 2 56 (by kernel_rfl))
  clear hO hD
  go_simp
  exact hK.out _ _ (Ex.refl _) rfl
 apply Steps.o1 (MP.eq _) 5 rfl rfl
 ·intro FA x hO hD K hK
  obtain ⟨e57, ev57⟩ := qE (hD 3 57 (by kernel_rfl))
  clear hO hD
  go_simp
  exact hK.out _ _ (Ex.refl _) rfl
 apply Steps.o1 (MP.eq _) 6 rfl rfl
 ·intro FA x hO hD K hK
  obtain ⟨e58, ev58⟩ := qE (hD 4 58 (by kernel_rfl))
  clear hO hD
  go_simp
  exact hK.out _ _ (Ex.refl _) rfl
 apply Steps.o1 (MP.eq _) 7 rfl rfl
 ·intro FA x hO hD K hK
  obtain ⟨e59, ev59⟩ := qE (hD 5 59 (by kernel_rfl))
  clear hO hD
  refine wanted_if rfl ?_
  refine wp_ldA (cs := clC (flC false 0 0 false 0 0 sp dp 6) 0 false 0 0 none 0 0) 24 (.tmp 59) rfl ([.bool false, .int .u64 0, .int .u64 0]) ev59.out (hB4.later (below_plus _ _ _)) rfl va1 va2 (szAdr _ _ _) ?_
  exact hK.out _ _ (Ex.refl _) rfl
 apply Steps.o1 (MP.eq _) 8 rfl rfl
 ·intro FA x hO hD K hK
  have e0 := hO 0 (by kernel_rfl)
  simp only [eval_tmp, qgT, qgS, qgZ, qoS] at e0
  have ev0 := Lib.hid ((eval_tmp FA 0).trans e0)
  clear hO hD
  go_simp
  exact hK.out _ _ (Ex.refl _) rfl
 apply Steps.o1 (MP.eq _) 9 rfl rfl
 ·intro FA x hO hD K hK
  obtain ⟨e61, ev61⟩ := qE (hD 7 61 (by kernel_rfl))
  clear hO hD
  go_simp
  exact hK.out _ _ (Ex.refl _) rfl
 apply Steps.o1 (MP.eq _) 10 rfl rfl
 ·intro FA x hO hD K hK
  obtain ⟨e62, ev62⟩ := qE (hD 8 62 (by kernel_rfl))
  clear hO hD
  go_simp
  exact hK.out _ _ (Ex.refl _) rfl
 apply Steps.o1 (MP.eq _) 11 rfl rfl
 ·intro FA x hO hD K hK
  obtain ⟨e63, ev63⟩ := qE (hD 9 63 (by kernel_rfl))
  clear hO hD
  go_simp
  exact hK.out _ _ (Ex.refl _) rfl
 apply Steps.o1 (MP.eq _) 12 rfl rfl
 ·intro FA x hO hD K hK
  obtain ⟨e64, ev64⟩ := qE (hD 10 64 (by kernel_rfl))
  clear hO hD
  refine wanted_if rfl ?_
  refine wp_ldA (cs := clC (flC false 0 0 false 0 0 sp dp 6) 0 false 0 0 none 0 0) 24 (.tmp 64) rfl ([.bool false, .int .u64 0, .int .u64 0]) ev64.out (hB4.later (below_plus _ _ _)) rfl va1 va2 (szAdr _ _ _) ?_
  exact hK.out _ _ (Ex.refl _) rfl
 apply Steps.o1 (MP.sgr (fun o p => sgC sp dp 0 0 2 65535 sM 0 o.1 12 o.2 p.1 0 p.2) OP33 []) 13 rfl rfl
 ·intro FA x hO hD K hK
  obtain ⟨e55, ev55⟩ := qE (hD 1 55 (by kernel_rfl))
  obtain ⟨e60, ev60⟩ := qE (hD 6 60 (by kernel_rfl))
  obtain ⟨e65, ev65⟩ := qE (hD 11 65 (by kernel_rfl))
  clear hO hD
  go_simp
  refine (HSM.out _ (r7.later (below_plus _ _ _))).mono ?_
  rintro e w2 ⟨A5, n5, k5, A6, n6, k6, rfl, hb5, ho5, ho6⟩
  obtain rfl : n5 = 12 := by rw [← ho5.1]; rfl
  obtain rfl : n6 = 0 := by rw [← ho6.1]; rfl
  exact hK.out _ _ (Ex.of hb5) ⟨(A5, k5), (A6, k6), rfl, ho5.rb, ho6.rb⟩
 apply Steps.o1 (MP.rbK 32 (T33 sp dp)) 14 rfl rfl
 ·intro FA x hO hD K hK
  obtain ⟨u66, f66, e66, ev66⟩ := qG (hD 12 66 (by kernel_rfl))
  clear hO hD
  obtain ⟨⟨A5, k5⟩, ⟨A6, k6⟩, rfl, h5, h6⟩ := f66
  go_simp
  refine (HBY.out _ _ _ _ _ h5 h6).mono ?_
  rintro e w2 ⟨A9, n9, k9, bs9, d9, rfl, rfl, ho9⟩
  obtain rfl : n9 = 32 := by rw [← ho9.1]; exact HTL.out
  exact hK.out _ _ (Ex.plus_ _ _ _) ⟨_, _, rfl, ho9.rb⟩
 apply Steps.o1 (MP.rbF PKT (fun v => .tuple #[v, .int .i64 0])) 15 rfl rfl
 ·intro FA x hO hD K hK
  obtain ⟨e54, ev54⟩ := qE (hD 0 54 (by kernel_rfl))
  obtain ⟨u67, f67, e67, ev67⟩ := qG (hD 13 67 (by kernel_rfl))
  clear hO hD
  obtain ⟨A9, k9, rfl, hr9⟩ := f67
  go_simp
  refine (HCR.out A9 k9 _ (hB4.later (below_plus _ _ _)) hr9).mono ?_
  rintro e w2 ⟨A8, n8, k8, bs8, d8, rfl, rfl, hr8⟩
  exact hK.out _ _ (Ex.plus_ _ _ _) ⟨_, _, _, rfl, hr8⟩
 apply Steps.o1 (MP.rbF PKT (fun v => .tuple #[v, .int .i64 0])) 16 rfl rfl
 ·intro FA x hO hD K hK
  obtain ⟨u68, f68, e68, ev68⟩ := qG (hD 14 68 (by kernel_rfl))
  clear hO hD
  go_simp
  exact hK.out _ _ (Ex.refl _) f68
 apply Steps.o1 (MP.rbF PKT (fun v => v)) 17 rfl rfl
 ·intro FA x hO hD K hK
  obtain ⟨u53, f53, e53, ev53⟩ := qG (hD 15 53 (by kernel_rfl))
  clear hO hD
  obtain ⟨A9, n9, k9, rfl, hr9⟩ := f53
  go_simp
  exact hK.out _ _ (Ex.refl _) ⟨_, _, _, rfl, hr9⟩
 apply Steps.o1 (MP.eq (.int .i64 0)) 18 rfl rfl
 ·intro FA x hO hD K hK
  obtain ⟨u53, f53, e53, ev53⟩ := qG (hD 15 53 (by kernel_rfl))
  clear hO hD
  obtain ⟨A9, n9, k9, rfl, hr9⟩ := f53
  go_simp
  exact hK.out _ _ (Ex.refl _) rfl
 apply Steps.o1 (MP.rbF PKT (fun v => v)) 19 rfl rfl
 ·intro FA x hO hD K hK
  obtain ⟨u69, f69, e69, ev69⟩ := qG (hD 16 69 (by kernel_rfl))
  clear hO hD
  go_simp
  exact hK.out _ _ (Ex.refl _) f69
 apply Steps.o1 (MP.eq _) 20 rfl rfl
 ·intro FA x hO hD K hK
  obtain ⟨e70, ev70⟩ := qE (hD 17 70 (by kernel_rfl))
  clear hO hD
  go_simp
  exact hK.out _ _ (Ex.refl _) rfl
 refine Steps.fin_ (fun vs x hp => ?_)
 have p0 : vs 0 = _ := hp 0 (by omega)
 have p1 : vs 1 = _ := hp 1 (by omega)
 have p2 : vs 2 = _ := hp 2 (by omega)
 have p3 : vs 3 = _ := hp 3 (by omega)
 have p4 : vs 4 = _ := hp 4 (by omega)
 have p5 : vs 5 = _ := hp 5 (by omega)
 have p6 : vs 6 = _ := hp 6 (by omega)
 have p7 : vs 7 = _ := hp 7 (by omega)
 have p8 : vs 8 = _ := hp 8 (by omega)
 have p9 : vs 9 = _ := hp 9 (by omega)
 have p10 : vs 10 = _ := hp 10 (by omega)
 have p11 : vs 11 = _ := hp 11 (by omega)
 have p12 := hp 12 (by omega)
 have p13 := hp 13 (by omega)
 have p14 := hp 14 (by omega)
 have p15 := hp 15 (by omega)
 have p16 := hp 16 (by omega)
 have p17 : vs 17 = _ := hp 17 (by omega)
 have p18 := hp 18 (by omega)
 have p19 : vs 19 = _ := hp 19 (by omega)
 clear hp
 simp only [List.take_succ_cons, List.take_zero, List.drop_succ_cons, List.drop_zero, putAll, Nat.zero_add, Nat.reduceAdd, Act.put, qsT, qsZ, qsS, p0, p1, p2, p3, p4, p5, p6, p7, p8, p9, p10, p11, p17, p19]
 clear p0 p1 p2 p3 p4 p5 p6 p7 p8 p9 p10 p11 p17 p19
 generalize vs 12 = y12 at *
 generalize vs 13 = y13 at *
 generalize vs 14 = y14 at *
 generalize vs 15 = y15 at *
 generalize vs 16 = y16 at *
 generalize vs 18 = y18 at *
 clear vs
 obtain ⟨Ar, nr, kr, rfl, hrr⟩ := p18
 have hb5 := below_plus W4 x.bs x.d
 have hB5 := hB4.later hb5
 have be5 := be4.trans (hb5.mono be4.size)
 clear p12 p13 p14 p15 p16 hb5 hB4 h4 r7 be4
 generalize plus W4 x.bs x.d = W5 at *
 go_upto_region 15 with (fail)
 refine wp_region_lit ?_
 iterate 3 (refine wpList_plain rfl (fun K hK => ?_); go_simp; with_reducible refine hK _ _ ?_; clear hK K)
 refine wpList_ld1 (t := 63) (cs := clC (flC false 0 0 false 0 0 sp dp 6) 0 false 0 0 none 0 0) 34 (.tmp 76) rfl (by rfl) rfl (hB5) rfl Tryz.underlying34 rfl ?_
 iterate 3 (refine wpList_plain rfl (fun K hK => ?_); go_simp; with_reducible refine hK _ _ ?_; clear hK K)
 refine wpList_st1 (v := .int .u32 1) (t := 63) (cs := clC (flC false 0 0 false 0 0 sp dp 6) 0 false 0 0 none 0 0) (off := 11) 34 (.tmp 80) (.tmp 78) rfl rfl rfl rfl hB5 (Nat.le_of_ble_eq_true rfl) rfl (by kernel_rfl) ?_
 intro W6 h6 g6
 simp only [Act.put, qsT, qsZ, qsS]
 have hr6 := hrr.u32 hB5 (i := 11) (z := 0) rfl h6 g6
 go_upto_region 16 with (fail)
 refine wp_region_lit ?_
 iterate 3 (refine wpList_plain rfl (fun K hK => ?_); go_simp; with_reducible refine hK _ _ ?_; clear hK K)
 refine wpList_ld1 (t := 63) (cs := clC (flC false 0 0 false 0 0 sp dp 6) 0 false 1 0 none 0 0) 34 (.tmp 83) rfl (by rfl) rfl (h6) rfl Tryz.underlying34 rfl ?_
 iterate 6 (refine wpList_plain rfl (fun K hK => ?_); go_simp; with_reducible refine hK _ _ ?_; clear hK K)
 refine wpList_st1 (t := 63) (cs := clC (flC false 0 0 false 0 0 sp dp 6) 0 false 1 0 none 0 0) (off := 12) 34 (.tmp 90) (.tmp 88) rfl rfl rfl rfl h6 (Nat.le_of_ble_eq_true rfl) rfl (by kernel_rfl) ?_
 intro W7 h7 g7
 simp only [Act.put, qsT, qsZ, qsS]
 have hr7 := hr6.u32 h6 (i := 12) (z := 0) rfl h7 g7
 go_wp2
 go_ret2
 exact ⟨Ar, nr, kr, rfl, hr7, ((Chg.of_below be5).trans (Chg.one (D := fun k => k = g) g6 rfl)).trans (Chg.one (D := fun k => k = g) g7 rfl)⟩
theorem awake33 (w : World) : Calls Tryz.prog 4 #[] w (RetV w (.bool true)) := by
 obtain ⟨dvi, vi1, vi2⟩ := rowIn
 obtain ⟨dvt, vt1, vt2⟩ := rowSeg
 go_enter Tryz.func4, Tryz.ntmps4
 go_upto_region 1 with (fail)
 refine wp_region_lit ?_
 refine wpList_build 27 [(4, .const (.int .u8 6)), (3, .const (.int .u16 80))] rfl rfl (.agg (flC false 0 0 false 0 0 0 80 6).toArray) (run_bF3 _) ?_
 refine wpList_plain rfl (fun K hK => ?_)
 go_simp
 refine (cliNew_any false 0 0 false 0 0 0 80 6 _).mono ?_
 rintro e w1 ⟨g, rfl, hg0, be1, hB1⟩
 with_reducible refine hK _ _ ?_
 clear hK K
 generalize hWW : w1 = W1 at *
 clear hWW
 refine wpList_plain rfl (fun K hK => ?_); go_simp; with_reducible refine hK _ _ ?_; clear hK K
 go_upto_region 2 with (fail)
 refine wp_region_lit ?_
 refine wpList_plain rfl (fun K hK => ?_); go_simp; with_reducible refine hK _ _ ?_; clear hK K
 refine wpList_plain rfl (fun K hK => ?_)
 go_simp
 refine (send33 0 80 (by decide) (by decide) g _ hB1).mono ?_
 rintro e w1 ⟨A2, n2, c2, rfl, r2, hc2⟩
 with_reducible refine hK _ _ ?_
 clear hK K
 generalize hWW : w1 = W2 at *
 clear hWW
 iterate 5 (refine wpList_plain rfl (fun K hK => ?_); go_simp; with_reducible refine hK _ _ ?_; clear hK K)
 have be2 := be1.trans (hc2.below (B := w.heap.size) (fun b hb => by have hb : b = g := hb; omega) be1.size)
 clear hB1 hc2 be1
 go_upto_region 3 with (fail)
 refine wp_region_lit ?_
 refine wpList_plain rfl (fun K hK => ?_); go_simp; with_reducible refine hK _ _ ?_; clear hK K
 refine wpList_plain rfl (fun K hK => ?_)
 go_simp
 refine (read33 A2 n2 c2 _ r2).mono ?_
 rintro e w1 ⟨A3, n3, c3, A4, n4, c4, A5, n5, c5, A6, n6, c6, bs3, d3, rfl, rfl, r3, r4, r5, r6, f3, f4, f5, f6⟩
 with_reducible refine hK _ _ ?_
 clear hK K
 iterate 4 (refine wpList_plain rfl (fun K hK => ?_); go_simp; with_reducible refine hK _ _ ?_; clear hK K)
 refine wpList_stA (t := 55) 55 (.tmp 4) (.tmp 19) rfl rfl (X33.cs A3 n3 c3 A4 n4 c4 A5 n5 c5 A6 n6 c6) (inPk (fhC false false 0 false 0 0 false 0 0 0 0 0) (tcC 0 0 0 0 0 0 0 0 none 0 0 none 0 0) (dgX 0 0 0 none 0 0) (msgC 0 0 0 0 none 0 0)) rfl (X33.one _ _ _ _ _ _ _ _ _ _ _ _ ) rfl rfl (Bk.newK _ _ _ (by simp [size_plus]) rfl) (szIN_ (by rfl)) ?_
 intro W4 h4 g4
 refine wpList_plain rfl (fun K hK => ?_); go_simp; with_reducible refine hK _ _ ?_; clear hK K
 have hbp : Below (plus W2 bs3 d3).heap.size (plus W2 bs3 d3) W4 := below_grown (Below.allocS (Below.refl _ _) _) g4 (by simp [size_plus])
 have hb4 : Below W2.heap.size W2 W4 := below_grown (Below.allocS (below_plus W2 bs3 d3) _) g4 (by simp [size_plus])
 have be4 := be2.trans (hb4.mono be2.size)
 replace r3 := r3.later hbp
 generalize W2.heap.size + bs3.length = gi at *
 clear hbp hb4 g4 r4 r5 r6 f3 f4 f5 f6 r2 be2
 have hn3 : n3 ≤ 40 := by rw [← r3.1, x33_o]; decide
 go_upto_region 4 with (fail)
 refine wp_region_lit ?_
 refine wpList_plain rfl (fun K hK => ?_); go_simp; with_reducible refine hK _ _ ?_; clear hK K
 refine wpList_ldA (t := 55) (cs := X33.cs A3 n3 c3 A4 n4 c4 A5 n5 c5 A6 n6 c6) 49 (.tmp 22) rfl rfl (tcC X33.x0 X33.x1 X33.x2 X33.x3 X33.x4 X33.x5 X33.x6 X33.x7 A3 n3 c3 A4 n4 c4) rfl (h4) rfl vt1 vt2 (szTc _ _ _ _ _ _ _ _ _ _ _ _ _ _ ) ?_
 refine wpList_plain rfl (fun K hK => ?_)
 go_simp
 refine (stamp_any _ _ _ _ _ _ _ _ _ _ _ _ _ _ _ _ r3 (by omega)).mono ?_
 rintro e w1 ⟨bs7, d7, rfl, rfl⟩
 with_reducible refine hK _ _ ?_
 clear hK K
 iterate 7 (refine wpList_plain rfl (fun K hK => ?_); go_simp; with_reducible refine hK _ _ ?_; clear hK K)
 have hb7 := below_plus W4 bs7 d7
 have h5 := h4.later hb7
 have be5 := be4.trans (hb7.mono be4.size)
 clear hb7 h4 r3 be4
 generalize plus W4 bs7 d7 = W5 at *
 rw [show (stampsAt X33.o1).isSome = true by rw [x33_o]; exact op33_s, show stW X33.o1 = 0 by rw [x33_o]; exact op33_w]
 have HX4 := Lib.hid (show (bits .and .u8 (X33.x4 : Int) 23 == 2) = true by rw [x33_4]; decide +kernel)
 go_upto_region 5 with (fail)
 refine wp_region_lit ?_
 iterate 3 (refine wpList_plain rfl (fun K hK => ?_); go_simp; with_reducible refine hK _ _ ?_; clear hK K)
 iterate 2 (refine wpList_step (fun K hK => ?_); go_simp; with_reducible refine hK _ _ ?_; clear hK K)
 iterate 2 (refine wpList_plain rfl (fun K hK => ?_); go_simp; with_reducible refine hK _ _ ?_; clear hK K)
 refine wpList_step (fun K hK => ?_); go_simp; with_reducible refine hK _ _ ?_; clear hK K
 iterate 2 (refine wpList_plain rfl (fun K hK => ?_); go_simp; with_reducible refine hK _ _ ?_; clear hK K)
 iterate 2 (refine wpList_step (fun K hK => ?_); go_simp; with_reducible refine hK _ _ ?_; clear hK K)
 iterate 2 (refine wpList_plain rfl (fun K hK => ?_); go_simp; with_reducible refine hK _ _ ?_; clear hK K)
 refine wpList_step (fun K hK => ?_); go_simp; with_reducible refine hK _ _ ?_; clear hK K
 refine wpList_ldG (t := 55) (cs := X33.cs A3 n3 c3 A4 n4 c4 A5 n5 c5 A6 n6 c6) 49 (.tmp 42) rfl (by go_simp) (tcC X33.x0 X33.x1 X33.x2 X33.x3 X33.x4 X33.x5 X33.x6 X33.x7 A3 n3 c3 A4 n4 c4) rfl (h5) rfl vt1 vt2 (szTc _ _ _ _ _ _ _ _ _ _ _ _ _ _ ) ?_
 refine wpList_step (fun K hK => ?_)
 go_simp
 refine (tcpFirst_any _ _ _ _ _ _ _ _ _ _ _ _ _ _ _).mono ?_
 rintro e w1 ⟨rfl, bs8, d8, rfl⟩
 rw [HX4.out]
 with_reducible refine hK _ _ ?_
 clear hK K
 iterate 2 (refine wpList_plain rfl (fun K hK => ?_); go_simp; with_reducible refine hK _ _ ?_; clear hK K)
 go_wp2
 go_ret
 exact RetV.is_ rfl (belowP be5 bs8 d8)
end

section
open Go.RowKit
attribute [local go_sem ↓] sliced_cut
attribute [local go_sem] cutA_zero
set_option maxHeartbeats 4000000 in
set_option maxRecDepth 100000 in
theorem clientForward_walk (s6 : Bool) (sh sl : Nat) (d6 : Bool) (dh dl sp dp pr : Nat) (L : List AkX) (Aa : Option Addr) (na ca : Nat) (w : World) (k1 : sh < 18446744073709551616) (k2 : sl < 18446744073709551616) (k3 : dh < 18446744073709551616) (k4 : dl < 18446744073709551616) (hsp : sp < 65536) (hdp : dp < 65536) (hL : Rs 17 w Aa na ca (L.flatMap AkX.cs)) (hok : ∀ x ∈ L, x.ok w) (hsm : ∀ x ∈ L, x.sm) (hna : na ≤ 9223372036854775807) : Calls Tryz.prog 3 #[.agg (flC s6 sh sl d6 dh dl sp dp pr).toArray, .slice Aa na ca] w (RetV w (.bool true)) := by
 obtain ⟨dvt, vt1, vt2⟩ := rowTr
 have HAW := Lib.hid awake33
 have hLn : L.length = na := by have := hL.1; rw [flat_len AkX.cs 17 AkX.cs_len] at this; omega
 have hL0 := Lib.hid hL
 have HLG := Lib.hid (fun W h => light33_any L Aa na ca W h hsm hna)
 obtain ⟨q, hq⟩ : ∃ q, rt33 s6 sh sl d6 dh dl pr = q := ⟨_, rfl⟩
 have HRG := Lib.hid (fun W => right33_any s6 sh sl d6 dh dl sp dp pr W k1 k2 k3 k4)
 rw [hq] at HRG
 clear hL
 obtain ⟨dvf1, vf1, vf2⟩ := rowFl
 obtain ⟨bf, be, zV⟩ := box1 w 27 (flC s6 sh sl d6 dh dl sp dp pr)
 go_enter Tryz.func3, Tryz.ntmps3
 go_upto_region 1 with (fail)
 generalize w.alloc (.cells (flC s6 sh sl d6 dh dl sp dp pr).toArray 27) = V at *
 go_upto_region 3 with (go_at_call 4; refine (HAW.out _).mono ?_; rintro e w1 ⟨bs3, d3, rfl, rfl⟩)
 have hb1 := below_plus V bs3 d3
 replace bf := bf.later hb1
 replace be := be.trans (hb1.mono be.size)
 replace zV := Nat.le_trans zV hb1.size
 clear hb1
 generalize plus V bs3 d3 = W1 at *
 cases q with
 | false =>
  clear hq
  refine wp_region_lit ?_
  refine wpList_ldA (t := 27) 27 (.tmp 2) rfl rfl (flC s6 sh sl d6 dh dl sp dp pr) rfl (bf) (whole_ _) vf1 vf2 (szFl _ _ _ _ _ _ _ _ _ ) ?_
  refine wpList_plain rfl (fun K hK => ?_)
  go_simp
  refine (HRG.out _).mono ?_
  rintro e w1 ⟨bs4, d4, rfl, rfl⟩
  with_reducible refine hK _ _ ?_
  clear hK K
  replace bf := bf.later (below_plus _ bs4 d4)
  iterate 2 (refine wpList_plain rfl (fun K hK => ?_); go_simp; with_reducible refine hK _ _ ?_; clear hK K)
  iterate 3 ((with_reducible refine wpList_skip ?_ ?_); (· first | (go_simp; done) | (go_simp; intro h; cases h)); simp only [Act.put, qsT, qsZ, qsS])
  iterate 2 (refine wpList_plain rfl (fun K hK => ?_); go_simp; with_reducible refine hK _ _ ?_; clear hK K)
  iterate 3 ((with_reducible refine wpList_skip ?_ ?_); (· first | (go_simp; done) | (go_simp; intro h; cases h)); simp only [Act.put, qsT, qsZ, qsS])
  refine wpList_plain rfl (fun K hK => ?_); go_simp; with_reducible refine hK _ _ ?_; clear hK K
  go_wp2_with (go_at_call 4; refine (HAW.out _).mono ?_; rintro e w1 ⟨bs3, d3, rfl, rfl⟩)
  go_ret
  exact RetV.is_ rfl (belowP (belowP be bs4 d4) bs3 d3)
 | true =>
  obtain ⟨rfl, hrt⟩ := rt33_F s6 sh sl d6 dh dl pr k1 k2 k3 k4 hq
  clear hq
  by_cases hp : pr = 6
  rotate_left
  ·have hp2 : ((pr : Int) != 6) = true := by rw [bne_iff_ne]; omega
   clear hp
   refine wp_region_lit ?_
   refine wpList_ldA (t := 27) 27 (.tmp 2) rfl rfl (flC s6 sh sl s6 dh dl sp dp pr) rfl (bf) (whole_ _) vf1 vf2 (szFl _ _ _ _ _ _ _ _ _ ) ?_
   refine wpList_plain rfl (fun K hK => ?_)
   go_simp
   refine (HRG.out _).mono ?_
   rintro e w1 ⟨bs4, d4, rfl, rfl⟩
   with_reducible refine hK _ _ ?_
   clear hK K
   replace bf := bf.later (below_plus _ bs4 d4)
   iterate 2 (refine wpList_plain rfl (fun K hK => ?_); go_simp; with_reducible refine hK _ _ ?_; clear hK K)
   refine wpList_step (fun K hK => ?_); go_simp; with_reducible refine hK _ _ ?_; clear hK K
   refine wpList_ld1 (t := 27) (cs := flC s6 sh sl s6 dh dl sp dp pr) 5 (.tmp 18) rfl (by go_simp) rfl (bf) rfl Tryz.underlying5 rfl ?_
   refine wpList_step (fun K hK => ?_); go_simp; with_reducible refine hK _ _ ?_; clear hK K
   iterate 2 (refine wpList_plain rfl (fun K hK => ?_); go_simp; with_reducible refine hK _ _ ?_; clear hK K)
   iterate 3 ((with_reducible refine wpList_skip ?_ ?_); (· first | (go_simp; done) | (go_simp; intro h; cases h)); simp only [Act.put, qsT, qsZ, qsS])
   refine wpList_plain rfl (fun K hK => ?_); go_simp; with_reducible refine hK _ _ ?_; clear hK K
   go_wp2_with (go_at_call 4; refine (HAW.out _).mono ?_; rintro e w1 ⟨bs3, d3, rfl, rfl⟩)
   go_ret
   exact RetV.is_ rfl (belowP (belowP be bs4 d4) bs3 d3)
  subst hp
  refine wp_region_lit ?_
  refine wpList_ldA (t := 27) 27 (.tmp 2) rfl rfl (flC s6 sh sl s6 dh dl sp dp 6) rfl (bf) (whole_ _) vf1 vf2 (szFl _ _ _ _ _ _ _ _ _ ) ?_
  refine wpList_plain rfl (fun K hK => ?_)
  go_simp
  refine (HRG.out _).mono ?_
  rintro e w1 ⟨bs4, d4, rfl, rfl⟩
  with_reducible refine hK _ _ ?_
  clear hK K
  replace bf := bf.later (below_plus _ bs4 d4)
  iterate 2 (refine wpList_plain rfl (fun K hK => ?_); go_simp; with_reducible refine hK _ _ ?_; clear hK K)
  refine wpList_step (fun K hK => ?_); go_simp; with_reducible refine hK _ _ ?_; clear hK K
  refine wpList_ld1 (t := 27) (cs := flC s6 sh sl s6 dh dl sp dp 6) 5 (.tmp 18) rfl (by go_simp) rfl (bf) rfl Tryz.underlying5 rfl ?_
  refine wpList_step (fun K hK => ?_); go_simp; with_reducible refine hK _ _ ?_; clear hK K
  iterate 2 (refine wpList_plain rfl (fun K hK => ?_); go_simp; with_reducible refine hK _ _ ?_; clear hK K)
  refine wpList_step (fun K hK => ?_); go_simp; with_reducible refine hK _ _ ?_; clear hK K
  refine wpList_step (fun K hK => ?_)
  go_simp
  refine (HLG.out _ (hL0.out.later (belowP be bs4 d4))).mono ?_
  rintro e w1 ⟨b, bs5, d5, rfl, rfl⟩
  with_reducible refine hK _ _ ?_
  clear hK K
  refine wpList_step (fun K hK => ?_); go_simp; with_reducible refine hK _ _ ?_; clear hK K
  refine wpList_plain rfl (fun K hK => ?_); go_simp; with_reducible refine hK _ _ ?_; clear hK K
  cases b with
  | false =>
   go_wp2_with (go_at_call 4; refine (HAW.out _).mono ?_; rintro e w1 ⟨bs3, d3, rfl, rfl⟩)
   go_ret
   exact RetV.is_ rfl (belowP (belowP (belowP be bs4 d4) bs5 d5) bs3 d3)
  | true =>
  have hb1 := (below_plus W1 bs4 d4).trans ((below_plus _ bs5 d5).mono (below_plus W1 bs4 d4).size)
  replace bf := bf.later (below_plus _ bs5 d5)
  replace be := be.trans (hb1.mono be.size)
  replace zV := Nat.le_trans zV hb1.size
  clear hb1 HLG HRG
  generalize plus (plus W1 bs4 d4) bs5 d5 = W1 at *
  go_upto_region 5 with (fail)
  refine wp_region_lit ?_
  refine wpList_ldA (t := 27) 27 (.tmp 2) rfl rfl (flC s6 sh sl s6 dh dl sp dp 6) rfl (bf) (whole_ _) vf1 vf2 (szFl _ _ _ _ _ _ _ _ _ ) ?_
  refine wpList_plain rfl (fun K hK => ?_)
  go_simp
  refine (cliNew_any s6 sh sl s6 dh dl sp dp 6 _).mono ?_
  rintro e w1 ⟨g, rfl, hg0, be1, hB⟩
  with_reducible refine hK _ _ ?_
  clear hK K
  generalize hWW : w1 = W2 at *
  clear hWW
  refine wpList_plain rfl (fun K hK => ?_); go_simp; with_reducible refine hK _ _ ?_; clear hK K
  have zg : w.heap.size + 1 ≤ g := Nat.le_trans zV hg0
  replace bf := bf.later be1
  replace be := be.trans (be1.mono be.size)
  clear zV hg0 be1
  go_upto_region 7 with (fail)
  go_loopw [6] (fun I wr => ∃ (i re : Nat) (se : Bool), I = .int .i64 (i : Int) ∧ i ≤ na ∧ re < 4294967296 ∧ Bk wr g 63 (clC (flC s6 sh sl s6 dh dl sp dp 6) re se 0 0 none 0 0) ∧ Bk wr w.heap.size 27 (flC s6 sh sl s6 dh dl sp dp 6) ∧ Below w.heap.size w wr) (fun I _ => na - (intOf I).toNat)
  case atStart => exact ⟨0, 0, false, rfl, Nat.zero_le _, by decide, hB, bf, be⟩
  case round =>
   clear hB bf be
   obtain ⟨i, re, se, rfl, hi, hre, hB, bf, be⟩ := hrel
   by_cases hlt : i < na
   ·have ii : (i : Int) < (na : Int) := by omega
    have hiL : i < L.length := by omega
    obtain ⟨r0, r1, r2⟩ := hok L[i] (List.getElem_mem hiL)
    obtain ⟨hy1, hy2, hy3⟩ := hsm L[i] (List.getElem_mem hiL)
    obtain ⟨bl, ol, rfl, -, -⟩ := hL0.out.at_ (by omega) (by decide)
    have HG := Lib.hid (fun W (h : Below w.heap.size w W) => Rs.rangeE AkX.cs_len (hL0.out.later h) i hiL)
    generalize L[i] = y at *
    go_upto_region 9 with (fail)
    refine wp_region_lit ?_
    refine wpList_plain rfl (fun K hK => ?_); go_simp; with_reducible refine hK _ _ ?_; clear hK K
    refine wpList_plain rfl (fun K hK => ?_)
    go_simp
    refine (recent_any s6 sh sl s6 dh dl sp dp 6 re se 0 0 none 0 0 g _ hB).mono ?_
    rintro e w1 ⟨bs6, d6, rfl, rfl⟩
    with_reducible refine hK _ _ ?_
    clear hK K
    iterate 5 (refine wpList_plain rfl (fun K hK => ?_); go_simp; with_reducible refine hK _ _ ?_; clear hK K)
    have hb6 := below_plus wr bs6 d6
    replace hB := hB.later hb6
    replace bf := bf.later hb6
    have be6 := be.trans (hb6.mono be.size)
    clear hb6 be
    generalize plus wr bs6 d6 = W6 at *
    replace r0 := r0.later be6
    replace r1 := r1.later be6
    replace r2 := r2.later be6
    have q2 : W6.cell? ⟨bl, ol + i * 17 + 2, none⟩ = some (.slice y.A y.n y.c) := HG.out W6 be6 2 _ rfl
    have q0 : W6.cell? ⟨bl, ol + i * 17, none⟩ = some (.int .i64 y.k) := HG.out W6 be6 0 _ rfl
    have HSG := Lib.hid (fun W (h : Below W6.heap.size W6 W) => show W.rangeAt bl (ol + i * 17 + 3) y.sg from fun j u hu => by
     have h1 := HG.out W (be6.trans (h.mono be6.size)) (3 + j) u (by
      rw [show 3 + j = j + 1 + 1 + 1 from by omega]
      simp only [AkX.cs, List.getElem?_cons_succ]
      rw [List.getElem?_append_left (List.getElem?_eq_some_iff.1 hu).1]
      exact hu)
     rwa [← Nat.add_assoc] at h1)
    clear HG
    by_cases hk : y.k = 2
    ·have hk2 : (y.k != 2) = false := by simp [hk]
     clear hk
     have hm0 : y.n ≤ 1100000 := by omega
     go_upto_region 13 with (fail)
     refine wp_region_lit ?_
     iterate 2 (refine wpList_plain rfl (fun K hK => ?_); go_simp; with_reducible refine hK _ _ ?_; clear hK K)
     refine wpList_plain rfl (fun K hK => ?_)
     go_simp
     refine (take_any s6 sh sl s6 dh dl sp dp re se 0 0 none 0 0 g _ _ _ _ _ hB r0 hm0 hre).mono ?_
     rintro e w1 ⟨b7, re2, se2, rfl, hB7, hc7, hse7, hre7⟩
     with_reducible refine hK _ _ ?_
     clear hK K
     generalize hWW : w1 = W7 at *
     clear hWW
     have be7 := be6.trans (hc7.below (B := w.heap.size) (fun b hb => by have hb : b = g := hb; omega) be6.size)
     have bf7 := bf.chg hc7 (by omega)
     clear hB hc7
     go_upto_region 14 with (fail)
     refine wp_region_lit ?_
     refine wpList_plain rfl (fun K hK => ?_); go_simp; with_reducible refine hK _ _ ?_; clear hK K
     refine wpList_plain rfl (fun K hK => ?_)
     go_simp
     refine (recent_any s6 sh sl s6 dh dl sp dp 6 re2 se2 0 0 none 0 0 g _ hB7).mono ?_
     rintro e w1 ⟨bs8, d8, rfl, rfl⟩
     with_reducible refine hK _ _ ?_
     clear hK K
     iterate 5 (refine wpList_plain rfl (fun K hK => ?_); go_simp; with_reducible refine hK _ _ ?_; clear hK K)
     have hb8 := below_plus W7 bs8 d8
     have hB8 := hB7.later hb8
     have bf8 := bf7.later hb8
     have be8 := be7.trans (hb8.mono be7.size)
     clear hb8 hB7 bf7
     generalize plus W7 bs8 d8 = W8 at *
     cases se with
     | false =>
      go_upto_region 15 with (fail)
      refine wp_region_lit ?_
      iterate 2 (refine wpList_plain rfl (fun K hK => ?_); go_simp; with_reducible refine hK _ _ ?_; clear hK K)
      iterate 4 ((with_reducible refine wpList_skip ?_ ?_); (· first | (go_simp; done) | (go_simp; intro h; cases h)); simp only [Act.put, qsT, qsZ, qsS])
      refine wpList_plain rfl (fun K hK => ?_); go_simp; with_reducible refine hK _ _ ?_; clear hK K
      go_wp2
      exact ⟨⟨i + 1, re2, se2, by go_num, by omega, hre7, hB8, bf8, be8⟩, by simp [intOf]; omega⟩
     | true =>
      have HAA := Lib.hid (fun W => ahead_any re re2 W)
      rw [(hse7 rfl).2] at HAA
      clear hse7
      go_upto_region 15 with (fail)
      refine wp_region_lit ?_
      iterate 2 (refine wpList_plain rfl (fun K hK => ?_); go_simp; with_reducible refine hK _ _ ?_; clear hK K)
      iterate 2 (refine wpList_step (fun K hK => ?_); go_simp; with_reducible refine hK _ _ ?_; clear hK K)
      refine wpList_step (fun K hK => ?_)
      go_simp
      refine (HAA.out _).mono ?_
      rintro e w1 ⟨rfl, rfl⟩
      with_reducible refine hK _ _ ?_
      clear hK K
      refine wpList_step (fun K hK => ?_); go_simp; with_reducible refine hK _ _ ?_; clear hK K
      refine wpList_plain rfl (fun K hK => ?_); go_simp; with_reducible refine hK _ _ ?_; clear hK K
      go_wp2
      exact ⟨⟨i + 1, re2, se2, by go_num, by omega, hre7, hB8, bf8, be8⟩, by simp [intOf]; omega⟩
    ·have hk2 : (y.k != 2) = true := bne_iff_ne.2 hk
     clear hk
     go_upto_region 12 with (fail)
     clear q0 q2
     refine wp_relS 8 75 rfl (by kernel_rfl) (by kernel_rfl) ?_
     apply Steps.o1 (MP.eq _) 1 rfl rfl
     ·intro FA x hO hD K hK
      have e2 := hO 2 (by kernel_rfl)
      simp only [eval_tmp, qgT, qgS, qgZ, qoS] at e2
      have ev2 := Lib.hid ((eval_tmp FA 2).trans e2)
      clear hO hD
      refine wanted_if rfl ?_
      refine wp_ldA 27 (.tmp 2) rfl (flC s6 sh sl s6 dh dl sp dp 6) ev2.out (bf.later (below_plus _ _ _)) (whole_ _) vf1 vf2 (szFl _ _ _ _ _ _ _ _ _ ) ?_
      exact hK.out _ _ (Ex.refl _) rfl
     apply Steps.o1 (MP.eq _) 2 rfl rfl
     ·intro FA x hO hD K hK
      have e1 := hO 1 (by kernel_rfl)
      simp only [eval_tmp, qgT, qgS, qgZ, qoS] at e1
      have ev1 := Lib.hid ((eval_tmp FA 1).trans e1)
      clear hO hD
      go_simp
      exact hK.out _ _ (Ex.refl _) rfl
     apply Steps.o1 (MP.eq _) 3 rfl rfl
     ·intro FA x hO hD K hK
      have e6 := hO 6 (by kernel_rfl)
      simp only [eval_tmp, qgT, qgS, qgZ, qoS] at e6
      have ev6 := Lib.hid ((eval_tmp FA 6).trans e6)
      clear hO hD
      go_simp
      exact hK.out _ _ (Ex.refl _) rfl
     apply Steps.o1 (MP.eq _) 4 rfl rfl
     ·intro FA x hO hD K hK
      obtain ⟨e53, ev53⟩ := qE (hD 1 53 (by kernel_rfl))
      obtain ⟨e54, ev54⟩ := qE (hD 2 54 (by kernel_rfl))
      clear hO hD
      go_simp
      exact hK.out _ _ (Ex.refl _) rfl
     apply Steps.o1 (MP.eq _) 5 rfl rfl
     ·intro FA x hO hD K hK
      obtain ⟨e55, ev55⟩ := qE (hD 3 55 (by kernel_rfl))
      clear hO hD
      go_simp
      exact hK.out _ _ (Ex.refl _) rfl
     apply Steps.o1 (MP.eq _) 6 rfl rfl
     ·intro FA x hO hD K hK
      obtain ⟨e56, ev56⟩ := qE (hD 4 56 (by kernel_rfl))
      clear hO hD
      refine wanted_if rfl ?_
      refine wp_load_mid 39 (.tmp 56) rfl bl (ol + i * 17 + 3) ev56.out (y.sg) _ (HSG.out _ (below_plus _ _ _)) vt1 vt2 (szTr _ _ _ _ _ _ _ _ _ _ _ _ _ _ ) ?_
      exact hK.out _ _ (Ex.refl _) rfl
     apply Steps.o1 (MP.rbL 1100000 (fun v => v)) 7 rfl rfl
     ·intro FA x hO hD K hK
      obtain ⟨e52, ev52⟩ := qE (hD 0 52 (by kernel_rfl))
      obtain ⟨e57, ev57⟩ := qE (hD 5 57 (by kernel_rfl))
      clear hO hD
      go_simp
      refine (reply_any s6 sh sl dh dl sp dp 6 hrt hsp hdp y.x0 y.x1 y.x2 y.x3 y.x4 y.x5 y.x6 y.x7 y.B1 y.m1 y.c1 y.B2 y.m2 y.c2 y.o1 y.o2 _ (r1.later (below_plus _ _ _)) (r2.later (below_plus _ _ _)) hy2 hy3).mono ?_
      rintro e w2 ⟨l9, A9, n9, k9, rfl, hr9, hn9, hb9⟩
      exact hK.out _ _ (Ex.of hb9) ⟨_, _, _, _, rfl, hr9, hn9⟩
     apply Steps.o1 (MP.rbL 1100000 (fun v => v)) 8 rfl rfl
     ·intro FA x hO hD K hK
      obtain ⟨u58, f58, e58, ev58⟩ := qG (hD 6 58 (by kernel_rfl))
      clear hO hD
      go_simp
      exact hK.out _ _ (Ex.refl _) f58
     refine Steps.fin_ (fun vs x hp => ?_)
     have p0 : vs 0 = _ := hp 0 (by omega)
     have p1 : vs 1 = _ := hp 1 (by omega)
     have p2 : vs 2 = _ := hp 2 (by omega)
     have p3 : vs 3 = _ := hp 3 (by omega)
     have p4 : vs 4 = _ := hp 4 (by omega)
     have p5 : vs 5 = _ := hp 5 (by omega)
     have p6 := hp 6 (by omega)
     have p7 := hp 7 (by omega)
     clear hp
     simp only [List.take_succ_cons, List.take_zero, List.drop_succ_cons, List.drop_zero, putAll, Nat.zero_add, Nat.reduceAdd, Act.put, qsT, qsZ, qsS, p0, p1, p2, p3, p4, p5]
     clear p0 p1 p2 p3 p4 p5
     generalize vs 6 = y6 at *
     generalize vs 7 = y7 at *
     clear vs
     obtain ⟨l9, A9, n9, k9, rfl, r9, hn9⟩ := p7
     have hb9 := below_plus W6 x.bs x.d
     replace hB := hB.later hb9
     replace bf := bf.later hb9
     replace be6 := be6.trans (hb9.mono be6.size)
     clear hb9 r0 r1 r2 p6 HSG
     generalize plus W6 x.bs x.d = W9 at *
     go_upto_region 13 with (fail)
     refine wp_region_lit ?_
     iterate 2 (refine wpList_plain rfl (fun K hK => ?_); go_simp; with_reducible refine hK _ _ ?_; clear hK K)
     refine wpList_plain rfl (fun K hK => ?_)
     go_simp
     refine (take_any s6 sh sl s6 dh dl sp dp re se 0 0 none 0 0 g _ _ _ _ _ hB r9 hn9 hre).mono ?_
     rintro e w1 ⟨b7, re2, se2, rfl, hB7, hc7, hse7, hre7⟩
     with_reducible refine hK _ _ ?_
     clear hK K
     generalize hWW : w1 = W7 at *
     clear hWW
     have be7 := be6.trans (hc7.below (B := w.heap.size) (fun b hb => by have hb : b = g := hb; omega) be6.size)
     have bf7 := bf.chg hc7 (by omega)
     clear hB hc7
     go_upto_region 14 with (fail)
     refine wp_region_lit ?_
     refine wpList_plain rfl (fun K hK => ?_); go_simp; with_reducible refine hK _ _ ?_; clear hK K
     refine wpList_plain rfl (fun K hK => ?_)
     go_simp
     refine (recent_any s6 sh sl s6 dh dl sp dp 6 re2 se2 0 0 none 0 0 g _ hB7).mono ?_
     rintro e w1 ⟨bs8, d8, rfl, rfl⟩
     with_reducible refine hK _ _ ?_
     clear hK K
     iterate 5 (refine wpList_plain rfl (fun K hK => ?_); go_simp; with_reducible refine hK _ _ ?_; clear hK K)
     have hb8 := below_plus W7 bs8 d8
     have hB8 := hB7.later hb8
     have bf8 := bf7.later hb8
     have be8 := be7.trans (hb8.mono be7.size)
     clear hb8 hB7 bf7
     generalize plus W7 bs8 d8 = W8 at *
     cases se with
     | false =>
      go_upto_region 15 with (fail)
      refine wp_region_lit ?_
      iterate 2 (refine wpList_plain rfl (fun K hK => ?_); go_simp; with_reducible refine hK _ _ ?_; clear hK K)
      iterate 4 ((with_reducible refine wpList_skip ?_ ?_); (· first | (go_simp; done) | (go_simp; intro h; cases h)); simp only [Act.put, qsT, qsZ, qsS])
      refine wpList_plain rfl (fun K hK => ?_); go_simp; with_reducible refine hK _ _ ?_; clear hK K
      go_wp2
      exact ⟨⟨i + 1, re2, se2, by go_num, by omega, hre7, hB8, bf8, be8⟩, by simp [intOf]; omega⟩
     | true =>
      have HAA := Lib.hid (fun W => ahead_any re re2 W)
      rw [(hse7 rfl).2] at HAA
      clear hse7
      go_upto_region 15 with (fail)
      refine wp_region_lit ?_
      iterate 2 (refine wpList_plain rfl (fun K hK => ?_); go_simp; with_reducible refine hK _ _ ?_; clear hK K)
      iterate 2 (refine wpList_step (fun K hK => ?_); go_simp; with_reducible refine hK _ _ ?_; clear hK K)
      refine wpList_step (fun K hK => ?_)
      go_simp
      refine (HAA.out _).mono ?_
      rintro e w1 ⟨rfl, rfl⟩
      with_reducible refine hK _ _ ?_
      clear hK K
      refine wpList_step (fun K hK => ?_); go_simp; with_reducible refine hK _ _ ?_; clear hK K
      refine wpList_plain rfl (fun K hK => ?_); go_simp; with_reducible refine hK _ _ ?_; clear hK K
      go_wp2
      exact ⟨⟨i + 1, re2, se2, by go_num, by omega, hre7, hB8, bf8, be8⟩, by simp [intOf]; omega⟩
   ·have ii : ¬ (i : Int) < (na : Int) := by omega
    go_wp2_with (go_at_call 4; refine (HAW.out _).mono ?_; rintro e w1 ⟨bs3, d3, rfl, rfl⟩)
    go_ret
    exact RetV.is_ rfl (belowP be bs3 d3)
end

section
open Go.RowKit Go.ChangeShapes Go.WideShapes
theorem list3 {α : Type} {l : List α} (h : l.length = 3) : ∃ a b c, l = [a, b, c] := by
 match l, h with
 | [a, b, c], _ => exact ⟨a, b, c, rfl⟩
set_option maxRecDepth 100000 in
theorem open_adr_cells {H : Type} {enc : TypeId × Value → H} {W : World} {m : Nat} {cs : List Value} {y : DataW H × List MemPlace}
  (hf : DataW.trod enc Tryz.prog W 0 (fun _ => true) true m 24 cs = some y) : ∃ six, ∃ ah al : Nat, cs = [.bool six, .int .u64 ah, .int .u64 al] ∧ ah < 18446744073709551616 ∧ al < 18446744073709551616 := by
 obtain ⟨xs, n, _, _, hl, hlen, hg⟩ := DataW.trod_struct Tryz.underlying24 hf
 have hC0 : Tryz.prog.cellsOf 4 = 1 := by kernel_rfl
 have hC1 : Tryz.prog.cellsOf 22 = 1 := by kernel_rfl
 have hCR : Tryz.prog.cellsOf 24 = 3 := by kernel_rfl
 rw [hCR] at hl
 obtain ⟨c0, c1, c2, rfl⟩ := list3 hl
 have hx : xs.length = 3 := by rw [hlen]; rfl
 obtain ⟨x0, x1, x2, rfl⟩ := list3 hx
 have h0 := hg 0 _ rfl
 have h1 := hg 1 _ rfl
 have h2 := hg 2 _ rfl
 simp only [List.getElem_toArray, List.getElem_cons_zero, List.getElem_cons_succ, hC0, hC1, List.drop_zero, List.drop_succ_cons, List.take_succ_cons, List.take_zero, List.getElem?_cons_zero, List.getElem?_cons_succ] at h0 h1 h2
 obtain ⟨b, hb, _⟩ := DataW.trod_bool Tryz.underlying4 h0
 obtain ⟨z1, hz1, _, hw1⟩ := DataW.trod_int Tryz.underlying22 h1
 obtain ⟨z2, hz2, _, hw2⟩ := DataW.trod_int Tryz.underlying22 h2
 have b1 := bounds_u64 hw1
 have b2 := bounds_u64 hw2
 simp only [List.cons.injEq, and_true] at hb hz1 hz2
 subst hb hz1 hz2
 exact ⟨b, z1.toNat, z2.toNat, by simp; omega, by omega, by omega⟩
end

section
open Go.RowKit Go.ChangeShapes Go.WideShapes Go.Deep
theorem bulk_one {H : Type} (d : DataW H) : 1 ≤ Rows.uptoBulk d := by
 cases d with
 | lit l => cases l <;> simp [Rows.uptoBulk]
 | _ => simp [Rows.uptoBulk]
theorem bulk_part {H : Type} {d : DataW H} {l : List (DataW H)} (h : d ∈ l) : Rows.uptoBulk d ≤ Rows.uptoBulkAll l := by
 induction l with
 | nil => cases h
 | cons x r ih =>
  simp only [Rows.uptoBulkAll]
  rcases List.mem_cons.1 h with rfl | h
  ·omega
  ·have := ih h
   omega
theorem bulk_length {H : Type} (l : List (DataW H)) : l.length ≤ Rows.uptoBulkAll l := by
 induction l with
 | nil => exact Nat.zero_le _
 | cons x r ih =>
  have := bulk_one x
  simp only [Rows.uptoBulkAll, List.length_cons]
  omega
theorem bulk_slice {H : Type} {enc : TypeId × Value → H} {P : Program} {W : World} {t e : TypeId} {m : Nat} {A : Option Addr} {n c : Nat} {y : DataW H × List MemPlace} (ht : P.underlying t = some (.slice e)) (hf : DataW.trod enc P W 0 (fun _ => true) true m t [.slice A n c] = some y) : n ≤ Rows.uptoBulk y.1 := by
 rcases open_slice ht hf with ⟨hcs, _⟩ | ⟨a, l', c', m, k, D, Pl, hcs, _, hl, hm, hmm, hxe, hx⟩
 ·simp at hcs
  omega
 ·simp at hcs
  obtain ⟨-, rfl, -⟩ := hcs
  rw [hxe]
  have := bulk_length ((List.range n).map D)
  simp only [List.length_map, List.length_range] at this
  simp only [Rows.uptoBulk]
  omega
theorem open_rowsB {X : Type} [Inhabited X] (encX : X → List Value) (ok : X → Prop) (c : Nat) (hlen : ∀ x, (encX x).length = c) (hpos : 0 < c) (BB : Nat) {H : Type} {enc : TypeId × Value → H} {P : Program} {W : World} {base : Nat} {t e : TypeId} {v : Value} {d : DataW H} {p : List MemPlace}
  (ht : P.underlying t = some (.slice e)) (ce : P.cellsOf e = c) (each : ∀ m cs y, DataW.trod enc P W 0 (fun _ => true) true m e cs = some y → Rows.uptoBulk y.1 ≤ BB → ∃ x, cs = encX x ∧ ok x) (hv : Value.okWide P W .any base t v)
  (h : DataW.Trod enc P W 0 (fun _ => true) true t v d p) (hBB : Rows.uptoBulk d ≤ BB) :
  ∃ A k, ∃ L : List X, v = .slice A L.length k ∧ L.length ≤ k ∧ k ≤ maxLen ∧ Rd W W.heap.size A (L.flatMap encX) ∧ ∀ x ∈ L, ok x := by
 obtain ⟨a0, len, cap, rfl⟩ := okWide_slice ht hv
 obtain ⟨fuel, hf⟩ := h
 rcases open_slice ht hf with ⟨hcs, _⟩ | ⟨a, l', c', m, n, D, Pl, hcs, _, hl, hm, hmm, hxe, hx⟩
 ·simp [Value.cells] at hcs
  obtain ⟨rfl, rfl, rfl⟩ := hcs
  exact ⟨none, 0, [], rfl, by simp, by simp, .inl rfl, fun q hq => by simp at hq⟩
 ·simp [Value.cells] at hcs
  obtain ⟨rfl, rfl, rfl⟩ := hcs
  have hde : d = _ := congrArg Prod.fst hxe
  have hlm : len ≤ m := by rw [hmm]; split <;> omega
  have each2 : ∀ i, i < len → ∃ q : X, ok q ∧ ∀ j, j < c → W.cell? ((a.add (i * c)).add j) = (encX q)[j]? := by
   intro i hi
   obtain ⟨cs', h1, h2⟩ := hx i (by omega)
   rw [ce] at h1
   obtain ⟨_, hlen', hcell⟩ := World.cells?_some h1
   obtain ⟨q, rfl, hq⟩ := each _ _ _ h2 (by
    have h3 := bulk_part (l := (List.range len).map D) (List.mem_map.2 ⟨i, List.mem_range.2 hi, rfl⟩)
    rw [hde] at hBB
    simp only [Rows.uptoBulk] at hBB
    show Rows.uptoBulk (D i) ≤ BB
    omega)
   exact ⟨q, hq, hcell⟩
  obtain ⟨F, hF⟩ := choose_lt each2
  have hFl : ∀ (n i : Nat) (u : Value), (((List.range n).map F).flatMap encX)[i]? = some u → i / c < n ∧ (encX (F (i / c)))[i % c]? = some u := by
   intro n
   induction n with
   | zero => intro i u hu; simp at hu
   | succ n ih =>
    intro i u hu
    rw [List.range_succ, List.map_append, List.flatMap_append] at hu
    have hln : (((List.range n).map F).flatMap encX).length = n * c := by
     clear hu ih
     induction n with
     | zero => simp
     | succ n ih => rw [List.range_succ, List.map_append, List.flatMap_append, List.length_append, ih]; simp [hlen, Nat.add_mul]
    by_cases hi : i < n * c
    ·rw [List.getElem?_append_left (by rw [hln]; exact hi)] at hu
     have := ih i u hu
     exact ⟨by omega, this.2⟩
    ·rw [List.getElem?_append_right (by rw [hln]; omega), hln] at hu
     simp only [List.map_cons, List.map_nil, List.flatMap_cons, List.flatMap_nil, List.append_nil] at hu
     have h3 := (List.getElem?_eq_some_iff.1 hu).1
     rw [hlen] at h3
     obtain ⟨r, rfl⟩ : ∃ r, i = n * c + r := ⟨i - n * c, by omega⟩
     have e0 : n * c + r - n * c = r := by omega
     rw [e0] at hu h3
     have e1 : (n * c + r) / c = n := by
      rw [Nat.add_comm, Nat.add_mul_div_right _ _ hpos, Nat.div_eq_of_lt h3]; omega
     have e2 : (n * c + r) % c = r := by rw [Nat.add_comm, Nat.add_mul_mod_self_right, Nat.mod_eq_of_lt h3]
     rw [e1, e2]
     exact ⟨by omega, hu⟩
  refine ⟨some a, cap, (List.range len).map F, by simp, by simpa using hl, hm, ?_, ?_⟩
  ·rcases Nat.eq_zero_or_pos len with h0 | h0
   ·exact .inl (by simp [h0])
   ·have hc0 := (hF 0 h0).2 0 hpos
    obtain ⟨b, off, spot⟩ := a
    have h1 : 0 < (encX (F 0)).length := by rw [hlen]; exact hpos
    rw [List.getElem?_eq_getElem h1] at hc0
    have hspot : spot = none := by simpa [Addr.add] using World.cell?_spot hc0
    subst hspot
    refine .inr ⟨b, off, rfl, by have := lt_of_cell hc0; simpa [Addr.add] using this, fun i u hu => ?_⟩
    obtain ⟨hi, h⟩ := hFl len i u hu
    have hF' := (hF (i / c) hi).2 (i % c) (Nat.mod_lt _ hpos)
    rw [add_plain, add_plain, h] at hF'
    rw [← hF']
    congr 2
    have := Nat.div_add_mod i c
    rw [Nat.mul_comm] at this
    omega
  ·intro q hq
   obtain ⟨i, hi, rfl⟩ := List.mem_map.1 hq
   exact (hF i (List.mem_range.1 hi)).1
theorem listN6' {α : Type} {l : List α} (h : l.length = 6) : ∃ a b c d e f, l = [a, b, c, d, e, f] := by
 match l, h with
 | [a, b, c, d, e, f], _ => exact ⟨a, b, c, d, e, f, rfl⟩
theorem list10' {α : Type} {l : List α} (h : l.length = 10) : ∃ a0 a1 a2 a3 a4 a5 a6 a7 a8 a9, l = [a0, a1, a2, a3, a4, a5, a6, a7, a8, a9] := by
 match l, h with
 | [a0, a1, a2, a3, a4, a5, a6, a7, a8, a9], _ => exact ⟨a0, a1, a2, a3, a4, a5, a6, a7, a8, a9, rfl⟩
theorem list17' {α : Type} {l : List α} (h : l.length = 17) : ∃ a0 a1 a2 a3 a4 a5 a6 a7 a8 a9 a10 a11 a12 a13 a14 a15 a16, l = [a0, a1, a2, a3, a4, a5, a6, a7, a8, a9, a10, a11, a12, a13, a14, a15, a16] := by
 match l, h with
 | [a0, a1, a2, a3, a4, a5, a6, a7, a8, a9, a10, a11, a12, a13, a14, a15, a16], _ => exact ⟨a0, a1, a2, a3, a4, a5, a6, a7, a8, a9, a10, a11, a12, a13, a14, a15, a16, rfl⟩
set_option maxRecDepth 100000 in
theorem open_seg33 {H : Type} {enc : TypeId × Value → H} {W : World} {m : Nat} {cs : List Value} {y : DataW H × List MemPlace} (hf : DataW.trod enc Tryz.prog W 0 (fun _ => true) true m 39 cs = some y) :
  ∃ x0 x1 x2 x3 x4 x5 x6 x7 : Nat, ∃ A n c B k d, ∃ l l' : List UInt8, cs = tcC x0 x1 x2 x3 x4 x5 x6 x7 A n c B k d ∧ Rb W A n c l ∧ Rb W B k d l' ∧ n ≤ Rows.uptoBulk y.1 ∧ k ≤ Rows.uptoBulk y.1 := by
 obtain ⟨xs, nn, _, hy, hl, hlen, hg⟩ := DataW.trod_struct Tryz.underlying39 hf
 have hC0 : Tryz.prog.cellsOf 25 = 1 := by kernel_rfl
 have hC1 : Tryz.prog.cellsOf 34 = 1 := by kernel_rfl
 have hC2 : Tryz.prog.cellsOf 5 = 1 := by kernel_rfl
 have hC3 : Tryz.prog.cellsOf 37 = 1 := by kernel_rfl
 have hCR : Tryz.prog.cellsOf 39 = 10 := by kernel_rfl
 rw [hCR] at hl
 obtain ⟨c0, c1, c2, c3, c4, c5, c6, c7, c8, c9, rfl⟩ := list10' hl
 have hx : xs.length = 10 := by rw [hlen]; rfl
 obtain ⟨y0, y1, y2, y3, y4, y5, y6, y7, y8, y9, rfl⟩ := list10' hx
 have h0 := hg 0 _ rfl
 have h1 := hg 1 _ rfl
 have h2 := hg 2 _ rfl
 have h3 := hg 3 _ rfl
 have h4 := hg 4 _ rfl
 have h5 := hg 5 _ rfl
 have h6 := hg 6 _ rfl
 have h7 := hg 7 _ rfl
 have h8 := hg 8 _ rfl
 have h9 := hg 9 _ rfl
 simp only [List.getElem_toArray, List.getElem_cons_zero, List.getElem_cons_succ, hC0, hC1, hC2, hC3, List.drop_zero, List.drop_succ_cons, List.take_succ_cons, List.take_zero, List.getElem?_cons_zero, List.getElem?_cons_succ] at h0 h1 h2 h3 h4 h5 h6 h7 h8 h9
 obtain ⟨z0, e0, -, w0⟩ := DataW.trod_int Tryz.underlying25 h0
 have v0 := bounds_u16 w0
 obtain ⟨z1, e1, -, w1⟩ := DataW.trod_int Tryz.underlying25 h1
 have v1 := bounds_u16 w1
 obtain ⟨z2, e2, -, w2⟩ := DataW.trod_int Tryz.underlying34 h2
 have v2 := bounds_u32 w2
 obtain ⟨z3, e3, -, w3⟩ := DataW.trod_int Tryz.underlying34 h3
 have v3 := bounds_u32 w3
 obtain ⟨z4, e4, -, w4⟩ := DataW.trod_int Tryz.underlying5 h4
 have v4 := bounds_u8 w4
 obtain ⟨z5, e5, -, w5⟩ := DataW.trod_int Tryz.underlying25 h5
 have v5 := bounds_u16 w5
 obtain ⟨z6, e6, -, w6⟩ := DataW.trod_int Tryz.underlying25 h6
 have v6 := bounds_u16 w6
 obtain ⟨z7, e7, -, w7⟩ := DataW.trod_int Tryz.underlying25 h7
 have v7 := bounds_u16 w7
 obtain ⟨A, n, c, l, rfl, -, hr⟩ := open_bytes_cell Tryz.underlying37 Tryz.underlying5 (by kernel_rfl) h8
 obtain ⟨B, k, d, l', rfl, -, hr'⟩ := open_bytes_cell Tryz.underlying37 Tryz.underlying5 (by kernel_rfl) h9
 have b8 := bulk_slice Tryz.underlying37 h8
 have b9 := bulk_slice Tryz.underlying37 h9
 have hp8 : Rows.uptoBulk y8.1 ≤ Rows.uptoBulkAll ([y0, y1, y2, y3, y4, y5, y6, y7, y8, y9].map (·.1)) := bulk_part (by simp)
 have hp9 : Rows.uptoBulk y9.1 ≤ Rows.uptoBulkAll ([y0, y1, y2, y3, y4, y5, y6, y7, y8, y9].map (·.1)) := bulk_part (by simp)
 have hyb : Rows.uptoBulk y.1 = Rows.uptoBulkAll ([y0, y1, y2, y3, y4, y5, y6, y7, y8, y9].map (·.1)) + 1 := by rw [hy]; simp only [Rows.uptoBulk]
 simp only [List.cons.injEq, and_true] at e0 e1 e2 e3 e4 e5 e6 e7
 subst e0 e1 e2 e3 e4 e5 e6 e7
 refine ⟨z0.toNat, z1.toNat, z2.toNat, z3.toNat, z4.toNat, z5.toNat, z6.toNat, z7.toNat, A, n, c, B, k, d, l, l', ?_, hr, hr', by omega, by omega⟩
 unfold tcC
 rw [Int.toNat_of_nonneg (by omega), Int.toNat_of_nonneg (by omega), Int.toNat_of_nonneg (by omega), Int.toNat_of_nonneg (by omega), Int.toNat_of_nonneg (by omega), Int.toNat_of_nonneg (by omega), Int.toNat_of_nonneg (by omega), Int.toNat_of_nonneg (by omega)]
set_option maxRecDepth 100000 in
theorem open_ak {H : Type} {enc : TypeId × Value → H} {W : World} {m : Nat} {cs : List Value} {y : DataW H × List MemPlace} (hf : DataW.trod enc Tryz.prog W 0 (fun _ => true) true m 41 cs = some y) (hBB : Rows.uptoBulk y.1 ≤ 1048576) : ∃ x : AkX, cs = x.cs ∧ x.ok W ∧ x.sm := by
 obtain ⟨xs, nn, _, hy, hl, hlen, hg⟩ := DataW.trod_struct Tryz.underlying41 hf
 have hC0 : Tryz.prog.cellsOf 3 = 1 := by kernel_rfl
 have hC1 : Tryz.prog.cellsOf 5 = 1 := by kernel_rfl
 have hC2 : Tryz.prog.cellsOf 37 = 1 := by kernel_rfl
 have hC3 : Tryz.prog.cellsOf 39 = 10 := by kernel_rfl
 have hC4 : Tryz.prog.cellsOf 24 = 3 := by kernel_rfl
 have hC5 : Tryz.prog.cellsOf 25 = 1 := by kernel_rfl
 have hCR : Tryz.prog.cellsOf 41 = 17 := by kernel_rfl
 rw [hCR] at hl
 obtain ⟨c0, c1, c2, c3, c4, c5, c6, c7, c8, c9, c10, c11, c12, c13, c14, c15, c16, rfl⟩ := list17' hl
 have hx : xs.length = 6 := by rw [hlen]; rfl
 obtain ⟨y0, y1, y2, y3, y4, y5, rfl⟩ := listN6' hx
 have h0 := hg 0 _ rfl
 have h1 := hg 1 _ rfl
 have h2 := hg 2 _ rfl
 have h3 := hg 3 _ rfl
 have h4 := hg 4 _ rfl
 have h5 := hg 5 _ rfl
 simp only [List.getElem_toArray, List.getElem_cons_zero, List.getElem_cons_succ, hC0, hC1, hC2, hC3, hC4, hC5, List.drop_zero, List.drop_succ_cons, List.take_succ_cons, List.take_zero, List.getElem?_cons_zero, List.getElem?_cons_succ] at h0 h1 h2 h3 h4 h5
 obtain ⟨z0, e0, -, -⟩ := DataW.trod_int Tryz.underlying3 h0
 obtain ⟨z1, e1, -, w1⟩ := DataW.trod_int Tryz.underlying5 h1
 have v1 := bounds_u8 w1
 obtain ⟨z5, e5, -, w5⟩ := DataW.trod_int Tryz.underlying25 h5
 have v5 := bounds_u16 w5
 obtain ⟨A, n, c, l, rfl, -, hr⟩ := open_bytes_cell Tryz.underlying37 Tryz.underlying5 (by kernel_rfl) h2
 have b2 := bulk_slice Tryz.underlying37 h2
 obtain ⟨x0, x1, x2, x3, x4, x5, x6, x7, A1, n1, k1, A2, n2, k2, l1, l2, es, hr1, hr2, b31, b32⟩ := open_seg33 h3
 obtain ⟨six, ah, al, ea, -, -⟩ := open_adr_cells h4
 have hp2 : Rows.uptoBulk y2.1 ≤ Rows.uptoBulkAll ([y0, y1, y2, y3, y4, y5].map (·.1)) := bulk_part (by simp)
 have hp3 : Rows.uptoBulk y3.1 ≤ Rows.uptoBulkAll ([y0, y1, y2, y3, y4, y5].map (·.1)) := bulk_part (by simp)
 have hyb : Rows.uptoBulk y.1 = Rows.uptoBulkAll ([y0, y1, y2, y3, y4, y5].map (·.1)) + 1 := by rw [hy]; simp only [Rows.uptoBulk]
 simp only [tcC, List.cons.injEq, and_true] at e0 e1 e5 es ea
 obtain ⟨rfl, rfl, rfl⟩ := ea
 obtain ⟨rfl, rfl, rfl, rfl, rfl, rfl, rfl, rfl, rfl, rfl⟩ := es
 subst e0 e1 e5
 refine ⟨⟨z0, z1.toNat, A, n, c, l, x0, x1, x2, x3, x4, x5, x6, x7, A1, n1, k1, l1, A2, n2, k2, l2, six, ah, al, z5.toNat⟩, ?_, ⟨hr, hr1, hr2⟩, ?_⟩
 ·simp only [AkX.cs, AkX.sg, tcC, adC, List.cons_append, List.nil_append]
  rw [Int.toNat_of_nonneg (by omega), Int.toNat_of_nonneg (by omega)]
 ·simp only [AkX.sm]
  omega
set_option maxRecDepth 100000 in
theorem open_aks {H : Type} {enc : TypeId × Value → H} {W : World} {base : Nat} {v : Value} {dt : DataW H} {p : List MemPlace} (hv : Value.okWide Tryz.prog W .any base 28 v) (h : DataW.Trod enc Tryz.prog W 0 (fun _ => true) true 28 v dt p) (hBB : Rows.uptoBulk dt ≤ 1048576) :
  ∃ A k, ∃ L : List AkX, v = .slice A L.length k ∧ L.length ≤ k ∧ k ≤ maxLen ∧ Rd W W.heap.size A (L.flatMap AkX.cs) ∧ ∀ x ∈ L, x.ok W ∧ x.sm :=
 open_rowsB AkX.cs (fun x => x.ok W ∧ x.sm) 17 AkX.cs_len (by decide) 1048576 Tryz.underlying28 (by kernel_rfl) (fun m cs y hy hb => open_ak hy hb) hv h hBB
set_option maxRecDepth 100000 in
theorem open_flow33 {H : Type} {enc : TypeId × Value → H} {W : World} {base : Nat} {v : Value} {d : DataW H} {p : List MemPlace} (hv : Value.okWide Tryz.prog W .any base 27 v)
  (h : DataW.Trod enc Tryz.prog W 0 (fun _ => true) true 27 v d p) : ∃ s6, ∃ sh sl : Nat, ∃ d6, ∃ dh dl sp dp pr : Nat, v = .agg (flC s6 sh sl d6 dh dl sp dp pr).toArray ∧ sh < 18446744073709551616 ∧ sl < 18446744073709551616 ∧ dh < 18446744073709551616 ∧ dl < 18446744073709551616 ∧ sp < 65536 ∧ dp < 65536 := by
 obtain ⟨cs, rfl, hsz⟩ := okWide_struct Tryz.underlying27 hv
 obtain ⟨fuel, hf⟩ := h
 obtain ⟨xs, n, _, _, hl, hlen, hg⟩ := DataW.trod_struct Tryz.underlying27 hf
 have hC0 : Tryz.prog.cellsOf 24 = 3 := by kernel_rfl
 have hC1 : Tryz.prog.cellsOf 25 = 1 := by kernel_rfl
 have hC2 : Tryz.prog.cellsOf 5 = 1 := by kernel_rfl
 have hCR : Tryz.prog.cellsOf 27 = 9 := by kernel_rfl
 rw [hCR] at hl
 have hx : xs.length = 5 := by rw [hlen]; rfl
 obtain ⟨y0, y1, y2, y3, y4, rfl⟩ : ∃ a b c d e, xs = [a, b, c, d, e] := by
  match xs, hx with
  | [a, b, c, d, e], _ => exact ⟨a, b, c, d, e, rfl⟩
 have h0 := hg 0 _ rfl
 have h1 := hg 1 _ rfl
 have h2 := hg 2 _ rfl
 have h3 := hg 3 _ rfl
 have h4 := hg 4 _ rfl
 obtain ⟨ls, hls⟩ : ∃ ls, (Value.agg cs).cells.toList = ls := ⟨_, rfl⟩
 rw [hls] at hl h0 h1 h2 h3 h4
 obtain ⟨c0, c1, c2, c3, c4, c5, c6, c7, c8, rfl⟩ : ∃ a b c d e f g i j, ls = [a, b, c, d, e, f, g, i, j] := by
  match ls, hl with
  | [a, b, c, d, e, f, g, i, j], _ => exact ⟨a, b, c, d, e, f, g, i, j, rfl⟩
 simp only [List.getElem_toArray, List.getElem_cons_zero, List.getElem_cons_succ, hC0, hC1, hC2, List.drop_zero, List.drop_succ_cons, List.take_succ_cons, List.take_zero, List.getElem?_cons_zero, List.getElem?_cons_succ] at h0 h1 h2 h3 h4
 obtain ⟨s6, sh, sl, es, s1, s2⟩ := open_adr_cells h0
 obtain ⟨d6, dh, dl, ed, d1, d2⟩ := open_adr_cells h1
 obtain ⟨z2, hz2, _, hw2⟩ := DataW.trod_int Tryz.underlying25 h2
 obtain ⟨z3, hz3, _, hw3⟩ := DataW.trod_int Tryz.underlying25 h3
 obtain ⟨z4, hz4, _, hw4⟩ := DataW.trod_int Tryz.underlying5 h4
 have b2 := bounds_u16 hw2
 have b3 := bounds_u16 hw3
 have b4 := bounds_u8 hw4
 simp only [List.cons.injEq, and_true] at es ed hz2 hz3 hz4
 obtain ⟨rfl, rfl, rfl⟩ := es
 obtain ⟨rfl, rfl, rfl⟩ := ed
 subst hz2 hz3 hz4
 refine ⟨s6, sh, sl, d6, dh, dl, z2.toNat, z3.toNat, z4.toNat, ?_, s1, s2, d1, d2, by omega, by omega⟩
 simp only [Value.cells] at hls
 congr 1
 apply Array.toList_inj.1
 rw [hls]
 simp [flC]
 omega
theorem clientForward_row (w : World) (s6 : Bool) (sh sl : Nat) (d6 : Bool) (dh dl sp dp pr : Nat) (k1 : sh < 18446744073709551616) (k2 : sl < 18446744073709551616) (k3 : dh < 18446744073709551616) (k4 : dl < 18446744073709551616) (hsp : sp < 65536) (hdp : dp < 65536) (A : Option Addr) (k : Nat) (L : List AkX) (hl : L.length ≤ k) (hk : k ≤ maxLen) (hr : Rd w w.heap.size A (L.flatMap AkX.cs)) (hok : ∀ x ∈ L, x.ok w ∧ x.sm) : Calls Tryz.prog 3 #[.agg (flC s6 sh sl d6 dh dl sp dp pr).toArray, .slice A L.length k] w fun e w' => e = .returned (.bool true) ∧ Below w.heap.size w w' := by
 simp only [maxLen] at hk
 refine (clientForward_walk s6 sh sl d6 dh dl sp dp pr L A L.length k w k1 k2 k3 k4 hsp hdp ⟨flat_len AkX.cs 17 AkX.cs_len L, hl, hr⟩ (fun x hx => (hok x hx).1) (fun x hx => (hok x hx).2) (by omega)).mono ?_
 rintro e w' ⟨bs, d, rfl, rfl⟩
 exact ⟨rfl, below_plus _ _ _⟩
end

end Go.Proofs.YtlpbahleaeieoaaGreat
