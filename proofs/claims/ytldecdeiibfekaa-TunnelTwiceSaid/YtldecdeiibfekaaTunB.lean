/- tunnel.Unwrap. -/
import Derived.Test.YtldecdeiibfekaaTunA
namespace Go.Proofs.Ytldecdeiibfekaa
open Go.RowKit
set_option linter.unusedVariables false
set_option linter.unusedSimpArgs false
attribute [local go_sem ↓] sliced_cut
attribute [local go_sem] cutA_zero

/-- what becomes of a packet that was opened: its load, its number, its error -/
inductive Fate (load : List UInt8) (nr : Nat) (E1 : Int) : Bool → Int → Prop
  | err (h : (E1 != 0) = true) : Fate load nr E1 false E1
  | none_ (h : E1 = 0) (h4 : ((nr : Int) != 4) = true) (h41 : ((nr : Int) != 41) = true) : Fate load nr E1 false 6
  | six (N : Int) (B : Bool) (E2 : Int) (s : Sx load N B E2) (h : E1 = 0) (hnr : nr = 4 ∨ nr = 41) (hE : (E2 != 0) = true) : Fate load nr E1 false E2
  | mis (N : Int) (B : Bool) (s : Sx load N B 0) (h : E1 = 0) (hN : N = 6 ∧ B = true ∧ nr = 4 ∨ N = 4 ∧ B = false ∧ nr = 41) : Fate load nr E1 false 21
  | ok (N : Int) (B : Bool) (s : Sx load N B 0) (h : E1 = 0) (hN : N = 4 ∧ B = false ∧ nr = 4 ∨ N = 6 ∧ B = true ∧ nr = 41) : Fate load nr E1 true 0
theorem sx_ok {l : List UInt8} {N : Int} {B : Bool} (s : Sx l N B 0) : N = 4 ∧ B = false ∨ N = 6 ∧ B = true := by
  cases s
  · exact .inl ⟨rfl, rfl⟩
  · exact .inr ⟨rfl, rfl⟩
theorem sx_E {l : List UInt8} {N : Int} {B : Bool} {E : Int} (s : Sx l N B E) : E = 0 ∨ (E != 0) = true := by
  cases s
  · exact .inr rfl
  · exact .inl rfl
  · exact .inl rfl
  · exact .inr rfl
theorem fate_any (load : List UInt8) (nr : Nat) (E1 : Int) : ∃ ok E, Fate load nr E1 ok E := by
  by_cases hE : E1 = 0
  case neg => exact ⟨_, _, .err (by rw [bne_iff_ne]; exact hE)⟩
  by_cases hnr : nr = 4 ∨ nr = 41
  case neg => exact ⟨_, _, .none_ hE (by rw [bne_iff_ne]; omega) (by rw [bne_iff_ne]; omega)⟩
  obtain ⟨N, B, E2, s⟩ := sx_any load
  rcases sx_E s with rfl | h2
  case inr => exact ⟨_, _, .six N B E2 s hE hnr h2⟩
  rcases sx_ok s with ⟨rfl, rfl⟩ | ⟨rfl, rfl⟩ <;> rcases hnr with h | h
  · exact ⟨_, _, .ok _ _ s hE (.inl ⟨rfl, rfl, h⟩)⟩
  · exact ⟨_, _, .mis _ _ s hE (.inr ⟨rfl, rfl, h⟩)⟩
  · exact ⟨_, _, .mis _ _ s hE (.inl ⟨rfl, rfl, h⟩)⟩
  · exact ⟨_, _, .ok _ _ s hE (.inr ⟨rfl, rfl, h⟩)⟩
def RetTF (w : World) (load : List UInt8) (s6 : Bool) (sh sl : Nat) (d6 : Bool) (dh dl tl : Nat) (ok : Bool) (E : Int) (e : Ending) (w' : World) : Prop := match ok with
  | true => RetTW w load s6 sh sl d6 dh dl tl E e w'
  | false => RetTW w [] false 0 0 false 0 0 0 E e w'
set_option maxHeartbeats 4000000 in
set_option maxRecDepth 100000 in
theorem unwrap_all (A : Option Addr) (n c : Nat) (load : List UInt8) (s6 : Bool) (sh sl : Nat) (d6 : Bool) (dh dl tl : Nat) (nr : Nat) (E1 : Int) (w : World) (ok : Bool) (E : Int) (F : Fate load nr E1 ok E) (HO : ∀ w', Below w.heap.size w w' → Calls Try.prog 136 #[.slice A n c] w' (RetTO w' load s6 sh sl d6 dh dl tl nr E1)) : Calls Try.prog 72 #[.slice A n c] w (RetTF w load s6 sh sl d6 dh dl tl ok E) := by
  obtain ⟨dy, y1, y2⟩ := rowWy
  replace HO := Lib.hid HO
  have b3 : Bk (w.alloc (.cells #[.bool false, .int .u64 0, .int .u64 0, .bool false, .int .u64 0, .int .u64 0, .int .u8 0] 126)) w.heap.size 126 (wyC false 0 0 false 0 0 0) := Bk.new w 126 #[.bool false, .int .u64 0, .int .u64 0, .bool false, .int .u64 0, .int .u64 0, .int .u8 0]
  have be : Below w.heap.size w (w.alloc (.cells #[.bool false, .int .u64 0, .int .u64 0, .bool false, .int .u64 0, .int .u64 0, .int .u8 0] 126)) := Below.allocS (Below.refl _ _) _
  go_enter Try.func72, Try.ntmps72
  go_upto_region 1 with (fail)
  have zV : w.heap.size + 1 ≤ (w.alloc (.cells #[.bool false, .int .u64 0, .int .u64 0, .bool false, .int .u64 0, .int .u64 0, .int .u8 0] 126)).heap.size := by simp
  generalize w.alloc (.cells #[.bool false, .int .u64 0, .int .u64 0, .bool false, .int .u64 0, .int .u64 0, .int .u8 0] 126) = V at *
  have zb3 : w.heap.size < V.heap.size := zV
  go_wp2_with fail
  refine (HO.out _ be).mono ?_
  rintro e w1 ⟨A1, n1, k1, bs1, d1, rfl, rfl, hl, hf⟩
  go_upto_region 2 with (refine at_op (.store 126 (.tmp 6) (.tmp 14)) rfl ?_; refine wpList_stA (t := 126) 126 (.tmp 6) (.tmp 14) rfl rfl (wyC s6 sh sl d6 dh dl tl) (wyC false 0 0 false 0 0 0) rfl (wyC_one _ _ _ _ _ _ _) rfl rfl ?_ (szWy _ _ _ _ _ _ _) ?_; (· refine Bk.newK _ _ _ ?_ rfl; simp [size_plus]); intro W6 hX gr6)
  have z0 := be.size
  have b6 := below_grown (Below.allocS (below_plus V bs1 d1) _) gr6 (by omega)
  replace be := be.trans (b6.mono z0)
  replace b3 := b3.later b6
  replace hl := hl.later (below_grown (Below.allocS (Below.refl _ _) _) gr6 (by simp [size_plus]))
  have hg6 : w.heap.size < V.heap.size + bs1.length := by omega
  clear b6 gr6
  generalize V.heap.size + bs1.length = g6 at *
  rcases F with hE | ⟨hE, h4, h41⟩ | ⟨N, B, _, s, hE, hnr, hE2⟩ | ⟨N, B, s, hE, hN⟩ | ⟨N, B, s, hE, hN⟩
  ·
    go_wp2_with (refine at_op (.store 126 (.tmp 3) (.tmp 19)) rfl ?_; refine wpList_stA (t := 126) 126 (.tmp 3) (.tmp 19) rfl rfl (wyC false 0 0 false 0 0 0) (wyC false 0 0 false 0 0 0) rfl (wyC_one _ _ _ _ _ _ _) rfl rfl (by with_reducible repeat (first | exact b3 | refine Bk.later ?_ (below_plus _ _ _) | refine Bk.alloc ?_ _)) (szWy _ _ _ _ _ _ _) ?_; intro W9 h9 g9)
    refine bodyPost_o3 Try.results72 rfl rfl rfl h9.range y1 y2 (szWy _ _ _ _ _ _ _) rfl ?_
    exact RetTW.mk Rb.nil_ (below_grown be g9 (by omega))
  ·
    subst hE
    go_wp2_with (refine at_op (.store 126 (.tmp 3) (.tmp 27)) rfl ?_; refine wpList_stA (t := 126) 126 (.tmp 3) (.tmp 27) rfl rfl (wyC false 0 0 false 0 0 0) (wyC false 0 0 false 0 0 0) rfl (wyC_one _ _ _ _ _ _ _) rfl rfl (by with_reducible repeat (first | exact b3 | refine Bk.later ?_ (below_plus _ _ _) | refine Bk.alloc ?_ _)) (szWy _ _ _ _ _ _ _) ?_; intro W9 h9 g9)
    refine bodyPost_o3 Try.results72 rfl rfl rfl h9.range y1 y2 (szWy _ _ _ _ _ _ _) rfl ?_
    exact RetTW.mk Rb.nil_ (below_grown be g9 (by omega))
  ·
    subst hE
    rcases hnr with hnr | hnr
    · have f1 : ((nr : Int) != 4) = false := by rw [hnr]; rfl
      have f2 : ((nr : Int) == 41) = false := by rw [hnr]; rfl
      have f3 : ((nr : Int) != 41) = true := by rw [hnr]; rfl
      clear hnr
      go_wp2_with fail
      refine (tunSix _ _ _ _ _ hl _ _ _ s).mono ?_
      rintro e w1 ⟨rfl, rfl⟩
      go_wp2_with (refine at_op (.store 126 (.tmp 3) (.tmp 35)) rfl ?_; refine wpList_stA (t := 126) 126 (.tmp 3) (.tmp 35) rfl rfl (wyC false 0 0 false 0 0 0) (wyC false 0 0 false 0 0 0) rfl (wyC_one _ _ _ _ _ _ _) rfl rfl (by with_reducible repeat (first | exact b3 | refine Bk.later ?_ (below_plus _ _ _) | refine Bk.alloc ?_ _)) (szWy _ _ _ _ _ _ _) ?_; intro W9 h9 g9)
      refine bodyPost_o3 Try.results72 rfl rfl rfl h9.range y1 y2 (szWy _ _ _ _ _ _ _) rfl ?_
      exact RetTW.mk Rb.nil_ (below_grown be g9 (by omega))
    · have f1 : ((nr : Int) != 4) = true := by rw [hnr]; rfl
      have f2 : ((nr : Int) == 41) = true := by rw [hnr]; rfl
      have f3 : ((nr : Int) != 41) = false := by rw [hnr]; rfl
      clear hnr
      go_wp2_with fail
      refine (tunSix _ _ _ _ _ hl _ _ _ s).mono ?_
      rintro e w1 ⟨rfl, rfl⟩
      go_wp2_with (refine at_op (.store 126 (.tmp 3) (.tmp 35)) rfl ?_; refine wpList_stA (t := 126) 126 (.tmp 3) (.tmp 35) rfl rfl (wyC false 0 0 false 0 0 0) (wyC false 0 0 false 0 0 0) rfl (wyC_one _ _ _ _ _ _ _) rfl rfl (by with_reducible repeat (first | exact b3 | refine Bk.later ?_ (below_plus _ _ _) | refine Bk.alloc ?_ _)) (szWy _ _ _ _ _ _ _) ?_; intro W9 h9 g9)
      refine bodyPost_o3 Try.results72 rfl rfl rfl h9.range y1 y2 (szWy _ _ _ _ _ _ _) rfl ?_
      exact RetTW.mk Rb.nil_ (below_grown be g9 (by omega))
  ·
    subst hE
    rcases hN with ⟨rfl, rfl, hnr⟩ | ⟨rfl, rfl, hnr⟩
    · have f1 : ((nr : Int) != 4) = false := by rw [hnr]; rfl
      have f2 : ((nr : Int) == 41) = false := by rw [hnr]; rfl
      have f3 : ((nr : Int) != 41) = true := by rw [hnr]; rfl
      have f4 : ((nr : Int) != (pro true : Int)) = true := by rw [hnr]; rfl
      clear hnr
      go_wp2_with fail
      refine (tunSix _ _ _ _ _ hl _ _ _ s).mono ?_
      rintro e w1 ⟨rfl, rfl⟩
      go_wp2_with fail
      refine (tunProto _ _).mono ?_
      rintro e w1 ⟨rfl, rfl⟩
      go_wp2_with (refine at_op (.store 126 (.tmp 3) (.tmp 41)) rfl ?_; refine wpList_stA (t := 126) 126 (.tmp 3) (.tmp 41) rfl rfl (wyC false 0 0 false 0 0 0) (wyC false 0 0 false 0 0 0) rfl (wyC_one _ _ _ _ _ _ _) rfl rfl (by with_reducible repeat (first | exact b3 | refine Bk.later ?_ (below_plus _ _ _) | refine Bk.alloc ?_ _)) (szWy _ _ _ _ _ _ _) ?_; intro W9 h9 g9)
      refine bodyPost_o3 Try.results72 rfl rfl rfl h9.range y1 y2 (szWy _ _ _ _ _ _ _) rfl ?_
      exact RetTW.mk Rb.nil_ (below_grown be g9 (by omega))
    · have f1 : ((nr : Int) != 4) = true := by rw [hnr]; rfl
      have f2 : ((nr : Int) == 41) = true := by rw [hnr]; rfl
      have f3 : ((nr : Int) != 41) = false := by rw [hnr]; rfl
      have f4 : ((nr : Int) != (pro false : Int)) = true := by rw [hnr]; rfl
      clear hnr
      go_wp2_with fail
      refine (tunSix _ _ _ _ _ hl _ _ _ s).mono ?_
      rintro e w1 ⟨rfl, rfl⟩
      go_wp2_with fail
      refine (tunProto _ _).mono ?_
      rintro e w1 ⟨rfl, rfl⟩
      go_wp2_with (refine at_op (.store 126 (.tmp 3) (.tmp 41)) rfl ?_; refine wpList_stA (t := 126) 126 (.tmp 3) (.tmp 41) rfl rfl (wyC false 0 0 false 0 0 0) (wyC false 0 0 false 0 0 0) rfl (wyC_one _ _ _ _ _ _ _) rfl rfl (by with_reducible repeat (first | exact b3 | refine Bk.later ?_ (below_plus _ _ _) | refine Bk.alloc ?_ _)) (szWy _ _ _ _ _ _ _) ?_; intro W9 h9 g9)
      refine bodyPost_o3 Try.results72 rfl rfl rfl h9.range y1 y2 (szWy _ _ _ _ _ _ _) rfl ?_
      exact RetTW.mk Rb.nil_ (below_grown be g9 (by omega))
  ·
    subst hE
    rcases hN with ⟨rfl, rfl, hnr⟩ | ⟨rfl, rfl, hnr⟩
    · have f1 : ((nr : Int) != 4) = false := by rw [hnr]; rfl
      have f2 : ((nr : Int) == 41) = false := by rw [hnr]; rfl
      have f3 : ((nr : Int) != 41) = true := by rw [hnr]; rfl
      have f4 : ((nr : Int) != (pro false : Int)) = false := by rw [hnr]; rfl
      clear hnr
      go_wp2_with fail
      refine (tunSix _ _ _ _ _ hl _ _ _ s).mono ?_
      rintro e w1 ⟨rfl, rfl⟩
      go_wp2_with fail
      refine (tunProto _ _).mono ?_
      rintro e w1 ⟨rfl, rfl⟩
      go_upto_region 11 with (fail)
      have nX : ¬ (fun b => b = w.heap.size) g6 := fun h => by have h' : g6 = w.heap.size := h; omega
      go_wp2
      refine wp_suS (fun b => b = w.heap.size) 5 44 2 [3] rfl (by kernel_rfl) (by kernel_rfl) (fun k w' => Bk w' w.heap.size 126 (if k = 0 then wyC false 0 0 false 0 0 0 else wyC s6 sh sl d6 dh dl tl)) (fun k w w' h h' => h.later h'.below) (b3) ?_
      apply StepsC.one (MC.eq _) 1 rfl (by decide)
      · intro o ho FA w' hC hO hD K hK
        obtain rfl := Option.some.inj ho.symm
        clear ho
        have e5 := hO 5 (by kernel_rfl)
        simp only [eval_tmp, List.getElem?_toArray, List.getElem?_cons_succ, List.getElem?_cons_zero, Option.getD_some] at e5
        have ev5 := Lib.hid ((eval_tmp FA 5).trans e5)
        clear hO hD
        go_simp
        exact hK.out _ _ (Ex.refl _) rfl
      apply StepsC.one (MC.eq _) 2 rfl (by decide)
      · intro o ho FA w' hC hO hD K hK
        obtain rfl := Option.some.inj ho.symm
        clear ho
        have e6 := hO 6 (by kernel_rfl)
        simp only [eval_tmp, List.getElem?_toArray, List.getElem?_cons_succ, List.getElem?_cons_zero, Option.getD_some] at e6
        have ev6 := Lib.hid ((eval_tmp FA 6).trans e6)
        clear hO hD
        refine wanted_if rfl ?_
        refine wp_ldA 126 (.tmp 6) rfl (wyC s6 sh sl d6 dh dl tl) ev6.out (hX.chg hC nX) (whole_ _) y1 y2 (szWy _ _ _ _ _ _ _) ?_
        exact hK.out _ _ (Ex.refl _) rfl
      apply StepsC.one (MC.eq _) 3 rfl (by decide)
      · intro o ho FA w' hC hO hD K hK
        obtain rfl := Option.some.inj ho.symm
        clear ho
        have ev42 : FA.eval (.tmp 42) = _ := hD 0 42 (by kernel_rfl)
        have e42 := (eval_tmp FA 42).symm.trans ev42
        replace ev42 := Lib.hid ev42
        clear hO hD
        go_simp
        exact hK.out _ _ (Ex.refl _) rfl
      apply StepsC.mov MC.any 4 0 rfl rfl rfl
      · intro o ho FA w' hC hO hD hS K hK
        obtain rfl := Option.some.inj ho.symm
        clear ho
        have e3 := hO 3 (by kernel_rfl)
        simp only [eval_tmp, List.getElem?_toArray, List.getElem?_cons_succ, List.getElem?_cons_zero, Option.getD_some] at e3
        have ev3 := Lib.hid ((eval_tmp FA 3).trans e3)
        have ev43 : FA.eval (.tmp 43) = _ := hD 1 43 (by kernel_rfl)
        have e43 := (eval_tmp FA 43).symm.trans ev43
        replace ev43 := Lib.hid ev43
        clear hO hD
        refine wanted_if rfl ?_
        refine wp_stA 126 (.tmp 3) (.tmp 43) rfl (wyC s6 sh sl d6 dh dl tl) (wyC false 0 0 false 0 0 0) rfl (wyC_one _ _ _ _ _ _ _) ev3.out ev43.out hS (szWy _ _ _ _ _ _ _) ?_
        intro w'' hn hg
        exact hK.out undef _ (Chg.one hg rfl) hn trivial
      apply StepsC.one (MC.eq _) 5 rfl (by decide)
      · intro o ho FA w' hC hO hD K hK
        obtain rfl := Option.some.inj ho.symm
        clear ho
        clear hO hD
        go_simp
        exact hK.out _ _ (Ex.refl _) rfl
      refine StepsC.fin_ (fun vs w' hC hS hp => ?_)
      have p0 : vs 0 = _ := hp 0 (by omega) rfl
      have p1 : vs 1 = _ := hp 1 (by omega) rfl
      have p2 : vs 2 = _ := hp 2 (by omega) rfl
      have p4 : vs 4 = _ := hp 4 (by omega) rfl
      clear hp
      simp only [List.take_succ_cons, List.take_zero, List.drop_succ_cons, List.drop_zero, putAll, Nat.zero_add, Nat.reduceAdd, Act.put, List.setIfInBounds_toArray, List.set_cons_zero, List.set_cons_succ, p0, p1, p2, p4]
      clear p0 p1 p2 p4
      clear vs
      replace hl := hl.chg hC (fun a ha h => by have h' : a.block = w.heap.size := h; have := hf a ha; omega)
      replace be : Below w.heap.size w w' := be.trans (hC.below (B := w.heap.size) (fun b hb => by have : b = w.heap.size := hb; omega) be.size)
      go_wp2
      refine bodyPost_o3 Try.results72 rfl rfl rfl (Bk.range hS) y1 y2 (szWy _ _ _ _ _ _ _) rfl ?_
      exact RetTW.mk hl be
    · have f1 : ((nr : Int) != 4) = true := by rw [hnr]; rfl
      have f2 : ((nr : Int) == 41) = true := by rw [hnr]; rfl
      have f3 : ((nr : Int) != 41) = false := by rw [hnr]; rfl
      have f4 : ((nr : Int) != (pro true : Int)) = false := by rw [hnr]; rfl
      clear hnr
      go_wp2_with fail
      refine (tunSix _ _ _ _ _ hl _ _ _ s).mono ?_
      rintro e w1 ⟨rfl, rfl⟩
      go_wp2_with fail
      refine (tunProto _ _).mono ?_
      rintro e w1 ⟨rfl, rfl⟩
      go_upto_region 11 with (fail)
      have nX : ¬ (fun b => b = w.heap.size) g6 := fun h => by have h' : g6 = w.heap.size := h; omega
      go_wp2
      refine wp_suS (fun b => b = w.heap.size) 5 44 2 [3] rfl (by kernel_rfl) (by kernel_rfl) (fun k w' => Bk w' w.heap.size 126 (if k = 0 then wyC false 0 0 false 0 0 0 else wyC s6 sh sl d6 dh dl tl)) (fun k w w' h h' => h.later h'.below) (b3) ?_
      apply StepsC.one (MC.eq _) 1 rfl (by decide)
      · intro o ho FA w' hC hO hD K hK
        obtain rfl := Option.some.inj ho.symm
        clear ho
        have e5 := hO 5 (by kernel_rfl)
        simp only [eval_tmp, List.getElem?_toArray, List.getElem?_cons_succ, List.getElem?_cons_zero, Option.getD_some] at e5
        have ev5 := Lib.hid ((eval_tmp FA 5).trans e5)
        clear hO hD
        go_simp
        exact hK.out _ _ (Ex.refl _) rfl
      apply StepsC.one (MC.eq _) 2 rfl (by decide)
      · intro o ho FA w' hC hO hD K hK
        obtain rfl := Option.some.inj ho.symm
        clear ho
        have e6 := hO 6 (by kernel_rfl)
        simp only [eval_tmp, List.getElem?_toArray, List.getElem?_cons_succ, List.getElem?_cons_zero, Option.getD_some] at e6
        have ev6 := Lib.hid ((eval_tmp FA 6).trans e6)
        clear hO hD
        refine wanted_if rfl ?_
        refine wp_ldA 126 (.tmp 6) rfl (wyC s6 sh sl d6 dh dl tl) ev6.out (hX.chg hC nX) (whole_ _) y1 y2 (szWy _ _ _ _ _ _ _) ?_
        exact hK.out _ _ (Ex.refl _) rfl
      apply StepsC.one (MC.eq _) 3 rfl (by decide)
      · intro o ho FA w' hC hO hD K hK
        obtain rfl := Option.some.inj ho.symm
        clear ho
        have ev42 : FA.eval (.tmp 42) = _ := hD 0 42 (by kernel_rfl)
        have e42 := (eval_tmp FA 42).symm.trans ev42
        replace ev42 := Lib.hid ev42
        clear hO hD
        go_simp
        exact hK.out _ _ (Ex.refl _) rfl
      apply StepsC.mov MC.any 4 0 rfl rfl rfl
      · intro o ho FA w' hC hO hD hS K hK
        obtain rfl := Option.some.inj ho.symm
        clear ho
        have e3 := hO 3 (by kernel_rfl)
        simp only [eval_tmp, List.getElem?_toArray, List.getElem?_cons_succ, List.getElem?_cons_zero, Option.getD_some] at e3
        have ev3 := Lib.hid ((eval_tmp FA 3).trans e3)
        have ev43 : FA.eval (.tmp 43) = _ := hD 1 43 (by kernel_rfl)
        have e43 := (eval_tmp FA 43).symm.trans ev43
        replace ev43 := Lib.hid ev43
        clear hO hD
        refine wanted_if rfl ?_
        refine wp_stA 126 (.tmp 3) (.tmp 43) rfl (wyC s6 sh sl d6 dh dl tl) (wyC false 0 0 false 0 0 0) rfl (wyC_one _ _ _ _ _ _ _) ev3.out ev43.out hS (szWy _ _ _ _ _ _ _) ?_
        intro w'' hn hg
        exact hK.out undef _ (Chg.one hg rfl) hn trivial
      apply StepsC.one (MC.eq _) 5 rfl (by decide)
      · intro o ho FA w' hC hO hD K hK
        obtain rfl := Option.some.inj ho.symm
        clear ho
        clear hO hD
        go_simp
        exact hK.out _ _ (Ex.refl _) rfl
      refine StepsC.fin_ (fun vs w' hC hS hp => ?_)
      have p0 : vs 0 = _ := hp 0 (by omega) rfl
      have p1 : vs 1 = _ := hp 1 (by omega) rfl
      have p2 : vs 2 = _ := hp 2 (by omega) rfl
      have p4 : vs 4 = _ := hp 4 (by omega) rfl
      clear hp
      simp only [List.take_succ_cons, List.take_zero, List.drop_succ_cons, List.drop_zero, putAll, Nat.zero_add, Nat.reduceAdd, Act.put, List.setIfInBounds_toArray, List.set_cons_zero, List.set_cons_succ, p0, p1, p2, p4]
      clear p0 p1 p2 p4
      clear vs
      replace hl := hl.chg hC (fun a ha h => by have h' : a.block = w.heap.size := h; have := hf a ha; omega)
      replace be : Below w.heap.size w w' := be.trans (hC.below (B := w.heap.size) (fun b hb => by have : b = w.heap.size := hb; omega) be.size)
      go_wp2
      refine bodyPost_o3 Try.results72 rfl rfl rfl (Bk.range hS) y1 y2 (szWy _ _ _ _ _ _ _) rfl ?_
      exact RetTW.mk hl be
end Go.Proofs.Ytldecdeiibfekaa
