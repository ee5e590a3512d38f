/- IPv6 packets of any bytes: ip6.Parse, the reference's Parse. -/
import Derived.Test.YtfmkndemkpecpaaIp6C
import Derived.Test.YtfmkndemkpecpaaRelS
namespace Go.Proofs.Ytfmkndemkpecpaa
open Go.RowKit
set_option linter.unusedVariables false
set_option linter.unusedSimpArgs false
attribute [local go_sem ↓] sliced_cut
attribute [local go_sem] cutA_zero

set_option maxHeartbeats 4000000 in
set_option maxRecDepth 100000 in
theorem hdr6_short (A : Option Addr) (n c : Nat) (l : List UInt8) (w : World) (h : Rb w A n c l) (hm : n ≤ 1000000) (hn : n < 40) : Calls Try.prog 124 #[.slice A n c] w (RetV w (.tuple #[.agg (h6C 0 0 0 0 0 false 0 0 false 0 0).toArray, .int .i64 20])) := by
  obtain ⟨du, u1, u2⟩ := rowH6
  have d40 : decide ((n : Int) < 40) = true := by simp only [decide_eq_true_eq]; omega
  have b2 : Bk (w.alloc (.cells #[.int .u8 0, .int .u32 0, .int .i64 0, .int .u8 0, .int .u8 0, .bool false, .int .u64 0, .int .u64 0, .bool false, .int .u64 0, .int .u64 0] 171)) w.heap.size 171 (h6C 0 0 0 0 0 false 0 0 false 0 0) := Bk.new w 171 #[.int .u8 0, .int .u32 0, .int .i64 0, .int .u8 0, .int .u8 0, .bool false, .int .u64 0, .int .u64 0, .bool false, .int .u64 0, .int .u64 0]
  have be : Below w.heap.size w (w.alloc (.cells #[.int .u8 0, .int .u32 0, .int .i64 0, .int .u8 0, .int .u8 0, .bool false, .int .u64 0, .int .u64 0, .bool false, .int .u64 0, .int .u64 0] 171)) := Below.allocS (Below.refl _ _) _
  go_enter Try.func124, Try.ntmps124
  go_wp2_with (refine at_op (.store 171 (.tmp 2) (.tmp 10)) rfl ?_; refine wpList_stA (t := 171) 171 (.tmp 2) (.tmp 10) rfl rfl (h6C 0 0 0 0 0 false 0 0 false 0 0) (h6C 0 0 0 0 0 false 0 0 false 0 0) rfl (h6C_one _ _ _ _ _ _ _ _ _ _ _) rfl rfl b2 (szH6 _ _ _ _ _ _ _ _ _ _ _) ?_; intro W9 h9 g9)
  refine bodyPost_agg2 Try.results124 rfl rfl h9.range u1 u2 (szH6 _ _ _ _ _ _ _ _ _ _ _) rfl (RetV.mk ?_)
  exact below_grown be g9 (by omega)
set_option maxHeartbeats 4000000 in
set_option maxRecDepth 100000 in
theorem hdr6_form (A : Option Addr) (n c : Nat) (l : List UInt8) (w : World) (h : Rb w A n c l) (hm : n ≤ 1000000) (X : Nat) (x0 : num ((l.drop 0).take 4) = X) (hn : 40 ≤ n) (hf : X / 268435456 ≠ 6) : Calls Try.prog 124 #[.slice A n c] w (RetV w (.tuple #[.agg (h6C 0 0 0 0 0 false 0 0 false 0 0).toArray, .int .i64 21])) := by
  obtain ⟨du, u1, u2⟩ := rowH6
  have hc := h.2.1
  have h40 : (40 : Int) ≤ (n : Int) := by omega
  have h40c : (40 : Int) ≤ (c : Int) := by omega
  have d40 : decide ((n : Int) < 40) = false := by simp only [decide_eq_false_iff_not]; omega
  have ht40 : Rb w A 40 c (l.take 40) := h.take (by omega)
  have hX : X < 4294967296 := by rw [← x0]; exact num_lt' l 0 4 4294967296 (by decide)
  replace x0 : Hid (num (((l.take 40).drop 0).take 4) = X) := Lib.hid (by rw [num_in l 40 0 4 (by decide)]; exact x0)
  have e2 : ((X : Int) / 268435456 != 6) = true := by rw [bne_iff_ne]; omega
  have hB : (l.take 40).length = 40 := by rw [List.length_take, h.1]; omega
  have HR := Lib.hid (fun W (h : Rb W A 40 c (l.take 40)) => readK A 40 c (l.take 40) W h (by decide))
  generalize l.take 40 = B at *
  clear h
  have b2 : Bk (w.alloc (.cells #[.int .u8 0, .int .u32 0, .int .i64 0, .int .u8 0, .int .u8 0, .bool false, .int .u64 0, .int .u64 0, .bool false, .int .u64 0, .int .u64 0] 171)) w.heap.size 171 (h6C 0 0 0 0 0 false 0 0 false 0 0) := Bk.new w 171 #[.int .u8 0, .int .u32 0, .int .i64 0, .int .u8 0, .int .u8 0, .bool false, .int .u64 0, .int .u64 0, .bool false, .int .u64 0, .int .u64 0]
  have be : Below w.heap.size w (w.alloc (.cells #[.int .u8 0, .int .u32 0, .int .i64 0, .int .u8 0, .int .u8 0, .bool false, .int .u64 0, .int .u64 0, .bool false, .int .u64 0, .int .u64 0] 171)) := Below.allocS (Below.refl _ _) _
  go_enter Try.func124, Try.ntmps124
  go_wp2_with fail
  refine (HR.out _ (ht40.alloc _)).mono ?_
  rintro e w1 ⟨r, bs1, d1, rfl, rfl, hr1, hR⟩
  replace b2 := b2.later (below_plus _ bs1 d1)
  replace be := belowP be bs1 d1
  have hr2 : w.heap.size < r := by simp at hr1; omega
  generalize plus (w.alloc (.cells #[.int .u8 0, .int .u32 0, .int .i64 0, .int .u8 0, .int .u8 0, .bool false, .int .u64 0, .int .u64 0, .bool false, .int .u64 0, .int .u64 0] 171)) bs1 d1 = W at *
  clear hr1
  go_wp2_with fail
  refine (longG W r B 0 X hR (by omega) (by omega) x0.out).mono ?_
  rintro e W1 ⟨rfl, hR1, hg1⟩
  replace b2 := b2.grown hg1 (by simp; omega)
  replace be := below_grown be hg1 (by omega)
  clear hg1 hR
  have zr := hR1.lt
  go_wp2_with (refine at_op (.store 171 (.tmp 2) (.tmp 19)) rfl ?_; refine wpList_stA (t := 171) 171 (.tmp 2) (.tmp 19) rfl rfl (h6C 0 0 0 0 0 false 0 0 false 0 0) (h6C 0 0 0 0 0 false 0 0 false 0 0) rfl (h6C_one _ _ _ _ _ _ _ _ _ _ _) rfl rfl b2 (szH6 _ _ _ _ _ _ _ _ _ _ _) ?_; intro W9 h9 g9)
  refine bodyPost_agg2 Try.results124 rfl rfl h9.range u1 u2 (szH6 _ _ _ _ _ _ _ _ _ _ _) rfl (RetV.mk ?_)
  exact below_grown be g9 (by omega)
set_option maxHeartbeats 4000000 in
set_option maxRecDepth 100000 in
theorem hdr6_long (A : Option Addr) (n c : Nat) (l : List UInt8) (w : World) (h : Rb w A n c l) (hm : n ≤ 1000000) (X ln : Nat) (x0 : num ((l.drop 0).take 4) = X) (x1 : num ((l.drop 4).take 2) = ln) (hn : 40 ≤ n) (hf : X / 268435456 = 6) (hq : n - 40 < ln) : Calls Try.prog 124 #[.slice A n c] w (RetV w (.tuple #[.agg (h6C 0 0 0 0 0 false 0 0 false 0 0).toArray, .int .i64 20])) := by
  obtain ⟨du, u1, u2⟩ := rowH6
  have hc := h.2.1
  have h40 : (40 : Int) ≤ (n : Int) := by omega
  have h40c : (40 : Int) ≤ (c : Int) := by omega
  have d40 : decide ((n : Int) < 40) = false := by simp only [decide_eq_false_iff_not]; omega
  have ht40 : Rb w A 40 c (l.take 40) := h.take (by omega)
  have hX : X < 4294967296 := by rw [← x0]; exact num_lt' l 0 4 4294967296 (by decide)
  replace x0 : Hid (num (((l.take 40).drop 0).take 4) = X) := Lib.hid (by rw [num_in l 40 0 4 (by decide)]; exact x0)
  have hln : ln < 65536 := by rw [← x1]; exact num_lt' l 4 2 65536 (by decide)
  replace x1 : Hid (num (((l.take 40).drop 4).take 2) = ln) := Lib.hid (by rw [num_in l 40 4 2 (by decide)]; exact x1)
  have e2 : (X : Int) / 268435456 = 6 := by omega
  obtain ⟨cl, hcl⟩ : ∃ cl : Nat, (X : Int) / 1048576 % 256 = (cl : Int) := ⟨X / 1048576 % 256, by omega⟩
  obtain ⟨lb, hlb⟩ : ∃ lb : Nat, X % 1048576 = lb := ⟨_, rfl⟩
  have hand := u32_mask20 X hX
  rw [hlb] at hand
  have hdl : decide ((n : Int) - 40 < (ln : Int)) = true := by simp only [decide_eq_true_eq]; omega
  have hdn : IntKind.i64.wrap ((n : Int) - 40) = (n : Int) - 40 := IntWalk.i64_in _ (by omega)
  clear hlb
  have hB : (l.take 40).length = 40 := by rw [List.length_take, h.1]; omega
  have HR := Lib.hid (fun W (h : Rb W A 40 c (l.take 40)) => readK A 40 c (l.take 40) W h (by decide))
  generalize l.take 40 = B at *
  clear h
  have b2 : Bk (w.alloc (.cells #[.int .u8 0, .int .u32 0, .int .i64 0, .int .u8 0, .int .u8 0, .bool false, .int .u64 0, .int .u64 0, .bool false, .int .u64 0, .int .u64 0] 171)) w.heap.size 171 (h6C 0 0 0 0 0 false 0 0 false 0 0) := Bk.new w 171 #[.int .u8 0, .int .u32 0, .int .i64 0, .int .u8 0, .int .u8 0, .bool false, .int .u64 0, .int .u64 0, .bool false, .int .u64 0, .int .u64 0]
  have be : Below w.heap.size w (w.alloc (.cells #[.int .u8 0, .int .u32 0, .int .i64 0, .int .u8 0, .int .u8 0, .bool false, .int .u64 0, .int .u64 0, .bool false, .int .u64 0, .int .u64 0] 171)) := Below.allocS (Below.refl _ _) _
  go_enter Try.func124, Try.ntmps124
  go_wp2_with fail
  refine (HR.out _ (ht40.alloc _)).mono ?_
  rintro e w1 ⟨r, bs1, d1, rfl, rfl, hr1, hR⟩
  replace b2 := b2.later (below_plus _ bs1 d1)
  replace be := belowP be bs1 d1
  have hr2 : w.heap.size < r := by simp at hr1; omega
  generalize plus (w.alloc (.cells #[.int .u8 0, .int .u32 0, .int .i64 0, .int .u8 0, .int .u8 0, .bool false, .int .u64 0, .int .u64 0, .bool false, .int .u64 0, .int .u64 0] 171)) bs1 d1 = W at *
  clear hr1
  go_wp2_with fail
  refine (longG W r B 0 X hR (by omega) (by omega) x0.out).mono ?_
  rintro e W1 ⟨rfl, hR1, hg1⟩
  replace b2 := b2.grown hg1 (by simp; omega)
  replace be := below_grown be hg1 (by omega)
  clear hg1 hR
  have zr := hR1.lt
  go_wp2_with fail
  have b6 : Bk (W1.alloc (.cells #[.int .u8 (cl : Int), .int .u32 (lb : Int), .int .i64 0, .int .u8 0, .int .u8 0, .bool false, .int .u64 0, .int .u64 0, .bool false, .int .u64 0, .int .u64 0] 171)) W1.heap.size 171 [.int .u8 (cl : Int), .int .u32 (lb : Int), .int .i64 0, .int .u8 0, .int .u8 0, .bool false, .int .u64 0, .int .u64 0, .bool false, .int .u64 0, .int .u64 0] := Bk.new W1 171 _
  replace b2 := b2.alloc (.cells #[.int .u8 (cl : Int), .int .u32 (lb : Int), .int .i64 0, .int .u8 0, .int .u8 0, .bool false, .int .u64 0, .int .u64 0, .bool false, .int .u64 0, .int .u64 0] 171)
  replace be := Below.allocS be (.cells #[.int .u8 (cl : Int), .int .u32 (lb : Int), .int .i64 0, .int .u8 0, .int .u8 0, .bool false, .int .u64 0, .int .u64 0, .bool false, .int .u64 0, .int .u64 0] 171)
  replace hR1 := hR1.later ((Below.refl _ _).alloc (Nat.le_refl _) (.cells #[.int .u8 (cl : Int), .int .u32 (lb : Int), .int .i64 0, .int .u8 0, .int .u8 0, .bool false, .int .u64 0, .int .u64 0, .bool false, .int .u64 0, .int .u64 0] 171))
  generalize W1.alloc (.cells #[.int .u8 (cl : Int), .int .u32 (lb : Int), .int .i64 0, .int .u8 0, .int .u8 0, .bool false, .int .u64 0, .int .u64 0, .bool false, .int .u64 0, .int .u64 0] 171) = W2 at *
  have zg : w.heap.size < W1.heap.size := by omega
  generalize W1.heap.size = g6 at *
  clear e2 hcl hand hX x0 W
  refine (wordG W2 r B 4 ln hR1 (by omega) (by omega) x1.out).mono ?_
  clear x1
  rintro e W3 ⟨rfl, hR2, hg2⟩
  replace b2 := b2.grown hg2 (by simp; omega)
  replace b6 := b6.grown hg2 (by simp; omega)
  replace be := below_grown be hg2 (by omega)
  clear hg2 hR1
  have q := b6.cell 2
  have fr := b6.frozen 2
  have z6 := b6.lt
  simp only [List.getElem?_cons_succ, List.getElem?_cons_zero] at q
  go_upto_region 9 with (fail)
  replace b6 := b6.set_ 2 (.int .i64 (ln : Int))
  replace b2 := b2.far (p := ⟨g6, 2, none⟩) (by simp; omega) (.int .i64 (ln : Int))
  replace be := be.setCell (p := ⟨g6, 2, none⟩) (by simp; omega) (.int .i64 (ln : Int))
  simp only [List.set_cons_succ, List.set_cons_zero] at b6
  clear q fr z6 hR2
  generalize W3.setCell ⟨g6, 2, none⟩ (.int .i64 (ln : Int)) = W3s at *
  have q := b6.cell 2
  simp only [List.getElem?_cons_succ, List.getElem?_cons_zero] at q
  go_wp2_with (refine at_op (.store 171 (.tmp 2) (.tmp 36)) rfl ?_; refine wpList_stA (t := 171) 171 (.tmp 2) (.tmp 36) rfl rfl (h6C 0 0 0 0 0 false 0 0 false 0 0) (h6C 0 0 0 0 0 false 0 0 false 0 0) rfl (h6C_one _ _ _ _ _ _ _ _ _ _ _) rfl rfl b2 (szH6 _ _ _ _ _ _ _ _ _ _ _) ?_; intro W9 h9 g9)
  refine bodyPost_agg2 Try.results124 rfl rfl h9.range u1 u2 (szH6 _ _ _ _ _ _ _ _ _ _ _) rfl (RetV.mk ?_)
  exact below_grown be g9 (by omega)

/-- forty bytes that say 6 are a written header -/
theorem as_ip6B (l : List UInt8) (h : 40 ≤ l.length) (hv : num ((l.drop 0).take 4) / 268435456 = 6) : l = ip6B (num ((l.drop 0).take 4) / 1048576 % 256) (num ((l.drop 0).take 4) % 1048576) (num ((l.drop 4).take 2)) (num ((l.drop 6).take 1)) (num ((l.drop 7).take 1)) (num ((l.drop 8).take 8)) (num ((l.drop 16).take 8)) (num ((l.drop 24).take 8)) (num ((l.drop 32).take 8)) ++ l.drop 40 := by
  have part : ∀ (k s : Nat), k + s ≤ l.length → dig (num ((l.drop k).take s)) s = (l.drop k).take s := fun k s hk => digNum s _ (by rw [List.length_take, List.length_drop]; omega)
  have hX : num ((l.drop 0).take 4) < 4294967296 := num_lt' l 0 4 _ (by decide)
  have e0 : 1610612736 + num ((l.drop 0).take 4) / 1048576 % 256 * 1048576 + num ((l.drop 0).take 4) % 1048576 = num ((l.drop 0).take 4) := by omega
  unfold ip6B
  rw [e0, part 0 4 (by omega), part 4 2 (by omega), part 6 1 (by omega), part 7 1 (by omega), part 8 8 (by omega), part 16 8 (by omega), part 24 8 (by omega), part 32 8 (by omega)]
  have cut : ∀ (k s : Nat), l.drop k = (l.drop k).take s ++ l.drop (k + s) := fun k s => by rw [← List.drop_drop, List.take_append_drop]
  have c0 := cut 0 4
  rw [cut 4 2, cut 6 1, cut 7 1, cut 8 8, cut 16 8, cut 24 8, cut 32 8] at c0
  rw [List.drop_zero] at c0 ⊢
  conv => lhs; rw [c0]
  simp only [List.append_assoc]
theorem num_app : ∀ (b a : List UInt8), num (a ++ b) = num a * 256 ^ b.length + num b := by
  intro b
  induction b with
  | nil => intro a; simp [num]
  | cons x b ih =>
    intro a
    have h1 := ih [x]
    rw [show a ++ x :: b = (a ++ [x]) ++ b by simp, ih, num_snoc, show x :: b = [x] ++ b from rfl, h1, show num [x] = x.toNat from by simp [num], List.length_append, List.length_singleton, Nat.add_comm 1 b.length, Nat.pow_succ, Nat.add_mul, Nat.mul_assoc, Nat.mul_comm 256]
    omega
theorem first_ip6 (l : List UInt8) (h : 4 ≤ l.length) : num ((l.drop 0).take 4) = num ((l.drop 0).take 1) * 16777216 + num ((l.drop 1).take 1) * 65536 + num ((l.drop 2).take 2) := by
  have e : (l.drop 0).take 4 = (l.drop 0).take 1 ++ ((l.drop 1).take 1 ++ (l.drop 2).take 2) := by
    match l, h with
    | a :: b :: c :: d :: r, _ => simp
  rw [e, num_app, num_app]
  have h1 : ((l.drop 1).take 1).length = 1 := by rw [List.length_take, List.length_drop]; omega
  have h2 : ((l.drop 2).take 2).length = 2 := by rw [List.length_take, List.length_drop]; omega
  rw [List.length_append, h1, h2]
  omega
end Go.Proofs.Ytfmkndemkpecpaa
