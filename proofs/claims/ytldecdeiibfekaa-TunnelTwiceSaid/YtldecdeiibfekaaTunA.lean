/- Tunnels: Six, outer, Unwrap; the reference's Unwrap. -/
import Derived.Test.YtldecdeiibfekaaIp4V
import Derived.Test.YtldecdeiibfekaaIp4U
import Derived.Test.YtldecdeiibfekaaIp6Q
import Derived.Test.YtldecdeiibfekaaSuS
namespace Go.Proofs.Ytldecdeiibfekaa
open Go.RowKit
set_option linter.unusedVariables false
set_option linter.unusedSimpArgs false
attribute [local go_sem ↓] sliced_cut
attribute [local go_sem] cutA_zero

/-- what the first byte says: the reference's number, the family, the error -/
inductive Sx : List UInt8 → Int → Bool → Int → Prop
  | none_ : Sx [] (-1) false 20
  | four (b : UInt8) (r : List UInt8) (h : b.toNat / 16 = 4) : Sx (b :: r) 4 false 0
  | six (b : UInt8) (r : List UInt8) (h : b.toNat / 16 = 6) : Sx (b :: r) 6 true 0
  | other (b : UInt8) (r : List UInt8) (h4 : b.toNat / 16 ≠ 4) (h6 : b.toNat / 16 ≠ 6) : Sx (b :: r) 0 false 21
theorem sx_any (l : List UInt8) : ∃ N B E, Sx l N B E := by
  cases l with
  | nil => exact ⟨_, _, _, .none_⟩
  | cons b r =>
    by_cases h4 : b.toNat / 16 = 4
    · exact ⟨_, _, _, .four b r h4⟩
    · by_cases h6 : b.toNat / 16 = 6
      · exact ⟨_, _, _, .six b r h6⟩
      · exact ⟨_, _, _, .other b r h4 h6⟩
def wyC (s6 : Bool) (sh sl : Nat) (d6 : Bool) (dh dl tl : Nat) : List Value := [.bool s6, .int .u64 (sh : Int), .int .u64 (sl : Int), .bool d6, .int .u64 (dh : Int), .int .u64 (dl : Int), .int .u8 (tl : Int)]
theorem wyC_one (s6 : Bool) (sh sl : Nat) (d6 : Bool) (dh dl tl : Nat) : ∀ u ∈ wyC s6 sh sl d6 dh dl tl, u.oneCell' = true := by
  intro u hu
  simp only [wyC, List.mem_cons, List.not_mem_nil, or_false] at hu
  rcases hu with rfl | rfl | rfl | rfl | rfl | rfl | rfl <;> rfl
theorem szWy (s6 : Bool) (sh sl : Nat) (d6 : Bool) (dh dl tl : Nat) : (Try.prog.info? 126).map (·.size) = some (wyC s6 sh sl d6 dh dl tl).length := by kernel_rfl
theorem szRWy (s6 : Bool) (sh sl : Nat) (d6 : Bool) (dh dl tl : Nat) : (Try.prog.info? 129).map (·.size) = some (wyC s6 sh sl d6 dh dl tl).length := by kernel_rfl
theorem rowWy : ∃ d, Try.prog.underlying 126 = some d ∧ d.isRow = true := ⟨_, Try.underlying126, rfl⟩
theorem rowRWy : ∃ d, Try.prog.underlying 129 = some d ∧ d.isRow = true := ⟨_, Try.underlying129, rfl⟩
theorem bodyPost_o4 {P : Program} {fn : Func} {R : Ending → World → Prop} {a : Act} {w : World} {s1 slot s3 s4 ty g : Nat} {d : TypeDesc} {cs : List Value} {u1 u3 u4 : Value} (hfr : fn.results = #[.tmp s1, .cell slot ty, .tmp s3, .tmp s4]) (hs1 : a.tmps.getD s1 undef = u1) (hs : a.tmps.getD slot undef = .pointer (some ⟨g, 0, none⟩)) (hs3 : a.tmps.getD s3 undef = u3) (hs4 : a.tmps.getD s4 undef = u4)
    (hb : w.rangeAt g 0 cs) (hu : P.underlying ty = some d) (hd : d.isRow = true) (hi : (P.info? ty).map (·.size) = some cs.length) (hdf : a.defers = []) (hR : R (.returned (.tuple #[u1, .agg cs.toArray, u3, u4])) w) : bodyPost P fn R .ret a w := by
  refine bodyPost_ret (v := .tuple #[u1, .agg cs.toArray, u3, u4]) ?_ hdf hR
  have h1 := run_loadVar_mid (P := P) w g 0 ty cs d hb hu hd hi
  have hs' : a.tmps[slot]?.getD undef = .pointer (some ⟨g, 0, none⟩) := by simpa using hs
  have hs1' : a.tmps[s1]?.getD undef = u1 := by simpa using hs1
  have hs3' : a.tmps[s3]?.getD undef = u3 := by simpa using hs3
  have hs4' : a.tmps[s4]?.getD undef = u4 := by simpa using hs4
  simp [results, hfr, hs', hs1', hs3', hs4', asAddr, h1]
theorem bodyPost_o3 {P : Program} {fn : Func} {R : Ending → World → Prop} {a : Act} {w : World} {s1 slot s3 ty g : Nat} {d : TypeDesc} {cs : List Value} {u1 u3 : Value} (hfr : fn.results = #[.tmp s1, .cell slot ty, .tmp s3]) (hs1 : a.tmps.getD s1 undef = u1) (hs : a.tmps.getD slot undef = .pointer (some ⟨g, 0, none⟩)) (hs3 : a.tmps.getD s3 undef = u3)
    (hb : w.rangeAt g 0 cs) (hu : P.underlying ty = some d) (hd : d.isRow = true) (hi : (P.info? ty).map (·.size) = some cs.length) (hdf : a.defers = []) (hR : R (.returned (.tuple #[u1, .agg cs.toArray, u3])) w) : bodyPost P fn R .ret a w := by
  refine bodyPost_ret (v := .tuple #[u1, .agg cs.toArray, u3]) ?_ hdf hR
  have h1 := run_loadVar_mid (P := P) w g 0 ty cs d hb hu hd hi
  have hs' : a.tmps[slot]?.getD undef = .pointer (some ⟨g, 0, none⟩) := by simpa using hs
  have hs1' : a.tmps[s1]?.getD undef = u1 := by simpa using hs1
  have hs3' : a.tmps[s3]?.getD undef = u3 := by simpa using hs3
  simp [results, hfr, hs', hs1', hs3', asAddr, h1]
/-- bytes in a block from base on: a store into an elder block leaves them -/
theorem Rb.grownF {w w' : World} {A : Option Addr} {n c base g : Nat} {l : List UInt8} (h : Rb w A n c l) (hf : ∀ a, A = some a → base ≤ a.block) (hg : w.grownBy w' (some g)) (hlt : g < base) : Rb w' A n c l := h.grownN hf hg hlt
/-- what outer gives -/
def RetTO (w : World) (load : List UInt8) (s6 : Bool) (sh sl : Nat) (d6 : Bool) (dh dl tl : Nat) (nr : Nat) (E : Int) (e : Ending) (w' : World) : Prop := ∃ A n k bs d, e = .returned (.tuple #[.slice A n k, .agg (wyC s6 sh sl d6 dh dl tl).toArray, .int .u8 (nr : Int), .int .i64 E]) ∧ w' = plus w bs d ∧ Rb (plus w bs d) A n k load ∧ ∀ a, A = some a → w.heap.size ≤ a.block
theorem RetTO.mk {w w' : World} {load : List UInt8} {s6 : Bool} {sh sl : Nat} {d6 : Bool} {dh dl tl nr : Nat} {E : Int} {A : Option Addr} {n k : Nat} (h : Rb w' A n k load) (hf : ∀ a, A = some a → w.heap.size ≤ a.block) (hb : Below w.heap.size w w') : RetTO w load s6 sh sl d6 dh dl tl nr E (.returned (.tuple #[.slice A n k, .agg (wyC s6 sh sl d6 dh dl tl).toArray, .int .u8 (nr : Int), .int .i64 E])) w' := by
  obtain ⟨bs, d, rfl⟩ := plus_of hb
  exact ⟨A, n, k, bs, d, rfl, rfl, h, hf⟩
/-- what Unwrap gives -/
def RetTW (w : World) (load : List UInt8) (s6 : Bool) (sh sl : Nat) (d6 : Bool) (dh dl tl : Nat) (E : Int) (e : Ending) (w' : World) : Prop := ∃ A n k bs d, e = .returned (.tuple #[.slice A n k, .agg (wyC s6 sh sl d6 dh dl tl).toArray, .int .i64 E]) ∧ w' = plus w bs d ∧ Rb (plus w bs d) A n k load
theorem RetTW.mk {w w' : World} {load : List UInt8} {s6 : Bool} {sh sl : Nat} {d6 : Bool} {dh dl tl : Nat} {E : Int} {A : Option Addr} {n k : Nat} (h : Rb w' A n k load) (hb : Below w.heap.size w w') : RetTW w load s6 sh sl d6 dh dl tl E (.returned (.tuple #[.slice A n k, .agg (wyC s6 sh sl d6 dh dl tl).toArray, .int .i64 E])) w' := by
  obtain ⟨bs, d, rfl⟩ := plus_of hb
  exact ⟨A, n, k, bs, d, rfl, rfl, h⟩
set_option maxHeartbeats 4000000 in
set_option maxRecDepth 100000 in
theorem tunSix (A : Option Addr) (n c : Nat) (l : List UInt8) (w : World) (h : Rb w A n c l) (N : Int) (B : Bool) (E : Int) (s : Sx l N B E) : Calls Try.prog 74 #[.slice A n c] w fun e w' => e = .returned (.tuple #[.bool B, .int .i64 E]) ∧ w = w' := by
  have hl := h.1
  cases s
  case none_ =>
    obtain rfl : n = 0 := hl.symm
    go_enter Try.func74, Try.ntmps74
    go_wp2
    go_ret2
    exact ⟨rfl, rfl⟩
  case four b r h =>
    obtain ⟨g, off, rfl, hbl, hcell⟩ := h.2.2.at_ (by rw [bcs_length]; simp)
    have y0 : w.cell? ⟨g, off, none⟩ = some (.int .u8 (b.toNat : Int)) := hcell 0 _ rfl
    have n0 : 0 < n := by rw [← hl]; simp
    have i0 : (0 : Int) < (n : Int) := by omega
    have ne : ((n : Int) == 0) = false := by rw [beq_eq_false_iff_ne]; omega
    obtain ⟨q, hq⟩ : ∃ q : Nat, q = b.toNat / 16 := ⟨_, rfl⟩
    have e1 : (b.toNat : Int) / 16 = (q : Int) := by omega
    have e2 : IntKind.i64.wrap (q : Int) = (q : Int) := IntWalk.i64_in _ (by have := b.toNat_lt; omega)
    have e3 : IntKind.u8.wrap (q : Int) = (q : Int) := IntWalk.u8_in _ (by have := b.toNat_lt; omega)
    have e4 : (q : Int) % 256 = (q : Int) := by have := b.toNat_lt; omega
    generalize b.toNat = x at *
    obtain rfl : q = 4 := by omega
    clear hcell hl hq
    go_enter Try.func74, Try.ntmps74
    go_wp2
    go_ret2
    exact ⟨rfl, rfl⟩
  case six b r h =>
    obtain ⟨g, off, rfl, hbl, hcell⟩ := h.2.2.at_ (by rw [bcs_length]; simp)
    have y0 : w.cell? ⟨g, off, none⟩ = some (.int .u8 (b.toNat : Int)) := hcell 0 _ rfl
    have n0 : 0 < n := by rw [← hl]; simp
    have i0 : (0 : Int) < (n : Int) := by omega
    have ne : ((n : Int) == 0) = false := by rw [beq_eq_false_iff_ne]; omega
    obtain ⟨q, hq⟩ : ∃ q : Nat, q = b.toNat / 16 := ⟨_, rfl⟩
    have e1 : (b.toNat : Int) / 16 = (q : Int) := by omega
    have e2 : IntKind.i64.wrap (q : Int) = (q : Int) := IntWalk.i64_in _ (by have := b.toNat_lt; omega)
    have e3 : IntKind.u8.wrap (q : Int) = (q : Int) := IntWalk.u8_in _ (by have := b.toNat_lt; omega)
    have e4 : (q : Int) % 256 = (q : Int) := by have := b.toNat_lt; omega
    generalize b.toNat = x at *
    obtain rfl : q = 6 := by omega
    clear hcell hl hq
    go_enter Try.func74, Try.ntmps74
    go_wp2
    go_ret2
    exact ⟨rfl, rfl⟩
  case other b r h4 h6 =>
    obtain ⟨g, off, rfl, hbl, hcell⟩ := h.2.2.at_ (by rw [bcs_length]; simp)
    have y0 : w.cell? ⟨g, off, none⟩ = some (.int .u8 (b.toNat : Int)) := hcell 0 _ rfl
    have n0 : 0 < n := by rw [← hl]; simp
    have i0 : (0 : Int) < (n : Int) := by omega
    have ne : ((n : Int) == 0) = false := by rw [beq_eq_false_iff_ne]; omega
    obtain ⟨q, hq⟩ : ∃ q : Nat, q = b.toNat / 16 := ⟨_, rfl⟩
    have e1 : (b.toNat : Int) / 16 = (q : Int) := by omega
    have e2 : IntKind.i64.wrap (q : Int) = (q : Int) := IntWalk.i64_in _ (by have := b.toNat_lt; omega)
    have e3 : IntKind.u8.wrap (q : Int) = (q : Int) := IntWalk.u8_in _ (by have := b.toNat_lt; omega)
    have e4 : (q : Int) % 256 = (q : Int) := by have := b.toNat_lt; omega
    generalize b.toNat = x at *
    have q4 : ((q : Int) == 4) = false := by rw [beq_eq_false_iff_ne]; omega
    have q6 : ((q : Int) == 6) = false := by rw [beq_eq_false_iff_ne]; omega
    clear hcell hl hq
    go_enter Try.func74, Try.ntmps74
    go_wp2
    go_ret2
    exact ⟨rfl, rfl⟩
set_option maxHeartbeats 4000000 in
set_option maxRecDepth 100000 in
theorem refSix (A : Option Addr) (n c : Nat) (l : List UInt8) (w : World) (h : Rb w A n c l) (N : Int) (B : Bool) (E : Int) (s : Sx l N B E) : Calls Try.prog 75 #[.slice A n c] w fun e w' => e = .returned (.int .i64 N) ∧ w = w' := by
  have hl := h.1
  cases s
  case none_ =>
    obtain rfl : n = 0 := hl.symm
    go_enter Try.func75, Try.ntmps75
    go_wp2
    go_ret
    exact ⟨rfl, rfl⟩
  case four b r h =>
    obtain ⟨g, off, rfl, hbl, hcell⟩ := h.2.2.at_ (by rw [bcs_length]; simp)
    have y0 : w.cell? ⟨g, off, none⟩ = some (.int .u8 (b.toNat : Int)) := hcell 0 _ rfl
    have n0 : 0 < n := by rw [← hl]; simp
    have i0 : (0 : Int) < (n : Int) := by omega
    have ne : ((n : Int) == 0) = false := by rw [beq_eq_false_iff_ne]; omega
    obtain ⟨q, hq⟩ : ∃ q : Nat, q = b.toNat / 16 := ⟨_, rfl⟩
    have e1 : (b.toNat : Int) / 16 = (q : Int) := by omega
    have e2 : IntKind.i64.wrap (q : Int) = (q : Int) := IntWalk.i64_in _ (by have := b.toNat_lt; omega)
    have e3 : IntKind.u8.wrap (q : Int) = (q : Int) := IntWalk.u8_in _ (by have := b.toNat_lt; omega)
    have e4 : (q : Int) % 256 = (q : Int) := by have := b.toNat_lt; omega
    generalize b.toNat = x at *
    obtain rfl : q = 4 := by omega
    clear hcell hl hq
    go_enter Try.func75, Try.ntmps75
    go_wp2
    go_ret
    exact ⟨rfl, rfl⟩
  case six b r h =>
    obtain ⟨g, off, rfl, hbl, hcell⟩ := h.2.2.at_ (by rw [bcs_length]; simp)
    have y0 : w.cell? ⟨g, off, none⟩ = some (.int .u8 (b.toNat : Int)) := hcell 0 _ rfl
    have n0 : 0 < n := by rw [← hl]; simp
    have i0 : (0 : Int) < (n : Int) := by omega
    have ne : ((n : Int) == 0) = false := by rw [beq_eq_false_iff_ne]; omega
    obtain ⟨q, hq⟩ : ∃ q : Nat, q = b.toNat / 16 := ⟨_, rfl⟩
    have e1 : (b.toNat : Int) / 16 = (q : Int) := by omega
    have e2 : IntKind.i64.wrap (q : Int) = (q : Int) := IntWalk.i64_in _ (by have := b.toNat_lt; omega)
    have e3 : IntKind.u8.wrap (q : Int) = (q : Int) := IntWalk.u8_in _ (by have := b.toNat_lt; omega)
    have e4 : (q : Int) % 256 = (q : Int) := by have := b.toNat_lt; omega
    generalize b.toNat = x at *
    obtain rfl : q = 6 := by omega
    clear hcell hl hq
    go_enter Try.func75, Try.ntmps75
    go_wp2
    go_ret
    exact ⟨rfl, rfl⟩
  case other b r h4 h6 =>
    obtain ⟨g, off, rfl, hbl, hcell⟩ := h.2.2.at_ (by rw [bcs_length]; simp)
    have y0 : w.cell? ⟨g, off, none⟩ = some (.int .u8 (b.toNat : Int)) := hcell 0 _ rfl
    have n0 : 0 < n := by rw [← hl]; simp
    have i0 : (0 : Int) < (n : Int) := by omega
    have ne : ((n : Int) == 0) = false := by rw [beq_eq_false_iff_ne]; omega
    obtain ⟨q, hq⟩ : ∃ q : Nat, q = b.toNat / 16 := ⟨_, rfl⟩
    have e1 : (b.toNat : Int) / 16 = (q : Int) := by omega
    have e2 : IntKind.i64.wrap (q : Int) = (q : Int) := IntWalk.i64_in _ (by have := b.toNat_lt; omega)
    have e3 : IntKind.u8.wrap (q : Int) = (q : Int) := IntWalk.u8_in _ (by have := b.toNat_lt; omega)
    have e4 : (q : Int) % 256 = (q : Int) := by have := b.toNat_lt; omega
    generalize b.toNat = x at *
    have q4 : ((q : Int) == 4) = false := by rw [beq_eq_false_iff_ne]; omega
    have q6 : ((q : Int) == 6) = false := by rw [beq_eq_false_iff_ne]; omega
    clear hcell hl hq
    go_enter Try.func75, Try.ntmps75
    go_wp2
    go_ret
    exact ⟨rfl, rfl⟩
theorem refFault (l : List UInt8) (N : Int) (B : Bool) (E : Int) (s : Sx l N B E) (w : World) : Calls Try.prog 138 #[.int .i64 N] w fun e w' => e = .returned (.int .i64 E) ∧ w = w' := by
  cases s <;>
  · go_enter Try.func138, Try.ntmps138
    go_wp2
    go_ret
    exact ⟨rfl, rfl⟩
/-- the number of a family -/
def pro (B : Bool) : Nat := if B then 41 else 4
theorem tunProto (B : Bool) (w : World) : Calls Try.prog 137 #[.bool B] w fun e w' => e = .returned (.int .u8 (pro B : Int)) ∧ w = w' := by
  cases B <;>
  · go_enter Try.func137, Try.ntmps137
    go_wp2
    go_ret
    exact ⟨rfl, rfl⟩
set_option maxHeartbeats 4000000 in
set_option maxRecDepth 100000 in
theorem outer_err (A : Option Addr) (n c : Nat) (w : World) (B : Bool) (E : Int) (hE : (E != 0) = true) (HS : ∀ w', Below w.heap.size w w' → Calls Try.prog 74 #[.slice A n c] w' fun e w2 => e = .returned (.tuple #[.bool B, .int .i64 E]) ∧ w' = w2) : Calls Try.prog 136 #[.slice A n c] w (RetTO w [] false 0 0 false 0 0 0 0 E) := by
  obtain ⟨dy, y1, y2⟩ := rowWy
  replace HS := Lib.hid HS
  have b3 : Bk (w.alloc (.cells #[.bool false, .int .u64 0, .int .u64 0, .bool false, .int .u64 0, .int .u64 0, .int .u8 0] 126)) w.heap.size 126 (wyC false 0 0 false 0 0 0) := Bk.new w 126 #[.bool false, .int .u64 0, .int .u64 0, .bool false, .int .u64 0, .int .u64 0, .int .u8 0]
  have be : Below w.heap.size w (w.alloc (.cells #[.bool false, .int .u64 0, .int .u64 0, .bool false, .int .u64 0, .int .u64 0, .int .u8 0] 126)) := Below.allocS (Below.refl _ _) _
  go_enter Try.func136, Try.ntmps136
  go_upto_region 1 with (fail)
  generalize w.alloc (.cells #[.bool false, .int .u64 0, .int .u64 0, .bool false, .int .u64 0, .int .u64 0, .int .u8 0] 126) = V at *
  go_wp2_with fail
  refine (HS.out _ be).mono ?_
  rintro e w1 ⟨rfl, rfl⟩
  go_wp2_with (refine at_op (.store 126 (.tmp 3) (.tmp 20)) rfl ?_; refine wpList_stA (t := 126) 126 (.tmp 3) (.tmp 20) rfl rfl (wyC false 0 0 false 0 0 0) (wyC false 0 0 false 0 0 0) rfl (wyC_one _ _ _ _ _ _ _) rfl rfl (by with_reducible repeat (first | exact b3 | refine Bk.later ?_ (below_plus _ _ _) | refine Bk.alloc ?_ _)) (szWy _ _ _ _ _ _ _) ?_; intro W9 h9 g9)
  refine bodyPost_o4 Try.results136 rfl rfl rfl rfl h9.range y1 y2 (szWy _ _ _ _ _ _ _) rfl ?_
  exact RetTO.mk Rb.nil_ (fun a ha => by cases ha) (below_grown be g9 (by omega))
set_option maxHeartbeats 4000000 in
set_option maxRecDepth 100000 in
theorem outer_6 (A : Option Addr) (n c : Nat) (w : World) (cl lb ln nx ht : Nat) (s6 : Bool) (sh sl dh dl : Nat) (load : List UInt8) (E1 : Int) (HS : ∀ w', Below w.heap.size w w' → Calls Try.prog 74 #[.slice A n c] w' fun e w2 => e = .returned (.tuple #[.bool true, .int .i64 0]) ∧ w' = w2) (HP : ∀ w', Below w.heap.size w w' → Calls Try.prog 167 #[.slice A n c] w' (RetP6 w' cl lb ln nx ht s6 sh sl dh dl load E1)) : Calls Try.prog 136 #[.slice A n c] w (RetTO w load s6 sh sl s6 dh dl ht nx E1) := by
  obtain ⟨dy, y1, y2⟩ := rowWy
  obtain ⟨du, u1, u2⟩ := rowH6
  obtain ⟨dv, v1, v2⟩ : ∃ d, Try.prog.underlying 29 = some d ∧ d.isRow = true := ⟨_, Try.underlying29, rfl⟩
  replace HS := Lib.hid HS
  replace HP := Lib.hid HP
  have b3 : Bk (w.alloc (.cells #[.bool false, .int .u64 0, .int .u64 0, .bool false, .int .u64 0, .int .u64 0, .int .u8 0] 126)) w.heap.size 126 (wyC false 0 0 false 0 0 0) := Bk.new w 126 #[.bool false, .int .u64 0, .int .u64 0, .bool false, .int .u64 0, .int .u64 0, .int .u8 0]
  have be : Below w.heap.size w (w.alloc (.cells #[.bool false, .int .u64 0, .int .u64 0, .bool false, .int .u64 0, .int .u64 0, .int .u8 0] 126)) := Below.allocS (Below.refl _ _) _
  go_enter Try.func136, Try.ntmps136
  go_upto_region 1 with (fail)
  have zV : w.heap.size + 1 ≤ (w.alloc (.cells #[.bool false, .int .u64 0, .int .u64 0, .bool false, .int .u64 0, .int .u64 0, .int .u8 0] 126)).heap.size := by simp
  generalize w.alloc (.cells #[.bool false, .int .u64 0, .int .u64 0, .bool false, .int .u64 0, .int .u64 0, .int .u8 0] 126) = V at *
  have zb3 : w.heap.size < V.heap.size := zV
  go_wp2_with fail
  refine (HS.out _ be).mono ?_
  rintro e w1 ⟨rfl, rfl⟩
  go_wp2_with fail
  refine (HP.out _ be).mono ?_
  rintro e w1 ⟨A1, n1, k1, bs1, d1, rfl, rfl, hl, hf⟩
  go_upto_region 6 with (refine at_op (.store 209 (.tmp 8) (.tmp 26)) rfl ?_; refine wpList_stA (t := 209) 209 (.tmp 8) (.tmp 26) rfl rfl (h6C cl lb (ln : Int) nx ht s6 sh sl s6 dh dl) (h6C 0 0 0 0 0 false 0 0 false 0 0) rfl (h6C_one _ _ _ _ _ _ _ _ _ _ _) rfl rfl ?_ (szH6 _ _ _ _ _ _ _ _ _ _ _) ?_; (· refine Bk.newK _ _ _ ?_ rfl; simp [size_plus]); intro W8 hX gr8)
  have z0 := be.size
  have b8 := below_grown (Below.allocS (below_plus V bs1 d1) _) gr8 (by omega)
  replace be := be.trans (b8.mono z0)
  replace b3 := b3.later b8
  replace hl := hl.later (below_grown (Below.allocS (Below.refl _ _) _) gr8 (by simp [size_plus]))
  have hg8 : w.heap.size < V.heap.size + bs1.length := by have := b3.lt; have := zV; omega
  clear b8 gr8
  generalize V.heap.size + bs1.length = g8 at *
  have nX : ¬ (fun b => b = w.heap.size) g8 := fun h => by have h' : g8 = w.heap.size := h; omega
  go_wp2
  refine wp_suS (fun b => b = w.heap.size) 15 63 2 [12] rfl (by kernel_rfl) (by kernel_rfl) (fun k w' => Bk w' w.heap.size 126 (if k = 0 then wyC false 0 0 false 0 0 0 else wyC s6 sh sl s6 dh dl ht)) (fun k w w' h h' => h.later h'.below) (b3) ?_
  apply StepsC.one (MC.eq _) 1 rfl (by decide)
  · intro o ho FA w' hC hO hD K hK
    obtain rfl := Option.some.inj ho.symm
    clear ho
    have e9 := hO 9 (by kernel_rfl)
    simp only [eval_tmp, List.getElem?_toArray, List.getElem?_cons_succ, List.getElem?_cons_zero, Option.getD_some] at e9
    have ev9 := Lib.hid ((eval_tmp FA 9).trans e9)
    clear hO hD
    go_simp
    exact hK.out _ _ (Ex.refl _) rfl
  apply StepsC.one (MC.eq _) 2 rfl (by decide)
  · intro o ho FA w' hC hO hD K hK
    obtain rfl := Option.some.inj ho.symm
    clear ho
    have e8 := hO 8 (by kernel_rfl)
    simp only [eval_tmp, List.getElem?_toArray, List.getElem?_cons_succ, List.getElem?_cons_zero, Option.getD_some] at e8
    have ev8 := Lib.hid ((eval_tmp FA 8).trans e8)
    clear hO hD
    go_simp
    exact hK.out _ _ (Ex.refl _) rfl
  apply StepsC.one (MC.eq _) 3 rfl (by decide)
  · intro o ho FA w' hC hO hD K hK
    obtain rfl := Option.some.inj ho.symm
    clear ho
    have ev30 : FA.eval (.tmp 30) = _ := hD 1 30 (by kernel_rfl)
    have e30 := (eval_tmp FA 30).symm.trans ev30
    replace ev30 := Lib.hid ev30
    clear hO hD
    refine wanted_if rfl ?_
    refine wp_ldA 29 (.tmp 30) rfl ([.bool s6, .int .u64 (sh : Int), .int .u64 (sl : Int)]) ev30.out (hX.chg hC nX) rfl v1 v2 (szAd _ _ _) ?_
    exact hK.out _ _ (Ex.refl _) rfl
  apply StepsC.one (MC.eq _) 4 rfl (by decide)
  · intro o ho FA w' hC hO hD K hK
    obtain rfl := Option.some.inj ho.symm
    clear ho
    have e8 := hO 8 (by kernel_rfl)
    simp only [eval_tmp, List.getElem?_toArray, List.getElem?_cons_succ, List.getElem?_cons_zero, Option.getD_some] at e8
    have ev8 := Lib.hid ((eval_tmp FA 8).trans e8)
    clear hO hD
    go_simp
    exact hK.out _ _ (Ex.refl _) rfl
  apply StepsC.one (MC.eq _) 5 rfl (by decide)
  · intro o ho FA w' hC hO hD K hK
    obtain rfl := Option.some.inj ho.symm
    clear ho
    have ev32 : FA.eval (.tmp 32) = _ := hD 3 32 (by kernel_rfl)
    have e32 := (eval_tmp FA 32).symm.trans ev32
    replace ev32 := Lib.hid ev32
    clear hO hD
    refine wanted_if rfl ?_
    refine wp_ldA 29 (.tmp 32) rfl ([.bool s6, .int .u64 (dh : Int), .int .u64 (dl : Int)]) ev32.out (hX.chg hC nX) rfl v1 v2 (szAd _ _ _) ?_
    exact hK.out _ _ (Ex.refl _) rfl
  apply StepsC.one (MC.eq _) 6 rfl (by decide)
  · intro o ho FA w' hC hO hD K hK
    obtain rfl := Option.some.inj ho.symm
    clear ho
    have e8 := hO 8 (by kernel_rfl)
    simp only [eval_tmp, List.getElem?_toArray, List.getElem?_cons_succ, List.getElem?_cons_zero, Option.getD_some] at e8
    have ev8 := Lib.hid ((eval_tmp FA 8).trans e8)
    clear hO hD
    go_simp
    exact hK.out _ _ (Ex.refl _) rfl
  apply StepsC.one (MC.eq _) 7 rfl (by decide)
  · intro o ho FA w' hC hO hD K hK
    obtain rfl := Option.some.inj ho.symm
    clear ho
    have ev34 : FA.eval (.tmp 34) = _ := hD 5 34 (by kernel_rfl)
    have e34 := (eval_tmp FA 34).symm.trans ev34
    replace ev34 := Lib.hid ev34
    clear hO hD
    refine wanted_if rfl ?_
    refine wp_ld1 5 (.tmp 34) rfl ev34.out (hX.chg hC nX) rfl Try.underlying5 rfl ?_
    exact hK.out _ _ (Ex.refl _) rfl
  apply StepsC.one (MC.eq _) 8 rfl (by decide)
  · intro o ho FA w' hC hO hD K hK
    obtain rfl := Option.some.inj ho.symm
    clear ho
    have ev31 : FA.eval (.tmp 31) = _ := hD 2 31 (by kernel_rfl)
    have e31 := (eval_tmp FA 31).symm.trans ev31
    replace ev31 := Lib.hid ev31
    have ev33 : FA.eval (.tmp 33) = _ := hD 4 33 (by kernel_rfl)
    have e33 := (eval_tmp FA 33).symm.trans ev33
    replace ev33 := Lib.hid ev33
    have ev35 : FA.eval (.tmp 35) = _ := hD 6 35 (by kernel_rfl)
    have e35 := (eval_tmp FA 35).symm.trans ev35
    replace ev35 := Lib.hid ev35
    clear hO hD
    go_simp
    exact hK.out _ _ (Ex.refl _) rfl
  apply StepsC.one (MC.eq _) 9 rfl (by decide)
  · intro o ho FA w' hC hO hD K hK
    obtain rfl := Option.some.inj ho.symm
    clear ho
    have e8 := hO 8 (by kernel_rfl)
    simp only [eval_tmp, List.getElem?_toArray, List.getElem?_cons_succ, List.getElem?_cons_zero, Option.getD_some] at e8
    have ev8 := Lib.hid ((eval_tmp FA 8).trans e8)
    clear hO hD
    go_simp
    exact hK.out _ _ (Ex.refl _) rfl
  apply StepsC.one (MC.eq _) 10 rfl (by decide)
  · intro o ho FA w' hC hO hD K hK
    obtain rfl := Option.some.inj ho.symm
    clear ho
    have ev37 : FA.eval (.tmp 37) = _ := hD 8 37 (by kernel_rfl)
    have e37 := (eval_tmp FA 37).symm.trans ev37
    replace ev37 := Lib.hid ev37
    clear hO hD
    refine wanted_if rfl ?_
    refine wp_ld1 5 (.tmp 37) rfl ev37.out (hX.chg hC nX) rfl Try.underlying5 rfl ?_
    exact hK.out _ _ (Ex.refl _) rfl
  apply StepsC.one (MC.eq _) 11 rfl (by decide)
  · intro o ho FA w' hC hO hD K hK
    obtain rfl := Option.some.inj ho.symm
    clear ho
    have e10 := hO 10 (by kernel_rfl)
    simp only [eval_tmp, List.getElem?_toArray, List.getElem?_cons_succ, List.getElem?_cons_zero, Option.getD_some] at e10
    have ev10 := Lib.hid ((eval_tmp FA 10).trans e10)
    clear hO hD
    go_simp
    exact hK.out _ _ (Ex.refl _) rfl
  apply StepsC.one (MC.eq _) 12 rfl (by decide)
  · intro o ho FA w' hC hO hD K hK
    obtain rfl := Option.some.inj ho.symm
    clear ho
    have ev29 : FA.eval (.tmp 29) = _ := hD 0 29 (by kernel_rfl)
    have e29 := (eval_tmp FA 29).symm.trans ev29
    replace ev29 := Lib.hid ev29
    clear hO hD
    go_simp
    exact hK.out _ _ (Ex.refl _) rfl
  apply StepsC.mov MC.any 13 0 rfl rfl rfl
  · intro o ho FA w' hC hO hD hS K hK
    obtain rfl := Option.some.inj ho.symm
    clear ho
    have e3 := hO 3 (by kernel_rfl)
    simp only [eval_tmp, List.getElem?_toArray, List.getElem?_cons_succ, List.getElem?_cons_zero, Option.getD_some] at e3
    have ev3 := Lib.hid ((eval_tmp FA 3).trans e3)
    have ev36 : FA.eval (.tmp 36) = _ := hD 7 36 (by kernel_rfl)
    have e36 := (eval_tmp FA 36).symm.trans ev36
    replace ev36 := Lib.hid ev36
    clear hO hD
    refine wanted_if rfl ?_
    refine wp_stA 126 (.tmp 3) (.tmp 36) rfl (wyC s6 sh sl s6 dh dl ht) (wyC false 0 0 false 0 0 0) rfl (wyC_one _ _ _ _ _ _ _) ev3.out ev36.out hS (szWy _ _ _ _ _ _ _) ?_
    intro w'' hn hg
    exact hK.out undef _ (Chg.one hg rfl) hn trivial
  apply StepsC.one (MC.eq _) 14 rfl (by decide)
  · intro o ho FA w' hC hO hD K hK
    obtain rfl := Option.some.inj ho.symm
    clear ho
    have ev38 : FA.eval (.tmp 38) = _ := hD 9 38 (by kernel_rfl)
    have e38 := (eval_tmp FA 38).symm.trans ev38
    replace ev38 := Lib.hid ev38
    clear hO hD
    go_simp
    exact hK.out _ _ (Ex.refl _) rfl
  apply StepsC.one (MC.eq _) 15 rfl (by decide)
  · intro o ho FA w' hC hO hD K hK
    obtain rfl := Option.some.inj ho.symm
    clear ho
    have ev39 : FA.eval (.tmp 39) = _ := hD 10 39 (by kernel_rfl)
    have e39 := (eval_tmp FA 39).symm.trans ev39
    replace ev39 := Lib.hid ev39
    clear hO hD
    go_simp
    exact hK.out _ _ (Ex.refl _) rfl
  refine StepsC.fin_ (fun vs w' hC hS hp => ?_)
  have p0 : vs 0 = _ := hp 0 (by omega) rfl
  have p1 : vs 1 = _ := hp 1 (by omega) rfl
  have p2 : vs 2 = _ := hp 2 (by omega) rfl
  have p3 : vs 3 = _ := hp 3 (by omega) rfl
  have p4 : vs 4 = _ := hp 4 (by omega) rfl
  have p5 : vs 5 = _ := hp 5 (by omega) rfl
  have p6 : vs 6 = _ := hp 6 (by omega) rfl
  have p7 : vs 7 = _ := hp 7 (by omega) rfl
  have p8 : vs 8 = _ := hp 8 (by omega) rfl
  have p9 : vs 9 = _ := hp 9 (by omega) rfl
  have p10 : vs 10 = _ := hp 10 (by omega) rfl
  have p11 : vs 11 = _ := hp 11 (by omega) rfl
  have p13 : vs 13 = _ := hp 13 (by omega) rfl
  have p14 : vs 14 = _ := hp 14 (by omega) rfl
  clear hp
  simp only [List.take_succ_cons, List.take_zero, List.drop_succ_cons, List.drop_zero, putAll, Nat.zero_add, Nat.reduceAdd, Act.put, List.setIfInBounds_toArray, List.set_cons_zero, List.set_cons_succ, p0, p1, p2, p3, p4, p5, p6, p7, p8, p9, p10, p11, p13, p14]
  clear p0 p1 p2 p3 p4 p5 p6 p7 p8 p9 p10 p11 p13 p14
  clear vs
  replace hl := hl.chg hC (fun a ha h => by have h' : a.block = w.heap.size := h; have := hf a ha; omega)
  replace be : Below w.heap.size w w' := be.trans (hC.below (B := w.heap.size) (fun b hb => by have : b = w.heap.size := hb; omega) be.size)
  go_wp2
  refine bodyPost_o4 Try.results136 rfl rfl rfl rfl (Bk.range hS) y1 y2 (szWy _ _ _ _ _ _ _) rfl ?_
  exact RetTO.mk hl (fun a ha => by have := hf a ha; omega) be
set_option maxHeartbeats 4000000 in
set_option maxRecDepth 100000 in
theorem outer_4e (A : Option Addr) (n c : Nat) (w : World) (ts ln id : Nat) (st mo : Bool) (fo tl pr sm sa da : Nat) (o load : List UInt8) (E1 : Int) (hE : (E1 == 0) = false) (HS : ∀ w', Below w.heap.size w w' → Calls Try.prog 74 #[.slice A n c] w' fun e w2 => e = .returned (.tuple #[.bool false, .int .i64 0]) ∧ w' = w2) (HP : ∀ w', Below w.heap.size w w' → Calls Try.prog 44 #[.slice A n c] w' (RetPE w' ts ln id st mo fo tl pr sm sa da o load E1)) : Calls Try.prog 136 #[.slice A n c] w (RetTO w load false 0 sa false 0 da tl pr E1) := by
  obtain ⟨dy, y1, y2⟩ := rowWy
  obtain ⟨du, u1, u2⟩ := rowH4
  obtain ⟨dv, v1, v2⟩ : ∃ d, Try.prog.underlying 29 = some d ∧ d.isRow = true := ⟨_, Try.underlying29, rfl⟩
  replace HS := Lib.hid HS
  replace HP := Lib.hid HP
  have b3 : Bk (w.alloc (.cells #[.bool false, .int .u64 0, .int .u64 0, .bool false, .int .u64 0, .int .u64 0, .int .u8 0] 126)) w.heap.size 126 (wyC false 0 0 false 0 0 0) := Bk.new w 126 #[.bool false, .int .u64 0, .int .u64 0, .bool false, .int .u64 0, .int .u64 0, .int .u8 0]
  have be : Below w.heap.size w (w.alloc (.cells #[.bool false, .int .u64 0, .int .u64 0, .bool false, .int .u64 0, .int .u64 0, .int .u8 0] 126)) := Below.allocS (Below.refl _ _) _
  go_enter Try.func136, Try.ntmps136
  go_upto_region 1 with (fail)
  have zV : w.heap.size + 1 ≤ (w.alloc (.cells #[.bool false, .int .u64 0, .int .u64 0, .bool false, .int .u64 0, .int .u64 0, .int .u8 0] 126)).heap.size := by simp
  generalize w.alloc (.cells #[.bool false, .int .u64 0, .int .u64 0, .bool false, .int .u64 0, .int .u64 0, .int .u8 0] 126) = V at *
  have zb3 : w.heap.size < V.heap.size := zV
  go_wp2_with fail
  refine (HS.out _ be).mono ?_
  rintro e w1 ⟨rfl, rfl⟩
  go_wp2_with fail
  refine (HP.out _ be).mono ?_
  rintro e w1 ⟨Ao, no, ko, A1, n1, k1, bs1, d1, rfl, rfl, -, hl, hf⟩
  go_upto_region 8 with (refine at_op (.store 77 (.tmp 11) (.tmp 43)) rfl ?_; refine wpList_stA (t := 77) 77 (.tmp 11) (.tmp 43) rfl rfl (h4C ts (ln : Int) id st mo (fo : Int) tl pr sm false 0 sa false 0 da Ao no ko) (h4C 0 0 0 false false 0 0 0 0 false 0 0 false 0 0 none 0 0) rfl (h4C_one _ _ _ _ _ _ _ _ _ _ _ _ _ _ _ _ _ _) rfl rfl ?_ (szH4 _ _ _ _ _ _ _ _ _ _ _ _ _ _ _ _ _ _) ?_; (· refine Bk.newK _ _ _ ?_ rfl; simp [size_plus]); intro W8 hX gr8)
  have z0 := be.size
  have b8 := below_grown (Below.allocS (below_plus V bs1 d1) _) gr8 (by omega)
  replace be := be.trans (b8.mono z0)
  replace b3 := b3.later b8
  replace hl := hl.later (below_grown (Below.allocS (Below.refl _ _) _) gr8 (by simp [size_plus]))
  have hg8 : w.heap.size < V.heap.size + bs1.length := by have := b3.lt; have := zV; omega
  clear b8 gr8
  generalize V.heap.size + bs1.length = g8 at *
  go_upto_region 10 with (fail)
  have nX : ¬ (fun b => b = w.heap.size) g8 := fun h => by have h' : g8 = w.heap.size := h; omega
  go_wp2
  refine wp_suS (fun b => b = w.heap.size) 15 63 2 [12] rfl (by kernel_rfl) (by kernel_rfl) (fun k w' => Bk w' w.heap.size 126 (if k = 0 then wyC false 0 0 false 0 0 0 else wyC false 0 sa false 0 da tl)) (fun k w w' h h' => h.later h'.below) (b3) ?_
  apply StepsC.one (MC.eq _) 1 rfl (by decide)
  · intro o ho FA w' hC hO hD K hK
    obtain rfl := Option.some.inj ho.symm
    clear ho
    have e12 := hO 12 (by kernel_rfl)
    simp only [eval_tmp, List.getElem?_toArray, List.getElem?_cons_succ, List.getElem?_cons_zero, Option.getD_some] at e12
    have ev12 := Lib.hid ((eval_tmp FA 12).trans e12)
    clear hO hD
    go_simp
    exact hK.out _ _ (Ex.refl _) rfl
  apply StepsC.one (MC.eq _) 2 rfl (by decide)
  · intro o ho FA w' hC hO hD K hK
    obtain rfl := Option.some.inj ho.symm
    clear ho
    have e11 := hO 11 (by kernel_rfl)
    simp only [eval_tmp, List.getElem?_toArray, List.getElem?_cons_succ, List.getElem?_cons_zero, Option.getD_some] at e11
    have ev11 := Lib.hid ((eval_tmp FA 11).trans e11)
    clear hO hD
    go_simp
    exact hK.out _ _ (Ex.refl _) rfl
  apply StepsC.one (MC.eq _) 3 rfl (by decide)
  · intro o ho FA w' hC hO hD K hK
    obtain rfl := Option.some.inj ho.symm
    clear ho
    have ev53 : FA.eval (.tmp 53) = _ := hD 1 53 (by kernel_rfl)
    have e53 := (eval_tmp FA 53).symm.trans ev53
    replace ev53 := Lib.hid ev53
    clear hO hD
    refine wanted_if rfl ?_
    refine wp_ldA 29 (.tmp 53) rfl ([.bool false, .int .u64 (0 : Int), .int .u64 (sa : Int)]) ev53.out (hX.chg hC nX) rfl v1 v2 (szAd _ _ _) ?_
    exact hK.out _ _ (Ex.refl _) rfl
  apply StepsC.one (MC.eq _) 4 rfl (by decide)
  · intro o ho FA w' hC hO hD K hK
    obtain rfl := Option.some.inj ho.symm
    clear ho
    have e11 := hO 11 (by kernel_rfl)
    simp only [eval_tmp, List.getElem?_toArray, List.getElem?_cons_succ, List.getElem?_cons_zero, Option.getD_some] at e11
    have ev11 := Lib.hid ((eval_tmp FA 11).trans e11)
    clear hO hD
    go_simp
    exact hK.out _ _ (Ex.refl _) rfl
  apply StepsC.one (MC.eq _) 5 rfl (by decide)
  · intro o ho FA w' hC hO hD K hK
    obtain rfl := Option.some.inj ho.symm
    clear ho
    have ev55 : FA.eval (.tmp 55) = _ := hD 3 55 (by kernel_rfl)
    have e55 := (eval_tmp FA 55).symm.trans ev55
    replace ev55 := Lib.hid ev55
    clear hO hD
    refine wanted_if rfl ?_
    refine wp_ldA 29 (.tmp 55) rfl ([.bool false, .int .u64 (0 : Int), .int .u64 (da : Int)]) ev55.out (hX.chg hC nX) rfl v1 v2 (szAd _ _ _) ?_
    exact hK.out _ _ (Ex.refl _) rfl
  apply StepsC.one (MC.eq _) 6 rfl (by decide)
  · intro o ho FA w' hC hO hD K hK
    obtain rfl := Option.some.inj ho.symm
    clear ho
    have e11 := hO 11 (by kernel_rfl)
    simp only [eval_tmp, List.getElem?_toArray, List.getElem?_cons_succ, List.getElem?_cons_zero, Option.getD_some] at e11
    have ev11 := Lib.hid ((eval_tmp FA 11).trans e11)
    clear hO hD
    go_simp
    exact hK.out _ _ (Ex.refl _) rfl
  apply StepsC.one (MC.eq _) 7 rfl (by decide)
  · intro o ho FA w' hC hO hD K hK
    obtain rfl := Option.some.inj ho.symm
    clear ho
    have ev57 : FA.eval (.tmp 57) = _ := hD 5 57 (by kernel_rfl)
    have e57 := (eval_tmp FA 57).symm.trans ev57
    replace ev57 := Lib.hid ev57
    clear hO hD
    refine wanted_if rfl ?_
    refine wp_ld1 5 (.tmp 57) rfl ev57.out (hX.chg hC nX) rfl Try.underlying5 rfl ?_
    exact hK.out _ _ (Ex.refl _) rfl
  apply StepsC.one (MC.eq _) 8 rfl (by decide)
  · intro o ho FA w' hC hO hD K hK
    obtain rfl := Option.some.inj ho.symm
    clear ho
    have ev54 : FA.eval (.tmp 54) = _ := hD 2 54 (by kernel_rfl)
    have e54 := (eval_tmp FA 54).symm.trans ev54
    replace ev54 := Lib.hid ev54
    have ev56 : FA.eval (.tmp 56) = _ := hD 4 56 (by kernel_rfl)
    have e56 := (eval_tmp FA 56).symm.trans ev56
    replace ev56 := Lib.hid ev56
    have ev58 : FA.eval (.tmp 58) = _ := hD 6 58 (by kernel_rfl)
    have e58 := (eval_tmp FA 58).symm.trans ev58
    replace ev58 := Lib.hid ev58
    clear hO hD
    go_simp
    exact hK.out _ _ (Ex.refl _) rfl
  apply StepsC.one (MC.eq _) 9 rfl (by decide)
  · intro o ho FA w' hC hO hD K hK
    obtain rfl := Option.some.inj ho.symm
    clear ho
    have e11 := hO 11 (by kernel_rfl)
    simp only [eval_tmp, List.getElem?_toArray, List.getElem?_cons_succ, List.getElem?_cons_zero, Option.getD_some] at e11
    have ev11 := Lib.hid ((eval_tmp FA 11).trans e11)
    clear hO hD
    go_simp
    exact hK.out _ _ (Ex.refl _) rfl
  apply StepsC.one (MC.eq _) 10 rfl (by decide)
  · intro o ho FA w' hC hO hD K hK
    obtain rfl := Option.some.inj ho.symm
    clear ho
    have ev60 : FA.eval (.tmp 60) = _ := hD 8 60 (by kernel_rfl)
    have e60 := (eval_tmp FA 60).symm.trans ev60
    replace ev60 := Lib.hid ev60
    clear hO hD
    refine wanted_if rfl ?_
    refine wp_ld1 5 (.tmp 60) rfl ev60.out (hX.chg hC nX) rfl Try.underlying5 rfl ?_
    exact hK.out _ _ (Ex.refl _) rfl
  apply StepsC.one (MC.eq _) 11 rfl (by decide)
  · intro o ho FA w' hC hO hD K hK
    obtain rfl := Option.some.inj ho.symm
    clear ho
    have e7 := hO 7 (by kernel_rfl)
    simp only [eval_tmp, List.getElem?_toArray, List.getElem?_cons_succ, List.getElem?_cons_zero, Option.getD_some] at e7
    have ev7 := Lib.hid ((eval_tmp FA 7).trans e7)
    clear hO hD
    go_simp
    exact hK.out _ _ (Ex.refl _) rfl
  apply StepsC.one (MC.eq _) 12 rfl (by decide)
  · intro o ho FA w' hC hO hD K hK
    obtain rfl := Option.some.inj ho.symm
    clear ho
    have ev52 : FA.eval (.tmp 52) = _ := hD 0 52 (by kernel_rfl)
    have e52 := (eval_tmp FA 52).symm.trans ev52
    replace ev52 := Lib.hid ev52
    clear hO hD
    go_simp
    exact hK.out _ _ (Ex.refl _) rfl
  apply StepsC.mov MC.any 13 0 rfl rfl rfl
  · intro o ho FA w' hC hO hD hS K hK
    obtain rfl := Option.some.inj ho.symm
    clear ho
    have e3 := hO 3 (by kernel_rfl)
    simp only [eval_tmp, List.getElem?_toArray, List.getElem?_cons_succ, List.getElem?_cons_zero, Option.getD_some] at e3
    have ev3 := Lib.hid ((eval_tmp FA 3).trans e3)
    have ev59 : FA.eval (.tmp 59) = _ := hD 7 59 (by kernel_rfl)
    have e59 := (eval_tmp FA 59).symm.trans ev59
    replace ev59 := Lib.hid ev59
    clear hO hD
    refine wanted_if rfl ?_
    refine wp_stA 126 (.tmp 3) (.tmp 59) rfl (wyC false 0 sa false 0 da tl) (wyC false 0 0 false 0 0 0) rfl (wyC_one _ _ _ _ _ _ _) ev3.out ev59.out hS (szWy _ _ _ _ _ _ _) ?_
    intro w'' hn hg
    exact hK.out undef _ (Chg.one hg rfl) hn trivial
  apply StepsC.one (MC.eq _) 14 rfl (by decide)
  · intro o ho FA w' hC hO hD K hK
    obtain rfl := Option.some.inj ho.symm
    clear ho
    have ev61 : FA.eval (.tmp 61) = _ := hD 9 61 (by kernel_rfl)
    have e61 := (eval_tmp FA 61).symm.trans ev61
    replace ev61 := Lib.hid ev61
    clear hO hD
    go_simp
    exact hK.out _ _ (Ex.refl _) rfl
  apply StepsC.one (MC.eq _) 15 rfl (by decide)
  · intro o ho FA w' hC hO hD K hK
    obtain rfl := Option.some.inj ho.symm
    clear ho
    have ev62 : FA.eval (.tmp 62) = _ := hD 10 62 (by kernel_rfl)
    have e62 := (eval_tmp FA 62).symm.trans ev62
    replace ev62 := Lib.hid ev62
    clear hO hD
    go_simp
    exact hK.out _ _ (Ex.refl _) rfl
  refine StepsC.fin_ (fun vs w' hC hS hp => ?_)
  have p0 : vs 0 = _ := hp 0 (by omega) rfl
  have p1 : vs 1 = _ := hp 1 (by omega) rfl
  have p2 : vs 2 = _ := hp 2 (by omega) rfl
  have p3 : vs 3 = _ := hp 3 (by omega) rfl
  have p4 : vs 4 = _ := hp 4 (by omega) rfl
  have p5 : vs 5 = _ := hp 5 (by omega) rfl
  have p6 : vs 6 = _ := hp 6 (by omega) rfl
  have p7 : vs 7 = _ := hp 7 (by omega) rfl
  have p8 : vs 8 = _ := hp 8 (by omega) rfl
  have p9 : vs 9 = _ := hp 9 (by omega) rfl
  have p10 : vs 10 = _ := hp 10 (by omega) rfl
  have p11 : vs 11 = _ := hp 11 (by omega) rfl
  have p13 : vs 13 = _ := hp 13 (by omega) rfl
  have p14 : vs 14 = _ := hp 14 (by omega) rfl
  clear hp
  simp only [List.take_succ_cons, List.take_zero, List.drop_succ_cons, List.drop_zero, putAll, Nat.zero_add, Nat.reduceAdd, Act.put, List.setIfInBounds_toArray, List.set_cons_zero, List.set_cons_succ, p0, p1, p2, p3, p4, p5, p6, p7, p8, p9, p10, p11, p13, p14]
  clear p0 p1 p2 p3 p4 p5 p6 p7 p8 p9 p10 p11 p13 p14
  clear vs
  replace hl := hl.chg hC (fun a ha h => by have h' : a.block = w.heap.size := h; have := hf a ha; omega)
  replace be : Below w.heap.size w w' := be.trans (hC.below (B := w.heap.size) (fun b hb => by have : b = w.heap.size := hb; omega) be.size)
  go_wp2
  refine bodyPost_o4 Try.results136 rfl rfl rfl rfl (Bk.range hS) y1 y2 (szWy _ _ _ _ _ _ _) rfl ?_
  exact RetTO.mk hl (fun a ha => by have := hf a ha; omega) be
set_option maxHeartbeats 4000000 in
set_option maxRecDepth 100000 in
theorem outer_4f (A : Option Addr) (n c : Nat) (w : World) (ts ln id : Nat) (st mo : Bool) (fo tl pr sm sa da : Nat) (o load : List UInt8) (E1 : Int) (hE : E1 = 0) (hF : (mo || decide (0 < (fo : Int))) = true) (HS : ∀ w', Below w.heap.size w w' → Calls Try.prog 74 #[.slice A n c] w' fun e w2 => e = .returned (.tuple #[.bool false, .int .i64 0]) ∧ w' = w2) (HP : ∀ w', Below w.heap.size w w' → Calls Try.prog 44 #[.slice A n c] w' (RetPE w' ts ln id st mo fo tl pr sm sa da o load E1)) : Calls Try.prog 136 #[.slice A n c] w (RetTO w load false 0 sa false 0 da tl pr 21) := by
  obtain ⟨dy, y1, y2⟩ := rowWy
  obtain ⟨du, u1, u2⟩ := rowH4
  obtain ⟨dv, v1, v2⟩ : ∃ d, Try.prog.underlying 29 = some d ∧ d.isRow = true := ⟨_, Try.underlying29, rfl⟩
  subst hE
  have HFR0 := fun A n k w => fragment4 ts (ln : Int) id st mo (fo : Int) tl pr sm false 0 sa false 0 da A n k w
  rw [hF] at HFR0
  have HFR := Lib.hid HFR0
  clear HFR0 hF
  replace HS := Lib.hid HS
  replace HP := Lib.hid HP
  have b3 : Bk (w.alloc (.cells #[.bool false, .int .u64 0, .int .u64 0, .bool false, .int .u64 0, .int .u64 0, .int .u8 0] 126)) w.heap.size 126 (wyC false 0 0 false 0 0 0) := Bk.new w 126 #[.bool false, .int .u64 0, .int .u64 0, .bool false, .int .u64 0, .int .u64 0, .int .u8 0]
  have be : Below w.heap.size w (w.alloc (.cells #[.bool false, .int .u64 0, .int .u64 0, .bool false, .int .u64 0, .int .u64 0, .int .u8 0] 126)) := Below.allocS (Below.refl _ _) _
  go_enter Try.func136, Try.ntmps136
  go_upto_region 1 with (fail)
  have zV : w.heap.size + 1 ≤ (w.alloc (.cells #[.bool false, .int .u64 0, .int .u64 0, .bool false, .int .u64 0, .int .u64 0, .int .u8 0] 126)).heap.size := by simp
  generalize w.alloc (.cells #[.bool false, .int .u64 0, .int .u64 0, .bool false, .int .u64 0, .int .u64 0, .int .u8 0] 126) = V at *
  have zb3 : w.heap.size < V.heap.size := zV
  go_wp2_with fail
  refine (HS.out _ be).mono ?_
  rintro e w1 ⟨rfl, rfl⟩
  go_wp2_with fail
  refine (HP.out _ be).mono ?_
  rintro e w1 ⟨Ao, no, ko, A1, n1, k1, bs1, d1, rfl, rfl, -, hl, hf⟩
  go_upto_region 8 with (refine at_op (.store 77 (.tmp 11) (.tmp 43)) rfl ?_; refine wpList_stA (t := 77) 77 (.tmp 11) (.tmp 43) rfl rfl (h4C ts (ln : Int) id st mo (fo : Int) tl pr sm false 0 sa false 0 da Ao no ko) (h4C 0 0 0 false false 0 0 0 0 false 0 0 false 0 0 none 0 0) rfl (h4C_one _ _ _ _ _ _ _ _ _ _ _ _ _ _ _ _ _ _) rfl rfl ?_ (szH4 _ _ _ _ _ _ _ _ _ _ _ _ _ _ _ _ _ _) ?_; (· refine Bk.newK _ _ _ ?_ rfl; simp [size_plus]); intro W8 hX gr8)
  have z0 := be.size
  have b8 := below_grown (Below.allocS (below_plus V bs1 d1) _) gr8 (by omega)
  replace be := be.trans (b8.mono z0)
  replace b3 := b3.later b8
  replace hl := hl.later (below_grown (Below.allocS (Below.refl _ _) _) gr8 (by simp [size_plus]))
  have hg8 : w.heap.size < V.heap.size + bs1.length := by have := b3.lt; have := zV; omega
  clear b8 gr8
  generalize V.heap.size + bs1.length = g8 at *
  go_upto_region 10 with (first
    | (refine at_op (.load 77 (.tmp 11)) rfl ?_; refine wpList_ldG (t := 77) 77 (.tmp 11) rfl rfl (h4C ts (ln : Int) id st mo (fo : Int) tl pr sm false 0 sa false 0 da Ao no ko) rfl (by with_reducible repeat (first | exact hX | refine Bk.later ?_ (below_plus _ _ _) | refine Bk.alloc ?_ _)) (whole_ _) u1 u2 (szH4 _ _ _ _ _ _ _ _ _ _ _ _ _ _ _ _ _ _) ?_)
    | (go_at_call 51; (with_reducible refine (HFR.out _ _ _ _).mono ?_); rintro e w1 ⟨bs2, d2, rfl, rfl⟩))
  replace hX := hX.later (below_plus _ bs2 d2)
  replace b3 := b3.later (below_plus _ bs2 d2)
  replace hl := hl.plus_ bs2 d2
  replace be := belowP be bs2 d2
  generalize plus W8 bs2 d2 = W8 at *
  have nX : ¬ (fun b => b = w.heap.size) g8 := fun h => by have h' : g8 = w.heap.size := h; omega
  go_wp2
  refine wp_suS (fun b => b = w.heap.size) 15 63 2 [12] rfl (by kernel_rfl) (by kernel_rfl) (fun k w' => Bk w' w.heap.size 126 (if k = 0 then wyC false 0 0 false 0 0 0 else wyC false 0 sa false 0 da tl)) (fun k w w' h h' => h.later h'.below) (b3) ?_
  apply StepsC.one (MC.eq _) 1 rfl (by decide)
  · intro o ho FA w' hC hO hD K hK
    obtain rfl := Option.some.inj ho.symm
    clear ho
    have e12 := hO 12 (by kernel_rfl)
    simp only [eval_tmp, List.getElem?_toArray, List.getElem?_cons_succ, List.getElem?_cons_zero, Option.getD_some] at e12
    have ev12 := Lib.hid ((eval_tmp FA 12).trans e12)
    clear hO hD
    go_simp
    exact hK.out _ _ (Ex.refl _) rfl
  apply StepsC.one (MC.eq _) 2 rfl (by decide)
  · intro o ho FA w' hC hO hD K hK
    obtain rfl := Option.some.inj ho.symm
    clear ho
    have e11 := hO 11 (by kernel_rfl)
    simp only [eval_tmp, List.getElem?_toArray, List.getElem?_cons_succ, List.getElem?_cons_zero, Option.getD_some] at e11
    have ev11 := Lib.hid ((eval_tmp FA 11).trans e11)
    clear hO hD
    go_simp
    exact hK.out _ _ (Ex.refl _) rfl
  apply StepsC.one (MC.eq _) 3 rfl (by decide)
  · intro o ho FA w' hC hO hD K hK
    obtain rfl := Option.some.inj ho.symm
    clear ho
    have ev53 : FA.eval (.tmp 53) = _ := hD 1 53 (by kernel_rfl)
    have e53 := (eval_tmp FA 53).symm.trans ev53
    replace ev53 := Lib.hid ev53
    clear hO hD
    refine wanted_if rfl ?_
    refine wp_ldA 29 (.tmp 53) rfl ([.bool false, .int .u64 (0 : Int), .int .u64 (sa : Int)]) ev53.out (hX.chg hC nX) rfl v1 v2 (szAd _ _ _) ?_
    exact hK.out _ _ (Ex.refl _) rfl
  apply StepsC.one (MC.eq _) 4 rfl (by decide)
  · intro o ho FA w' hC hO hD K hK
    obtain rfl := Option.some.inj ho.symm
    clear ho
    have e11 := hO 11 (by kernel_rfl)
    simp only [eval_tmp, List.getElem?_toArray, List.getElem?_cons_succ, List.getElem?_cons_zero, Option.getD_some] at e11
    have ev11 := Lib.hid ((eval_tmp FA 11).trans e11)
    clear hO hD
    go_simp
    exact hK.out _ _ (Ex.refl _) rfl
  apply StepsC.one (MC.eq _) 5 rfl (by decide)
  · intro o ho FA w' hC hO hD K hK
    obtain rfl := Option.some.inj ho.symm
    clear ho
    have ev55 : FA.eval (.tmp 55) = _ := hD 3 55 (by kernel_rfl)
    have e55 := (eval_tmp FA 55).symm.trans ev55
    replace ev55 := Lib.hid ev55
    clear hO hD
    refine wanted_if rfl ?_
    refine wp_ldA 29 (.tmp 55) rfl ([.bool false, .int .u64 (0 : Int), .int .u64 (da : Int)]) ev55.out (hX.chg hC nX) rfl v1 v2 (szAd _ _ _) ?_
    exact hK.out _ _ (Ex.refl _) rfl
  apply StepsC.one (MC.eq _) 6 rfl (by decide)
  · intro o ho FA w' hC hO hD K hK
    obtain rfl := Option.some.inj ho.symm
    clear ho
    have e11 := hO 11 (by kernel_rfl)
    simp only [eval_tmp, List.getElem?_toArray, List.getElem?_cons_succ, List.getElem?_cons_zero, Option.getD_some] at e11
    have ev11 := Lib.hid ((eval_tmp FA 11).trans e11)
    clear hO hD
    go_simp
    exact hK.out _ _ (Ex.refl _) rfl
  apply StepsC.one (MC.eq _) 7 rfl (by decide)
  · intro o ho FA w' hC hO hD K hK
    obtain rfl := Option.some.inj ho.symm
    clear ho
    have ev57 : FA.eval (.tmp 57) = _ := hD 5 57 (by kernel_rfl)
    have e57 := (eval_tmp FA 57).symm.trans ev57
    replace ev57 := Lib.hid ev57
    clear hO hD
    refine wanted_if rfl ?_
    refine wp_ld1 5 (.tmp 57) rfl ev57.out (hX.chg hC nX) rfl Try.underlying5 rfl ?_
    exact hK.out _ _ (Ex.refl _) rfl
  apply StepsC.one (MC.eq _) 8 rfl (by decide)
  · intro o ho FA w' hC hO hD K hK
    obtain rfl := Option.some.inj ho.symm
    clear ho
    have ev54 : FA.eval (.tmp 54) = _ := hD 2 54 (by kernel_rfl)
    have e54 := (eval_tmp FA 54).symm.trans ev54
    replace ev54 := Lib.hid ev54
    have ev56 : FA.eval (.tmp 56) = _ := hD 4 56 (by kernel_rfl)
    have e56 := (eval_tmp FA 56).symm.trans ev56
    replace ev56 := Lib.hid ev56
    have ev58 : FA.eval (.tmp 58) = _ := hD 6 58 (by kernel_rfl)
    have e58 := (eval_tmp FA 58).symm.trans ev58
    replace ev58 := Lib.hid ev58
    clear hO hD
    go_simp
    exact hK.out _ _ (Ex.refl _) rfl
  apply StepsC.one (MC.eq _) 9 rfl (by decide)
  · intro o ho FA w' hC hO hD K hK
    obtain rfl := Option.some.inj ho.symm
    clear ho
    have e11 := hO 11 (by kernel_rfl)
    simp only [eval_tmp, List.getElem?_toArray, List.getElem?_cons_succ, List.getElem?_cons_zero, Option.getD_some] at e11
    have ev11 := Lib.hid ((eval_tmp FA 11).trans e11)
    clear hO hD
    go_simp
    exact hK.out _ _ (Ex.refl _) rfl
  apply StepsC.one (MC.eq _) 10 rfl (by decide)
  · intro o ho FA w' hC hO hD K hK
    obtain rfl := Option.some.inj ho.symm
    clear ho
    have ev60 : FA.eval (.tmp 60) = _ := hD 8 60 (by kernel_rfl)
    have e60 := (eval_tmp FA 60).symm.trans ev60
    replace ev60 := Lib.hid ev60
    clear hO hD
    refine wanted_if rfl ?_
    refine wp_ld1 5 (.tmp 60) rfl ev60.out (hX.chg hC nX) rfl Try.underlying5 rfl ?_
    exact hK.out _ _ (Ex.refl _) rfl
  apply StepsC.one (MC.eq _) 11 rfl (by decide)
  · intro o ho FA w' hC hO hD K hK
    obtain rfl := Option.some.inj ho.symm
    clear ho
    have e7 := hO 7 (by kernel_rfl)
    simp only [eval_tmp, List.getElem?_toArray, List.getElem?_cons_succ, List.getElem?_cons_zero, Option.getD_some] at e7
    have ev7 := Lib.hid ((eval_tmp FA 7).trans e7)
    clear hO hD
    go_simp
    exact hK.out _ _ (Ex.refl _) rfl
  apply StepsC.one (MC.eq _) 12 rfl (by decide)
  · intro o ho FA w' hC hO hD K hK
    obtain rfl := Option.some.inj ho.symm
    clear ho
    have ev52 : FA.eval (.tmp 52) = _ := hD 0 52 (by kernel_rfl)
    have e52 := (eval_tmp FA 52).symm.trans ev52
    replace ev52 := Lib.hid ev52
    clear hO hD
    go_simp
    exact hK.out _ _ (Ex.refl _) rfl
  apply StepsC.mov MC.any 13 0 rfl rfl rfl
  · intro o ho FA w' hC hO hD hS K hK
    obtain rfl := Option.some.inj ho.symm
    clear ho
    have e3 := hO 3 (by kernel_rfl)
    simp only [eval_tmp, List.getElem?_toArray, List.getElem?_cons_succ, List.getElem?_cons_zero, Option.getD_some] at e3
    have ev3 := Lib.hid ((eval_tmp FA 3).trans e3)
    have ev59 : FA.eval (.tmp 59) = _ := hD 7 59 (by kernel_rfl)
    have e59 := (eval_tmp FA 59).symm.trans ev59
    replace ev59 := Lib.hid ev59
    clear hO hD
    refine wanted_if rfl ?_
    refine wp_stA 126 (.tmp 3) (.tmp 59) rfl (wyC false 0 sa false 0 da tl) (wyC false 0 0 false 0 0 0) rfl (wyC_one _ _ _ _ _ _ _) ev3.out ev59.out hS (szWy _ _ _ _ _ _ _) ?_
    intro w'' hn hg
    exact hK.out undef _ (Chg.one hg rfl) hn trivial
  apply StepsC.one (MC.eq _) 14 rfl (by decide)
  · intro o ho FA w' hC hO hD K hK
    obtain rfl := Option.some.inj ho.symm
    clear ho
    have ev61 : FA.eval (.tmp 61) = _ := hD 9 61 (by kernel_rfl)
    have e61 := (eval_tmp FA 61).symm.trans ev61
    replace ev61 := Lib.hid ev61
    clear hO hD
    go_simp
    exact hK.out _ _ (Ex.refl _) rfl
  apply StepsC.one (MC.eq _) 15 rfl (by decide)
  · intro o ho FA w' hC hO hD K hK
    obtain rfl := Option.some.inj ho.symm
    clear ho
    have ev62 : FA.eval (.tmp 62) = _ := hD 10 62 (by kernel_rfl)
    have e62 := (eval_tmp FA 62).symm.trans ev62
    replace ev62 := Lib.hid ev62
    clear hO hD
    go_simp
    exact hK.out _ _ (Ex.refl _) rfl
  refine StepsC.fin_ (fun vs w' hC hS hp => ?_)
  have p0 : vs 0 = _ := hp 0 (by omega) rfl
  have p1 : vs 1 = _ := hp 1 (by omega) rfl
  have p2 : vs 2 = _ := hp 2 (by omega) rfl
  have p3 : vs 3 = _ := hp 3 (by omega) rfl
  have p4 : vs 4 = _ := hp 4 (by omega) rfl
  have p5 : vs 5 = _ := hp 5 (by omega) rfl
  have p6 : vs 6 = _ := hp 6 (by omega) rfl
  have p7 : vs 7 = _ := hp 7 (by omega) rfl
  have p8 : vs 8 = _ := hp 8 (by omega) rfl
  have p9 : vs 9 = _ := hp 9 (by omega) rfl
  have p10 : vs 10 = _ := hp 10 (by omega) rfl
  have p11 : vs 11 = _ := hp 11 (by omega) rfl
  have p13 : vs 13 = _ := hp 13 (by omega) rfl
  have p14 : vs 14 = _ := hp 14 (by omega) rfl
  clear hp
  simp only [List.take_succ_cons, List.take_zero, List.drop_succ_cons, List.drop_zero, putAll, Nat.zero_add, Nat.reduceAdd, Act.put, List.setIfInBounds_toArray, List.set_cons_zero, List.set_cons_succ, p0, p1, p2, p3, p4, p5, p6, p7, p8, p9, p10, p11, p13, p14]
  clear p0 p1 p2 p3 p4 p5 p6 p7 p8 p9 p10 p11 p13 p14
  clear vs
  replace hl := hl.chg hC (fun a ha h => by have h' : a.block = w.heap.size := h; have := hf a ha; omega)
  replace be : Below w.heap.size w w' := be.trans (hC.below (B := w.heap.size) (fun b hb => by have : b = w.heap.size := hb; omega) be.size)
  go_wp2
  refine bodyPost_o4 Try.results136 rfl rfl rfl rfl (Bk.range hS) y1 y2 (szWy _ _ _ _ _ _ _) rfl ?_
  exact RetTO.mk hl (fun a ha => by have := hf a ha; omega) be
set_option maxHeartbeats 4000000 in
set_option maxRecDepth 100000 in
theorem outer_4 (A : Option Addr) (n c : Nat) (w : World) (ts ln id : Nat) (st mo : Bool) (fo tl pr sm sa da : Nat) (o load : List UInt8) (E1 : Int) (hE : E1 = 0) (hF : (mo || decide (0 < (fo : Int))) = false) (HS : ∀ w', Below w.heap.size w w' → Calls Try.prog 74 #[.slice A n c] w' fun e w2 => e = .returned (.tuple #[.bool false, .int .i64 0]) ∧ w' = w2) (HP : ∀ w', Below w.heap.size w w' → Calls Try.prog 44 #[.slice A n c] w' (RetPE w' ts ln id st mo fo tl pr sm sa da o load E1)) : Calls Try.prog 136 #[.slice A n c] w (RetTO w load false 0 sa false 0 da tl pr 0) := by
  obtain ⟨dy, y1, y2⟩ := rowWy
  obtain ⟨du, u1, u2⟩ := rowH4
  obtain ⟨dv, v1, v2⟩ : ∃ d, Try.prog.underlying 29 = some d ∧ d.isRow = true := ⟨_, Try.underlying29, rfl⟩
  subst hE
  have HFR0 := fun A n k w => fragment4 ts (ln : Int) id st mo (fo : Int) tl pr sm false 0 sa false 0 da A n k w
  rw [hF] at HFR0
  have HFR := Lib.hid HFR0
  clear HFR0 hF
  replace HS := Lib.hid HS
  replace HP := Lib.hid HP
  have b3 : Bk (w.alloc (.cells #[.bool false, .int .u64 0, .int .u64 0, .bool false, .int .u64 0, .int .u64 0, .int .u8 0] 126)) w.heap.size 126 (wyC false 0 0 false 0 0 0) := Bk.new w 126 #[.bool false, .int .u64 0, .int .u64 0, .bool false, .int .u64 0, .int .u64 0, .int .u8 0]
  have be : Below w.heap.size w (w.alloc (.cells #[.bool false, .int .u64 0, .int .u64 0, .bool false, .int .u64 0, .int .u64 0, .int .u8 0] 126)) := Below.allocS (Below.refl _ _) _
  go_enter Try.func136, Try.ntmps136
  go_upto_region 1 with (fail)
  have zV : w.heap.size + 1 ≤ (w.alloc (.cells #[.bool false, .int .u64 0, .int .u64 0, .bool false, .int .u64 0, .int .u64 0, .int .u8 0] 126)).heap.size := by simp
  generalize w.alloc (.cells #[.bool false, .int .u64 0, .int .u64 0, .bool false, .int .u64 0, .int .u64 0, .int .u8 0] 126) = V at *
  have zb3 : w.heap.size < V.heap.size := zV
  go_wp2_with fail
  refine (HS.out _ be).mono ?_
  rintro e w1 ⟨rfl, rfl⟩
  go_wp2_with fail
  refine (HP.out _ be).mono ?_
  rintro e w1 ⟨Ao, no, ko, A1, n1, k1, bs1, d1, rfl, rfl, -, hl, hf⟩
  go_upto_region 8 with (refine at_op (.store 77 (.tmp 11) (.tmp 43)) rfl ?_; refine wpList_stA (t := 77) 77 (.tmp 11) (.tmp 43) rfl rfl (h4C ts (ln : Int) id st mo (fo : Int) tl pr sm false 0 sa false 0 da Ao no ko) (h4C 0 0 0 false false 0 0 0 0 false 0 0 false 0 0 none 0 0) rfl (h4C_one _ _ _ _ _ _ _ _ _ _ _ _ _ _ _ _ _ _) rfl rfl ?_ (szH4 _ _ _ _ _ _ _ _ _ _ _ _ _ _ _ _ _ _) ?_; (· refine Bk.newK _ _ _ ?_ rfl; simp [size_plus]); intro W8 hX gr8)
  have z0 := be.size
  have b8 := below_grown (Below.allocS (below_plus V bs1 d1) _) gr8 (by omega)
  replace be := be.trans (b8.mono z0)
  replace b3 := b3.later b8
  replace hl := hl.later (below_grown (Below.allocS (Below.refl _ _) _) gr8 (by simp [size_plus]))
  have hg8 : w.heap.size < V.heap.size + bs1.length := by have := b3.lt; have := zV; omega
  clear b8 gr8
  generalize V.heap.size + bs1.length = g8 at *
  go_upto_region 10 with (first
    | (refine at_op (.load 77 (.tmp 11)) rfl ?_; refine wpList_ldG (t := 77) 77 (.tmp 11) rfl rfl (h4C ts (ln : Int) id st mo (fo : Int) tl pr sm false 0 sa false 0 da Ao no ko) rfl (by with_reducible repeat (first | exact hX | refine Bk.later ?_ (below_plus _ _ _) | refine Bk.alloc ?_ _)) (whole_ _) u1 u2 (szH4 _ _ _ _ _ _ _ _ _ _ _ _ _ _ _ _ _ _) ?_)
    | (go_at_call 51; (with_reducible refine (HFR.out _ _ _ _).mono ?_); rintro e w1 ⟨bs2, d2, rfl, rfl⟩))
  replace hX := hX.later (below_plus _ bs2 d2)
  replace b3 := b3.later (below_plus _ bs2 d2)
  replace hl := hl.plus_ bs2 d2
  replace be := belowP be bs2 d2
  generalize plus W8 bs2 d2 = W8 at *
  have nX : ¬ (fun b => b = w.heap.size) g8 := fun h => by have h' : g8 = w.heap.size := h; omega
  go_wp2
  refine wp_suS (fun b => b = w.heap.size) 15 63 2 [12] rfl (by kernel_rfl) (by kernel_rfl) (fun k w' => Bk w' w.heap.size 126 (if k = 0 then wyC false 0 0 false 0 0 0 else wyC false 0 sa false 0 da tl)) (fun k w w' h h' => h.later h'.below) (b3) ?_
  apply StepsC.one (MC.eq _) 1 rfl (by decide)
  · intro o ho FA w' hC hO hD K hK
    obtain rfl := Option.some.inj ho.symm
    clear ho
    have e12 := hO 12 (by kernel_rfl)
    simp only [eval_tmp, List.getElem?_toArray, List.getElem?_cons_succ, List.getElem?_cons_zero, Option.getD_some] at e12
    have ev12 := Lib.hid ((eval_tmp FA 12).trans e12)
    clear hO hD
    go_simp
    exact hK.out _ _ (Ex.refl _) rfl
  apply StepsC.one (MC.eq _) 2 rfl (by decide)
  · intro o ho FA w' hC hO hD K hK
    obtain rfl := Option.some.inj ho.symm
    clear ho
    have e11 := hO 11 (by kernel_rfl)
    simp only [eval_tmp, List.getElem?_toArray, List.getElem?_cons_succ, List.getElem?_cons_zero, Option.getD_some] at e11
    have ev11 := Lib.hid ((eval_tmp FA 11).trans e11)
    clear hO hD
    go_simp
    exact hK.out _ _ (Ex.refl _) rfl
  apply StepsC.one (MC.eq _) 3 rfl (by decide)
  · intro o ho FA w' hC hO hD K hK
    obtain rfl := Option.some.inj ho.symm
    clear ho
    have ev53 : FA.eval (.tmp 53) = _ := hD 1 53 (by kernel_rfl)
    have e53 := (eval_tmp FA 53).symm.trans ev53
    replace ev53 := Lib.hid ev53
    clear hO hD
    refine wanted_if rfl ?_
    refine wp_ldA 29 (.tmp 53) rfl ([.bool false, .int .u64 (0 : Int), .int .u64 (sa : Int)]) ev53.out (hX.chg hC nX) rfl v1 v2 (szAd _ _ _) ?_
    exact hK.out _ _ (Ex.refl _) rfl
  apply StepsC.one (MC.eq _) 4 rfl (by decide)
  · intro o ho FA w' hC hO hD K hK
    obtain rfl := Option.some.inj ho.symm
    clear ho
    have e11 := hO 11 (by kernel_rfl)
    simp only [eval_tmp, List.getElem?_toArray, List.getElem?_cons_succ, List.getElem?_cons_zero, Option.getD_some] at e11
    have ev11 := Lib.hid ((eval_tmp FA 11).trans e11)
    clear hO hD
    go_simp
    exact hK.out _ _ (Ex.refl _) rfl
  apply StepsC.one (MC.eq _) 5 rfl (by decide)
  · intro o ho FA w' hC hO hD K hK
    obtain rfl := Option.some.inj ho.symm
    clear ho
    have ev55 : FA.eval (.tmp 55) = _ := hD 3 55 (by kernel_rfl)
    have e55 := (eval_tmp FA 55).symm.trans ev55
    replace ev55 := Lib.hid ev55
    clear hO hD
    refine wanted_if rfl ?_
    refine wp_ldA 29 (.tmp 55) rfl ([.bool false, .int .u64 (0 : Int), .int .u64 (da : Int)]) ev55.out (hX.chg hC nX) rfl v1 v2 (szAd _ _ _) ?_
    exact hK.out _ _ (Ex.refl _) rfl
  apply StepsC.one (MC.eq _) 6 rfl (by decide)
  · intro o ho FA w' hC hO hD K hK
    obtain rfl := Option.some.inj ho.symm
    clear ho
    have e11 := hO 11 (by kernel_rfl)
    simp only [eval_tmp, List.getElem?_toArray, List.getElem?_cons_succ, List.getElem?_cons_zero, Option.getD_some] at e11
    have ev11 := Lib.hid ((eval_tmp FA 11).trans e11)
    clear hO hD
    go_simp
    exact hK.out _ _ (Ex.refl _) rfl
  apply StepsC.one (MC.eq _) 7 rfl (by decide)
  · intro o ho FA w' hC hO hD K hK
    obtain rfl := Option.some.inj ho.symm
    clear ho
    have ev57 : FA.eval (.tmp 57) = _ := hD 5 57 (by kernel_rfl)
    have e57 := (eval_tmp FA 57).symm.trans ev57
    replace ev57 := Lib.hid ev57
    clear hO hD
    refine wanted_if rfl ?_
    refine wp_ld1 5 (.tmp 57) rfl ev57.out (hX.chg hC nX) rfl Try.underlying5 rfl ?_
    exact hK.out _ _ (Ex.refl _) rfl
  apply StepsC.one (MC.eq _) 8 rfl (by decide)
  · intro o ho FA w' hC hO hD K hK
    obtain rfl := Option.some.inj ho.symm
    clear ho
    have ev54 : FA.eval (.tmp 54) = _ := hD 2 54 (by kernel_rfl)
    have e54 := (eval_tmp FA 54).symm.trans ev54
    replace ev54 := Lib.hid ev54
    have ev56 : FA.eval (.tmp 56) = _ := hD 4 56 (by kernel_rfl)
    have e56 := (eval_tmp FA 56).symm.trans ev56
    replace ev56 := Lib.hid ev56
    have ev58 : FA.eval (.tmp 58) = _ := hD 6 58 (by kernel_rfl)
    have e58 := (eval_tmp FA 58).symm.trans ev58
    replace ev58 := Lib.hid ev58
    clear hO hD
    go_simp
    exact hK.out _ _ (Ex.refl _) rfl
  apply StepsC.one (MC.eq _) 9 rfl (by decide)
  · intro o ho FA w' hC hO hD K hK
    obtain rfl := Option.some.inj ho.symm
    clear ho
    have e11 := hO 11 (by kernel_rfl)
    simp only [eval_tmp, List.getElem?_toArray, List.getElem?_cons_succ, List.getElem?_cons_zero, Option.getD_some] at e11
    have ev11 := Lib.hid ((eval_tmp FA 11).trans e11)
    clear hO hD
    go_simp
    exact hK.out _ _ (Ex.refl _) rfl
  apply StepsC.one (MC.eq _) 10 rfl (by decide)
  · intro o ho FA w' hC hO hD K hK
    obtain rfl := Option.some.inj ho.symm
    clear ho
    have ev60 : FA.eval (.tmp 60) = _ := hD 8 60 (by kernel_rfl)
    have e60 := (eval_tmp FA 60).symm.trans ev60
    replace ev60 := Lib.hid ev60
    clear hO hD
    refine wanted_if rfl ?_
    refine wp_ld1 5 (.tmp 60) rfl ev60.out (hX.chg hC nX) rfl Try.underlying5 rfl ?_
    exact hK.out _ _ (Ex.refl _) rfl
  apply StepsC.one (MC.eq _) 11 rfl (by decide)
  · intro o ho FA w' hC hO hD K hK
    obtain rfl := Option.some.inj ho.symm
    clear ho
    have e7 := hO 7 (by kernel_rfl)
    simp only [eval_tmp, List.getElem?_toArray, List.getElem?_cons_succ, List.getElem?_cons_zero, Option.getD_some] at e7
    have ev7 := Lib.hid ((eval_tmp FA 7).trans e7)
    clear hO hD
    go_simp
    exact hK.out _ _ (Ex.refl _) rfl
  apply StepsC.one (MC.eq _) 12 rfl (by decide)
  · intro o ho FA w' hC hO hD K hK
    obtain rfl := Option.some.inj ho.symm
    clear ho
    have ev52 : FA.eval (.tmp 52) = _ := hD 0 52 (by kernel_rfl)
    have e52 := (eval_tmp FA 52).symm.trans ev52
    replace ev52 := Lib.hid ev52
    clear hO hD
    go_simp
    exact hK.out _ _ (Ex.refl _) rfl
  apply StepsC.mov MC.any 13 0 rfl rfl rfl
  · intro o ho FA w' hC hO hD hS K hK
    obtain rfl := Option.some.inj ho.symm
    clear ho
    have e3 := hO 3 (by kernel_rfl)
    simp only [eval_tmp, List.getElem?_toArray, List.getElem?_cons_succ, List.getElem?_cons_zero, Option.getD_some] at e3
    have ev3 := Lib.hid ((eval_tmp FA 3).trans e3)
    have ev59 : FA.eval (.tmp 59) = _ := hD 7 59 (by kernel_rfl)
    have e59 := (eval_tmp FA 59).symm.trans ev59
    replace ev59 := Lib.hid ev59
    clear hO hD
    refine wanted_if rfl ?_
    refine wp_stA 126 (.tmp 3) (.tmp 59) rfl (wyC false 0 sa false 0 da tl) (wyC false 0 0 false 0 0 0) rfl (wyC_one _ _ _ _ _ _ _) ev3.out ev59.out hS (szWy _ _ _ _ _ _ _) ?_
    intro w'' hn hg
    exact hK.out undef _ (Chg.one hg rfl) hn trivial
  apply StepsC.one (MC.eq _) 14 rfl (by decide)
  · intro o ho FA w' hC hO hD K hK
    obtain rfl := Option.some.inj ho.symm
    clear ho
    have ev61 : FA.eval (.tmp 61) = _ := hD 9 61 (by kernel_rfl)
    have e61 := (eval_tmp FA 61).symm.trans ev61
    replace ev61 := Lib.hid ev61
    clear hO hD
    go_simp
    exact hK.out _ _ (Ex.refl _) rfl
  apply StepsC.one (MC.eq _) 15 rfl (by decide)
  · intro o ho FA w' hC hO hD K hK
    obtain rfl := Option.some.inj ho.symm
    clear ho
    have ev62 : FA.eval (.tmp 62) = _ := hD 10 62 (by kernel_rfl)
    have e62 := (eval_tmp FA 62).symm.trans ev62
    replace ev62 := Lib.hid ev62
    clear hO hD
    go_simp
    exact hK.out _ _ (Ex.refl _) rfl
  refine StepsC.fin_ (fun vs w' hC hS hp => ?_)
  have p0 : vs 0 = _ := hp 0 (by omega) rfl
  have p1 : vs 1 = _ := hp 1 (by omega) rfl
  have p2 : vs 2 = _ := hp 2 (by omega) rfl
  have p3 : vs 3 = _ := hp 3 (by omega) rfl
  have p4 : vs 4 = _ := hp 4 (by omega) rfl
  have p5 : vs 5 = _ := hp 5 (by omega) rfl
  have p6 : vs 6 = _ := hp 6 (by omega) rfl
  have p7 : vs 7 = _ := hp 7 (by omega) rfl
  have p8 : vs 8 = _ := hp 8 (by omega) rfl
  have p9 : vs 9 = _ := hp 9 (by omega) rfl
  have p10 : vs 10 = _ := hp 10 (by omega) rfl
  have p11 : vs 11 = _ := hp 11 (by omega) rfl
  have p13 : vs 13 = _ := hp 13 (by omega) rfl
  have p14 : vs 14 = _ := hp 14 (by omega) rfl
  clear hp
  simp only [List.take_succ_cons, List.take_zero, List.drop_succ_cons, List.drop_zero, putAll, Nat.zero_add, Nat.reduceAdd, Act.put, List.setIfInBounds_toArray, List.set_cons_zero, List.set_cons_succ, p0, p1, p2, p3, p4, p5, p6, p7, p8, p9, p10, p11, p13, p14]
  clear p0 p1 p2 p3 p4 p5 p6 p7 p8 p9 p10 p11 p13 p14
  clear vs
  replace hl := hl.chg hC (fun a ha h => by have h' : a.block = w.heap.size := h; have := hf a ha; omega)
  replace be : Below w.heap.size w w' := be.trans (hC.below (B := w.heap.size) (fun b hb => by have : b = w.heap.size := hb; omega) be.size)
  go_wp2
  refine bodyPost_o4 Try.results136 rfl rfl rfl rfl (Bk.range hS) y1 y2 (szWy _ _ _ _ _ _ _) rfl ?_
  exact RetTO.mk hl (fun a ha => by have := hf a ha; omega) be
end Go.Proofs.Ytldecdeiibfekaa
