/- The law RingBytes (chapter 11). -/
import Derived.Test.YticlohlpccollaaRingP
import Derived.Test.YticlohlpccollaaRingK
import Derived.Test.YticlohlpccollaaRingO
import Derived.Test.YticlohlpccollaaRingE
namespace Go.Proofs.Yticlohlpccollaa
open Go.RowKit
set_option linter.unusedVariables false
set_option linter.unusedSimpArgs false
attribute [local go_sem ↓] sliced_cut
attribute [local go_sem] cutA_zero

theorem range_key {w : World} {g : Nat} {t : TypeId} {key : List UInt8} {n : Nat} (h : Bk w g t (ringC key n)) : w.rangeAt g 0 (bcs key) := fun j v hv => by
  rw [Nat.zero_add, h.cell, ringC, List.getElem?_append_left (List.getElem?_eq_some_iff.1 hv).1]
  exact hv
theorem num_dig (n : Nat) : ∀ m, n < 256 ^ m → num (dig n m) = n := by
  intro m
  induction m generalizing n with
  | zero => intro h; simp at h; subst h; rfl
  | succ m ih =>
    intro h
    rw [dig, num_snoc, ih (n / 256) (by rw [Nat.pow_succ] at h; omega)]
    simp
    omega
theorem dig_num : ∀ (m : Nat) (l : List UInt8), l.length = m → dig (num l) m = l := by
  intro m
  induction m with
  | zero => intro l h; rw [List.eq_nil_of_length_eq_zero h]; rfl
  | succ m ih =>
    intro l h
    rcases List.eq_nil_or_concat l with rfl | ⟨l', b, rfl⟩
    · simp at h
    · simp only [List.concat_eq_append] at *
      have hb := b.toNat_lt
      rw [num_snoc, dig, show (num l' * 256 + b.toNat) / 256 = num l' by omega, show (num l' * 256 + b.toNat) % 256 = b.toNat by omega, ih l' (by simpa using h)]
      simp
theorem eql_ring (w : World) (key : List UInt8) (hk : K16 key) (n : Nat) : (binOp .eql 55 (.agg (ringC key n).toArray) (.agg (ringC key n).toArray)).run Try.prog w = .ok (.bool true) w := by
  rw [run_eql_struct, eq_ring w key hk n]
  rfl
theorem neq_ring (w : World) (key : List UInt8) (hk : K16 key) (n : Nat) : (binOp .neq 55 (.agg (ringC key n).toArray) (.agg (ringC key n).toArray)).run Try.prog w = .ok (.bool false) w := by
  rw [run_neq_struct, eq_ring w key hk n]
  rfl
attribute [local go_sem ↓] eql_ring neq_ring

set_option maxHeartbeats 4000000 in
set_option maxRecDepth 100000 in
theorem ringBytes_yes (w : World) (key : List UInt8) (hk : K16 key) (n : Nat) (hn : n < 18446744073709551616) (A : Option Addr) (n1 c : Nat) (h100 : n1 ≤ 100) (k : List UInt8) (hk2 : K16 k) (m : Nat)
    (hP : ∀ w', Below w.heap.size w w' → Calls Try.prog 31 #[.slice A n1 c] w' (RetV w' (.tuple #[.agg (ringC k m).toArray, .int .i64 0]))) (hQ : ∀ w', Below w.heap.size w w' → Calls Try.prog 32 #[.slice A n1 c] w' (RetV w' (.tuple #[.agg (ringC k m).toArray, .bool true]))) :
    Calls Try.prog 6 #[.agg (ringC key n).toArray, .slice A n1 c] w fun e w' => e = .returned (.bool true) ∧ Below w.heap.size w w' := by
  have q := ringC_16 key hk n
  have qm := ringC_16 k hk2 m
  obtain ⟨dk, u1, u2, u3⟩ := rowKey
  obtain ⟨da, x1, x2, x3⟩ := row16
  obtain ⟨dr, v1, v2, v3⟩ := rowRing
  obtain ⟨ds, y1, y2, y3⟩ := rowRef
  have HP := Lib.hid hP
  have HQ := Lib.hid hQ
  clear hP hQ
  have hb0 : Bk (w.alloc (.cells (ringC key n).toArray 52)) w.heap.size 52 (ringC key n) := Bk.new w 52 (ringC key n).toArray
  have t1 : ¬ (100 : Int) < n1 := by omega
  go_enter Try.func6, Try.ntmps6
  go_upto_region 4 with (first
    | (go_at_call 31; refine (HP.out _ ((Below.refl _ _).alloc (Nat.le_refl _) _)).mono ?_; rintro e w1 ⟨bs1, d1, rfl, rfl⟩)
    | (refine at_op (.store 55 (.tmp 5) (.tmp 19)) rfl ?_; refine wpList_stA (t := 55) 55 (.tmp 5) (.tmp 19) rfl rfl (ringC k m) ring0 (by rw [ringC_length _ hk2]; rfl) (ringC_one _ _) rfl rfl ?_ (szRing _ hk2 _) ?_; (· refine Bk.newK _ _ _ ?_ rfl; simp [size_plus]); intro w3 hb5 hg3))
  have g5l : w.heap.size < w.heap.size + 1 + bs1.length := by omega
  have hb2 : Bk w3 w.heap.size 52 (ringC key n) := ((hb0.later (below_plus _ bs1 d1)).alloc _).grown hg3 (by simp; omega)
  have b3 : Below w.heap.size w w3 := below_grown (by repeat (first | exact Below.refl _ _ | refine belowP ?_ _ _ | refine Below.allocS ?_ _)) hg3 (by omega)
  clear hg3 hb0
  generalize w.heap.size + 1 + bs1.length = g5 at *
  go_upto_region 5 with (first
    | (go_at_call 32; refine (HQ.out _ b3).mono ?_; rintro e w1 ⟨bs2, d2, rfl, rfl⟩)
    | (refine at_op (.store 52 (.tmp 7) (.tmp 24)) rfl ?_; refine wpList_stA (t := 52) 52 (.tmp 7) (.tmp 24) rfl rfl (ringC k m) ring0 (by rw [ringC_length _ hk2]; rfl) (ringC_one _ _) rfl rfl ?_ (szRef _ hk2 _) ?_; (· refine Bk.newK _ _ _ ?_ rfl; simp [size_plus]); intro w4 hb7 hg4))
  have z3 := b3.size
  have z5 := hb5.lt
  have b4 : Below w.heap.size w w4 := below_grown (by repeat (first | exact b3 | refine belowP ?_ _ _ | refine Below.allocS ?_ _)) hg4 (by omega)
  have hb2' : Bk w4 w.heap.size 52 (ringC key n) := ((hb2.later (below_plus _ bs2 d2)).alloc _).grown hg4 (by simp; omega)
  have hb5' : Bk w4 g5 55 (ringC k m) := ((hb5.later (below_plus _ bs2 d2)).alloc _).grown hg4 (by simp; omega)
  clear hg4 hb2 hb5
  have hb2 := hb2'
  have hb5 := hb5'
  clear hb2' hb5'
  have q7 : w4.cell? ⟨w3.heap.size + bs2.length, 16, none⟩ = some (.int .u64 (m : Int)) := by rw [hb7.cell]; exact qm
  have q2 : w4.cell? ⟨w.heap.size, 16, none⟩ = some (.int .u64 (n : Int)) := by rw [hb2.cell]; exact q
  have g57 : g5 < w3.heap.size + bs2.length := by omega
  generalize w3.heap.size + bs2.length = g7 at *
  have z7 := hb7.lt
  have z2 := hb2.lt
  refine wp_rel 21 77 rfl (by kernel_rfl) (by kernel_rfl) (fun i => match i with | 0 => MP.eq (.agg (ringC k m).toArray) | 1 => MP.eq (.pointer (some ⟨g7, 0, none⟩)) | 2 => MP.eq (.agg (bcs k).toArray) | 3 => MP.eq (.pointer (some ⟨g7, 16, none⟩)) | 4 => MP.eq (.int .u64 (m : Int)) | 5 => MP.eq (.agg (ringC k m).toArray) | 6 => MP.eq (.bool false) | 7 => MP.eq (.bool false) | 8 => MP.eq (.int .i64 0) | 9 => MP.eq (.bool true) | 10 => MP.eq (.bool true) | 11 => MP.eq (.bool false) | 12 => MP.eq (.bool false) | 13 => MP.eq (.bool false) | 14 => MP.eq (.bool true) | 15 => MP.eq (.bool false) | 16 => MP.eq (.bool false) | 17 => MP.eq (undef) | 18 => MP.eq (undef) | 19 => MP.eq (.bool false) | 20 => MP.eq (.bool false) | _ => MP.any) ?_ ?_
  · intro i hi o ho FA x hO hD K hK
    match i, hi, ho, hO, hD, hK with
    | 0, _, ho, hO, hD, hK => 
      obtain rfl := Option.some.inj ho.symm
      clear ho
      have ev5 : FA.eval (.tmp 5) = .pointer (some ⟨g5, 0, none⟩) := hO 5 (by kernel_rfl)
      have e5 : FA.tmps[5]?.getD undef = .pointer (some ⟨g5, 0, none⟩) := by simpa [Act.eval] using ev5
      replace ev5 := Lib.hid ev5
      clear hO hD
      refine wanted_if rfl ?_
      refine wp_load_mid 55 (.tmp 5) rfl g5 0 ev5.out (ringC k m) dr (Bk.range (hb5.later (below_plus _ _ _))) v1 v2 (szRing k hk2 m) ?_
      exact hK.out _ _ (Ex.refl _) rfl
    | 1, _, ho, hO, hD, hK => 
      obtain rfl := Option.some.inj ho.symm
      clear ho
      have ev7 : FA.eval (.tmp 7) = .pointer (some ⟨g7, 0, none⟩) := hO 7 (by kernel_rfl)
      have e7 : FA.tmps[7]?.getD undef = .pointer (some ⟨g7, 0, none⟩) := by simpa [Act.eval] using ev7
      replace ev7 := Lib.hid ev7
      clear hO hD
      go_simp
      exact hK.out _ _ (Ex.refl _) rfl
    | 2, _, ho, hO, hD, hK => 
      obtain rfl := Option.some.inj ho.symm
      clear ho
      have ev27 : FA.eval (.tmp 27) = .pointer (some ⟨g7, 0, none⟩) := hD 1 27 (by kernel_rfl)
      have e27 : FA.tmps[27]?.getD undef = .pointer (some ⟨g7, 0, none⟩) := by simpa [Act.eval] using ev27
      replace ev27 := Lib.hid ev27
      clear hO hD
      refine wanted_if rfl ?_
      refine wp_load_mid 49 (.tmp 27) rfl g7 0 ev27.out (bcs k) da (range_key (hb7.later (below_plus _ _ _))) x1 x2 (szArr k hk2) ?_
      exact hK.out _ _ (Ex.refl _) rfl
    | 3, _, ho, hO, hD, hK => 
      obtain rfl := Option.some.inj ho.symm
      clear ho
      have ev7 : FA.eval (.tmp 7) = .pointer (some ⟨g7, 0, none⟩) := hO 7 (by kernel_rfl)
      have e7 : FA.tmps[7]?.getD undef = .pointer (some ⟨g7, 0, none⟩) := by simpa [Act.eval] using ev7
      replace ev7 := Lib.hid ev7
      clear hO hD
      go_simp
      exact hK.out _ _ (Ex.refl _) rfl
    | 4, _, ho, hO, hD, hK => 
      obtain rfl := Option.some.inj ho.symm
      clear ho
      have ev29 : FA.eval (.tmp 29) = .pointer (some ⟨g7, 16, none⟩) := hD 3 29 (by kernel_rfl)
      have e29 : FA.tmps[29]?.getD undef = .pointer (some ⟨g7, 16, none⟩) := by simpa [Act.eval] using ev29
      replace ev29 := Lib.hid ev29
      clear hO hD
      go_simp
      exact hK.out _ _ (Ex.refl _) rfl
    | 5, _, ho, hO, hD, hK => 
      obtain rfl := Option.some.inj ho.symm
      clear ho
      have ev28 : FA.eval (.tmp 28) = .agg (bcs k).toArray := hD 2 28 (by kernel_rfl)
      have e28 : FA.tmps[28]?.getD undef = .agg (bcs k).toArray := by simpa [Act.eval] using ev28
      replace ev28 := Lib.hid ev28
      have ev30 : FA.eval (.tmp 30) = .int .u64 (m : Int) := hD 4 30 (by kernel_rfl)
      have e30 : FA.tmps[30]?.getD undef = .int .u64 (m : Int) := by simpa [Act.eval] using ev30
      replace ev30 := Lib.hid ev30
      clear hO hD
      go_simp
      refine (ringNew_any k hk2 m _).mono ?_
      rintro e w1 ⟨bs2, d2, rfl, rfl⟩
      exact hK.out _ _ (Ex.plus_ _ _ _) rfl
    | 6, _, ho, hO, hD, hK => 
      obtain rfl := Option.some.inj ho.symm
      clear ho
      have ev26 : FA.eval (.tmp 26) = .agg (ringC k m).toArray := hD 0 26 (by kernel_rfl)
      have e26 : FA.tmps[26]?.getD undef = .agg (ringC k m).toArray := by simpa [Act.eval] using ev26
      replace ev26 := Lib.hid ev26
      have ev31 : FA.eval (.tmp 31) = .agg (ringC k m).toArray := hD 5 31 (by kernel_rfl)
      have e31 : FA.tmps[31]?.getD undef = .agg (ringC k m).toArray := by simpa [Act.eval] using ev31
      replace ev31 := Lib.hid ev31
      clear hO hD
      go_simp
      exact hK.out _ _ (Ex.refl _) rfl
    | 7, _, ho, hO, hD, hK => 
      obtain rfl := Option.some.inj ho.symm
      clear ho
      have ev32 : FA.eval (.tmp 32) = .bool false := hD 6 32 (by kernel_rfl)
      have e32 : FA.tmps[32]?.getD undef = .bool false := by simpa [Act.eval] using ev32
      replace ev32 := Lib.hid ev32
      clear hO hD
      go_simp
      exact hK.out _ _ (Ex.refl _) rfl
    | 8, _, ho, hO, hD, hK => 
      obtain rfl := Option.some.inj ho.symm
      clear ho
      have ev6 : FA.eval (.tmp 6) = .int .i64 0 := hO 6 (by kernel_rfl)
      have e6 : FA.tmps[6]?.getD undef = .int .i64 0 := by simpa [Act.eval] using ev6
      replace ev6 := Lib.hid ev6
      have ev33 : FA.eval (.tmp 33) = .bool false := hD 7 33 (by kernel_rfl)
      have e33 : FA.tmps[33]?.getD undef = .bool false := by simpa [Act.eval] using ev33
      replace ev33 := Lib.hid ev33
      have ge33 := slot_of e33
      clear hO hD
      go_simp
      exact hK.out _ _ (Ex.refl _) rfl
    | 9, _, ho, hO, hD, hK => 
      obtain rfl := Option.some.inj ho.symm
      clear ho
      have ev34 : FA.eval (.tmp 34) = .int .i64 0 := hD 8 34 (by kernel_rfl)
      have e34 : FA.tmps[34]?.getD undef = .int .i64 0 := by simpa [Act.eval] using ev34
      replace ev34 := Lib.hid ev34
      have ev33 : FA.eval (.tmp 33) = .bool false := hD 7 33 (by kernel_rfl)
      have e33 : FA.tmps[33]?.getD undef = .bool false := by simpa [Act.eval] using ev33
      replace ev33 := Lib.hid ev33
      have ge33 := slot_of e33
      clear hO hD
      go_simp
      exact hK.out _ _ (Ex.refl _) rfl
    | 10, _, ho, hO, hD, hK => 
      obtain rfl := Option.some.inj ho.symm
      clear ho
      have ev8 : FA.eval (.tmp 8) = .bool true := hO 8 (by kernel_rfl)
      have e8 : FA.tmps[8]?.getD undef = .bool true := by simpa [Act.eval] using ev8
      replace ev8 := Lib.hid ev8
      have ev33 : FA.eval (.tmp 33) = .bool false := hD 7 33 (by kernel_rfl)
      have e33 : FA.tmps[33]?.getD undef = .bool false := by simpa [Act.eval] using ev33
      replace ev33 := Lib.hid ev33
      have ge33 := slot_of e33
      clear hO hD
      go_simp
      exact hK.out _ _ (Ex.refl _) rfl
    | 11, _, ho, hO, hD, hK => 
      obtain rfl := Option.some.inj ho.symm
      clear ho
      have ev35 : FA.eval (.tmp 35) = .bool true := hD 9 35 (by kernel_rfl)
      have e35 : FA.tmps[35]?.getD undef = .bool true := by simpa [Act.eval] using ev35
      replace ev35 := Lib.hid ev35
      have ev36 : FA.eval (.tmp 36) = .bool true := hD 10 36 (by kernel_rfl)
      have e36 : FA.tmps[36]?.getD undef = .bool true := by simpa [Act.eval] using ev36
      replace ev36 := Lib.hid ev36
      have ev33 : FA.eval (.tmp 33) = .bool false := hD 7 33 (by kernel_rfl)
      have e33 : FA.tmps[33]?.getD undef = .bool false := by simpa [Act.eval] using ev33
      replace ev33 := Lib.hid ev33
      have ge33 := slot_of e33
      clear hO hD
      go_simp
      exact hK.out _ _ (Ex.refl _) rfl
    | 12, _, ho, hO, hD, hK => 
      obtain rfl := Option.some.inj ho.symm
      clear ho
      have ev33 : FA.eval (.tmp 33) = .bool false := hD 7 33 (by kernel_rfl)
      have e33 : FA.tmps[33]?.getD undef = .bool false := by simpa [Act.eval] using ev33
      replace ev33 := Lib.hid ev33
      have ev37 : FA.eval (.tmp 37) = .bool false := hD 11 37 (by kernel_rfl)
      have e37 : FA.tmps[37]?.getD undef = .bool false := by simpa [Act.eval] using ev37
      replace ev37 := Lib.hid ev37
      clear hO hD
      go_simp
      exact hK.out _ _ (Ex.refl _) rfl
    | 13, _, ho, hO, hD, hK => 
      obtain rfl := Option.some.inj ho.symm
      clear ho
      have ev38 : FA.eval (.tmp 38) = .bool false := hD 12 38 (by kernel_rfl)
      have e38 : FA.tmps[38]?.getD undef = .bool false := by simpa [Act.eval] using ev38
      replace ev38 := Lib.hid ev38
      clear hO hD
      go_simp
      exact hK.out _ _ (Ex.refl _) rfl
    | 14, _, ho, hO, hD, hK => 
      obtain rfl := Option.some.inj ho.symm
      clear ho
      have ev8 : FA.eval (.tmp 8) = .bool true := hO 8 (by kernel_rfl)
      have e8 : FA.tmps[8]?.getD undef = .bool true := by simpa [Act.eval] using ev8
      replace ev8 := Lib.hid ev8
      have ev39 : FA.eval (.tmp 39) = .bool false := hD 13 39 (by kernel_rfl)
      have e39 : FA.tmps[39]?.getD undef = .bool false := by simpa [Act.eval] using ev39
      replace ev39 := Lib.hid ev39
      have ge39 := slot_of e39
      clear hO hD
      go_simp
      exact hK.out _ _ (Ex.refl _) rfl
    | 15, _, ho, hO, hD, hK => 
      obtain rfl := Option.some.inj ho.symm
      clear ho
      have ev40 : FA.eval (.tmp 40) = .bool true := hD 14 40 (by kernel_rfl)
      have e40 : FA.tmps[40]?.getD undef = .bool true := by simpa [Act.eval] using ev40
      replace ev40 := Lib.hid ev40
      have ev39 : FA.eval (.tmp 39) = .bool false := hD 13 39 (by kernel_rfl)
      have e39 : FA.tmps[39]?.getD undef = .bool false := by simpa [Act.eval] using ev39
      replace ev39 := Lib.hid ev39
      have ge39 := slot_of e39
      clear hO hD
      go_simp
      exact hK.out _ _ (Ex.refl _) rfl
    | 16, _, ho, hO, hD, hK => 
      obtain rfl := Option.some.inj ho.symm
      clear ho
      have ev41 : FA.eval (.tmp 41) = .bool false := hD 15 41 (by kernel_rfl)
      have e41 : FA.tmps[41]?.getD undef = .bool false := by simpa [Act.eval] using ev41
      replace ev41 := Lib.hid ev41
      have ev39 : FA.eval (.tmp 39) = .bool false := hD 13 39 (by kernel_rfl)
      have e39 : FA.tmps[39]?.getD undef = .bool false := by simpa [Act.eval] using ev39
      replace ev39 := Lib.hid ev39
      have ge39 := slot_of e39
      clear hO hD
      go_simp
      exact hK.out _ _ (Ex.refl _) rfl
    | 17, _, ho, hO, hD, hK => 
      obtain rfl := Option.some.inj ho.symm
      clear ho
      have ev6 : FA.eval (.tmp 6) = .int .i64 0 := hO 6 (by kernel_rfl)
      have e6 : FA.tmps[6]?.getD undef = .int .i64 0 := by simpa [Act.eval] using ev6
      replace ev6 := Lib.hid ev6
      have ev42 : FA.eval (.tmp 42) = .bool false := hD 16 42 (by kernel_rfl)
      have e42 : FA.tmps[42]?.getD undef = .bool false := by simpa [Act.eval] using ev42
      replace ev42 := Lib.hid ev42
      have ge42 := slot_of e42
      clear hO hD
      go_simp
      exact hK.out _ _ (Ex.refl _) rfl
    | 18, _, ho, hO, hD, hK => 
      obtain rfl := Option.some.inj ho.symm
      clear ho
      have ev43 : FA.eval (.tmp 43) = undef := hD 17 43 (by kernel_rfl)
      have e43 : FA.tmps[43]?.getD undef = undef := by simpa [Act.eval] using ev43
      replace ev43 := Lib.hid ev43
      have ev42 : FA.eval (.tmp 42) = .bool false := hD 16 42 (by kernel_rfl)
      have e42 : FA.tmps[42]?.getD undef = .bool false := by simpa [Act.eval] using ev42
      replace ev42 := Lib.hid ev42
      have ge42 := slot_of e42
      clear hO hD
      go_simp
      exact hK.out _ _ (Ex.refl _) rfl
    | 19, _, ho, hO, hD, hK => 
      obtain rfl := Option.some.inj ho.symm
      clear ho
      have ev42 : FA.eval (.tmp 42) = .bool false := hD 16 42 (by kernel_rfl)
      have e42 : FA.tmps[42]?.getD undef = .bool false := by simpa [Act.eval] using ev42
      replace ev42 := Lib.hid ev42
      have ev44 : FA.eval (.tmp 44) = undef := hD 18 44 (by kernel_rfl)
      have e44 : FA.tmps[44]?.getD undef = undef := by simpa [Act.eval] using ev44
      replace ev44 := Lib.hid ev44
      have ev39 : FA.eval (.tmp 39) = .bool false := hD 13 39 (by kernel_rfl)
      have e39 : FA.tmps[39]?.getD undef = .bool false := by simpa [Act.eval] using ev39
      replace ev39 := Lib.hid ev39
      have ge39 := slot_of e39
      clear hO hD
      go_simp
      exact hK.out _ _ (Ex.refl _) rfl
    | 20, _, ho, hO, hD, hK => 
      obtain rfl := Option.some.inj ho.symm
      clear ho
      have ev39 : FA.eval (.tmp 39) = .bool false := hD 13 39 (by kernel_rfl)
      have e39 : FA.tmps[39]?.getD undef = .bool false := by simpa [Act.eval] using ev39
      replace ev39 := Lib.hid ev39
      have ev45 : FA.eval (.tmp 45) = .bool false := hD 19 45 (by kernel_rfl)
      have e45 : FA.tmps[45]?.getD undef = .bool false := by simpa [Act.eval] using ev45
      replace ev45 := Lib.hid ev45
      clear hO hD
      go_simp
      exact hK.out _ _ (Ex.refl _) rfl
    | (k + 21), hi, _, _, _, _ => exact absurd hi (by omega)
  intro vs x hp
  have p0 : vs 0 = .agg (ringC k m).toArray := hp 0 (by omega)
  have p1 : vs 1 = .pointer (some ⟨g7, 0, none⟩) := hp 1 (by omega)
  have p2 : vs 2 = .agg (bcs k).toArray := hp 2 (by omega)
  have p3 : vs 3 = .pointer (some ⟨g7, 16, none⟩) := hp 3 (by omega)
  have p4 : vs 4 = .int .u64 (m : Int) := hp 4 (by omega)
  have p5 : vs 5 = .agg (ringC k m).toArray := hp 5 (by omega)
  have p6 : vs 6 = .bool false := hp 6 (by omega)
  have p7 : vs 7 = .bool false := hp 7 (by omega)
  have p8 : vs 8 = .int .i64 0 := hp 8 (by omega)
  have p9 : vs 9 = .bool true := hp 9 (by omega)
  have p10 : vs 10 = .bool true := hp 10 (by omega)
  have p11 : vs 11 = .bool false := hp 11 (by omega)
  have p12 : vs 12 = .bool false := hp 12 (by omega)
  have p13 : vs 13 = .bool false := hp 13 (by omega)
  have p14 : vs 14 = .bool true := hp 14 (by omega)
  have p15 : vs 15 = .bool false := hp 15 (by omega)
  have p16 : vs 16 = .bool false := hp 16 (by omega)
  have p17 : vs 17 = undef := hp 17 (by omega)
  have p18 : vs 18 = undef := hp 18 (by omega)
  have p19 : vs 19 = .bool false := hp 19 (by omega)
  have p20 : vs 20 = .bool false := hp 20 (by omega)
  clear hp
  simp only [List.take_succ_cons, List.take_zero, List.drop_succ_cons, List.drop_zero, putAll, Nat.zero_add, Nat.reduceAdd, Act.put, List.setIfInBounds_toArray, List.set_cons_zero, List.set_cons_succ, p0, p1, p2, p3, p4, p5, p6, p7, p8, p9, p10, p11, p12, p13, p14, p15, p16, p17, p18, p19, p20]
  clear p0 p1 p2 p3 p4 p5 p6 p7 p8 p9 p10 p11 p12 p13 p14 p15 p16 p17 p18 p19 p20
  clear vs
  go_upto_region 8 with (first
    | (refine at_op (.load 49 (.tmp 47)) rfl ?_; refine wpList_ldA (t := 52) 49 (.tmp 47) rfl rfl (bcs key) rfl (hb2.later (below_plus _ _ _)) (ringC_key key n) x1 x2 (szArr key hk) ?_)
    | (go_at_call 33; refine (ringNew_any key hk n _).mono ?_; rintro e w1 ⟨bs3, d3, rfl, rfl⟩)
    | (refine at_op (.store 55 (.tmp 9) (.tmp 51)) rfl ?_; refine wpList_stA (t := 55) 55 (.tmp 9) (.tmp 51) rfl rfl (ringC key n) ring0 (by rw [ringC_length _ hk]; rfl) (ringC_one _ _) rfl rfl ?_ (szRing _ hk _) ?_; (· refine Bk.newK _ _ _ ?_ rfl; simp [size_plus]); intro w7 hb9 hg7))
  have b7 : Below w.heap.size w w7 := below_grown (by repeat (first | exact b4 | refine belowP ?_ _ _ | refine Below.allocS ?_ _)) hg7 (by omega)
  have hb2' : Bk w7 w.heap.size 52 (ringC key n) := (((hb2.later (below_plus _ x.bs x.d)).later (below_plus _ bs3 d3)).alloc _).grown hg7 (by simp; omega)
  clear hg7 hb2 q2 q7 hb5 hb7
  have hb2 := hb2'
  clear hb2'
  have g29 : w.heap.size < w4.heap.size + x.bs.length + bs3.length := by omega
  generalize w4.heap.size + x.bs.length + bs3.length = g9 at *
  have eqk : (key ++ dig n 8).take 16 = key := by rw [List.take_append_of_le_length (by rw [show key.length = 16 from hk]; omega), List.take_of_length_le (by rw [show key.length = 16 from hk]; omega)]
  have eqn : num (((key ++ dig n 8).drop 16).take 8) = n := by
    rw [List.drop_append_of_le_length (by rw [show key.length = 16 from hk]; omega), List.drop_eq_nil_of_le (by rw [show key.length = 16 from hk]; omega), List.nil_append, List.take_of_length_le (by simp [dig_length]), num_dig n 8 (by omega)]
  have HB := Lib.hid (fun (A : Option Addr) c w h => ringParse_24 A c (key ++ dig n 8) w h)
  rw [eqk, eqn] at HB
  clear eqk eqn
  go_upto_region 9 with (first
    | (refine at_op (.load 55 (.tmp 9)) rfl ?_; refine wpList_ldA (t := 55) 55 (.tmp 9) rfl rfl (ringC key n) rfl hb9 (ringC_whole key n) v1 v2 (szRing key hk n) ?_)
    | (go_at_call 34; refine (ringBytes_any key hk n _ hn).mono ?_; rintro e w1 ⟨A4, n4, c4, bs4, d4, rfl, rfl, ho4⟩; obtain rfl : n4 = 24 := (by have := ho4.len; simp [dig_length, show key.length = 16 from hk] at this; omega))
    | (go_at_call 31; refine (HB.out _ _ _ ho4.rb).mono ?_; rintro e w1 ⟨bs5, d5, rfl, rfl⟩)
    | (refine at_op (.store 55 (.tmp 10) (.tmp 56)) rfl ?_; refine wpList_stA (t := 55) 55 (.tmp 10) (.tmp 56) rfl rfl (ringC key n) ring0 (by rw [ringC_length _ hk]; rfl) (ringC_one _ _) rfl rfl ?_ (szRing _ hk _) ?_; (· refine Bk.newK _ _ _ ?_ rfl; simp [size_plus]); intro w8 hb10 hg8))
  have z9 := hb9.lt
  have z77 := b7.size
  have b8 : Below w.heap.size w w8 := below_grown (by repeat (first | exact b7 | refine belowP ?_ _ _ | refine Below.allocS ?_ _)) hg8 (by omega)
  have hb2' : Bk w8 w.heap.size 52 (ringC key n) := (((hb2.later (below_plus _ bs4 d4)).later (below_plus _ bs5 d5)).alloc _).grown hg8 (by simp; omega)
  have hb9' : Bk w8 g9 55 (ringC key n) := (((hb9.later (below_plus _ bs4 d4)).later (below_plus _ bs5 d5)).alloc _).grown hg8 (by simp; omega)
  clear hg8 hb2 hb9 ho4 HB HP HQ
  have hb2 := hb2'
  have hb9 := hb9'
  clear hb2' hb9'
  generalize w7.heap.size + bs4.length + bs5.length = g10 at *
  generalize hg2 : w.heap.size = g2 at *
  refine wp_rel 19 77 rfl (by kernel_rfl) (by kernel_rfl) (fun i => match i with | 0 => MP.eq (.agg (ringC key n).toArray) | 1 => MP.ob w8.heap.size (key ++ dig n 8) | 2 => MP.eq (.string ⟨(key ++ dig n 8).toArray⟩) | 3 => MP.eq (.agg (ringC key n).toArray) | 4 => MP.ob w8.heap.size (key ++ dig n 8) | 5 => MP.eq (.string ⟨(key ++ dig n 8).toArray⟩) | 6 => MP.eq (.bool true) | 7 => MP.eq (.bool true) | 8 => MP.eq (.agg (ringC key n).toArray) | 9 => MP.eq (.agg (ringC key n).toArray) | 10 => MP.eq (.bool true) | 11 => MP.eq (.bool true) | 12 => MP.eq (.bool true) | 13 => MP.eq (.int .i64 0) | 14 => MP.eq (.bool true) | 15 => MP.eq (.bool true) | 16 => MP.eq (.bool true) | 17 => MP.eq (.bool true) | 18 => MP.eq (.bool true) | _ => MP.any) ?_ ?_
  · intro i hi o ho FA x hO hD K hK
    match i, hi, ho, hO, hD, hK with
    | 0, _, ho, hO, hD, hK => 
      obtain rfl := Option.some.inj ho.symm
      clear ho
      have ev9 : FA.eval (.tmp 9) = .pointer (some ⟨g9, 0, none⟩) := hO 9 (by kernel_rfl)
      have e9 : FA.tmps[9]?.getD undef = .pointer (some ⟨g9, 0, none⟩) := by simpa [Act.eval] using ev9
      replace ev9 := Lib.hid ev9
      clear hO hD
      refine wanted_if rfl ?_
      refine wp_load_mid 55 (.tmp 9) rfl g9 0 ev9.out (ringC key n) dr (Bk.range (hb9.later (below_plus _ _ _))) v1 v2 (szRing key hk n) ?_
      exact hK.out _ _ (Ex.refl _) rfl
    | 1, _, ho, hO, hD, hK => 
      obtain rfl := Option.some.inj ho.symm
      clear ho
      have ev58 : FA.eval (.tmp 58) = .agg (ringC key n).toArray := hD 0 58 (by kernel_rfl)
      have e58 : FA.tmps[58]?.getD undef = .agg (ringC key n).toArray := by simpa [Act.eval] using ev58
      replace ev58 := Lib.hid ev58
      clear hO hD
      go_simp
      refine (ringBytes_any key hk n _ hn).mono ?_
      rintro e w1 ⟨A2, n2, c2, bs2, d2, rfl, rfl, ho2⟩
      exact hK.out _ _ (Ex.plus_ _ _ _) ⟨_, _, _, rfl, ho2.mono (by simp [size_plus])⟩
    | 2, _, ho, hO, hD, hK => 
      obtain rfl := Option.some.inj ho.symm
      clear ho
      have f59 := hD 1 59 (by kernel_rfl)
      generalize eu59 : FA.eval (.tmp 59) = u59 at f59
      have e59 : FA.tmps[59]?.getD undef = u59 := by rw [← eu59]; simp [Act.eval]
      have ev59 := Lib.hid eu59
      clear eu59
      clear hO hD
      obtain ⟨A1, n1, c1, rfl, ho1⟩ := f59
      have hcv := run_str bt Try.underlying9 ho1.rb
      go_simp
      exact hK.out _ _ (Ex.refl _) rfl
    | 3, _, ho, hO, hD, hK => 
      obtain rfl := Option.some.inj ho.symm
      clear ho
      have ev2 : FA.eval (.tmp 2) = .pointer (some ⟨g2, 0, none⟩) := hO 2 (by kernel_rfl)
      have e2 : FA.tmps[2]?.getD undef = .pointer (some ⟨g2, 0, none⟩) := by simpa [Act.eval] using ev2
      replace ev2 := Lib.hid ev2
      clear hO hD
      refine wanted_if rfl ?_
      refine wp_load_mid 52 (.tmp 2) rfl g2 0 ev2.out (ringC key n) ds (Bk.range (hb2.later (below_plus _ _ _))) y1 y2 (szRef key hk n) ?_
      exact hK.out _ _ (Ex.refl _) rfl
    | 4, _, ho, hO, hD, hK => 
      obtain rfl := Option.some.inj ho.symm
      clear ho
      have ev61 : FA.eval (.tmp 61) = .agg (ringC key n).toArray := hD 3 61 (by kernel_rfl)
      have e61 : FA.tmps[61]?.getD undef = .agg (ringC key n).toArray := by simpa [Act.eval] using ev61
      replace ev61 := Lib.hid ev61
      clear hO hD
      go_simp
      refine (refRingBytes_any key hk n _ hn).mono ?_
      rintro e w1 ⟨A2, n2, c2, bs2, d2, rfl, rfl, ho2⟩
      exact hK.out _ _ (Ex.plus_ _ _ _) ⟨_, _, _, rfl, ho2.mono (by simp [size_plus])⟩
    | 5, _, ho, hO, hD, hK => 
      obtain rfl := Option.some.inj ho.symm
      clear ho
      have f62 := hD 4 62 (by kernel_rfl)
      generalize eu62 : FA.eval (.tmp 62) = u62 at f62
      have e62 : FA.tmps[62]?.getD undef = u62 := by rw [← eu62]; simp [Act.eval]
      have ev62 := Lib.hid eu62
      clear eu62
      clear hO hD
      obtain ⟨A1, n1, c1, rfl, ho1⟩ := f62
      have hcv := run_str bt Try.underlying9 ho1.rb
      go_simp
      exact hK.out _ _ (Ex.refl _) rfl
    | 6, _, ho, hO, hD, hK => 
      obtain rfl := Option.some.inj ho.symm
      clear ho
      have ev60 : FA.eval (.tmp 60) = .string ⟨(key ++ dig n 8).toArray⟩ := hD 2 60 (by kernel_rfl)
      have e60 : FA.tmps[60]?.getD undef = .string ⟨(key ++ dig n 8).toArray⟩ := by simpa [Act.eval] using ev60
      replace ev60 := Lib.hid ev60
      have ev63 : FA.eval (.tmp 63) = .string ⟨(key ++ dig n 8).toArray⟩ := hD 5 63 (by kernel_rfl)
      have e63 : FA.tmps[63]?.getD undef = .string ⟨(key ++ dig n 8).toArray⟩ := by simpa [Act.eval] using ev63
      replace ev63 := Lib.hid ev63
      clear hO hD
      go_simp
      exact hK.out _ _ (Ex.refl _) rfl
    | 7, _, ho, hO, hD, hK => 
      obtain rfl := Option.some.inj ho.symm
      clear ho
      have ev64 : FA.eval (.tmp 64) = .bool true := hD 6 64 (by kernel_rfl)
      have e64 : FA.tmps[64]?.getD undef = .bool true := by simpa [Act.eval] using ev64
      replace ev64 := Lib.hid ev64
      clear hO hD
      go_simp
      exact hK.out _ _ (Ex.refl _) rfl
    | 8, _, ho, hO, hD, hK => 
      obtain rfl := Option.some.inj ho.symm
      clear ho
      have ev10 : FA.eval (.tmp 10) = .pointer (some ⟨g10, 0, none⟩) := hO 10 (by kernel_rfl)
      have e10 : FA.tmps[10]?.getD undef = .pointer (some ⟨g10, 0, none⟩) := by simpa [Act.eval] using ev10
      replace ev10 := Lib.hid ev10
      have ev65 : FA.eval (.tmp 65) = .bool true := hD 7 65 (by kernel_rfl)
      have e65 : FA.tmps[65]?.getD undef = .bool true := by simpa [Act.eval] using ev65
      replace ev65 := Lib.hid ev65
      have ge65 := slot_of e65
      clear hO hD
      rw [if_pos (by simp [Region.wanted, yielded, ge65])]
      refine wp_load_mid 55 (.tmp 10) rfl g10 0 ev10.out (ringC key n) dr (Bk.range (hb10.later (below_plus _ _ _))) v1 v2 (szRing key hk n) ?_
      exact hK.out _ _ (Ex.refl _) rfl
    | 9, _, ho, hO, hD, hK => 
      obtain rfl := Option.some.inj ho.symm
      clear ho
      have ev9 : FA.eval (.tmp 9) = .pointer (some ⟨g9, 0, none⟩) := hO 9 (by kernel_rfl)
      have e9 : FA.tmps[9]?.getD undef = .pointer (some ⟨g9, 0, none⟩) := by simpa [Act.eval] using ev9
      replace ev9 := Lib.hid ev9
      have ev65 : FA.eval (.tmp 65) = .bool true := hD 7 65 (by kernel_rfl)
      have e65 : FA.tmps[65]?.getD undef = .bool true := by simpa [Act.eval] using ev65
      replace ev65 := Lib.hid ev65
      have ge65 := slot_of e65
      clear hO hD
      rw [if_pos (by simp [Region.wanted, yielded, ge65])]
      refine wp_load_mid 55 (.tmp 9) rfl g9 0 ev9.out (ringC key n) dr (Bk.range (hb9.later (below_plus _ _ _))) v1 v2 (szRing key hk n) ?_
      exact hK.out _ _ (Ex.refl _) rfl
    | 10, _, ho, hO, hD, hK => 
      obtain rfl := Option.some.inj ho.symm
      clear ho
      have ev66 : FA.eval (.tmp 66) = .agg (ringC key n).toArray := hD 8 66 (by kernel_rfl)
      have e66 : FA.tmps[66]?.getD undef = .agg (ringC key n).toArray := by simpa [Act.eval] using ev66
      replace ev66 := Lib.hid ev66
      have ev67 : FA.eval (.tmp 67) = .agg (ringC key n).toArray := hD 9 67 (by kernel_rfl)
      have e67 : FA.tmps[67]?.getD undef = .agg (ringC key n).toArray := by simpa [Act.eval] using ev67
      replace ev67 := Lib.hid ev67
      have ev65 : FA.eval (.tmp 65) = .bool true := hD 7 65 (by kernel_rfl)
      have e65 : FA.tmps[65]?.getD undef = .bool true := by simpa [Act.eval] using ev65
      replace ev65 := Lib.hid ev65
      have ge65 := slot_of e65
      clear hO hD
      go_simp
      exact hK.out _ _ (Ex.refl _) rfl
    | 11, _, ho, hO, hD, hK => 
      obtain rfl := Option.some.inj ho.symm
      clear ho
      have ev65 : FA.eval (.tmp 65) = .bool true := hD 7 65 (by kernel_rfl)
      have e65 : FA.tmps[65]?.getD undef = .bool true := by simpa [Act.eval] using ev65
      replace ev65 := Lib.hid ev65
      have ev68 : FA.eval (.tmp 68) = .bool true := hD 10 68 (by kernel_rfl)
      have e68 : FA.tmps[68]?.getD undef = .bool true := by simpa [Act.eval] using ev68
      replace ev68 := Lib.hid ev68
      clear hO hD
      go_simp
      exact hK.out _ _ (Ex.refl _) rfl
    | 12, _, ho, hO, hD, hK => 
      obtain rfl := Option.some.inj ho.symm
      clear ho
      have ev69 : FA.eval (.tmp 69) = .bool true := hD 11 69 (by kernel_rfl)
      have e69 : FA.tmps[69]?.getD undef = .bool true := by simpa [Act.eval] using ev69
      replace ev69 := Lib.hid ev69
      clear hO hD
      go_simp
      exact hK.out _ _ (Ex.refl _) rfl
    | 13, _, ho, hO, hD, hK => 
      obtain rfl := Option.some.inj ho.symm
      clear ho
      have ev11 : FA.eval (.tmp 11) = .int .i64 0 := hO 11 (by kernel_rfl)
      have e11 : FA.tmps[11]?.getD undef = .int .i64 0 := by simpa [Act.eval] using ev11
      replace ev11 := Lib.hid ev11
      have ev70 : FA.eval (.tmp 70) = .bool true := hD 12 70 (by kernel_rfl)
      have e70 : FA.tmps[70]?.getD undef = .bool true := by simpa [Act.eval] using ev70
      replace ev70 := Lib.hid ev70
      have ge70 := slot_of e70
      clear hO hD
      go_simp
      exact hK.out _ _ (Ex.refl _) rfl
    | 14, _, ho, hO, hD, hK => 
      obtain rfl := Option.some.inj ho.symm
      clear ho
      have ev71 : FA.eval (.tmp 71) = .int .i64 0 := hD 13 71 (by kernel_rfl)
      have e71 : FA.tmps[71]?.getD undef = .int .i64 0 := by simpa [Act.eval] using ev71
      replace ev71 := Lib.hid ev71
      have ev70 : FA.eval (.tmp 70) = .bool true := hD 12 70 (by kernel_rfl)
      have e70 : FA.tmps[70]?.getD undef = .bool true := by simpa [Act.eval] using ev70
      replace ev70 := Lib.hid ev70
      have ge70 := slot_of e70
      clear hO hD
      go_simp
      exact hK.out _ _ (Ex.refl _) rfl
    | 15, _, ho, hO, hD, hK => 
      obtain rfl := Option.some.inj ho.symm
      clear ho
      have ev70 : FA.eval (.tmp 70) = .bool true := hD 12 70 (by kernel_rfl)
      have e70 : FA.tmps[70]?.getD undef = .bool true := by simpa [Act.eval] using ev70
      replace ev70 := Lib.hid ev70
      have ev72 : FA.eval (.tmp 72) = .bool true := hD 14 72 (by kernel_rfl)
      have e72 : FA.tmps[72]?.getD undef = .bool true := by simpa [Act.eval] using ev72
      replace ev72 := Lib.hid ev72
      clear hO hD
      go_simp
      exact hK.out _ _ (Ex.refl _) rfl
    | 16, _, ho, hO, hD, hK => 
      obtain rfl := Option.some.inj ho.symm
      clear ho
      have ev73 : FA.eval (.tmp 73) = .bool true := hD 15 73 (by kernel_rfl)
      have e73 : FA.tmps[73]?.getD undef = .bool true := by simpa [Act.eval] using ev73
      replace ev73 := Lib.hid ev73
      clear hO hD
      go_simp
      exact hK.out _ _ (Ex.refl _) rfl
    | 17, _, ho, hO, hD, hK => 
      obtain rfl := Option.some.inj ho.symm
      clear ho
      have ev74 : FA.eval (.tmp 74) = .bool true := hD 16 74 (by kernel_rfl)
      have e74 : FA.tmps[74]?.getD undef = .bool true := by simpa [Act.eval] using ev74
      replace ev74 := Lib.hid ev74
      have ge74 := slot_of e74
      clear hO hD
      go_simp
      refine (ringAwake _).mono ?_
      rintro e w1 ⟨bs2, d2, rfl, rfl⟩
      exact hK.out _ _ (Ex.plus_ _ _ _) rfl
    | 18, _, ho, hO, hD, hK => 
      obtain rfl := Option.some.inj ho.symm
      clear ho
      have ev74 : FA.eval (.tmp 74) = .bool true := hD 16 74 (by kernel_rfl)
      have e74 : FA.tmps[74]?.getD undef = .bool true := by simpa [Act.eval] using ev74
      replace ev74 := Lib.hid ev74
      have ev75 : FA.eval (.tmp 75) = .bool true := hD 17 75 (by kernel_rfl)
      have e75 : FA.tmps[75]?.getD undef = .bool true := by simpa [Act.eval] using ev75
      replace ev75 := Lib.hid ev75
      clear hO hD
      go_simp
      exact hK.out _ _ (Ex.refl _) rfl
    | (k + 19), hi, _, _, _, _ => exact absurd hi (by omega)
  intro vs x hp
  have p0 : vs 0 = .agg (ringC key n).toArray := hp 0 (by omega)
  have p1 := hp 1 (by omega)
  have p2 : vs 2 = .string ⟨(key ++ dig n 8).toArray⟩ := hp 2 (by omega)
  have p3 : vs 3 = .agg (ringC key n).toArray := hp 3 (by omega)
  have p4 := hp 4 (by omega)
  have p5 : vs 5 = .string ⟨(key ++ dig n 8).toArray⟩ := hp 5 (by omega)
  have p6 : vs 6 = .bool true := hp 6 (by omega)
  have p7 : vs 7 = .bool true := hp 7 (by omega)
  have p8 : vs 8 = .agg (ringC key n).toArray := hp 8 (by omega)
  have p9 : vs 9 = .agg (ringC key n).toArray := hp 9 (by omega)
  have p10 : vs 10 = .bool true := hp 10 (by omega)
  have p11 : vs 11 = .bool true := hp 11 (by omega)
  have p12 : vs 12 = .bool true := hp 12 (by omega)
  have p13 : vs 13 = .int .i64 0 := hp 13 (by omega)
  have p14 : vs 14 = .bool true := hp 14 (by omega)
  have p15 : vs 15 = .bool true := hp 15 (by omega)
  have p16 : vs 16 = .bool true := hp 16 (by omega)
  have p17 : vs 17 = .bool true := hp 17 (by omega)
  have p18 : vs 18 = .bool true := hp 18 (by omega)
  clear hp
  simp only [List.take_succ_cons, List.take_zero, List.drop_succ_cons, List.drop_zero, putAll, Nat.zero_add, Nat.reduceAdd, Act.put, List.setIfInBounds_toArray, List.set_cons_zero, List.set_cons_succ, p0, p2, p3, p5, p6, p7, p8, p9, p10, p11, p12, p13, p14, p15, p16, p17, p18]
  clear p0 p2 p3 p5 p6 p7 p8 p9 p10 p11 p12 p13 p14 p15 p16 p17 p18
  generalize vs 1 = y1 at *
  generalize vs 4 = y4 at *
  clear vs
  go_wp2
  go_ret
  subst hg2
  exact ⟨rfl, belowP b8 _ _⟩

set_option maxHeartbeats 4000000 in
set_option maxRecDepth 100000 in
theorem ringBytes_no (w : World) (key : List UInt8) (hk : K16 key) (n : Nat) (hn : n < 18446744073709551616) (A : Option Addr) (n1 c : Nat) (h100 : n1 ≤ 100) (k : List UInt8) (hk2 : K16 k) (m : Nat)
    (hP : ∀ w', Below w.heap.size w w' → Calls Try.prog 31 #[.slice A n1 c] w' (RetV w' (.tuple #[.agg (ringC k m).toArray, .int .i64 20]))) (hQ : ∀ w', Below w.heap.size w w' → Calls Try.prog 32 #[.slice A n1 c] w' (RetV w' (.tuple #[.agg (ringC k m).toArray, .bool false]))) :
    Calls Try.prog 6 #[.agg (ringC key n).toArray, .slice A n1 c] w fun e w' => e = .returned (.bool true) ∧ Below w.heap.size w w' := by
  have q := ringC_16 key hk n
  have qm := ringC_16 k hk2 m
  obtain ⟨dk, u1, u2, u3⟩ := rowKey
  obtain ⟨da, x1, x2, x3⟩ := row16
  obtain ⟨dr, v1, v2, v3⟩ := rowRing
  obtain ⟨ds, y1, y2, y3⟩ := rowRef
  have HP := Lib.hid hP
  have HQ := Lib.hid hQ
  clear hP hQ
  have hb0 : Bk (w.alloc (.cells (ringC key n).toArray 52)) w.heap.size 52 (ringC key n) := Bk.new w 52 (ringC key n).toArray
  have t1 : ¬ (100 : Int) < n1 := by omega
  go_enter Try.func6, Try.ntmps6
  go_upto_region 4 with (first
    | (go_at_call 31; refine (HP.out _ ((Below.refl _ _).alloc (Nat.le_refl _) _)).mono ?_; rintro e w1 ⟨bs1, d1, rfl, rfl⟩)
    | (refine at_op (.store 55 (.tmp 5) (.tmp 19)) rfl ?_; refine wpList_stA (t := 55) 55 (.tmp 5) (.tmp 19) rfl rfl (ringC k m) ring0 (by rw [ringC_length _ hk2]; rfl) (ringC_one _ _) rfl rfl ?_ (szRing _ hk2 _) ?_; (· refine Bk.newK _ _ _ ?_ rfl; simp [size_plus]); intro w3 hb5 hg3))
  have g5l : w.heap.size < w.heap.size + 1 + bs1.length := by omega
  have hb2 : Bk w3 w.heap.size 52 (ringC key n) := ((hb0.later (below_plus _ bs1 d1)).alloc _).grown hg3 (by simp; omega)
  have b3 : Below w.heap.size w w3 := below_grown (by repeat (first | exact Below.refl _ _ | refine belowP ?_ _ _ | refine Below.allocS ?_ _)) hg3 (by omega)
  clear hg3 hb0
  generalize w.heap.size + 1 + bs1.length = g5 at *
  go_upto_region 5 with (first
    | (go_at_call 32; refine (HQ.out _ b3).mono ?_; rintro e w1 ⟨bs2, d2, rfl, rfl⟩)
    | (refine at_op (.store 52 (.tmp 7) (.tmp 24)) rfl ?_; refine wpList_stA (t := 52) 52 (.tmp 7) (.tmp 24) rfl rfl (ringC k m) ring0 (by rw [ringC_length _ hk2]; rfl) (ringC_one _ _) rfl rfl ?_ (szRef _ hk2 _) ?_; (· refine Bk.newK _ _ _ ?_ rfl; simp [size_plus]); intro w4 hb7 hg4))
  have z3 := b3.size
  have z5 := hb5.lt
  have b4 : Below w.heap.size w w4 := below_grown (by repeat (first | exact b3 | refine belowP ?_ _ _ | refine Below.allocS ?_ _)) hg4 (by omega)
  have hb2' : Bk w4 w.heap.size 52 (ringC key n) := ((hb2.later (below_plus _ bs2 d2)).alloc _).grown hg4 (by simp; omega)
  have hb5' : Bk w4 g5 55 (ringC k m) := ((hb5.later (below_plus _ bs2 d2)).alloc _).grown hg4 (by simp; omega)
  clear hg4 hb2 hb5
  have hb2 := hb2'
  have hb5 := hb5'
  clear hb2' hb5'
  have q7 : w4.cell? ⟨w3.heap.size + bs2.length, 16, none⟩ = some (.int .u64 (m : Int)) := by rw [hb7.cell]; exact qm
  have q2 : w4.cell? ⟨w.heap.size, 16, none⟩ = some (.int .u64 (n : Int)) := by rw [hb2.cell]; exact q
  have g57 : g5 < w3.heap.size + bs2.length := by omega
  generalize w3.heap.size + bs2.length = g7 at *
  have z7 := hb7.lt
  have z2 := hb2.lt
  refine wp_rel 21 77 rfl (by kernel_rfl) (by kernel_rfl) (fun i => match i with | 0 => MP.eq (.agg (ringC k m).toArray) | 1 => MP.eq (.pointer (some ⟨g7, 0, none⟩)) | 2 => MP.eq (.agg (bcs k).toArray) | 3 => MP.eq (.pointer (some ⟨g7, 16, none⟩)) | 4 => MP.eq (.int .u64 (m : Int)) | 5 => MP.eq (.agg (ringC k m).toArray) | 6 => MP.eq (.bool false) | 7 => MP.eq (.bool false) | 8 => MP.eq (.int .i64 20) | 9 => MP.eq (.bool false) | 10 => MP.eq (.bool false) | 11 => MP.eq (.bool false) | 12 => MP.eq (.bool false) | 13 => MP.eq (.bool false) | 14 => MP.eq (.bool false) | 15 => MP.eq (.bool true) | 16 => MP.eq (.bool true) | 17 => MP.eq (.int .i64 20) | 18 => MP.eq (.bool false) | 19 => MP.eq (.bool false) | 20 => MP.eq (.bool false) | _ => MP.any) ?_ ?_
  · intro i hi o ho FA x hO hD K hK
    match i, hi, ho, hO, hD, hK with
    | 0, _, ho, hO, hD, hK => 
      obtain rfl := Option.some.inj ho.symm
      clear ho
      have ev5 : FA.eval (.tmp 5) = .pointer (some ⟨g5, 0, none⟩) := hO 5 (by kernel_rfl)
      have e5 : FA.tmps[5]?.getD undef = .pointer (some ⟨g5, 0, none⟩) := by simpa [Act.eval] using ev5
      replace ev5 := Lib.hid ev5
      clear hO hD
      refine wanted_if rfl ?_
      refine wp_load_mid 55 (.tmp 5) rfl g5 0 ev5.out (ringC k m) dr (Bk.range (hb5.later (below_plus _ _ _))) v1 v2 (szRing k hk2 m) ?_
      exact hK.out _ _ (Ex.refl _) rfl
    | 1, _, ho, hO, hD, hK => 
      obtain rfl := Option.some.inj ho.symm
      clear ho
      have ev7 : FA.eval (.tmp 7) = .pointer (some ⟨g7, 0, none⟩) := hO 7 (by kernel_rfl)
      have e7 : FA.tmps[7]?.getD undef = .pointer (some ⟨g7, 0, none⟩) := by simpa [Act.eval] using ev7
      replace ev7 := Lib.hid ev7
      clear hO hD
      go_simp
      exact hK.out _ _ (Ex.refl _) rfl
    | 2, _, ho, hO, hD, hK => 
      obtain rfl := Option.some.inj ho.symm
      clear ho
      have ev27 : FA.eval (.tmp 27) = .pointer (some ⟨g7, 0, none⟩) := hD 1 27 (by kernel_rfl)
      have e27 : FA.tmps[27]?.getD undef = .pointer (some ⟨g7, 0, none⟩) := by simpa [Act.eval] using ev27
      replace ev27 := Lib.hid ev27
      clear hO hD
      refine wanted_if rfl ?_
      refine wp_load_mid 49 (.tmp 27) rfl g7 0 ev27.out (bcs k) da (range_key (hb7.later (below_plus _ _ _))) x1 x2 (szArr k hk2) ?_
      exact hK.out _ _ (Ex.refl _) rfl
    | 3, _, ho, hO, hD, hK => 
      obtain rfl := Option.some.inj ho.symm
      clear ho
      have ev7 : FA.eval (.tmp 7) = .pointer (some ⟨g7, 0, none⟩) := hO 7 (by kernel_rfl)
      have e7 : FA.tmps[7]?.getD undef = .pointer (some ⟨g7, 0, none⟩) := by simpa [Act.eval] using ev7
      replace ev7 := Lib.hid ev7
      clear hO hD
      go_simp
      exact hK.out _ _ (Ex.refl _) rfl
    | 4, _, ho, hO, hD, hK => 
      obtain rfl := Option.some.inj ho.symm
      clear ho
      have ev29 : FA.eval (.tmp 29) = .pointer (some ⟨g7, 16, none⟩) := hD 3 29 (by kernel_rfl)
      have e29 : FA.tmps[29]?.getD undef = .pointer (some ⟨g7, 16, none⟩) := by simpa [Act.eval] using ev29
      replace ev29 := Lib.hid ev29
      clear hO hD
      go_simp
      exact hK.out _ _ (Ex.refl _) rfl
    | 5, _, ho, hO, hD, hK => 
      obtain rfl := Option.some.inj ho.symm
      clear ho
      have ev28 : FA.eval (.tmp 28) = .agg (bcs k).toArray := hD 2 28 (by kernel_rfl)
      have e28 : FA.tmps[28]?.getD undef = .agg (bcs k).toArray := by simpa [Act.eval] using ev28
      replace ev28 := Lib.hid ev28
      have ev30 : FA.eval (.tmp 30) = .int .u64 (m : Int) := hD 4 30 (by kernel_rfl)
      have e30 : FA.tmps[30]?.getD undef = .int .u64 (m : Int) := by simpa [Act.eval] using ev30
      replace ev30 := Lib.hid ev30
      clear hO hD
      go_simp
      refine (ringNew_any k hk2 m _).mono ?_
      rintro e w1 ⟨bs2, d2, rfl, rfl⟩
      exact hK.out _ _ (Ex.plus_ _ _ _) rfl
    | 6, _, ho, hO, hD, hK => 
      obtain rfl := Option.some.inj ho.symm
      clear ho
      have ev26 : FA.eval (.tmp 26) = .agg (ringC k m).toArray := hD 0 26 (by kernel_rfl)
      have e26 : FA.tmps[26]?.getD undef = .agg (ringC k m).toArray := by simpa [Act.eval] using ev26
      replace ev26 := Lib.hid ev26
      have ev31 : FA.eval (.tmp 31) = .agg (ringC k m).toArray := hD 5 31 (by kernel_rfl)
      have e31 : FA.tmps[31]?.getD undef = .agg (ringC k m).toArray := by simpa [Act.eval] using ev31
      replace ev31 := Lib.hid ev31
      clear hO hD
      go_simp
      exact hK.out _ _ (Ex.refl _) rfl
    | 7, _, ho, hO, hD, hK => 
      obtain rfl := Option.some.inj ho.symm
      clear ho
      have ev32 : FA.eval (.tmp 32) = .bool false := hD 6 32 (by kernel_rfl)
      have e32 : FA.tmps[32]?.getD undef = .bool false := by simpa [Act.eval] using ev32
      replace ev32 := Lib.hid ev32
      clear hO hD
      go_simp
      exact hK.out _ _ (Ex.refl _) rfl
    | 8, _, ho, hO, hD, hK => 
      obtain rfl := Option.some.inj ho.symm
      clear ho
      have ev6 : FA.eval (.tmp 6) = .int .i64 20 := hO 6 (by kernel_rfl)
      have e6 : FA.tmps[6]?.getD undef = .int .i64 20 := by simpa [Act.eval] using ev6
      replace ev6 := Lib.hid ev6
      have ev33 : FA.eval (.tmp 33) = .bool false := hD 7 33 (by kernel_rfl)
      have e33 : FA.tmps[33]?.getD undef = .bool false := by simpa [Act.eval] using ev33
      replace ev33 := Lib.hid ev33
      have ge33 := slot_of e33
      clear hO hD
      go_simp
      exact hK.out _ _ (Ex.refl _) rfl
    | 9, _, ho, hO, hD, hK => 
      obtain rfl := Option.some.inj ho.symm
      clear ho
      have ev34 : FA.eval (.tmp 34) = .int .i64 20 := hD 8 34 (by kernel_rfl)
      have e34 : FA.tmps[34]?.getD undef = .int .i64 20 := by simpa [Act.eval] using ev34
      replace ev34 := Lib.hid ev34
      have ev33 : FA.eval (.tmp 33) = .bool false := hD 7 33 (by kernel_rfl)
      have e33 : FA.tmps[33]?.getD undef = .bool false := by simpa [Act.eval] using ev33
      replace ev33 := Lib.hid ev33
      have ge33 := slot_of e33
      clear hO hD
      go_simp
      exact hK.out _ _ (Ex.refl _) rfl
    | 10, _, ho, hO, hD, hK => 
      obtain rfl := Option.some.inj ho.symm
      clear ho
      have ev8 : FA.eval (.tmp 8) = .bool false := hO 8 (by kernel_rfl)
      have e8 : FA.tmps[8]?.getD undef = .bool false := by simpa [Act.eval] using ev8
      replace ev8 := Lib.hid ev8
      have ev33 : FA.eval (.tmp 33) = .bool false := hD 7 33 (by kernel_rfl)
      have e33 : FA.tmps[33]?.getD undef = .bool false := by simpa [Act.eval] using ev33
      replace ev33 := Lib.hid ev33
      have ge33 := slot_of e33
      clear hO hD
      go_simp
      exact hK.out _ _ (Ex.refl _) rfl
    | 11, _, ho, hO, hD, hK => 
      obtain rfl := Option.some.inj ho.symm
      clear ho
      have ev35 : FA.eval (.tmp 35) = .bool false := hD 9 35 (by kernel_rfl)
      have e35 : FA.tmps[35]?.getD undef = .bool false := by simpa [Act.eval] using ev35
      replace ev35 := Lib.hid ev35
      have ev36 : FA.eval (.tmp 36) = .bool false := hD 10 36 (by kernel_rfl)
      have e36 : FA.tmps[36]?.getD undef = .bool false := by simpa [Act.eval] using ev36
      replace ev36 := Lib.hid ev36
      have ev33 : FA.eval (.tmp 33) = .bool false := hD 7 33 (by kernel_rfl)
      have e33 : FA.tmps[33]?.getD undef = .bool false := by simpa [Act.eval] using ev33
      replace ev33 := Lib.hid ev33
      have ge33 := slot_of e33
      clear hO hD
      go_simp
      exact hK.out _ _ (Ex.refl _) rfl
    | 12, _, ho, hO, hD, hK => 
      obtain rfl := Option.some.inj ho.symm
      clear ho
      have ev33 : FA.eval (.tmp 33) = .bool false := hD 7 33 (by kernel_rfl)
      have e33 : FA.tmps[33]?.getD undef = .bool false := by simpa [Act.eval] using ev33
      replace ev33 := Lib.hid ev33
      have ev37 : FA.eval (.tmp 37) = .bool false := hD 11 37 (by kernel_rfl)
      have e37 : FA.tmps[37]?.getD undef = .bool false := by simpa [Act.eval] using ev37
      replace ev37 := Lib.hid ev37
      clear hO hD
      go_simp
      exact hK.out _ _ (Ex.refl _) rfl
    | 13, _, ho, hO, hD, hK => 
      obtain rfl := Option.some.inj ho.symm
      clear ho
      have ev38 : FA.eval (.tmp 38) = .bool false := hD 12 38 (by kernel_rfl)
      have e38 : FA.tmps[38]?.getD undef = .bool false := by simpa [Act.eval] using ev38
      replace ev38 := Lib.hid ev38
      clear hO hD
      go_simp
      exact hK.out _ _ (Ex.refl _) rfl
    | 14, _, ho, hO, hD, hK => 
      obtain rfl := Option.some.inj ho.symm
      clear ho
      have ev8 : FA.eval (.tmp 8) = .bool false := hO 8 (by kernel_rfl)
      have e8 : FA.tmps[8]?.getD undef = .bool false := by simpa [Act.eval] using ev8
      replace ev8 := Lib.hid ev8
      have ev39 : FA.eval (.tmp 39) = .bool false := hD 13 39 (by kernel_rfl)
      have e39 : FA.tmps[39]?.getD undef = .bool false := by simpa [Act.eval] using ev39
      replace ev39 := Lib.hid ev39
      have ge39 := slot_of e39
      clear hO hD
      go_simp
      exact hK.out _ _ (Ex.refl _) rfl
    | 15, _, ho, hO, hD, hK => 
      obtain rfl := Option.some.inj ho.symm
      clear ho
      have ev40 : FA.eval (.tmp 40) = .bool false := hD 14 40 (by kernel_rfl)
      have e40 : FA.tmps[40]?.getD undef = .bool false := by simpa [Act.eval] using ev40
      replace ev40 := Lib.hid ev40
      have ev39 : FA.eval (.tmp 39) = .bool false := hD 13 39 (by kernel_rfl)
      have e39 : FA.tmps[39]?.getD undef = .bool false := by simpa [Act.eval] using ev39
      replace ev39 := Lib.hid ev39
      have ge39 := slot_of e39
      clear hO hD
      go_simp
      exact hK.out _ _ (Ex.refl _) rfl
    | 16, _, ho, hO, hD, hK => 
      obtain rfl := Option.some.inj ho.symm
      clear ho
      have ev41 : FA.eval (.tmp 41) = .bool true := hD 15 41 (by kernel_rfl)
      have e41 : FA.tmps[41]?.getD undef = .bool true := by simpa [Act.eval] using ev41
      replace ev41 := Lib.hid ev41
      have ev39 : FA.eval (.tmp 39) = .bool false := hD 13 39 (by kernel_rfl)
      have e39 : FA.tmps[39]?.getD undef = .bool false := by simpa [Act.eval] using ev39
      replace ev39 := Lib.hid ev39
      have ge39 := slot_of e39
      clear hO hD
      go_simp
      exact hK.out _ _ (Ex.refl _) rfl
    | 17, _, ho, hO, hD, hK => 
      obtain rfl := Option.some.inj ho.symm
      clear ho
      have ev6 : FA.eval (.tmp 6) = .int .i64 20 := hO 6 (by kernel_rfl)
      have e6 : FA.tmps[6]?.getD undef = .int .i64 20 := by simpa [Act.eval] using ev6
      replace ev6 := Lib.hid ev6
      have ev42 : FA.eval (.tmp 42) = .bool true := hD 16 42 (by kernel_rfl)
      have e42 : FA.tmps[42]?.getD undef = .bool true := by simpa [Act.eval] using ev42
      replace ev42 := Lib.hid ev42
      have ge42 := slot_of e42
      clear hO hD
      go_simp
      exact hK.out _ _ (Ex.refl _) rfl
    | 18, _, ho, hO, hD, hK => 
      obtain rfl := Option.some.inj ho.symm
      clear ho
      have ev43 : FA.eval (.tmp 43) = .int .i64 20 := hD 17 43 (by kernel_rfl)
      have e43 : FA.tmps[43]?.getD undef = .int .i64 20 := by simpa [Act.eval] using ev43
      replace ev43 := Lib.hid ev43
      have ev42 : FA.eval (.tmp 42) = .bool true := hD 16 42 (by kernel_rfl)
      have e42 : FA.tmps[42]?.getD undef = .bool true := by simpa [Act.eval] using ev42
      replace ev42 := Lib.hid ev42
      have ge42 := slot_of e42
      clear hO hD
      go_simp
      exact hK.out _ _ (Ex.refl _) rfl
    | 19, _, ho, hO, hD, hK => 
      obtain rfl := Option.some.inj ho.symm
      clear ho
      have ev42 : FA.eval (.tmp 42) = .bool true := hD 16 42 (by kernel_rfl)
      have e42 : FA.tmps[42]?.getD undef = .bool true := by simpa [Act.eval] using ev42
      replace ev42 := Lib.hid ev42
      have ev44 : FA.eval (.tmp 44) = .bool false := hD 18 44 (by kernel_rfl)
      have e44 : FA.tmps[44]?.getD undef = .bool false := by simpa [Act.eval] using ev44
      replace ev44 := Lib.hid ev44
      have ev39 : FA.eval (.tmp 39) = .bool false := hD 13 39 (by kernel_rfl)
      have e39 : FA.tmps[39]?.getD undef = .bool false := by simpa [Act.eval] using ev39
      replace ev39 := Lib.hid ev39
      have ge39 := slot_of e39
      clear hO hD
      go_simp
      exact hK.out _ _ (Ex.refl _) rfl
    | 20, _, ho, hO, hD, hK => 
      obtain rfl := Option.some.inj ho.symm
      clear ho
      have ev39 : FA.eval (.tmp 39) = .bool false := hD 13 39 (by kernel_rfl)
      have e39 : FA.tmps[39]?.getD undef = .bool false := by simpa [Act.eval] using ev39
      replace ev39 := Lib.hid ev39
      have ev45 : FA.eval (.tmp 45) = .bool false := hD 19 45 (by kernel_rfl)
      have e45 : FA.tmps[45]?.getD undef = .bool false := by simpa [Act.eval] using ev45
      replace ev45 := Lib.hid ev45
      clear hO hD
      go_simp
      exact hK.out _ _ (Ex.refl _) rfl
    | (k + 21), hi, _, _, _, _ => exact absurd hi (by omega)
  intro vs x hp
  have p0 : vs 0 = .agg (ringC k m).toArray := hp 0 (by omega)
  have p1 : vs 1 = .pointer (some ⟨g7, 0, none⟩) := hp 1 (by omega)
  have p2 : vs 2 = .agg (bcs k).toArray := hp 2 (by omega)
  have p3 : vs 3 = .pointer (some ⟨g7, 16, none⟩) := hp 3 (by omega)
  have p4 : vs 4 = .int .u64 (m : Int) := hp 4 (by omega)
  have p5 : vs 5 = .agg (ringC k m).toArray := hp 5 (by omega)
  have p6 : vs 6 = .bool false := hp 6 (by omega)
  have p7 : vs 7 = .bool false := hp 7 (by omega)
  have p8 : vs 8 = .int .i64 20 := hp 8 (by omega)
  have p9 : vs 9 = .bool false := hp 9 (by omega)
  have p10 : vs 10 = .bool false := hp 10 (by omega)
  have p11 : vs 11 = .bool false := hp 11 (by omega)
  have p12 : vs 12 = .bool false := hp 12 (by omega)
  have p13 : vs 13 = .bool false := hp 13 (by omega)
  have p14 : vs 14 = .bool false := hp 14 (by omega)
  have p15 : vs 15 = .bool true := hp 15 (by omega)
  have p16 : vs 16 = .bool true := hp 16 (by omega)
  have p17 : vs 17 = .int .i64 20 := hp 17 (by omega)
  have p18 : vs 18 = .bool false := hp 18 (by omega)
  have p19 : vs 19 = .bool false := hp 19 (by omega)
  have p20 : vs 20 = .bool false := hp 20 (by omega)
  clear hp
  simp only [List.take_succ_cons, List.take_zero, List.drop_succ_cons, List.drop_zero, putAll, Nat.zero_add, Nat.reduceAdd, Act.put, List.setIfInBounds_toArray, List.set_cons_zero, List.set_cons_succ, p0, p1, p2, p3, p4, p5, p6, p7, p8, p9, p10, p11, p12, p13, p14, p15, p16, p17, p18, p19, p20]
  clear p0 p1 p2 p3 p4 p5 p6 p7 p8 p9 p10 p11 p12 p13 p14 p15 p16 p17 p18 p19 p20
  clear vs
  go_upto_region 8 with (first
    | (refine at_op (.load 49 (.tmp 47)) rfl ?_; refine wpList_ldA (t := 52) 49 (.tmp 47) rfl rfl (bcs key) rfl (hb2.later (below_plus _ _ _)) (ringC_key key n) x1 x2 (szArr key hk) ?_)
    | (go_at_call 33; refine (ringNew_any key hk n _).mono ?_; rintro e w1 ⟨bs3, d3, rfl, rfl⟩)
    | (refine at_op (.store 55 (.tmp 9) (.tmp 51)) rfl ?_; refine wpList_stA (t := 55) 55 (.tmp 9) (.tmp 51) rfl rfl (ringC key n) ring0 (by rw [ringC_length _ hk]; rfl) (ringC_one _ _) rfl rfl ?_ (szRing _ hk _) ?_; (· refine Bk.newK _ _ _ ?_ rfl; simp [size_plus]); intro w7 hb9 hg7))
  have b7 : Below w.heap.size w w7 := below_grown (by repeat (first | exact b4 | refine belowP ?_ _ _ | refine Below.allocS ?_ _)) hg7 (by omega)
  have hb2' : Bk w7 w.heap.size 52 (ringC key n) := (((hb2.later (below_plus _ x.bs x.d)).later (below_plus _ bs3 d3)).alloc _).grown hg7 (by simp; omega)
  clear hg7 hb2 q2 q7 hb5 hb7
  have hb2 := hb2'
  clear hb2'
  have g29 : w.heap.size < w4.heap.size + x.bs.length + bs3.length := by omega
  generalize w4.heap.size + x.bs.length + bs3.length = g9 at *
  have eqk : (key ++ dig n 8).take 16 = key := by rw [List.take_append_of_le_length (by rw [show key.length = 16 from hk]; omega), List.take_of_length_le (by rw [show key.length = 16 from hk]; omega)]
  have eqn : num (((key ++ dig n 8).drop 16).take 8) = n := by
    rw [List.drop_append_of_le_length (by rw [show key.length = 16 from hk]; omega), List.drop_eq_nil_of_le (by rw [show key.length = 16 from hk]; omega), List.nil_append, List.take_of_length_le (by simp [dig_length]), num_dig n 8 (by omega)]
  have HB := Lib.hid (fun (A : Option Addr) c w h => ringParse_24 A c (key ++ dig n 8) w h)
  rw [eqk, eqn] at HB
  clear eqk eqn
  go_upto_region 9 with (first
    | (refine at_op (.load 55 (.tmp 9)) rfl ?_; refine wpList_ldA (t := 55) 55 (.tmp 9) rfl rfl (ringC key n) rfl hb9 (ringC_whole key n) v1 v2 (szRing key hk n) ?_)
    | (go_at_call 34; refine (ringBytes_any key hk n _ hn).mono ?_; rintro e w1 ⟨A4, n4, c4, bs4, d4, rfl, rfl, ho4⟩; obtain rfl : n4 = 24 := (by have := ho4.len; simp [dig_length, show key.length = 16 from hk] at this; omega))
    | (go_at_call 31; refine (HB.out _ _ _ ho4.rb).mono ?_; rintro e w1 ⟨bs5, d5, rfl, rfl⟩)
    | (refine at_op (.store 55 (.tmp 10) (.tmp 56)) rfl ?_; refine wpList_stA (t := 55) 55 (.tmp 10) (.tmp 56) rfl rfl (ringC key n) ring0 (by rw [ringC_length _ hk]; rfl) (ringC_one _ _) rfl rfl ?_ (szRing _ hk _) ?_; (· refine Bk.newK _ _ _ ?_ rfl; simp [size_plus]); intro w8 hb10 hg8))
  have z9 := hb9.lt
  have z77 := b7.size
  have b8 : Below w.heap.size w w8 := below_grown (by repeat (first | exact b7 | refine belowP ?_ _ _ | refine Below.allocS ?_ _)) hg8 (by omega)
  have hb2' : Bk w8 w.heap.size 52 (ringC key n) := (((hb2.later (below_plus _ bs4 d4)).later (below_plus _ bs5 d5)).alloc _).grown hg8 (by simp; omega)
  have hb9' : Bk w8 g9 55 (ringC key n) := (((hb9.later (below_plus _ bs4 d4)).later (below_plus _ bs5 d5)).alloc _).grown hg8 (by simp; omega)
  clear hg8 hb2 hb9 ho4 HB HP HQ
  have hb2 := hb2'
  have hb9 := hb9'
  clear hb2' hb9'
  generalize w7.heap.size + bs4.length + bs5.length = g10 at *
  generalize hg2 : w.heap.size = g2 at *
  refine wp_rel 19 77 rfl (by kernel_rfl) (by kernel_rfl) (fun i => match i with | 0 => MP.eq (.agg (ringC key n).toArray) | 1 => MP.ob w8.heap.size (key ++ dig n 8) | 2 => MP.eq (.string ⟨(key ++ dig n 8).toArray⟩) | 3 => MP.eq (.agg (ringC key n).toArray) | 4 => MP.ob w8.heap.size (key ++ dig n 8) | 5 => MP.eq (.string ⟨(key ++ dig n 8).toArray⟩) | 6 => MP.eq (.bool true) | 7 => MP.eq (.bool true) | 8 => MP.eq (.agg (ringC key n).toArray) | 9 => MP.eq (.agg (ringC key n).toArray) | 10 => MP.eq (.bool true) | 11 => MP.eq (.bool true) | 12 => MP.eq (.bool true) | 13 => MP.eq (.int .i64 0) | 14 => MP.eq (.bool true) | 15 => MP.eq (.bool true) | 16 => MP.eq (.bool true) | 17 => MP.eq (.bool true) | 18 => MP.eq (.bool true) | _ => MP.any) ?_ ?_
  · intro i hi o ho FA x hO hD K hK
    match i, hi, ho, hO, hD, hK with
    | 0, _, ho, hO, hD, hK => 
      obtain rfl := Option.some.inj ho.symm
      clear ho
      have ev9 : FA.eval (.tmp 9) = .pointer (some ⟨g9, 0, none⟩) := hO 9 (by kernel_rfl)
      have e9 : FA.tmps[9]?.getD undef = .pointer (some ⟨g9, 0, none⟩) := by simpa [Act.eval] using ev9
      replace ev9 := Lib.hid ev9
      clear hO hD
      refine wanted_if rfl ?_
      refine wp_load_mid 55 (.tmp 9) rfl g9 0 ev9.out (ringC key n) dr (Bk.range (hb9.later (below_plus _ _ _))) v1 v2 (szRing key hk n) ?_
      exact hK.out _ _ (Ex.refl _) rfl
    | 1, _, ho, hO, hD, hK => 
      obtain rfl := Option.some.inj ho.symm
      clear ho
      have ev58 : FA.eval (.tmp 58) = .agg (ringC key n).toArray := hD 0 58 (by kernel_rfl)
      have e58 : FA.tmps[58]?.getD undef = .agg (ringC key n).toArray := by simpa [Act.eval] using ev58
      replace ev58 := Lib.hid ev58
      clear hO hD
      go_simp
      refine (ringBytes_any key hk n _ hn).mono ?_
      rintro e w1 ⟨A2, n2, c2, bs2, d2, rfl, rfl, ho2⟩
      exact hK.out _ _ (Ex.plus_ _ _ _) ⟨_, _, _, rfl, ho2.mono (by simp [size_plus])⟩
    | 2, _, ho, hO, hD, hK => 
      obtain rfl := Option.some.inj ho.symm
      clear ho
      have f59 := hD 1 59 (by kernel_rfl)
      generalize eu59 : FA.eval (.tmp 59) = u59 at f59
      have e59 : FA.tmps[59]?.getD undef = u59 := by rw [← eu59]; simp [Act.eval]
      have ev59 := Lib.hid eu59
      clear eu59
      clear hO hD
      obtain ⟨A1, n1, c1, rfl, ho1⟩ := f59
      have hcv := run_str bt Try.underlying9 ho1.rb
      go_simp
      exact hK.out _ _ (Ex.refl _) rfl
    | 3, _, ho, hO, hD, hK => 
      obtain rfl := Option.some.inj ho.symm
      clear ho
      have ev2 : FA.eval (.tmp 2) = .pointer (some ⟨g2, 0, none⟩) := hO 2 (by kernel_rfl)
      have e2 : FA.tmps[2]?.getD undef = .pointer (some ⟨g2, 0, none⟩) := by simpa [Act.eval] using ev2
      replace ev2 := Lib.hid ev2
      clear hO hD
      refine wanted_if rfl ?_
      refine wp_load_mid 52 (.tmp 2) rfl g2 0 ev2.out (ringC key n) ds (Bk.range (hb2.later (below_plus _ _ _))) y1 y2 (szRef key hk n) ?_
      exact hK.out _ _ (Ex.refl _) rfl
    | 4, _, ho, hO, hD, hK => 
      obtain rfl := Option.some.inj ho.symm
      clear ho
      have ev61 : FA.eval (.tmp 61) = .agg (ringC key n).toArray := hD 3 61 (by kernel_rfl)
      have e61 : FA.tmps[61]?.getD undef = .agg (ringC key n).toArray := by simpa [Act.eval] using ev61
      replace ev61 := Lib.hid ev61
      clear hO hD
      go_simp
      refine (refRingBytes_any key hk n _ hn).mono ?_
      rintro e w1 ⟨A2, n2, c2, bs2, d2, rfl, rfl, ho2⟩
      exact hK.out _ _ (Ex.plus_ _ _ _) ⟨_, _, _, rfl, ho2.mono (by simp [size_plus])⟩
    | 5, _, ho, hO, hD, hK => 
      obtain rfl := Option.some.inj ho.symm
      clear ho
      have f62 := hD 4 62 (by kernel_rfl)
      generalize eu62 : FA.eval (.tmp 62) = u62 at f62
      have e62 : FA.tmps[62]?.getD undef = u62 := by rw [← eu62]; simp [Act.eval]
      have ev62 := Lib.hid eu62
      clear eu62
      clear hO hD
      obtain ⟨A1, n1, c1, rfl, ho1⟩ := f62
      have hcv := run_str bt Try.underlying9 ho1.rb
      go_simp
      exact hK.out _ _ (Ex.refl _) rfl
    | 6, _, ho, hO, hD, hK => 
      obtain rfl := Option.some.inj ho.symm
      clear ho
      have ev60 : FA.eval (.tmp 60) = .string ⟨(key ++ dig n 8).toArray⟩ := hD 2 60 (by kernel_rfl)
      have e60 : FA.tmps[60]?.getD undef = .string ⟨(key ++ dig n 8).toArray⟩ := by simpa [Act.eval] using ev60
      replace ev60 := Lib.hid ev60
      have ev63 : FA.eval (.tmp 63) = .string ⟨(key ++ dig n 8).toArray⟩ := hD 5 63 (by kernel_rfl)
      have e63 : FA.tmps[63]?.getD undef = .string ⟨(key ++ dig n 8).toArray⟩ := by simpa [Act.eval] using ev63
      replace ev63 := Lib.hid ev63
      clear hO hD
      go_simp
      exact hK.out _ _ (Ex.refl _) rfl
    | 7, _, ho, hO, hD, hK => 
      obtain rfl := Option.some.inj ho.symm
      clear ho
      have ev64 : FA.eval (.tmp 64) = .bool true := hD 6 64 (by kernel_rfl)
      have e64 : FA.tmps[64]?.getD undef = .bool true := by simpa [Act.eval] using ev64
      replace ev64 := Lib.hid ev64
      clear hO hD
      go_simp
      exact hK.out _ _ (Ex.refl _) rfl
    | 8, _, ho, hO, hD, hK => 
      obtain rfl := Option.some.inj ho.symm
      clear ho
      have ev10 : FA.eval (.tmp 10) = .pointer (some ⟨g10, 0, none⟩) := hO 10 (by kernel_rfl)
      have e10 : FA.tmps[10]?.getD undef = .pointer (some ⟨g10, 0, none⟩) := by simpa [Act.eval] using ev10
      replace ev10 := Lib.hid ev10
      have ev65 : FA.eval (.tmp 65) = .bool true := hD 7 65 (by kernel_rfl)
      have e65 : FA.tmps[65]?.getD undef = .bool true := by simpa [Act.eval] using ev65
      replace ev65 := Lib.hid ev65
      have ge65 := slot_of e65
      clear hO hD
      rw [if_pos (by simp [Region.wanted, yielded, ge65])]
      refine wp_load_mid 55 (.tmp 10) rfl g10 0 ev10.out (ringC key n) dr (Bk.range (hb10.later (below_plus _ _ _))) v1 v2 (szRing key hk n) ?_
      exact hK.out _ _ (Ex.refl _) rfl
    | 9, _, ho, hO, hD, hK => 
      obtain rfl := Option.some.inj ho.symm
      clear ho
      have ev9 : FA.eval (.tmp 9) = .pointer (some ⟨g9, 0, none⟩) := hO 9 (by kernel_rfl)
      have e9 : FA.tmps[9]?.getD undef = .pointer (some ⟨g9, 0, none⟩) := by simpa [Act.eval] using ev9
      replace ev9 := Lib.hid ev9
      have ev65 : FA.eval (.tmp 65) = .bool true := hD 7 65 (by kernel_rfl)
      have e65 : FA.tmps[65]?.getD undef = .bool true := by simpa [Act.eval] using ev65
      replace ev65 := Lib.hid ev65
      have ge65 := slot_of e65
      clear hO hD
      rw [if_pos (by simp [Region.wanted, yielded, ge65])]
      refine wp_load_mid 55 (.tmp 9) rfl g9 0 ev9.out (ringC key n) dr (Bk.range (hb9.later (below_plus _ _ _))) v1 v2 (szRing key hk n) ?_
      exact hK.out _ _ (Ex.refl _) rfl
    | 10, _, ho, hO, hD, hK => 
      obtain rfl := Option.some.inj ho.symm
      clear ho
      have ev66 : FA.eval (.tmp 66) = .agg (ringC key n).toArray := hD 8 66 (by kernel_rfl)
      have e66 : FA.tmps[66]?.getD undef = .agg (ringC key n).toArray := by simpa [Act.eval] using ev66
      replace ev66 := Lib.hid ev66
      have ev67 : FA.eval (.tmp 67) = .agg (ringC key n).toArray := hD 9 67 (by kernel_rfl)
      have e67 : FA.tmps[67]?.getD undef = .agg (ringC key n).toArray := by simpa [Act.eval] using ev67
      replace ev67 := Lib.hid ev67
      have ev65 : FA.eval (.tmp 65) = .bool true := hD 7 65 (by kernel_rfl)
      have e65 : FA.tmps[65]?.getD undef = .bool true := by simpa [Act.eval] using ev65
      replace ev65 := Lib.hid ev65
      have ge65 := slot_of e65
      clear hO hD
      go_simp
      exact hK.out _ _ (Ex.refl _) rfl
    | 11, _, ho, hO, hD, hK => 
      obtain rfl := Option.some.inj ho.symm
      clear ho
      have ev65 : FA.eval (.tmp 65) = .bool true := hD 7 65 (by kernel_rfl)
      have e65 : FA.tmps[65]?.getD undef = .bool true := by simpa [Act.eval] using ev65
      replace ev65 := Lib.hid ev65
      have ev68 : FA.eval (.tmp 68) = .bool true := hD 10 68 (by kernel_rfl)
      have e68 : FA.tmps[68]?.getD undef = .bool true := by simpa [Act.eval] using ev68
      replace ev68 := Lib.hid ev68
      clear hO hD
      go_simp
      exact hK.out _ _ (Ex.refl _) rfl
    | 12, _, ho, hO, hD, hK => 
      obtain rfl := Option.some.inj ho.symm
      clear ho
      have ev69 : FA.eval (.tmp 69) = .bool true := hD 11 69 (by kernel_rfl)
      have e69 : FA.tmps[69]?.getD undef = .bool true := by simpa [Act.eval] using ev69
      replace ev69 := Lib.hid ev69
      clear hO hD
      go_simp
      exact hK.out _ _ (Ex.refl _) rfl
    | 13, _, ho, hO, hD, hK => 
      obtain rfl := Option.some.inj ho.symm
      clear ho
      have ev11 : FA.eval (.tmp 11) = .int .i64 0 := hO 11 (by kernel_rfl)
      have e11 : FA.tmps[11]?.getD undef = .int .i64 0 := by simpa [Act.eval] using ev11
      replace ev11 := Lib.hid ev11
      have ev70 : FA.eval (.tmp 70) = .bool true := hD 12 70 (by kernel_rfl)
      have e70 : FA.tmps[70]?.getD undef = .bool true := by simpa [Act.eval] using ev70
      replace ev70 := Lib.hid ev70
      have ge70 := slot_of e70
      clear hO hD
      go_simp
      exact hK.out _ _ (Ex.refl _) rfl
    | 14, _, ho, hO, hD, hK => 
      obtain rfl := Option.some.inj ho.symm
      clear ho
      have ev71 : FA.eval (.tmp 71) = .int .i64 0 := hD 13 71 (by kernel_rfl)
      have e71 : FA.tmps[71]?.getD undef = .int .i64 0 := by simpa [Act.eval] using ev71
      replace ev71 := Lib.hid ev71
      have ev70 : FA.eval (.tmp 70) = .bool true := hD 12 70 (by kernel_rfl)
      have e70 : FA.tmps[70]?.getD undef = .bool true := by simpa [Act.eval] using ev70
      replace ev70 := Lib.hid ev70
      have ge70 := slot_of e70
      clear hO hD
      go_simp
      exact hK.out _ _ (Ex.refl _) rfl
    | 15, _, ho, hO, hD, hK => 
      obtain rfl := Option.some.inj ho.symm
      clear ho
      have ev70 : FA.eval (.tmp 70) = .bool true := hD 12 70 (by kernel_rfl)
      have e70 : FA.tmps[70]?.getD undef = .bool true := by simpa [Act.eval] using ev70
      replace ev70 := Lib.hid ev70
      have ev72 : FA.eval (.tmp 72) = .bool true := hD 14 72 (by kernel_rfl)
      have e72 : FA.tmps[72]?.getD undef = .bool true := by simpa [Act.eval] using ev72
      replace ev72 := Lib.hid ev72
      clear hO hD
      go_simp
      exact hK.out _ _ (Ex.refl _) rfl
    | 16, _, ho, hO, hD, hK => 
      obtain rfl := Option.some.inj ho.symm
      clear ho
      have ev73 : FA.eval (.tmp 73) = .bool true := hD 15 73 (by kernel_rfl)
      have e73 : FA.tmps[73]?.getD undef = .bool true := by simpa [Act.eval] using ev73
      replace ev73 := Lib.hid ev73
      clear hO hD
      go_simp
      exact hK.out _ _ (Ex.refl _) rfl
    | 17, _, ho, hO, hD, hK => 
      obtain rfl := Option.some.inj ho.symm
      clear ho
      have ev74 : FA.eval (.tmp 74) = .bool true := hD 16 74 (by kernel_rfl)
      have e74 : FA.tmps[74]?.getD undef = .bool true := by simpa [Act.eval] using ev74
      replace ev74 := Lib.hid ev74
      have ge74 := slot_of e74
      clear hO hD
      go_simp
      refine (ringAwake _).mono ?_
      rintro e w1 ⟨bs2, d2, rfl, rfl⟩
      exact hK.out _ _ (Ex.plus_ _ _ _) rfl
    | 18, _, ho, hO, hD, hK => 
      obtain rfl := Option.some.inj ho.symm
      clear ho
      have ev74 : FA.eval (.tmp 74) = .bool true := hD 16 74 (by kernel_rfl)
      have e74 : FA.tmps[74]?.getD undef = .bool true := by simpa [Act.eval] using ev74
      replace ev74 := Lib.hid ev74
      have ev75 : FA.eval (.tmp 75) = .bool true := hD 17 75 (by kernel_rfl)
      have e75 : FA.tmps[75]?.getD undef = .bool true := by simpa [Act.eval] using ev75
      replace ev75 := Lib.hid ev75
      clear hO hD
      go_simp
      exact hK.out _ _ (Ex.refl _) rfl
    | (k + 19), hi, _, _, _, _ => exact absurd hi (by omega)
  intro vs x hp
  have p0 : vs 0 = .agg (ringC key n).toArray := hp 0 (by omega)
  have p1 := hp 1 (by omega)
  have p2 : vs 2 = .string ⟨(key ++ dig n 8).toArray⟩ := hp 2 (by omega)
  have p3 : vs 3 = .agg (ringC key n).toArray := hp 3 (by omega)
  have p4 := hp 4 (by omega)
  have p5 : vs 5 = .string ⟨(key ++ dig n 8).toArray⟩ := hp 5 (by omega)
  have p6 : vs 6 = .bool true := hp 6 (by omega)
  have p7 : vs 7 = .bool true := hp 7 (by omega)
  have p8 : vs 8 = .agg (ringC key n).toArray := hp 8 (by omega)
  have p9 : vs 9 = .agg (ringC key n).toArray := hp 9 (by omega)
  have p10 : vs 10 = .bool true := hp 10 (by omega)
  have p11 : vs 11 = .bool true := hp 11 (by omega)
  have p12 : vs 12 = .bool true := hp 12 (by omega)
  have p13 : vs 13 = .int .i64 0 := hp 13 (by omega)
  have p14 : vs 14 = .bool true := hp 14 (by omega)
  have p15 : vs 15 = .bool true := hp 15 (by omega)
  have p16 : vs 16 = .bool true := hp 16 (by omega)
  have p17 : vs 17 = .bool true := hp 17 (by omega)
  have p18 : vs 18 = .bool true := hp 18 (by omega)
  clear hp
  simp only [List.take_succ_cons, List.take_zero, List.drop_succ_cons, List.drop_zero, putAll, Nat.zero_add, Nat.reduceAdd, Act.put, List.setIfInBounds_toArray, List.set_cons_zero, List.set_cons_succ, p0, p2, p3, p5, p6, p7, p8, p9, p10, p11, p12, p13, p14, p15, p16, p17, p18]
  clear p0 p2 p3 p5 p6 p7 p8 p9 p10 p11 p12 p13 p14 p15 p16 p17 p18
  generalize vs 1 = y1 at *
  generalize vs 4 = y4 at *
  clear vs
  go_wp2
  go_ret
  subst hg2
  exact ⟨rfl, belowP b8 _ _⟩

set_option maxHeartbeats 1000000 in
theorem ringBytes_long (w : World) (key : List UInt8) (hk : K16 key) (n : Nat) (A : Option Addr) (n1 c : Nat) (h100 : 100 < n1) :
    Calls Try.prog 6 #[.agg (ringC key n).toArray, .slice A n1 c] w fun e w' => e = .returned (.bool true) ∧ Below w.heap.size w w' := by
  have t1 : (100 : Int) < n1 := by omega
  go_enter Try.func6, Try.ntmps6
  go_wp2_with (go_at_call 30; refine (ringAwake _).mono ?_; rintro e w9 ⟨bs9, d9, rfl, rfl⟩)
  go_ret
  exact ⟨rfl, belowP ((Below.refl _ _).alloc (Nat.le_refl _) _) _ _⟩
theorem ringBytes_walk (w : World) (key : List UInt8) (hk : K16 key) (n : Nat) (hn : n < 18446744073709551616) (A : Option Addr) (c : Nat) (l : List UInt8) (hl : l.length ≤ c) (hc : c ≤ maxLen) (hr : Rd w w.heap.size A (bcs l)) :
    Calls Try.prog 6 #[.agg (ringC key n).toArray, .slice A l.length c] w fun e w' => e = .returned (.bool true) ∧ Below w.heap.size w w' := by
  have h : Rb w A l.length c l := ⟨rfl, hl, hr⟩
  by_cases h100 : 100 < l.length
  · exact ringBytes_long w key hk n A l.length c h100
  · by_cases h24 : l.length = 24
    · rw [h24] at h ⊢
      have e1 : ofK (num (l.take 8)) (num ((l.drop 8).take 8)) = l.take 16 := by
        rw [ofK, dig_num 8 _ (by simp; omega), dig_num 8 _ (by simp; omega), ← List.take_add]
      have e2 : num (l.drop 16) = num ((l.drop 16).take 8) := by rw [List.take_of_length_le (by simp; omega)]
      refine ringBytes_yes w key hk n hn A 24 c (by omega) (l.take 16) (by show (l.take 16).length = 16; simp; omega) (num ((l.drop 16).take 8)) (fun w' hb => ringParse_24 A c l w' (h.later hb)) (fun w' hb => ?_)
      have := refRingParse_24 A c l w' (h.later hb)
      rw [e1, e2] at this
      exact this
    · exact ringBytes_no w key hk n hn A l.length c (by omega) key0 K16_0 0 (fun w' hb => ringParse_no A l.length c w' h24 (by omega)) (fun w' hb => refRingParse_no A l.length c w' h24 (by omega))
end Go.Proofs.Yticlohlpccollaa
