/- The laws on rings (chapter 11): RingKeeps, RingKeys. -/
import Derived.Test.YtdaicdjjdmgobaaRingR
namespace Go.Proofs.Ytdaicdjjdmgobaa
open Go.RowKit
set_option linter.unusedVariables false
set_option linter.unusedSimpArgs false
attribute [local go_sem ↓] sliced_cut
attribute [local go_sem] cutA_zero
attribute [local go_sem ↓] eql_key eql_key'
theorem neq_key (w : World) (a b : List UInt8) (ha : K16 a) (hb : K16 b) : (binOp .neq 61 (.agg (bcs a).toArray) (.agg (bcs b).toArray)).run Try.prog w = .ok (.bool (!(a == b))) w := by
  rw [run_neq_struct, show bcs a = a.map Extern.Stop.cell from rfl, show bcs b = b.map Extern.Stop.cell from rfl, run_equalIn_bytes w 9998 61 5 16 Try.underlying61 Try.underlying5 szU8 a b ha hb]
  rfl
theorem neq_key' (w : World) (a b : List UInt8) (ha : K16 a) (hb : K16 b) : (binOp .neq 40 (.agg (bcs a).toArray) (.agg (bcs b).toArray)).run Try.prog w = .ok (.bool (!(a == b))) w := by
  rw [run_neq_struct, show bcs a = a.map Extern.Stop.cell from rfl, show bcs b = b.map Extern.Stop.cell from rfl, run_equalIn_bytes w 9998 40 5 16 Try.underlying40 Try.underlying5 szU8 a b ha hb]
  rfl
attribute [local go_sem ↓] neq_key neq_key'

theorem Bk.newK {W : World} {k : Nat} (t : TypeId) (cs : Array Value) (l : List Value) (hk : k = W.heap.size) (hl : cs.toList = l) : Bk (W.alloc (.cells cs t)) k t l := by
  subst hk
  subst hl
  exact Bk.new W t cs
theorem Below.allocS {a w : World} (h : Below a.heap.size a w) (o : Obj) : Below a.heap.size a (w.alloc o) := h.alloc h.size o
def MP.blk (base : Nat) (t : TypeId) (cs : List Value) : MP := ⟨fun v w => ∃ g, v = .pointer (some ⟨g, 0, none⟩) ∧ base ≤ g ∧ Bk w g t cs, fun _ _ _ ⟨g, h1, h2, h3⟩ h => ⟨g, h1, h2, h3.later h.below⟩⟩
/-- a guarded operation that is wanted: a part of a block, as an aggregate -/
theorem wpList_ldG {P : Program} {w : World} {ops : Array Oper} {rest : List Oper} {o : Oper} {a : Act} {Q : Exit → Act → World → Prop} (ty : TypeId) (x : Operand) (ho : o.op = .load ty x) (hw : Region.wanted o (yielded ops a.tmps) = true)
    {g off : Nat} {t : TypeId} {cs : List Value} {d : TypeDesc} (part : List Value) (hx : a.eval x = .pointer (some ⟨g, off, none⟩)) (hb : Bk w g t cs) (hp : (cs.drop off).take part.length = part)
    (hu : P.underlying ty = some d) (hd : d.isRow = true) (hi : (P.info? ty).map (·.size) = some part.length) (h : wpList P ops Q rest (a.put o.dst (.agg part.toArray)) w) : wpList P ops Q (o :: rest) a w := by
  unfold wpList
  rw [if_pos hw]
  refine .inl (wp_load_mid ty x ho g off hx part d (fun j v hv => ?_) hu hd hi h)
  rw [hb.cell]
  rw [← hp, List.getElem?_take] at hv
  split at hv
  · rw [List.getElem?_drop] at hv; exact hv
  · cases hv
/-- the key of the chapter's example -/
def key1 : List UInt8 := 1 :: List.replicate 15 0
theorem K16_1 : K16 key1 := rfl
set_option maxRecDepth 100000 in
theorem run_buildKey1 (w : World) : (Instr.build 61 #[(0, .int .u8 1)]).run Try.prog w = .ok (.agg (bcs key1).toArray) w := by kernel_rfl
theorem at_ex0 : atR key1 0 1 = none := by simp [atR]
theorem at_ex1 : atR key1 1 0 = some (derK key1 0) := by simp [atR]
theorem atV_none : atV none = .tuple #[.agg (bcs key0).toArray, .bool false] := rfl
theorem atV_some (k : List UInt8) : atV (some k) = .tuple #[.agg (bcs k).toArray, .bool true] := rfl

set_option maxHeartbeats 1000000 in
set_option maxRecDepth 100000 in
theorem ringAwake (w : World) : Calls Try.prog 55 #[] w (RetV w (.bool true)) := by
  have a0 := fun w => ringAt_any key1 K16_1 0 1 w (by decide) (by decide)
  have a1 := fun w => ringAt_any key1 K16_1 1 0 w (by decide) (by decide)
  simp only [at_ex0, atV_none] at a0
  simp only [at_ex1, atV_some] at a1
  have hd : K16 (derK key1 0) := K16_of _ _
  generalize derK key1 0 = dk at *
  have A0 := Lib.hid a0
  have A1 := Lib.hid a1
  clear a0 a1
  go_enter Try.func55, Try.ntmps55
  go_wp2_with (first
    | (refine at_op (.build 61 #[(0, .const (.int .u8 1))]) rfl ?_; refine wpList_build 61 [(0, .const (.int .u8 1))] rfl rfl (.agg (bcs key1).toArray) ?_ ?_; exact run_buildKey1 _)
    | (go_at_call_of 54 (Value.int IntKind.u64 0); refine (ringNew_any key1 K16_1 0 _).mono ?_; rintro e w1 ⟨bs1, d1, rfl, rfl⟩)
    | (go_at_call_of 54 (Value.int IntKind.u64 1); refine (ringNew_any key1 K16_1 1 _).mono ?_; rintro e w1 ⟨bs2, d2, rfl, rfl⟩)
    | (go_at_call_of 56 (Value.int IntKind.i64 1); refine (A0.out _).mono ?_; rintro e w1 ⟨bs3, d3, rfl, rfl⟩)
    | (go_at_call_of 56 (Value.int IntKind.i64 0); refine (A1.out _).mono ?_; rintro e w1 ⟨bs4, d4, rfl, rfl⟩)
    | (refine at_op (.store 61 (.tmp 1) (.tmp 9)) rfl ?_; refine wpList_stA (t := 61) 61 (.tmp 1) (.tmp 9) rfl rfl (bcs key0) (bcs key0) rfl (bcs_one _) rfl rfl ?_ (szKey _ K16_0) ?_; (· refine Bk.newK _ _ _ ?_ rfl; simp [size_plus]); intro w2 hb2 hg2)
    | (refine at_op (.store 61 (.tmp 3) (.tmp 15)) rfl ?_; refine wpList_stA (t := 61) 61 (.tmp 3) (.tmp 15) rfl rfl (bcs dk) (bcs key0) (by rw [bcs_length, show dk.length = 16 from hd]; rfl) (bcs_one _) rfl rfl ?_ (szKey _ hd) ?_; (· refine Bk.newK _ _ _ ?_ rfl; simp [size_plus]); intro w3 hb3 hg3))
  go_ret
  have b2 : Below w.heap.size w w2 := below_grown (by repeat (first | exact Below.refl _ _ | refine belowP ?_ _ _ | refine Below.allocS ?_ _)) hg2 (by omega)
  have z2 := b2.size
  have b3 : Below w.heap.size w w3 := below_grown (by repeat (first | exact b2 | refine belowP ?_ _ _ | refine Below.allocS ?_ _)) hg3 (by omega)
  exact RetV.mk b3

set_option maxHeartbeats 2000000 in
set_option maxRecDepth 100000 in
theorem ringKeeps_walk (w : World) (key : List UInt8) (hk : K16 key) (n : Nat) (hn : n < 18446744073709551616) : Calls Try.prog 13 #[.agg (ringC key n).toArray] w fun e w' => e = .returned (.bool true) ∧ Below w.heap.size w w' := by
  have q := ringC_16 key hk n
  obtain ⟨dk, u1, u2, u3⟩ := rowKey
  obtain ⟨da, x1, x2, x3⟩ := row16
  obtain ⟨dr, v1, v2, v3⟩ := rowRing
  have hb0 : Bk (w.alloc (.cells (ringC key n).toArray 97)) w.heap.size 97 (ringC key n) := Bk.new w 97 (ringC key n).toArray
  go_enter Try.func13, Try.ntmps13
  go_upto_region 2 with (first
    | (refine at_op (.load 40 (.tmp 8)) rfl ?_; refine wpList_ldA (t := 97) 40 (.tmp 8) rfl rfl (bcs key) rfl hb0 (ringC_key key n) x1 x2 (szArr key hk) ?_)
    | (go_at_call 54; refine (ringNew_any key hk n _).mono ?_; rintro e w1 ⟨bs1, d1, rfl, rfl⟩)
    | (refine at_op (.store 99 (.tmp 3) (.tmp 12)) rfl ?_; refine wpList_stA (t := 99) 99 (.tmp 3) (.tmp 12) rfl rfl (ringC key n) ring0 (by rw [ringC_length key hk]; rfl) (ringC_one key n) rfl rfl ?_ (szRing key hk n) ?_; (· refine Bk.newK _ _ _ ?_ rfl; simp [size_plus]); intro w2 hb2 hg2))
  have hbR : Bk w2 w.heap.size 97 (ringC key n) := ((hb0.later (below_plus _ bs1 d1)).alloc _).grown hg2 (by simp; omega)
  have q2 : w2.cell? ⟨w.heap.size, 16, none⟩ = some (.int .u64 (n : Int)) := by rw [hbR.cell]; exact q
  have b2 : Below w.heap.size w w2 := below_grown (by repeat (first | exact Below.refl _ _ | refine belowP ?_ _ _ | refine Below.allocS ?_ _)) hg2 (by omega)
  have hgw : w.heap.size ≤ w.heap.size + 1 + bs1.length := by omega
  clear hg2 hbR hb0
  generalize w.heap.size + 1 + bs1.length = g at *
  by_cases hmax : n = 18446744073709551615
  · have t1 : ((n : Int) == 18446744073709551615) = true := beq_iff_eq.2 (by omega)
    clear hmax
    go_wp2_with (go_at_call 55; refine (ringAwake _).mono ?_; rintro e w9 ⟨bs9, d9, rfl, rfl⟩)
    go_ret
    exact ⟨rfl, belowP b2 _ _⟩
  · have t1 : ((n : Int) == 18446744073709551615) = false := beq_eq_false_iff_ne.2 (by omega)
    have hn1 : n + 1 < 18446744073709551616 := by omega
    have HNX := Lib.hid (fun w => ringNext_any key hk n w hn)
    rw [Nat.mod_eq_of_lt hn1] at HNX
    have HAT := Lib.hid (fun w => ringAt_then key hk (n + 1) ((n % 2 : Nat) : Int) w hn1 (by omega) (by omega))
    rw [Nat.add_sub_cancel] at HAT
    have hkd : K16 (derK key n) := K16_of _ _
    have hld : (bcs (derK key n)).length = (bcs key0).length := by rw [derK_length]; rfl
    clear hmax
    go_wp2
    refine wp_relE 8 44 [4, 5, 6] rfl (by kernel_rfl) (by kernel_rfl) (fun i => match i with | 0 => MP.eq (.agg (ringC key n).toArray) | 1 => MP.eq (.agg (ringC key n).toArray) | 2 => MP.eq (.int .i64 ((n % 2 : Nat) : Int)) | 3 => MP.eq (.tuple #[.agg (bcs (derK key n)).toArray, .bool true]) | 4 => MP.eq (.tuple #[.agg (bcs (derK key n)).toArray, .bool true]) | 5 => MP.eq (.agg (bcs (derK key n)).toArray) | 6 => MP.eq (.bool true) | 7 => MP.blk w2.heap.size 61 (bcs key0) | _ => MP.any) ?_ ?_
    · intro i hi o ho A x hO hD
      match i, hi, ho, hO, hD with
      | 0, _, ho, hO, hD => 
        obtain rfl := Option.some.inj ho.symm
        clear ho
        have ev3 : A.eval (.tmp 3) = .pointer (some ⟨g, 0, none⟩) := hO 3 (by kernel_rfl)
        have e3 : A.tmps[3]?.getD undef = .pointer (some ⟨g, 0, none⟩) := by simpa [Act.eval] using ev3
        replace ev3 := Lib.hid ev3
        clear hO hD
        rw [if_neg (by decide)]
        intro K hK
        refine wanted_if rfl ?_
        refine wp_load_mid 99 (.tmp 3) rfl g 0 ev3.out (ringC key n) dr (Bk.range (hb2.later (below_plus _ _ _))) v1 v2 (szRing key hk n) ?_
        exact hK.out _ _ (Ex.refl _) rfl
      | 1, _, ho, hO, hD => 
        obtain rfl := Option.some.inj ho.symm
        clear ho
        have ev3 : A.eval (.tmp 3) = .pointer (some ⟨g, 0, none⟩) := hO 3 (by kernel_rfl)
        have e3 : A.tmps[3]?.getD undef = .pointer (some ⟨g, 0, none⟩) := by simpa [Act.eval] using ev3
        replace ev3 := Lib.hid ev3
        clear hO hD
        rw [if_neg (by decide)]
        intro K hK
        refine wanted_if rfl ?_
        refine wp_load_mid 99 (.tmp 3) rfl g 0 ev3.out (ringC key n) dr (Bk.range (hb2.later (below_plus _ _ _))) v1 v2 (szRing key hk n) ?_
        exact hK.out _ _ (Ex.refl _) rfl
      | 2, _, ho, hO, hD => 
        obtain rfl := Option.some.inj ho.symm
        clear ho
        have ev19 : A.eval (.tmp 19) = .agg (ringC key n).toArray := hD 1 19 (by kernel_rfl)
        have e19 : A.tmps[19]?.getD undef = .agg (ringC key n).toArray := by simpa [Act.eval] using ev19
        replace ev19 := Lib.hid ev19
        clear hO hD
        rw [if_neg (by decide)]
        intro K hK
        go_simp
        refine (ringBit_any key hk n _ hn).mono ?_
        rintro e w1 ⟨bs2, d2, rfl, rfl⟩
        exact hK.out _ _ (Ex.plus_ _ _ _) rfl
      | 3, _, ho, hO, hD => 
        obtain rfl := Option.some.inj ho.symm
        clear ho
        have ev18 : A.eval (.tmp 18) = .agg (ringC key n).toArray := hD 0 18 (by kernel_rfl)
        have e18 : A.tmps[18]?.getD undef = .agg (ringC key n).toArray := by simpa [Act.eval] using ev18
        replace ev18 := Lib.hid ev18
        have ev20 : A.eval (.tmp 20) = .int .i64 ((n % 2 : Nat) : Int) := hD 2 20 (by kernel_rfl)
        have e20 : A.tmps[20]?.getD undef = .int .i64 ((n % 2 : Nat) : Int) := by simpa [Act.eval] using ev20
        replace ev20 := Lib.hid ev20
        clear hO hD
        rw [if_neg (by decide)]
        intro K hK
        go_simp
        refine (ringAt_now key hk n _ _ hn rfl).mono ?_
        rintro e w1 ⟨bs2, d2, rfl, rfl⟩
        exact hK.out _ _ (Ex.plus_ _ _ _) rfl
      | 4, _, ho, hO, hD => 
        obtain rfl := Option.some.inj ho.symm
        clear ho
        have ev21 : A.eval (.tmp 21) = .tuple #[.agg (bcs (derK key n)).toArray, .bool true] := hD 3 21 (by kernel_rfl)
        have e21 : A.tmps[21]?.getD undef = .tuple #[.agg (bcs (derK key n)).toArray, .bool true] := by simpa [Act.eval] using ev21
        replace ev21 := Lib.hid ev21
        clear hO hD
        rw [if_pos (by decide)]
        refine ⟨.tuple #[.agg (bcs (derK key n)).toArray, .bool true], .inl ⟨by simp [Region.wanted], fun w => ?_⟩, rfl⟩
        go_simp
      | 5, _, ho, hO, hD => 
        obtain rfl := Option.some.inj ho.symm
        clear ho
        have ev17 : A.eval (.tmp 17) = .tuple #[.agg (bcs (derK key n)).toArray, .bool true] := hD 4 17 (by kernel_rfl)
        have e17 : A.tmps[17]?.getD undef = .tuple #[.agg (bcs (derK key n)).toArray, .bool true] := by simpa [Act.eval] using ev17
        replace ev17 := Lib.hid ev17
        clear hO hD
        rw [if_pos (by decide)]
        refine ⟨.agg (bcs (derK key n)).toArray, .inl ⟨by simp [Region.wanted], fun w => ?_⟩, rfl⟩
        go_simp
      | 6, _, ho, hO, hD => 
        obtain rfl := Option.some.inj ho.symm
        clear ho
        have ev17 : A.eval (.tmp 17) = .tuple #[.agg (bcs (derK key n)).toArray, .bool true] := hD 4 17 (by kernel_rfl)
        have e17 : A.tmps[17]?.getD undef = .tuple #[.agg (bcs (derK key n)).toArray, .bool true] := by simpa [Act.eval] using ev17
        replace ev17 := Lib.hid ev17
        clear hO hD
        rw [if_pos (by decide)]
        refine ⟨.bool true, .inl ⟨by simp [Region.wanted], fun w => ?_⟩, rfl⟩
        go_simp
      | 7, _, ho, hO, hD => 
        obtain rfl := Option.some.inj ho.symm
        clear ho
        clear hO hD
        rw [if_neg (by decide)]
        intro K hK
        go_simp
        refine hK.out _ _ (Ex.alloc _ _) ⟨_, rfl, ?_, ?_⟩
        · simp [size_plus]
        · refine Bk.newK _ _ _ ?_ rfl
          simp [size_plus]
      | (k + 8), hi, _, _, _ => exact absurd hi (by omega)
    intro vs x hp
    have p0 : vs 0 = .agg (ringC key n).toArray := hp 0 (by omega)
    have p1 : vs 1 = .agg (ringC key n).toArray := hp 1 (by omega)
    have p2 : vs 2 = .int .i64 ((n % 2 : Nat) : Int) := hp 2 (by omega)
    have p3 : vs 3 = .tuple #[.agg (bcs (derK key n)).toArray, .bool true] := hp 3 (by omega)
    have p4 : vs 4 = .tuple #[.agg (bcs (derK key n)).toArray, .bool true] := hp 4 (by omega)
    have p5 : vs 5 = .agg (bcs (derK key n)).toArray := hp 5 (by omega)
    have p6 : vs 6 = .bool true := hp 6 (by omega)
    have p7 := hp 7 (by omega)
    clear hp
    simp only [List.take_succ_cons, List.take_zero, List.drop_succ_cons, List.drop_zero, putAll, Nat.zero_add, Nat.reduceAdd, Act.put, List.setIfInBounds_toArray, List.set_cons_zero, List.set_cons_succ, p0, p1, p2, p3, p4, p5, p6]
    clear p0 p1 p2 p3 p4 p5 p6
    generalize vs 7 = y7 at *
    clear vs
    obtain ⟨g4, rfl, hg4, hb4⟩ := p7
    go_upto_region 5 with (refine at_op (.store 61 (.tmp 4) (.tmp 22)) rfl ?_; refine wpList_stA (t := 61) 61 (.tmp 4) (.tmp 22) rfl rfl (bcs (derK key n)) (bcs key0) hld (bcs_one _) rfl rfl hb4 (szKey _ hkd) ?_; intro w4 hb4' hgr4)
    refine NoPanic.normal ?_
    have hb3 : Bk w4 g 99 (ringC key n) := (hb2.later (below_plus _ x.bs x.d)).grown hgr4 (by have := hb2.lt; simp; omega)
    have b4 : Below w.heap.size w w4 := below_grown (belowP b2 _ _) hgr4 (by have := b2.size; omega)
    have hg44 : g4 < w4.heap.size := hb4'.lt
    have z2 := b2.size
    clear hb2 hgr4 hb4 b2 q2
    go_wp2
    refine wp_relE 9 44 [5, 6, 7] rfl (by kernel_rfl) (by kernel_rfl) (fun i => match i with | 0 => MP.eq (.agg (ringC key n).toArray) | 1 => MP.eq (.agg (ringC key (n + 1)).toArray) | 2 => MP.eq (.agg (ringC key n).toArray) | 3 => MP.eq (.int .i64 ((n % 2 : Nat) : Int)) | 4 => MP.eq (.tuple #[.agg (bcs (derK key n)).toArray, .bool true]) | 5 => MP.eq (.tuple #[.agg (bcs (derK key n)).toArray, .bool true]) | 6 => MP.eq (.agg (bcs (derK key n)).toArray) | 7 => MP.eq (.bool true) | 8 => MP.blk w4.heap.size 61 (bcs key0) | _ => MP.any) ?_ ?_
    · intro i hi o ho A x hO hD
      match i, hi, ho, hO, hD with
      | 0, _, ho, hO, hD => 
        obtain rfl := Option.some.inj ho.symm
        clear ho
        have ev3 : A.eval (.tmp 3) = .pointer (some ⟨g, 0, none⟩) := hO 3 (by kernel_rfl)
        have e3 : A.tmps[3]?.getD undef = .pointer (some ⟨g, 0, none⟩) := by simpa [Act.eval] using ev3
        replace ev3 := Lib.hid ev3
        clear hO hD
        rw [if_neg (by decide)]
        intro K hK
        refine wanted_if rfl ?_
        refine wp_load_mid 99 (.tmp 3) rfl g 0 ev3.out (ringC key n) dr (Bk.range (hb3.later (below_plus _ _ _))) v1 v2 (szRing key hk n) ?_
        exact hK.out _ _ (Ex.refl _) rfl
      | 1, _, ho, hO, hD => 
        obtain rfl := Option.some.inj ho.symm
        clear ho
        have ev25 : A.eval (.tmp 25) = .agg (ringC key n).toArray := hD 0 25 (by kernel_rfl)
        have e25 : A.tmps[25]?.getD undef = .agg (ringC key n).toArray := by simpa [Act.eval] using ev25
        replace ev25 := Lib.hid ev25
        clear hO hD
        rw [if_neg (by decide)]
        intro K hK
        go_simp
        refine (HNX.out _).mono ?_
        rintro e w1 ⟨bs2, d2, rfl, rfl⟩
        exact hK.out _ _ (Ex.plus_ _ _ _) rfl
      | 2, _, ho, hO, hD => 
        obtain rfl := Option.some.inj ho.symm
        clear ho
        have ev3 : A.eval (.tmp 3) = .pointer (some ⟨g, 0, none⟩) := hO 3 (by kernel_rfl)
        have e3 : A.tmps[3]?.getD undef = .pointer (some ⟨g, 0, none⟩) := by simpa [Act.eval] using ev3
        replace ev3 := Lib.hid ev3
        clear hO hD
        rw [if_neg (by decide)]
        intro K hK
        refine wanted_if rfl ?_
        refine wp_load_mid 99 (.tmp 3) rfl g 0 ev3.out (ringC key n) dr (Bk.range (hb3.later (below_plus _ _ _))) v1 v2 (szRing key hk n) ?_
        exact hK.out _ _ (Ex.refl _) rfl
      | 3, _, ho, hO, hD => 
        obtain rfl := Option.some.inj ho.symm
        clear ho
        have ev27 : A.eval (.tmp 27) = .agg (ringC key n).toArray := hD 2 27 (by kernel_rfl)
        have e27 : A.tmps[27]?.getD undef = .agg (ringC key n).toArray := by simpa [Act.eval] using ev27
        replace ev27 := Lib.hid ev27
        clear hO hD
        rw [if_neg (by decide)]
        intro K hK
        go_simp
        refine (ringBit_any key hk n _ hn).mono ?_
        rintro e w1 ⟨bs2, d2, rfl, rfl⟩
        exact hK.out _ _ (Ex.plus_ _ _ _) rfl
      | 4, _, ho, hO, hD => 
        obtain rfl := Option.some.inj ho.symm
        clear ho
        have ev26 : A.eval (.tmp 26) = .agg (ringC key (n + 1)).toArray := hD 1 26 (by kernel_rfl)
        have e26 : A.tmps[26]?.getD undef = .agg (ringC key (n + 1)).toArray := by simpa [Act.eval] using ev26
        replace ev26 := Lib.hid ev26
        have ev28 : A.eval (.tmp 28) = .int .i64 ((n % 2 : Nat) : Int) := hD 3 28 (by kernel_rfl)
        have e28 : A.tmps[28]?.getD undef = .int .i64 ((n % 2 : Nat) : Int) := by simpa [Act.eval] using ev28
        replace ev28 := Lib.hid ev28
        clear hO hD
        rw [if_neg (by decide)]
        intro K hK
        go_simp
        refine (HAT.out _).mono ?_
        rintro e w1 ⟨bs2, d2, rfl, rfl⟩
        exact hK.out _ _ (Ex.plus_ _ _ _) rfl
      | 5, _, ho, hO, hD => 
        obtain rfl := Option.some.inj ho.symm
        clear ho
        have ev29 : A.eval (.tmp 29) = .tuple #[.agg (bcs (derK key n)).toArray, .bool true] := hD 4 29 (by kernel_rfl)
        have e29 : A.tmps[29]?.getD undef = .tuple #[.agg (bcs (derK key n)).toArray, .bool true] := by simpa [Act.eval] using ev29
        replace ev29 := Lib.hid ev29
        clear hO hD
        rw [if_pos (by decide)]
        refine ⟨.tuple #[.agg (bcs (derK key n)).toArray, .bool true], .inl ⟨by simp [Region.wanted], fun w => ?_⟩, rfl⟩
        go_simp
      | 6, _, ho, hO, hD => 
        obtain rfl := Option.some.inj ho.symm
        clear ho
        have ev24 : A.eval (.tmp 24) = .tuple #[.agg (bcs (derK key n)).toArray, .bool true] := hD 5 24 (by kernel_rfl)
        have e24 : A.tmps[24]?.getD undef = .tuple #[.agg (bcs (derK key n)).toArray, .bool true] := by simpa [Act.eval] using ev24
        replace ev24 := Lib.hid ev24
        clear hO hD
        rw [if_pos (by decide)]
        refine ⟨.agg (bcs (derK key n)).toArray, .inl ⟨by simp [Region.wanted], fun w => ?_⟩, rfl⟩
        go_simp
      | 7, _, ho, hO, hD => 
        obtain rfl := Option.some.inj ho.symm
        clear ho
        have ev24 : A.eval (.tmp 24) = .tuple #[.agg (bcs (derK key n)).toArray, .bool true] := hD 5 24 (by kernel_rfl)
        have e24 : A.tmps[24]?.getD undef = .tuple #[.agg (bcs (derK key n)).toArray, .bool true] := by simpa [Act.eval] using ev24
        replace ev24 := Lib.hid ev24
        clear hO hD
        rw [if_pos (by decide)]
        refine ⟨.bool true, .inl ⟨by simp [Region.wanted], fun w => ?_⟩, rfl⟩
        go_simp
      | 8, _, ho, hO, hD => 
        obtain rfl := Option.some.inj ho.symm
        clear ho
        clear hO hD
        rw [if_neg (by decide)]
        intro K hK
        go_simp
        refine hK.out _ _ (Ex.alloc _ _) ⟨_, rfl, ?_, ?_⟩
        · simp [size_plus]
        · refine Bk.newK _ _ _ ?_ rfl
          simp [size_plus]
      | (k + 9), hi, _, _, _ => exact absurd hi (by omega)
    intro vs x hp
    have p0 : vs 0 = .agg (ringC key n).toArray := hp 0 (by omega)
    have p1 : vs 1 = .agg (ringC key (n + 1)).toArray := hp 1 (by omega)
    have p2 : vs 2 = .agg (ringC key n).toArray := hp 2 (by omega)
    have p3 : vs 3 = .int .i64 ((n % 2 : Nat) : Int) := hp 3 (by omega)
    have p4 : vs 4 = .tuple #[.agg (bcs (derK key n)).toArray, .bool true] := hp 4 (by omega)
    have p5 : vs 5 = .tuple #[.agg (bcs (derK key n)).toArray, .bool true] := hp 5 (by omega)
    have p6 : vs 6 = .agg (bcs (derK key n)).toArray := hp 6 (by omega)
    have p7 : vs 7 = .bool true := hp 7 (by omega)
    have p8 := hp 8 (by omega)
    clear hp
    simp only [List.take_succ_cons, List.take_zero, List.drop_succ_cons, List.drop_zero, putAll, Nat.zero_add, Nat.reduceAdd, Act.put, List.setIfInBounds_toArray, List.set_cons_zero, List.set_cons_succ, p0, p1, p2, p3, p4, p5, p6, p7]
    clear p0 p1 p2 p3 p4 p5 p6 p7
    generalize vs 8 = y8 at *
    clear vs
    obtain ⟨g6, rfl, hg6, hb6⟩ := p8
    go_upto_region 6 with (refine at_op (.store 61 (.tmp 6) (.tmp 30)) rfl ?_; refine wpList_stA (t := 61) 61 (.tmp 6) (.tmp 30) rfl rfl (bcs (derK key n)) (bcs key0) hld (bcs_one _) rfl rfl hb6 (szKey _ hkd) ?_; intro w6 hb6' hgr6)
    refine NoPanic.normal ?_
    have hb7 : Bk w6 g4 61 (bcs (derK key n)) := (hb4'.later (below_plus _ x.bs x.d)).grown hgr6 (by simp; omega)
    have b6 : Below w.heap.size w w6 := below_grown (belowP b4 _ _) hgr6 (by omega)
    clear hgr6 b4 hb4'
    go_wp2_with (first
      | (refine at_op (.load 61 (.tmp 4)) rfl ?_; refine wpList_ldG (t := 61) 61 (.tmp 4) rfl rfl (bcs (derK key n)) rfl hb7 (bcs_whole _) u1 u2 (szKey _ hkd) ?_)
      | (refine at_op (.load 61 (.tmp 6)) rfl ?_; refine wpList_ldG (t := 61) 61 (.tmp 6) rfl rfl (bcs (derK key n)) rfl hb6' (bcs_whole _) u1 u2 (szKey _ hkd) ?_)
      | (go_at_call 55; refine (ringAwake _).mono ?_; rintro e w9 ⟨bs9, d9, rfl, rfl⟩))
    go_ret
    exact ⟨rfl, belowP b6 _ _⟩
end Go.Proofs.Ytdaicdjjdmgobaa
