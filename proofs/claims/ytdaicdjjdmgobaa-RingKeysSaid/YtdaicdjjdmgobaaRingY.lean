/- The law RingKeys (chapter 11). -/
import Derived.Test.YtdaicdjjdmgobaaRingO
namespace Go.Proofs.Ytdaicdjjdmgobaa
open Go.RowKit
set_option linter.unusedVariables false
set_option linter.unusedSimpArgs false
attribute [local go_sem ↓] sliced_cut
attribute [local go_sem] cutA_zero
attribute [local go_sem ↓] eql_key eql_key' neq_key neq_key'

/-- a whole aggregate out of a block, in a region that draws its order -/
theorem quiet_ldA {P : Program} {C : World → Prop} {K : Act → Prop} {a : Act} {o : Oper} (ty : TypeId) (x : Operand) (ho : o.op = .load ty x) {g off : Nat} {t : TypeId} {d : TypeDesc} {cs : List Value} (part : List Value) (hx : a.eval x = .pointer (some ⟨g, off, none⟩))
    (hb : ∀ w', C w' → Bk w' g t cs) (hp : (cs.drop off).take part.length = part) (hu : P.underlying ty = some d) (hd : d.isRow = true) (hi : (P.info? ty).map (·.size) = some part.length) (h : K (a.put o.dst (.agg part.toArray))) : o.quiet P a C K := by
  refine ⟨_, fun w hw => ?_, h⟩
  unfold Oper.quietAt execOp
  simp only [ho, hx, run_loadAt_mid w g off ty part d (fun j v hv => by
    rw [(hb w hw).cell]
    rw [← hp, List.getElem?_take] at hv
    split at hv
    · rw [List.getElem?_drop] at hv; exact hv
    · cases hv) hu hd hi, Sem.run_bind, Sem.run_pure, Result.andThen_ok]
  exact ⟨rfl, rfl⟩
/-- is it this operation? (in a quiet walk) -/
theorem at_opQ {P : Program} {C : World → Prop} {K : Act → Prop} {a : Act} {o : Oper} (op : Op) (h : o.op = op) (x : o.quiet P a C K) : o.quiet P a C K := x

set_option maxHeartbeats 2000000 in
set_option maxRecDepth 100000 in
theorem ringKeys_walk (w : World) (key : List UInt8) (hk : K16 key) (n : Nat) (hn : n < 18446744073709551616) (bit : Int) (hbit : -9223372036854775808 ≤ bit ∧ bit ≤ 9223372036854775807) :
    Calls Try.prog 14 #[.agg (ringC key n).toArray, .int .i64 bit] w fun e w' => e = .returned (.bool true) ∧ Below w.heap.size w w' := by
  have q := ringC_16 key hk n
  obtain ⟨dk, u1, u2, u3⟩ := rowKey
  obtain ⟨da, x1, x2, x3⟩ := row16
  obtain ⟨dr, v1, v2, v3⟩ := rowRing
  obtain ⟨ds, y1, y2, y3⟩ : ∃ d, Try.prog.underlying 97 = some d ∧ d.isRow = true ∧ (Try.prog.info? 97).map (·.size) = some 17 := ⟨_, Try.underlying97, rfl, by kernel_rfl⟩
  have y4 : (Try.prog.info? 97).map (·.size) = some (ringC key n).length := by rw [ringC_length key hk n]; exact y3
  have hb0 : Bk (w.alloc (.cells (ringC key n).toArray 97)) w.heap.size 97 (ringC key n) := Bk.new w 97 (ringC key n).toArray
  go_enter Try.func14, Try.ntmps14
  go_upto_region 2 with (first
    | (refine at_op (.load 40 (.tmp 12)) rfl ?_; refine wpList_ldA (t := 97) 40 (.tmp 12) rfl rfl (bcs key) rfl hb0 (ringC_key key n) x1 x2 (szArr key hk) ?_)
    | (go_at_call 54; refine (ringNew_any key hk n _).mono ?_; rintro e w1 ⟨bs1, d1, rfl, rfl⟩)
    | (refine at_op (.store 99 (.tmp 5) (.tmp 16)) rfl ?_; refine wpList_stA (t := 99) 99 (.tmp 5) (.tmp 16) rfl rfl (ringC key n) ring0 (by rw [ringC_length key hk]; rfl) (ringC_one key n) rfl rfl ?_ (szRing key hk n) ?_; (· refine Bk.newK _ _ _ ?_ rfl; simp [size_plus]); intro w2 hb2 hg2))
  have hbR : Bk w2 w.heap.size 97 (ringC key n) := ((hb0.later (below_plus _ bs1 d1)).alloc _).grown hg2 (by simp; omega)
  have b2 : Below w.heap.size w w2 := below_grown (by repeat (first | exact Below.refl _ _ | refine belowP ?_ _ _ | refine Below.allocS ?_ _)) hg2 (by omega)
  clear hg2 hb0
  have hgB : w.heap.size < w.heap.size + 1 + bs1.length := by omega
  generalize w.heap.size + 1 + bs1.length = g at *
  go_wp2
  have hbS : Bk (w2.alloc (.cells #[.int .i64 0, .int .i64 1, .int .i64 bit] 3)) w2.heap.size 3 [.int .i64 0, .int .i64 1, .int .i64 bit] := Bk.new w2 3 #[.int .i64 0, .int .i64 1, .int .i64 bit]
  have hbX := hb2.alloc (.cells #[.int .i64 0, .int .i64 1, .int .i64 bit] 3)
  have hbR' := hbR.alloc (.cells #[.int .i64 0, .int .i64 1, .int .i64 bit] 3)
  have b3 := Below.allocS b2 (.cells #[.int .i64 0, .int .i64 1, .int .i64 bit] 3)
  have hlt2 := hb2.lt
  have hltR := hbR.lt
  generalize w2.alloc (.cells #[.int .i64 0, .int .i64 1, .int .i64 bit] 3) = w3 at *
  generalize w2.heap.size = gs at *
  have HBS := Lib.hid hbS
  have HBX := Lib.hid hbX
  have HBR := Lib.hid hbR'
  have HB3 := Lib.hid b3
  clear hbS hbX hbR' b3 b2 hbR hb2
  go_loopw [20] (fun i wr => ∃ j : Nat, j ≤ 3 ∧ i = .int .i64 j ∧ Bk wr g 99 (ringC key n) ∧ Bk wr w.heap.size 97 (ringC key n) ∧ Bk wr gs 3 [.int .i64 0, .int .i64 1, .int .i64 bit] ∧ Below w.heap.size w wr) (fun i _ => 3 - (intOf i).toNat)
  case atStart => exact ⟨0, by omega, rfl, HBX.out, HBR.out, HBS.out, HB3.out⟩
  case round =>
    obtain ⟨j, hj, rfl, hx4, hr4, hs4, b4⟩ := hrel
    have l1 := hx4.lt
    have l2 := hr4.lt
    have l3 := hs4.lt
    by_cases hlt : j < 3
    · obtain ⟨b, hb, hbr⟩ : ∃ b : Int, [Value.int .i64 0, .int .i64 1, .int .i64 bit][j]? = some (.int .i64 b) ∧ (-9223372036854775808 ≤ b ∧ b ≤ 9223372036854775807) := by
        rcases (show j = 0 ∨ j = 1 ∨ j = 2 by omega) with rfl | rfl | rfl
        · exact ⟨0, rfl, by omega⟩
        · exact ⟨1, rfl, by omega⟩
        · exact ⟨bit, rfl, hbit⟩
      have hcj : wr.cell? ⟨gs, j, none⟩ = some (.int .i64 b) := by rw [hs4.cell]; exact hb
      have HA := fun w => ringAt_any key hk n b w hn hbr
      have HB := fun w => refAt_any key hk n b w hn hbr
      have hkk := K16_at key n b
      unfold atV at HA HB
      generalize (atR key n b).getD key0 = kk at *
      generalize (atR key n b).isSome = ok at *
      have HA' := Lib.hid HA
      have HB' := Lib.hid HB
      have hlk : (bcs kk).length = (bcs key0).length := by rw [bcs_length, show kk.length = 16 from hkk]; rfl
      clear HA HB hb
      go_wp2_with (first
        | (refine at_op (.load 99 (.tmp 5)) rfl ?_; refine wpList_ldA (t := 99) 99 (.tmp 5) rfl rfl (ringC key n) rfl hx4 (ringC_whole key n) v1 v2 (szRing key hk n) ?_)
        | (go_at_call 56; refine (HA'.out _).mono ?_; rintro e w5 ⟨bs5, d5, rfl, rfl⟩)
        | (refine at_op (.store 61 (.tmp 8) (.tmp 28)) rfl ?_; refine wpList_stA (t := 61) 61 (.tmp 8) (.tmp 28) rfl rfl (bcs kk) (bcs key0) hlk (bcs_one _) rfl rfl ?_ (szKey _ hkk) ?_; (· refine Bk.newK _ _ _ ?_ rfl; simp [size_plus]); intro w6 hk6 hg6; have hr6 := ((hr4.later (below_plus _ bs5 d5)).alloc _).grown hg6 (by simp; omega))
        | (refine at_op (.load 97 (.tmp 2)) rfl ?_; refine wpList_ldA (t := 97) 97 (.tmp 2) rfl rfl (ringC key n) rfl hr6 (ringC_whole key n) y1 y2 y4 ?_)
        | (go_at_call 59; refine (HB'.out _).mono ?_; rintro e w7 ⟨bs7, d7, rfl, rfl⟩)
        | (refine at_op (.store 40 (.tmp 10) (.tmp 34)) rfl ?_; refine wpList_stA (t := 40) 40 (.tmp 10) (.tmp 34) rfl rfl (bcs kk) (bcs key0) hlk (bcs_one _) rfl rfl ?_ (szArr _ hkk) ?_; (· refine Bk.newK _ _ _ ?_ rfl; simp [size_plus]); intro w8 hk8 hg8; have hk6' := ((hk6.later (below_plus _ bs7 d7)).alloc _).grown hg8 (by have := hk6.lt; simp; omega))
        | (refine at_op (.load 61 (.tmp 8)) rfl ?_; refine wpList_ldA (t := 61) 61 (.tmp 8) rfl rfl (bcs kk) rfl hk6' (bcs_whole _) u1 u2 (szKey _ hkk) ?_)
        | (refine at_op (.load 40 (.tmp 10)) rfl ?_; refine wpList_ldA (t := 40) 40 (.tmp 10) rfl rfl (bcs kk) rfl hk8 (bcs_whole _) x1 x2 (szArr _ hkk) ?_))
      have b6 : Below w.heap.size w w6 := below_grown (Below.allocS (belowP b4 _ _) _) hg6 (by have := b4.size; omega)
      have b8 : Below w.heap.size w w8 := below_grown (Below.allocS (belowP b6 _ _) _) hg8 (by have := b6.size; omega)
      have go : ∀ {gg : Nat} {t : TypeId} {cs : List Value}, Bk wr gg t cs → Bk w8 gg t cs := fun {gg t cs} h => by
        have h6 : Bk w6 gg t cs := ((h.later (below_plus _ bs5 d5)).alloc _).grown hg6 (by have := h.lt; simp; omega)
        exact ((h6.later (below_plus _ bs7 d7)).alloc _).grown hg8 (by have := h6.lt; simp; omega)
      exact ⟨⟨j + 1, by omega, by go_num, go hx4, go hr4, go hs4, b8⟩, by simp [intOf]; omega⟩
    · obtain rfl : j = 3 := by omega
      have q4 : wr.cell? ⟨w.heap.size, 16, none⟩ = some (.int .u64 (n : Int)) := by rw [hr4.cell]; exact q
      have e1 : IntKind.u64.wrap ((n : Int) + 1) = (((n + 1) % 18446744073709551616 : Nat) : Int) := by rw [IntKind.wrap_u64]; omega
      have HNX := fun w => ringNext_any key hk n w hn
      have HBT := fun w => ringBit_any key hk n w hn
      have hm2 : n % 2 < 2 := Nat.mod_lt _ (by decide)
      have e2 : (n : Int) % 2 = ((n % 2 : Nat) : Int) := by omega
      generalize (n + 1) % 18446744073709551616 = n2 at *
      generalize n % 2 = m at *
      have HNX' := Lib.hid HNX
      have HBT' := Lib.hid HBT
      clear HNX HBT
      go_wp2
      refine wp_plus (by kernel_rfl) (by kernel_rfl) ?_
      repeat (first
        | (go_big_quiet_want; refine at_opQ (.load 99 (.tmp 5)) rfl ?_; refine quiet_ldA (t := 99) 99 (.tmp 5) rfl (ringC key n) rfl (fun w' hw' => by obtain ⟨x, rfl⟩ := hw'; exact hx4.later (below_plus _ _ _)) (ringC_whole key n) v1 v2 (szRing key hk n) ?_; simp only [Act.put, List.setIfInBounds_toArray, List.set_cons_zero, List.set_cons_succ]; go_big_quiet_on)
        | go_big_quiet_step (first
          | (go_at_call 60; exact callP (ringEpoch_any key hk _ _))
          | (go_at_call 57; exact callP (HBT'.out _))
          | (go_at_call 58; exact callP (HNX'.out _))
          | (go_at_call 55; exact callP (ringAwake _))))
      refine wpQuiet_nil ?_
      rintro _ ⟨x, rfl⟩
      go_wp2
      go_ret
      exact ⟨rfl, belowP b4 _ _⟩
end Go.Proofs.Ytdaicdjjdmgobaa
