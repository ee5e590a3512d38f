/- The reference's Sum of siphash. -/
import Derived.Test.YtldecdeiibfekaaSipR
import Derived.Test.YtldecdeiibfekaaSipP
namespace Go.Proofs.Ytldecdeiibfekaa
open Go.RowKit
set_option linter.unusedVariables false
attribute [local go_sem ↓] sliced_cut
attribute [local go_sem] cutA_zero wadd wxor xc1 xc2 xc3 xc4 xc5

set_option maxHeartbeats 2000000 in
set_option maxRecDepth 100000 in
theorem refSum_any (key : List UInt8) (hk : K16 key) (A : Option Addr) (n c : Nat) (l : List UInt8) (w : World) (hr : Rb w A n c l) (hm : n ≤ 549755813888) : Calls Try.prog 161 #[.agg (bcs key).toArray, .slice A n c] w
    (RetV w (.int .u64 ((sip key l).toNat : Int))) := by
  have hrb := fun t => (key_rb (w := w) hk t).take (k := 8) (by omega)
  have hrc := fun t => key_rb8 (w := w) hk t
  go_enter Try.func161, Try.ntmps161
  go_wp2_with fail
  go_quiet ((go_at_call 181; exact quiet_same (refLittle_any _ _ _ _ (by with_reducible first | exact (hrb _).drewN _ | exact (hrc _).drewN _))))
  go_wp2_with (at_builtin; refine wpList_app0 bt rfl (.tmp 24) (.tmp 25) rfl rfl (by simp) rfl (((hr.alloc _).drewN _).alloc _) (by omega) ?_; intro A1 n1 c1 bs1 d1 ho1)
  obtain ⟨v, hv⟩ : ∃ v, v = begin4 key := ⟨_, rfl⟩
  have hb0 : Bk (((w.alloc (.cells (bcs key).toArray 49)).drewN nq).alloc (.cells #[.int .u64 ((uxor (lit (List.take 8 key)) 8317987319222330741).toNat : Int), .int .u64 ((uxor (lit (List.drop 8 key)) 7237128888997146477).toNat : Int), .int .u64 ((uxor (lit (List.take 8 key)) 7816392313619706465).toNat : Int), .int .u64 ((uxor (lit (List.drop 8 key)) 8387220255154660723).toNat : Int)] 251)) (w.heap.size + 1) 251 v.cells := by
    rw [hv]
    have := Bk.new ((w.alloc (.cells (bcs key).toArray 49)).drewN nq) 251 (begin4 key).cells.toArray
    rw [show (((w.alloc (.cells (bcs key).toArray 49)).drewN nq)).heap.size = w.heap.size + 1 by simp] at this
    exact this
  have hbe : Below w.heap.size w (((w.alloc (.cells (bcs key).toArray 49)).drewN nq).alloc (.cells #[.int .u64 ((uxor (lit (List.take 8 key)) 8317987319222330741).toNat : Int), .int .u64 ((uxor (lit (List.drop 8 key)) 7237128888997146477).toNat : Int), .int .u64 ((uxor (lit (List.take 8 key)) 7816392313619706465).toNat : Int), .int .u64 ((uxor (lit (List.drop 8 key)) 8387220255154660723).toNat : Int)] 251)) := by
    repeat (first | exact Below.refl _ _ | refine Below.setCell ?_ (by simp) _ | refine belowN ?_ _ | refine Below.drew ?_ | refine Below.alloc ?_ (by simp) _)
  have hsz : (((w.alloc (.cells (bcs key).toArray 49)).drewN nq).alloc (.cells #[.int .u64 ((uxor (lit (List.take 8 key)) 8317987319222330741).toNat : Int), .int .u64 ((uxor (lit (List.drop 8 key)) 7237128888997146477).toNat : Int), .int .u64 ((uxor (lit (List.take 8 key)) 7816392313619706465).toNat : Int), .int .u64 ((uxor (lit (List.drop 8 key)) 8387220255154660723).toNat : Int)] 251)).heap.size = w.heap.size + 1 + 1 := by simp
  have HV := Lib.hid hv
  have HZ := Lib.hid hsz
  have HB := Lib.hid hb0
  have HE := Lib.hid hbe
  have HO := Lib.hid ho1
  clear hv hsz hb0 hbe ho1 hrb hrc
  generalize ((w.alloc (.cells (bcs key).toArray 49)).drewN nq).alloc _ = W0 at HB HE HZ HO ⊢
  have hn1 : n1 = n := by rw [← HO.out.1, hr.1]
  subst hn1
  obtain ⟨g, hg⟩ : ∃ g, g = w.heap.size + 1 := ⟨_, rfl⟩
  rw [← hg] at HZ HB ⊢
  have HG := Lib.hid hg
  have hgw : w.heap.size ≤ g := by omega
  have hgW : g < W0.heap.size := by have := HZ.out; omega
  clear hg
  go_loopw [8] (fun a wr => ∃ k m : Nat, ∃ A c bs d, a = .slice A m c ∧ n1 + k = m ∧ k ≤ 7 - n1 % 8 ∧ wr = plus W0 bs d ∧ Ob (plus W0 bs d) W0.heap.size A m c (l ++ List.replicate k 0)) (fun a _ => match a with | .slice _ m _ => n1 + 8 - m | _ => 0)
  case atStart => exact ⟨0, n1, A1, c1, bs1, d1, rfl, rfl, by omega, rfl, by simpa using HO.out⟩
  case round =>
    obtain ⟨k, m, A2, c2, bs2, d2, rfl, hm2, hk2, rfl, ho2⟩ := hrel
    have HM := Lib.hid hm2
    have hm3 : m ≤ 549755813900 := by omega
    by_cases hlt : k < 7 - n1 % 8
    · have t1 : ((m : Int) % 8 != 7) = true := by rw [bne_iff_ne]; omega
      have t2 : ((m : Int) % 8 == 7) = false := beq_eq_false_iff_ne.2 (by omega)
      clear hm2
      go_wp2_with (at_builtin; refine wpList_appP W0 bt rfl (.tmp 31) (.tmp 32) rfl ((below_plus _ _ _).alloc (by simp [size_plus]) _) rfl (ho2.alloc _) rfl (Rb.litP _ [0] rfl rfl (by decide) rfl) (by omega) ?_; intro A3 n3 c3 bs3 d3 ho3 _)
      have hn3 : n3 = m + 1 := by rw [← ho3.1, List.length_append, ho2.1]; rfl
      subst hn3
      refine ⟨⟨k + 1, m + 1, A3, c3, bs3, d3, rfl, by have := HM.out; omega, by omega, rfl, ?_⟩, by have := HM.out; simp; omega⟩
      rw [List.replicate_succ', ← List.append_assoc]
      exact ho3
    · have t1 : ((m : Int) % 8 != 7) = false := by rw [bne_eq_false_iff_eq]; omega
      have t2 : ((m : Int) % 8 == 7) = true := beq_iff_eq.2 (by omega)
      obtain rfl : k = 7 - n1 % 8 := by omega
      clear hm2
      go_wp2_with (at_builtin; refine wpList_appP W0 bt rfl (.tmp 34) (.tmp 39) rfl ((below_plus _ _ _).alloc (by simp [size_plus]) _) rfl (ho2.alloc _) rfl (Rb.litP _ [UInt8.ofNat (n1 % 256)] rfl rfl (by decide) (by simp [bcs])) (by omega) ?_; intro A3 n3 c3 bs3 d3 ho3 _)
      have hp : l ++ List.replicate (7 - n1 % 8) 0 ++ [UInt8.ofNat (n1 % 256)] = pad l := by unfold pad; rw [hr.1]
      rw [hp] at ho3
      obtain ⟨q, hq⟩ : ∃ q, q = n1 / 8 + 1 := ⟨_, rfl⟩
      have hn3 : n3 = 8 * q := by rw [← ho3.1, pad_length, hr.1, hq]
      have HN := Lib.hid hn3
      have HQ := Lib.hid hq
      have hq3 : n3 ≤ 549755813900 := by omega
      have hcap := ho3.rb.cap
      have HO3 := Lib.hid ho3
      clear hp hq hn3 ho3 t1 t2 ho2 HM hlt hk2 hm3
      go_loopw [9] (fun x wr => ∃ j i : Nat, j ≤ q ∧ 8 * j = i ∧ x = .int .i64 i ∧ Ob wr W0.heap.size A3 n3 c3 (pad l) ∧ Bk wr g 251 (feed v (pad l) j).cells ∧ Below w.heap.size w wr) (fun x _ => n3 - (intOf x).toNat)
      case atStart => exact ⟨0, 0, Nat.zero_le _, rfl, rfl, HO3.out, HB.out.later (below_plus _ _ _), toPlus HE.out (by have := HZ.out; omega) _ _⟩
      case round =>
        obtain ⟨j, i, hj, hi, rfl, ho4, hb4, he4⟩ := hrel
        have HI := Lib.hid hi
        have hgr := hb4.lt
        by_cases hlt : j < q
        · have hin : i + 8 ≤ n3 := by have := HN.out; omega
          have hi0 : i < n3 := by omega
          clear hi
          obtain ⟨u, hu⟩ : ∃ u, u = feed v (pad l) j := ⟨_, rfl⟩
          rw [← hu] at hb4
          have HU := Lib.hid hu
          clear hu
          have q0 : wr.cell? ⟨g, 0, none⟩ = some (.int .u64 (u.a.toNat : Int)) := hb4.cell 0
          have q1 : wr.cell? ⟨g, 1, none⟩ = some (.int .u64 (u.b.toNat : Int)) := hb4.cell 1
          have q2 : wr.cell? ⟨g, 2, none⟩ = some (.int .u64 (u.c.toNat : Int)) := hb4.cell 2
          have q3 : wr.cell? ⟨g, 3, none⟩ = some (.int .u64 (u.d.toNat : Int)) := hb4.cell 3
          have f0 := hb4.frozen 0
          have f1 := hb4.frozen 1
          have f2 := hb4.frozen 2
          have f3 := hb4.frozen 3
          go_wp2_with fail
          refine (refLittle_any _ _ (((pad l).drop i).take 8) _ ((ho4.rb.cut (k := i) (by omega)).take (k := 8) (by omega))).mono ?_
          rintro e w5 ⟨rfl, rfl⟩
          generalize hmm : lit (((pad l).drop i).take 8) = mm
          have HM := Lib.hid hmm
          clear hmm
          go_wp2_with fail
          refine (refRound_any ⟨u.a, u.b, u.c, uxor u.d mm⟩ _).mono ?_
          rintro e w6 ⟨bs6, d6, rfl, rfl⟩
          go_wp2_with fail
          refine (refRound_any (sround ⟨u.a, u.b, u.c, uxor u.d mm⟩) _).mono ?_
          rintro e w7 ⟨bs7, d7, rfl, rfl⟩
          generalize hx : sround (sround ⟨u.a, u.b, u.c, uxor u.d mm⟩) = x
          have HX := Lib.hid hx
          clear hx
          go_wp2
          have hsz := he4.size
          refine ⟨⟨j + 1, i + 8, by omega, by have := HI.out; omega, by go_num, ?_, ?_, ?_⟩, by simp [intOf]; omega⟩
          · with_reducible repeat (first | exact ho4 | refine Ob.plus_ ?_ _ _ | refine Ob.setCell ?_ hgW _)
          · have e : feed v (pad l) (j + 1) = ⟨uxor x.a mm, x.b, x.c, x.d⟩ := by
              rw [feed_take, HI.out, ← HU.out, HM.out, ← HX.out]
              rfl
            rw [e]
            refine Bk.later (Bk.later ?_ (below_plus _ _ _)) (below_plus _ _ _)
            exact (((((hb4.set_ 3 _).set_ 0 _).set_ 1 _).set_ 2 _).set_ 3 _).set_ 0 _
          · with_reducible repeat (first | exact he4 | refine belowP ?_ _ _ | refine Below.setCell ?_ hgw _)
        · have hin : i = n3 := by have := HN.out; omega
          have d1 : decide (i < n3) = false := by simp; omega
          obtain rfl : j = q := by omega
          clear hi hlt
          obtain ⟨u, hu⟩ : ∃ u, u = feed v (pad l) j := ⟨_, rfl⟩
          rw [← hu] at hb4
          have HU := Lib.hid hu
          have HI3 := Lib.hid hin
          clear hu hin
          have q0 : wr.cell? ⟨g, 0, none⟩ = some (.int .u64 (u.a.toNat : Int)) := hb4.cell 0
          have q1 : wr.cell? ⟨g, 1, none⟩ = some (.int .u64 (u.b.toNat : Int)) := hb4.cell 1
          have q2 : wr.cell? ⟨g, 2, none⟩ = some (.int .u64 (u.c.toNat : Int)) := hb4.cell 2
          have q3 : wr.cell? ⟨g, 3, none⟩ = some (.int .u64 (u.d.toNat : Int)) := hb4.cell 3
          have f0 := hb4.frozen 0
          have f1 := hb4.frozen 1
          have f2 := hb4.frozen 2
          have f3 := hb4.frozen 3
          go_wp2_with fail
          refine (refRound_any ⟨u.a, u.b, uxor u.c 255, u.d⟩ _).mono ?_
          rintro e w6 ⟨bs6, d6, rfl, rfl⟩
          go_wp2_with fail
          refine (refRound_any (sround ⟨u.a, u.b, uxor u.c 255, u.d⟩) _).mono ?_
          rintro e w7 ⟨bs7, d7, rfl, rfl⟩
          go_wp2_with fail
          refine (refRound_any (sround (sround ⟨u.a, u.b, uxor u.c 255, u.d⟩)) _).mono ?_
          rintro e w8 ⟨bs8, d8, rfl, rfl⟩
          go_wp2_with fail
          refine (refRound_any (sround (sround (sround ⟨u.a, u.b, uxor u.c 255, u.d⟩))) _).mono ?_
          rintro e w9 ⟨bs9, d9, rfl, rfl⟩
          generalize hx : sround (sround (sround (sround ⟨u.a, u.b, uxor u.c 255, u.d⟩))) = x
          have HX := Lib.hid hx
          clear hx
          have hsz := he4.size
          go_wp2
          go_ret
          have e : uxor (uxor (uxor x.a x.b) x.c) x.d = sip key l := by
            unfold sip
            rw [hr.1, show n1 / 8 = j - 1 by have := HQ.out; omega, ← HX.out, HU.out, HQ.out, ← hr.1, feed_pad, HV.out]
            rfl
          rw [e]
          refine RetV.mk ?_
          with_reducible repeat (first | exact he4 | refine belowP ?_ _ _ | refine Below.setCell ?_ hgw _)
end Go.Proofs.Ytldecdeiibfekaa
