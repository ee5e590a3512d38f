/- The law Ip4Reads (chapter 4). -/
import Derived.Test.YtldecdeiibfekaaIp4I
import Derived.Test.YtldecdeiibfekaaIp4J
import Derived.Test.YtldecdeiibfekaaIp4K
import Derived.Test.YtldecdeiibfekaaIp4L
import Derived.Test.YtldecdeiibfekaaIp4P
namespace Go.Proofs.Ytldecdeiibfekaa
open Go.RowKit
set_option linter.unusedVariables false
set_option linter.unusedSimpArgs false
attribute [local go_sem ↓] sliced_cut
attribute [local go_sem] cutA_zero

/-- a header, bytes, an error -/
def RetPE (w : World) (ts ln id : Nat) (st mo : Bool) (fo tl pr sm sa da : Nat) (o load : List UInt8) (E : Int) (e : Ending) (w' : World) : Prop := ∃ A n k A2 n2 k2 bs d, e = .returned (.tuple #[.agg (h4C ts (ln : Int) id st mo (fo : Int) tl pr sm false 0 sa false 0 da A n k).toArray, .slice A2 n2 k2, .int .i64 E]) ∧ w' = plus w bs d ∧ Rb (plus w bs d) A n k o ∧ Rb (plus w bs d) A2 n2 k2 load
theorem RetPE.err {w : World} {E : Int} {e : Ending} {w' : World} (h : RetV w (.tuple #[.agg (h4C 0 0 0 false false 0 0 0 0 false 0 0 false 0 0 none 0 0).toArray, .slice none 0 0, .int .i64 E]) e w') : RetPE w 0 0 0 false false 0 0 0 0 0 0 [] [] E e w' := by
  obtain ⟨bs, d, rfl, rfl⟩ := h
  exact ⟨none, 0, 0, none, 0, 0, bs, d, rfl, rfl, Rb.nil_, Rb.nil_⟩
theorem RetPE.ok {w : World} {ts ln id : Nat} {st mo : Bool} {fo tl pr sm sa da : Nat} {o load : List UInt8} {e : Ending} {w' : World} (h : RetP4 w ts ln id st mo fo tl pr sm sa da o load e w') : RetPE w ts ln id st mo fo tl pr sm sa da o load 0 e w' := h
set_option maxHeartbeats 4000000 in
set_option maxRecDepth 100000 in
theorem reads4 (A : Option Addr) (n c : Nat) (l : List UInt8) (w : World) (h : Rb w A n c l) (hm : n ≤ 1000000) : ∃ (ts ln id : Nat) (st mo : Bool) (fo tl pr sm sa da : Nat) (o load : List UInt8) (E : Int),
    (∀ w', Below w.heap.size w w' → Calls Try.prog 44 #[.slice A n c] w' (RetPE w' ts ln id st mo fo tl pr sm sa da o load E)) ∧ (∀ w', Below w.heap.size w w' → Calls Try.prog 45 #[.slice A n c] w' (RetPE w' ts ln id st mo fo tl pr sm sa da o load E)) := by
  have bad : ∀ E : Int, (E != 0) = true → (∀ w', Below w.heap.size w w' → Calls Try.prog 119 #[.slice A n c] w' (RetV w' (.tuple #[.agg (h4C 0 0 0 false false 0 0 0 0 false 0 0 false 0 0 none 0 0).toArray, .int .i64 0, .int .i64 E]))) → (∀ w', Below w.heap.size w w' → Calls Try.prog 45 #[.slice A n c] w' (RetV w' (.tuple #[.agg (h4C 0 0 0 false false 0 0 0 0 false 0 0 false 0 0 none 0 0).toArray, .slice none 0 0, .int .i64 E]))) → ∃ (ts ln id : Nat) (st mo : Bool) (fo tl pr sm sa da : Nat) (o load : List UInt8) (E : Int),
    (∀ w', Below w.heap.size w w' → Calls Try.prog 44 #[.slice A n c] w' (RetPE w' ts ln id st mo fo tl pr sm sa da o load E)) ∧ (∀ w', Below w.heap.size w w' → Calls Try.prog 45 #[.slice A n c] w' (RetPE w' ts ln id st mo fo tl pr sm sa da o load E)) := fun E hE h1 h2 =>
    ⟨0, 0, 0, false, false, 0, 0, 0, 0, 0, 0, [], [], E, fun w' hb => (parse4_err A n c E w' hE (fun w2 hb2 => h1 w2 (hb.trans (hb2.mono hb.size)))).mono fun _ _ => RetPE.err, fun w' hb => (h2 w' hb).mono fun _ _ => RetPE.err⟩
  by_cases g0 : n < 20
  · exact bad 20 rfl (fun w' hb => hdr4_short A n c l w' (h.later hb) hm g0) (fun w' hb => refP4_short A n c l w' (h.later hb) hm g0)
  have hn : 20 ≤ n := by omega
  obtain ⟨f, x0⟩ : ∃ f, num ((l.drop 0).take 1) = f := ⟨_, rfl⟩
  obtain ⟨ts, x1⟩ : ∃ f, num ((l.drop 1).take 1) = f := ⟨_, rfl⟩
  obtain ⟨ln, x2⟩ : ∃ f, num ((l.drop 2).take 2) = f := ⟨_, rfl⟩
  obtain ⟨id, x3⟩ : ∃ f, num ((l.drop 4).take 2) = f := ⟨_, rfl⟩
  obtain ⟨pl, x4⟩ : ∃ f, num ((l.drop 6).take 2) = f := ⟨_, rfl⟩
  obtain ⟨tl, x5⟩ : ∃ f, num ((l.drop 8).take 1) = f := ⟨_, rfl⟩
  obtain ⟨pr, x6⟩ : ∃ f, num ((l.drop 9).take 1) = f := ⟨_, rfl⟩
  obtain ⟨sm, x7⟩ : ∃ f, num ((l.drop 10).take 2) = f := ⟨_, rfl⟩
  obtain ⟨sa, x8⟩ : ∃ f, num ((l.drop 12).take 4) = f := ⟨_, rfl⟩
  obtain ⟨da, x9⟩ : ∃ f, num ((l.drop 16).take 4) = f := ⟨_, rfl⟩
  by_cases g1 : f / 16 = 4
  case neg => exact bad 21 rfl (fun w' hb => hdr4_f1 A n c l w' (h.later hb) hm f ts ln id pl x0 x1 x2 x3 x4 hn g1) (fun w' hb => refP4_f1 A n c l w' (h.later hb) hm f ts ln id pl tl pr sm sa da x0 x1 x2 x3 x4 x5 x6 x7 x8 x9 hn g1)
  by_cases g2 : 4 * (f % 16) < 20
  · exact bad 21 rfl (fun w' hb => hdr4_f2 A n c l w' (h.later hb) hm f ts ln id pl x0 x1 x2 x3 x4 hn g1 g2) (fun w' hb => refP4_f2 A n c l w' (h.later hb) hm f ts ln id pl tl pr sm sa da x0 x1 x2 x3 x4 x5 x6 x7 x8 x9 hn g1 g2)
  have g2' : 20 ≤ 4 * (f % 16) := by omega
  obtain ⟨st, hst⟩ : ∃ b, (pl / 16384 % 2 == 1) = b := ⟨_, rfl⟩
  obtain ⟨mo, hmo⟩ : ∃ b, (pl / 8192 % 2 == 1) = b := ⟨_, rfl⟩
  by_cases g3 : 32768 ≤ pl
  · exact bad 21 rfl (fun w' hb => hdr4_f3 A n c l w' (h.later hb) hm f ts ln id pl x0 x1 x2 x3 x4 hn g1 g2' g3) (fun w' hb => refP4_f3 A n c l w' (h.later hb) hm f ts ln id pl tl pr sm sa da st mo x0 x1 x2 x3 x4 x5 x6 x7 x8 x9 hst hmo hn g1 g2' g3)
  have g3' : pl < 32768 := by omega
  by_cases g4 : ln < 4 * (f % 16)
  · exact bad 21 rfl (fun w' hb => hdr4_f4 A n c l w' (h.later hb) hm f ts ln id pl x0 x1 x2 x3 x4 hn g1 g2' g3' g4) (fun w' hb => refP4_f4 A n c l w' (h.later hb) hm f ts ln id pl tl pr sm sa da st mo x0 x1 x2 x3 x4 x5 x6 x7 x8 x9 hst hmo hn g1 g2' g3' g4)
  have g4' : 4 * (f % 16) ≤ ln := by omega
  by_cases g5 : n < ln
  · refine bad 20 rfl (fun w' hb => ?_) (fun w' hb => refP4_l A n c l w' (h.later hb) hm f ts ln id pl tl pr sm sa da st mo x0 x1 x2 x3 x4 x5 x6 x7 x8 x9 hst hmo hn g1 g2' g3' g4' g5)
    by_cases g6 : n < 4 * (f % 16)
    · exact hdr4_l1 A n c l w' (h.later hb) hm f ts ln id pl x0 x1 x2 x3 x4 hn g1 g2' g3' g4' g6
    · exact hdr4_l2 A n c l w' (h.later hb) hm f ts ln id pl x0 x1 x2 x3 x4 hn g1 g2' g3' g4' (by omega) g5
  have g5' : ln ≤ n := by omega
  by_cases g7 : 65535 - fd (tot false (l.take (4 * (f % 16)))) = 0
  case neg => exact bad 22 rfl (fun w' hb => hdr4_sum A n c l w' (h.later hb) hm f ts ln id pl x0 x1 x2 x3 x4 hn g1 g2' g3' g4' (by omega) g5' g7) (fun w' hb => refP4_sum A n c l w' (h.later hb) hm f ts ln id pl tl pr sm sa da st mo x0 x1 x2 x3 x4 x5 x6 x7 x8 x9 hst hmo hn g1 g2' g3' g4' g5' g7)
  refine ⟨ts, ln, id, st, mo, pl % 8192, tl, pr, sm, sa, da, (l.drop 20).take (4 * (f % 16) - 20), (l.drop (4 * (f % 16))).take (ln - 4 * (f % 16)), 0, fun w' hb => ?_, fun w' hb => ?_⟩
  · exact (parse4_ok A n c l ts ln id st mo (pl % 8192) tl pr sm sa da (4 * (f % 16)) _ w' (h.later hb) hm g2' g4' g5' (fun w2 hb2 => hdr4_ok A n c l w2 ((h.later hb).later hb2) hm f ts ln id pl tl pr sm sa da st mo x0 x1 x2 x3 x4 x5 x6 x7 x8 x9 hst hmo hn g1 g2' g3' g4' (by omega) g5' g7)).mono fun _ _ => RetPE.ok
  · exact (refP4_ok A n c l w' (h.later hb) hm f ts ln id pl tl pr sm sa da st mo x0 x1 x2 x3 x4 x5 x6 x7 x8 x9 hst hmo hn g1 g2' g3' g4' g5' g7).mono fun _ _ => RetPE.ok
set_option maxHeartbeats 4000000 in
set_option maxRecDepth 100000 in
theorem awake4 (w : World) : Calls Try.prog 43 #[] w (RetV w (.bool true)) := by
  have HP : ∀ A c w, Rb w A 1 c [1] → Calls Try.prog 42 #[.agg #[.int .u8 0, .int .i64 0, .int .u16 0, .bool false, .bool false, .int .i64 0, .int .u8 64, .int .u8 6, .int .u16 0, .bool false, .int .u64 0, .int .u64 0, .bool false, .int .u64 0, .int .u64 0, .slice none 0 0], .slice A 1 c] w (RetBE w (ip4B 0 21 0 (pl4 false false 0) 64 6 (ip4K 0 21 0 (pl4 false false 0) 64 6 0 0 []) 0 0 [] ++ [1]) 0) :=
    fun A c w h => packet4_ok 0 0 0 false false 0 64 6 0 0 0 none 0 0 [] A 1 c [1] w Rb.nil_ h (by decide) (by decide) (by decide) (by decide) (by decide) (by decide) (by decide) (by decide) (by decide) (by decide)
  have HO : ∀ A c w, Rb w A 21 c (ip4B 0 21 0 (pl4 false false 0) 64 6 (ip4K 0 21 0 (pl4 false false 0) 64 6 0 0 []) 0 0 [] ++ [1]) → Calls Try.prog 118 #[.slice A 21 c] w (RetO4 w 21 63) :=
    fun A c w h => older4 0 21 0 false false 0 64 6 0 0 A 21 c [] [1] w h (by decide) (by decide) (by decide) (by decide) (by decide) (by decide) (by decide) (by decide) (by decide) (by decide) (by decide) (by decide) (by decide)
  have hl : (ip4B 0 21 0 (pl4 false false 0) 64 6 (ip4K 0 21 0 (pl4 false false 0) 64 6 0 0 []) 0 0 [] ++ [1]).length = 21 := by rw [List.length_append, ip4B_length]; rfl
  generalize ip4B 0 21 0 (pl4 false false 0) 64 6 (ip4K 0 21 0 (pl4 false false 0) 64 6 0 0 []) 0 0 [] ++ [1] = L at *
  replace HP := Lib.hid HP
  replace HO := Lib.hid HO
  replace hl := Lib.hid hl
  go_enter Try.func43, Try.ntmps43
  go_wp2_with fail
  refine (HP.out _ _ _ (Rb.litW _ [1] (by simp) rfl (by decide) rfl)).mono ?_
  rintro e w1 ⟨A1, n1, c1, bs1, d1, rfl, rfl, h1⟩
  obtain rfl : n1 = 21 := by rw [← h1.1, hl.out]
  go_wp2_with fail
  refine (HO.out _ _ _ h1).mono ?_
  rintro e w2 ⟨g, c2, rfl, hb2, hc, -, -⟩
  replace hc : w2.cell? ⟨g, 8, none⟩ = some (.int .u8 63) := hc
  go_wp2
  go_ret
  refine RetV.is_ rfl (Below.trans ?_ (hb2.mono (show w.heap.size ≤ _ from by simp [size_plus]; omega)))
  repeat (first | exact Below.refl _ _ | refine belowP ?_ _ _ | refine Below.allocS ?_ _)
set_option maxHeartbeats 4000000 in
set_option maxRecDepth 100000 in
theorem ip4Reads_walk (w : World) (A : Option Addr) (n c : Nat) (l : List UInt8) (h : Rb w A n c l) (hc : c ≤ maxLen) : Calls Try.prog 7 #[.slice A n c] w fun e w' => e = .returned (.bool true) ∧ Below w.heap.size w w' := by
  have HAW := Lib.hid awake4
  have hcn := h.2.1
  simp only [maxLen] at hc
  by_cases hbig : 3000 < n
  · have d1 : decide (3000 < (n : Int)) = true := by simp only [decide_eq_true_eq]; omega
    go_enter Try.func7, Try.ntmps7
    go_wp2_with (go_at_call 43; refine (HAW.out _).mono ?_; rintro e w1 ⟨bs1, d1, rfl, rfl⟩)
    go_ret
    exact ⟨rfl, below_plus _ _ _⟩
  have d1 : decide (3000 < (n : Int)) = false := by simp only [decide_eq_false_iff_not]; omega
  have d2 : decide (3000 < n) = false := by simp only [decide_eq_false_iff_not]; omega
  obtain ⟨ts, ln, id, st, mo, fo, tl, pr, sm, sa, da, o, load, E, H1, H2⟩ := reads4 A n c l w h (by omega)
  replace H1 := Lib.hid H1
  replace H2 := Lib.hid H2
  obtain ⟨du, u1, u2⟩ := rowH4
  obtain ⟨dr, r1, r2⟩ := rowR4
  clear hbig hc hcn
  have be : Below w.heap.size w w := Below.refl _ _
  go_enter Try.func7, Try.ntmps7
  go_wp2_with fail
  refine (H1.out _ be).mono ?_
  rintro e w1 ⟨Ao, no, ko, A2, n2, k2, bs1, d1, rfl, rfl, hox, hlx⟩
  go_upto_region 4 with (refine at_op (.store 77 (.tmp 3) (.tmp 16)) rfl ?_; refine wpList_stA (t := 77) 77 (.tmp 3) (.tmp 16) rfl rfl (h4C ts (ln : Int) id st mo (fo : Int) tl pr sm false 0 sa false 0 da Ao no ko) (h4C 0 0 0 false false 0 0 0 0 false 0 0 false 0 0 none 0 0) rfl (h4C_one _ _ _ _ _ _ _ _ _ _ _ _ _ _ _ _ _ _) rfl rfl ?_ (szH4 _ _ _ _ _ _ _ _ _ _ _ _ _ _ _ _ _ _) ?_; (· refine Bk.newK _ _ _ ?_ rfl; simp [size_plus]); intro W3 hX gr3)
  have be3 := below_grown (Below.allocS (belowP be bs1 d1) _) gr3 (by omega)
  replace hox := hox.later (below_grown (Below.allocS (Below.refl _ _) _) gr3 (by simp [size_plus]))
  replace hlx := hlx.later (below_grown (Below.allocS (Below.refl _ _) _) gr3 (by simp [size_plus]))
  clear gr3
  generalize w.heap.size + bs1.length = g3 at *
  go_wp2_with fail
  refine (H2.out _ be3).mono ?_
  rintro e w1 ⟨Ap, np, kp, A3, n3, k3, bs2, d2, rfl, rfl, hoy, hly⟩
  have z3 := hX.lt
  go_upto_region 5 with (refine at_op (.store 83 (.tmp 6) (.tmp 22)) rfl ?_; refine wpList_stA (t := 83) 83 (.tmp 6) (.tmp 22) rfl rfl (h4C ts (ln : Int) id st mo (fo : Int) tl pr sm false 0 sa false 0 da Ap np kp) (h4C 0 0 0 false false 0 0 0 0 false 0 0 false 0 0 none 0 0) rfl (h4C_one _ _ _ _ _ _ _ _ _ _ _ _ _ _ _ _ _ _) rfl rfl ?_ (szR4 _ _ _ _ _ _ _ _ _ _ _ _ _ _ _ _ _ _) ?_; (· refine Bk.newK _ _ _ ?_ rfl; simp [size_plus]); intro W6 hY gr6)
  have b6 := below_grown (Below.allocS (below_plus W3 bs2 d2) _) gr6 (by omega)
  replace be := be3.trans (b6.mono be3.size)
  replace hX := hX.later b6
  replace hox := hox.later b6
  replace hlx := hlx.later b6
  replace hoy := hoy.later (below_grown (Below.allocS (Below.refl _ _) _) gr6 (by simp [size_plus]))
  replace hly := hly.later (below_grown (Below.allocS (Below.refl _ _) _) gr6 (by simp [size_plus]))
  clear gr6 b6 z3 be3
  generalize W3.heap.size + bs2.length = g6 at *
  have HOF := Lib.hid (fun w => of4 ts (ln : Int) id st mo (fo : Int) tl pr sm false 0 sa false 0 da Ao no ko w)
  have HSA := Lib.hid (fun w (h : Rb w Ao no ko o) (h' : Rb w Ap np kp o) => same4 ts (ln : Int) id st mo (fo : Int) tl pr sm false 0 sa false 0 da Ao no ko Ap np kp o w h h')
  go_wp2
  refine wp_rel 19 44 rfl (by kernel_rfl) (by kernel_rfl) (fun i => match i with | 0 => MP.eq (.agg (h4C ts (ln : Int) id st mo (fo : Int) tl pr sm false 0 sa false 0 da Ao no ko).toArray) | 1 => MP.eq (.agg (h4C ts (ln : Int) id st mo (fo : Int) tl pr sm false 0 sa false 0 da Ao no ko).toArray) | 2 => MP.eq (.agg (h4C ts (ln : Int) id st mo (fo : Int) tl pr sm false 0 sa false 0 da Ap np kp).toArray) | 3 => MP.eq (.bool true) | 4 => MP.eq (.bool true) | 5 => MP.eq (.slice A2 n2 k2) | 6 => MP.eq (.string ⟨load.toArray⟩) | 7 => MP.eq (.slice A3 n3 k3) | 8 => MP.eq (.string ⟨load.toArray⟩) | 9 => MP.eq (.bool true) | 10 => MP.eq (.bool true) | 11 => MP.eq (.bool true) | 12 => MP.eq (.int .i64 E) | 13 => MP.eq (.int .i64 E) | 14 => MP.eq (.bool true) | 15 => MP.eq (.bool true) | 16 => MP.eq (.bool true) | 17 => MP.eq (.bool true) | 18 => MP.eq (.bool true) | _ => MP.any) ?_ ?_
  · intro i hi o ho FA x hO hD K hK
    match i, hi, ho, hO, hD, hK with
    | 0, _, ho, hO, hD, hK => 
      obtain rfl := Option.some.inj ho.symm
      clear ho
      have ev3 : FA.eval (.tmp 3) = .pointer (some ⟨g3, 0, none⟩) := hO 3 (by kernel_rfl)
      have e3 : FA.tmps[3]?.getD undef = .pointer (some ⟨g3, 0, none⟩) := by simpa [Act.eval] using ev3
      replace ev3 := Lib.hid ev3
      clear hO hD
      refine wanted_ifG (by go_simp) ?_
      refine wp_load_mid 77 (.tmp 3) rfl (g3) 0 ev3.out (h4C ts (ln : Int) id st mo (fo : Int) tl pr sm false 0 sa false 0 da Ao no ko) _ (Bk.range (hX.later (below_plus _ _ _))) u1 u2 (szH4 _ _ _ _ _ _ _ _ _ _ _ _ _ _ _ _ _ _) ?_
      exact hK.out _ _ (Ex.refl _) rfl
    | 1, _, ho, hO, hD, hK => 
      obtain rfl := Option.some.inj ho.symm
      clear ho
      have ev25 : FA.eval (.tmp 25) = .agg (h4C ts (ln : Int) id st mo (fo : Int) tl pr sm false 0 sa false 0 da Ao no ko).toArray := hD 0 25 (by kernel_rfl)
      have e25 : FA.tmps[25]?.getD undef = .agg (h4C ts (ln : Int) id st mo (fo : Int) tl pr sm false 0 sa false 0 da Ao no ko).toArray := by simpa [Act.eval] using ev25
      replace ev25 := Lib.hid ev25
      clear hO hD
      go_simp
      refine (HOF.out _).mono ?_
      rintro e w1 ⟨bs2, d2, rfl, rfl⟩
      exact hK.out _ _ (Ex.plus_ _ _ _) rfl
    | 2, _, ho, hO, hD, hK => 
      obtain rfl := Option.some.inj ho.symm
      clear ho
      have ev6 : FA.eval (.tmp 6) = .pointer (some ⟨g6, 0, none⟩) := hO 6 (by kernel_rfl)
      have e6 : FA.tmps[6]?.getD undef = .pointer (some ⟨g6, 0, none⟩) := by simpa [Act.eval] using ev6
      replace ev6 := Lib.hid ev6
      clear hO hD
      refine wanted_ifG (by go_simp) ?_
      refine wp_load_mid 83 (.tmp 6) rfl (g6) 0 ev6.out (h4C ts (ln : Int) id st mo (fo : Int) tl pr sm false 0 sa false 0 da Ap np kp) _ (Bk.range (hY.later (below_plus _ _ _))) r1 r2 (szR4 _ _ _ _ _ _ _ _ _ _ _ _ _ _ _ _ _ _) ?_
      exact hK.out _ _ (Ex.refl _) rfl
    | 3, _, ho, hO, hD, hK => 
      obtain rfl := Option.some.inj ho.symm
      clear ho
      have ev26 : FA.eval (.tmp 26) = .agg (h4C ts (ln : Int) id st mo (fo : Int) tl pr sm false 0 sa false 0 da Ao no ko).toArray := hD 1 26 (by kernel_rfl)
      have e26 : FA.tmps[26]?.getD undef = .agg (h4C ts (ln : Int) id st mo (fo : Int) tl pr sm false 0 sa false 0 da Ao no ko).toArray := by simpa [Act.eval] using ev26
      replace ev26 := Lib.hid ev26
      have ev27 : FA.eval (.tmp 27) = .agg (h4C ts (ln : Int) id st mo (fo : Int) tl pr sm false 0 sa false 0 da Ap np kp).toArray := hD 2 27 (by kernel_rfl)
      have e27 : FA.tmps[27]?.getD undef = .agg (h4C ts (ln : Int) id st mo (fo : Int) tl pr sm false 0 sa false 0 da Ap np kp).toArray := by simpa [Act.eval] using ev27
      replace ev27 := Lib.hid ev27
      clear hO hD
      go_simp
      refine (HSA.out _ (hox.plus_ x.bs x.d) (hoy.plus_ x.bs x.d)).mono ?_
      rintro e w1 ⟨bs2, d2, rfl, rfl⟩
      exact hK.out _ _ (Ex.plus_ _ _ _) rfl
    | 4, _, ho, hO, hD, hK => 
      obtain rfl := Option.some.inj ho.symm
      clear ho
      have ev28 : FA.eval (.tmp 28) = .bool true := hD 3 28 (by kernel_rfl)
      have e28 : FA.tmps[28]?.getD undef = .bool true := by simpa [Act.eval] using ev28
      replace ev28 := Lib.hid ev28
      clear hO hD
      go_simp
      exact hK.out _ _ (Ex.refl _) rfl
    | 5, _, ho, hO, hD, hK => 
      obtain rfl := Option.some.inj ho.symm
      clear ho
      have ev4 : FA.eval (.tmp 4) = .slice A2 n2 k2 := hO 4 (by kernel_rfl)
      have e4 : FA.tmps[4]?.getD undef = .slice A2 n2 k2 := by simpa [Act.eval] using ev4
      replace ev4 := Lib.hid ev4
      have ev29 : FA.eval (.tmp 29) = .bool true := hD 4 29 (by kernel_rfl)
      have e29 : FA.tmps[29]?.getD undef = .bool true := by simpa [Act.eval] using ev29
      replace ev29 := Lib.hid ev29
      have ge29 := slot_of e29
      clear hO hD
      go_simp
      exact hK.out _ _ (Ex.refl _) rfl
    | 6, _, ho, hO, hD, hK => 
      obtain rfl := Option.some.inj ho.symm
      clear ho
      have ev30 : FA.eval (.tmp 30) = .slice A2 n2 k2 := hD 5 30 (by kernel_rfl)
      have e30 : FA.tmps[30]?.getD undef = .slice A2 n2 k2 := by simpa [Act.eval] using ev30
      replace ev30 := Lib.hid ev30
      have ev29 : FA.eval (.tmp 29) = .bool true := hD 4 29 (by kernel_rfl)
      have e29 : FA.tmps[29]?.getD undef = .bool true := by simpa [Act.eval] using ev29
      replace ev29 := Lib.hid ev29
      have ge29 := slot_of e29
      clear hO hD
      have es := run_str bt Try.underlying9 (hlx.plus_ x.bs x.d)
      go_simp
      exact hK.out _ _ (Ex.refl _) rfl
    | 7, _, ho, hO, hD, hK => 
      obtain rfl := Option.some.inj ho.symm
      clear ho
      have ev7 : FA.eval (.tmp 7) = .slice A3 n3 k3 := hO 7 (by kernel_rfl)
      have e7 : FA.tmps[7]?.getD undef = .slice A3 n3 k3 := by simpa [Act.eval] using ev7
      replace ev7 := Lib.hid ev7
      have ev29 : FA.eval (.tmp 29) = .bool true := hD 4 29 (by kernel_rfl)
      have e29 : FA.tmps[29]?.getD undef = .bool true := by simpa [Act.eval] using ev29
      replace ev29 := Lib.hid ev29
      have ge29 := slot_of e29
      clear hO hD
      go_simp
      exact hK.out _ _ (Ex.refl _) rfl
    | 8, _, ho, hO, hD, hK => 
      obtain rfl := Option.some.inj ho.symm
      clear ho
      have ev32 : FA.eval (.tmp 32) = .slice A3 n3 k3 := hD 7 32 (by kernel_rfl)
      have e32 : FA.tmps[32]?.getD undef = .slice A3 n3 k3 := by simpa [Act.eval] using ev32
      replace ev32 := Lib.hid ev32
      have ev29 : FA.eval (.tmp 29) = .bool true := hD 4 29 (by kernel_rfl)
      have e29 : FA.tmps[29]?.getD undef = .bool true := by simpa [Act.eval] using ev29
      replace ev29 := Lib.hid ev29
      have ge29 := slot_of e29
      clear hO hD
      have es := run_str bt Try.underlying9 (hly.plus_ x.bs x.d)
      go_simp
      exact hK.out _ _ (Ex.refl _) rfl
    | 9, _, ho, hO, hD, hK => 
      obtain rfl := Option.some.inj ho.symm
      clear ho
      have ev31 : FA.eval (.tmp 31) = .string ⟨load.toArray⟩ := hD 6 31 (by kernel_rfl)
      have e31 : FA.tmps[31]?.getD undef = .string ⟨load.toArray⟩ := by simpa [Act.eval] using ev31
      replace ev31 := Lib.hid ev31
      have ev33 : FA.eval (.tmp 33) = .string ⟨load.toArray⟩ := hD 8 33 (by kernel_rfl)
      have e33 : FA.tmps[33]?.getD undef = .string ⟨load.toArray⟩ := by simpa [Act.eval] using ev33
      replace ev33 := Lib.hid ev33
      have ev29 : FA.eval (.tmp 29) = .bool true := hD 4 29 (by kernel_rfl)
      have e29 : FA.tmps[29]?.getD undef = .bool true := by simpa [Act.eval] using ev29
      replace ev29 := Lib.hid ev29
      have ge29 := slot_of e29
      clear hO hD
      go_simp
      exact hK.out _ _ (Ex.refl _) rfl
    | 10, _, ho, hO, hD, hK => 
      obtain rfl := Option.some.inj ho.symm
      clear ho
      have ev29 : FA.eval (.tmp 29) = .bool true := hD 4 29 (by kernel_rfl)
      have e29 : FA.tmps[29]?.getD undef = .bool true := by simpa [Act.eval] using ev29
      replace ev29 := Lib.hid ev29
      have ev34 : FA.eval (.tmp 34) = .bool true := hD 9 34 (by kernel_rfl)
      have e34 : FA.tmps[34]?.getD undef = .bool true := by simpa [Act.eval] using ev34
      replace ev34 := Lib.hid ev34
      clear hO hD
      go_simp
      exact hK.out _ _ (Ex.refl _) rfl
    | 11, _, ho, hO, hD, hK => 
      obtain rfl := Option.some.inj ho.symm
      clear ho
      have ev35 : FA.eval (.tmp 35) = .bool true := hD 10 35 (by kernel_rfl)
      have e35 : FA.tmps[35]?.getD undef = .bool true := by simpa [Act.eval] using ev35
      replace ev35 := Lib.hid ev35
      clear hO hD
      go_simp
      exact hK.out _ _ (Ex.refl _) rfl
    | 12, _, ho, hO, hD, hK => 
      obtain rfl := Option.some.inj ho.symm
      clear ho
      have ev5 : FA.eval (.tmp 5) = .int .i64 E := hO 5 (by kernel_rfl)
      have e5 : FA.tmps[5]?.getD undef = .int .i64 E := by simpa [Act.eval] using ev5
      replace ev5 := Lib.hid ev5
      have ev36 : FA.eval (.tmp 36) = .bool true := hD 11 36 (by kernel_rfl)
      have e36 : FA.tmps[36]?.getD undef = .bool true := by simpa [Act.eval] using ev36
      replace ev36 := Lib.hid ev36
      have ge36 := slot_of e36
      clear hO hD
      go_simp
      exact hK.out _ _ (Ex.refl _) rfl
    | 13, _, ho, hO, hD, hK => 
      obtain rfl := Option.some.inj ho.symm
      clear ho
      have ev8 : FA.eval (.tmp 8) = .int .i64 E := hO 8 (by kernel_rfl)
      have e8 : FA.tmps[8]?.getD undef = .int .i64 E := by simpa [Act.eval] using ev8
      replace ev8 := Lib.hid ev8
      have ev36 : FA.eval (.tmp 36) = .bool true := hD 11 36 (by kernel_rfl)
      have e36 : FA.tmps[36]?.getD undef = .bool true := by simpa [Act.eval] using ev36
      replace ev36 := Lib.hid ev36
      have ge36 := slot_of e36
      clear hO hD
      go_simp
      exact hK.out _ _ (Ex.refl _) rfl
    | 14, _, ho, hO, hD, hK => 
      obtain rfl := Option.some.inj ho.symm
      clear ho
      have ev37 : FA.eval (.tmp 37) = .int .i64 E := hD 12 37 (by kernel_rfl)
      have e37 : FA.tmps[37]?.getD undef = .int .i64 E := by simpa [Act.eval] using ev37
      replace ev37 := Lib.hid ev37
      have ev38 : FA.eval (.tmp 38) = .int .i64 E := hD 13 38 (by kernel_rfl)
      have e38 : FA.tmps[38]?.getD undef = .int .i64 E := by simpa [Act.eval] using ev38
      replace ev38 := Lib.hid ev38
      have ev36 : FA.eval (.tmp 36) = .bool true := hD 11 36 (by kernel_rfl)
      have e36 : FA.tmps[36]?.getD undef = .bool true := by simpa [Act.eval] using ev36
      replace ev36 := Lib.hid ev36
      have ge36 := slot_of e36
      clear hO hD
      go_simp
      exact hK.out _ _ (Ex.refl _) rfl
    | 15, _, ho, hO, hD, hK => 
      obtain rfl := Option.some.inj ho.symm
      clear ho
      have ev36 : FA.eval (.tmp 36) = .bool true := hD 11 36 (by kernel_rfl)
      have e36 : FA.tmps[36]?.getD undef = .bool true := by simpa [Act.eval] using ev36
      replace ev36 := Lib.hid ev36
      have ev39 : FA.eval (.tmp 39) = .bool true := hD 14 39 (by kernel_rfl)
      have e39 : FA.tmps[39]?.getD undef = .bool true := by simpa [Act.eval] using ev39
      replace ev39 := Lib.hid ev39
      clear hO hD
      go_simp
      exact hK.out _ _ (Ex.refl _) rfl
    | 16, _, ho, hO, hD, hK => 
      obtain rfl := Option.some.inj ho.symm
      clear ho
      have ev40 : FA.eval (.tmp 40) = .bool true := hD 15 40 (by kernel_rfl)
      have e40 : FA.tmps[40]?.getD undef = .bool true := by simpa [Act.eval] using ev40
      replace ev40 := Lib.hid ev40
      clear hO hD
      go_simp
      exact hK.out _ _ (Ex.refl _) rfl
    | 17, _, ho, hO, hD, hK => 
      obtain rfl := Option.some.inj ho.symm
      clear ho
      have ev41 : FA.eval (.tmp 41) = .bool true := hD 16 41 (by kernel_rfl)
      have e41 : FA.tmps[41]?.getD undef = .bool true := by simpa [Act.eval] using ev41
      replace ev41 := Lib.hid ev41
      have ge41 := slot_of e41
      clear hO hD
      go_simp
      refine (HAW.out _).mono ?_
      rintro e w1 ⟨bs2, d2, rfl, rfl⟩
      exact hK.out _ _ (Ex.plus_ _ _ _) rfl
    | 18, _, ho, hO, hD, hK => 
      obtain rfl := Option.some.inj ho.symm
      clear ho
      have ev41 : FA.eval (.tmp 41) = .bool true := hD 16 41 (by kernel_rfl)
      have e41 : FA.tmps[41]?.getD undef = .bool true := by simpa [Act.eval] using ev41
      replace ev41 := Lib.hid ev41
      have ev42 : FA.eval (.tmp 42) = .bool true := hD 17 42 (by kernel_rfl)
      have e42 : FA.tmps[42]?.getD undef = .bool true := by simpa [Act.eval] using ev42
      replace ev42 := Lib.hid ev42
      clear hO hD
      go_simp
      exact hK.out _ _ (Ex.refl _) rfl
    | (k + 19), hi, _, _, _, _ => exact absurd hi (by omega)
  intro vs x hp
  have p0 : vs 0 = .agg (h4C ts (ln : Int) id st mo (fo : Int) tl pr sm false 0 sa false 0 da Ao no ko).toArray := hp 0 (by omega)
  have p1 : vs 1 = .agg (h4C ts (ln : Int) id st mo (fo : Int) tl pr sm false 0 sa false 0 da Ao no ko).toArray := hp 1 (by omega)
  have p2 : vs 2 = .agg (h4C ts (ln : Int) id st mo (fo : Int) tl pr sm false 0 sa false 0 da Ap np kp).toArray := hp 2 (by omega)
  have p3 : vs 3 = .bool true := hp 3 (by omega)
  have p4 : vs 4 = .bool true := hp 4 (by omega)
  have p5 : vs 5 = .slice A2 n2 k2 := hp 5 (by omega)
  have p6 : vs 6 = .string ⟨load.toArray⟩ := hp 6 (by omega)
  have p7 : vs 7 = .slice A3 n3 k3 := hp 7 (by omega)
  have p8 : vs 8 = .string ⟨load.toArray⟩ := hp 8 (by omega)
  have p9 : vs 9 = .bool true := hp 9 (by omega)
  have p10 : vs 10 = .bool true := hp 10 (by omega)
  have p11 : vs 11 = .bool true := hp 11 (by omega)
  have p12 : vs 12 = .int .i64 E := hp 12 (by omega)
  have p13 : vs 13 = .int .i64 E := hp 13 (by omega)
  have p14 : vs 14 = .bool true := hp 14 (by omega)
  have p15 : vs 15 = .bool true := hp 15 (by omega)
  have p16 : vs 16 = .bool true := hp 16 (by omega)
  have p17 : vs 17 = .bool true := hp 17 (by omega)
  have p18 : vs 18 = .bool true := hp 18 (by omega)
  clear hp
  simp only [List.take_succ_cons, List.take_zero, List.drop_succ_cons, List.drop_zero, putAll, Nat.zero_add, Nat.reduceAdd, Act.put, List.setIfInBounds_toArray, List.set_cons_zero, List.set_cons_succ, p0, p1, p2, p3, p4, p5, p6, p7, p8, p9, p10, p11, p12, p13, p14, p15, p16, p17, p18]
  clear p0 p1 p2 p3 p4 p5 p6 p7 p8 p9 p10 p11 p12 p13 p14 p15 p16 p17 p18
  clear vs
  go_wp2
  go_ret
  exact ⟨rfl, belowP be x.bs x.d⟩
end Go.Proofs.Ytldecdeiibfekaa
