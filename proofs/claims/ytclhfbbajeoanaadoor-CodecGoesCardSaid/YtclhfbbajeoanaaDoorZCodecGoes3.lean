/- Texts of the law CodecGoes, part 3. -/
import Derived.Test.YtclhfbbajeoanaaDoorZCodecGoes2
/- Right, of both sides (chapter 23). -/
namespace Go.Proofs.YtclhfbbajeoanaaDoor
open Go.RowKit
set_option linter.unusedVariables false
set_option linter.unusedSimpArgs false
attribute [local go_sem ↓] sliced_cut

attribute [local go_sem] cutA_zero

def shB (n : Int) : Bool := decide (0 ≤ n) && decide (n < 256)
def adG (six : Bool) (h l : Nat) : Bool := six || (decide (h = 0) && decide (l < 4294967296))
theorem short_any (n : Int) (w : World) : Calls Tryd.prog 102 #[.int .i64 n] w fun e w' => e = .returned (.bool (shB n)) ∧ w = w' := by
  by_cases h0 : 0 ≤ n
  · by_cases h1 : n < 256
    · have d0 : decide (0 ≤ n) = true := by simpa using h0
      have d1 : decide (n ≤ 255) = true := by simp; omega
      have hz : Hid (shB n = true) := Lib.hid (by simp [shB]; omega)
      have k1 : n ≤ 255 := by omega
      go_enter Tryd.func102, Tryd.ntmps102
      go_wp2
      go_ret
      exact ⟨by rw [hz.out]; simp; try omega, rfl⟩
    · have d0 : decide (0 ≤ n) = true := by simpa using h0
      have d1 : decide (n ≤ 255) = false := by simp; omega
      have hz : Hid (shB n = false) := Lib.hid (by simp [shB]; omega)
      have k1 : ¬ n ≤ 255 := by omega
      go_enter Tryd.func102, Tryd.ntmps102
      go_wp2
      go_ret
      exact ⟨by rw [hz.out]; simp; try omega, rfl⟩
  · have d0 : decide (0 ≤ n) = false := by simpa using h0
    have hz : Hid (shB n = false) := Lib.hid (by simp [shB]; omega)
    go_enter Tryd.func102, Tryd.ntmps102
    go_wp2
    go_ret
    exact ⟨by rw [hz.out]; simp; try omega, rfl⟩
set_option maxHeartbeats 4000000 in
set_option maxRecDepth 100000 in
theorem adrRightC (six : Bool) (h l : Nat) (w : World) (hl : l < 18446744073709551616) : Calls Tryd.prog 81 #[.agg (adC six h l).toArray] w (RetV w (.bool (adG six h l))) := by
  unfold adC
  cases six
  · by_cases h0 : h = 0
    · subst h0
      by_cases h1 : l < 4294967296
      · have t1 : decide (l < 4294967296) = true := by simp; omega
        have hz : Hid (adG false 0 l = true) := Lib.hid (by simp [adG]; omega)
        go_enter Tryd.func81, Tryd.ntmps81
        go_wp2
        go_ret
        exact RetV.is_ (by rw [hz.out]; simp; try omega) (Below.allocS (Below.refl _ _) _)
      · have t1 : decide (l < 4294967296) = false := by simp; omega
        have hz : Hid (adG false 0 l = false) := Lib.hid (by simp [adG]; omega)
        go_enter Tryd.func81, Tryd.ntmps81
        go_wp2
        go_ret
        exact RetV.is_ (by rw [hz.out]; simp; try omega) (Below.allocS (Below.refl _ _) _)
    · have e1 : ((h : Int) == 0) = false := by rw [beq_eq_false_iff_ne]; omega
      have hz : Hid (adG false h l = false) := Lib.hid (by simp [adG]; omega)
      clear h0
      go_enter Tryd.func81, Tryd.ntmps81
      go_wp2
      go_ret
      exact RetV.is_ (by rw [hz.out]; rfl) (Below.allocS (Below.refl _ _) _)
  · go_enter Tryd.func81, Tryd.ntmps81
    go_wp2
    go_ret
    exact RetV.is_ rfl (Below.allocS (Below.refl _ _) _)
def rightB (k v b e : Int) (six : Bool) (ah al : Nat) (wy : Int) (ms : List (Int × Int)) : Bool := (shB k && shB v && shB b && shB e && shB wy) && (adG six ah al && (decide (ms.length ≤ 64) && ms.all (fun p => shB p.1 && shB p.2)))
theorem rng_pr {w : World} {b off : Nat} {p : Int × Int} (h : w.cell? ⟨b, off, none⟩ = some (.int .i64 p.1) ∧ w.cell? ⟨b, off + 1, none⟩ = some (.int .i64 p.2)) : w.rangeAt b off [.int .i64 p.1, .int .i64 p.2] := by
  intro i u hu
  match i, hu with
  | 0, hu => simp at hu; subst hu; exact h.1
  | 1, hu => simp at hu; subst hu; exact h.2
  | i + 2, hu => simp at hu
set_option maxHeartbeats 4000000 in
set_option maxRecDepth 100000 in
theorem right_any (k v b e : Int) (six : Bool) (ah al pt pr : Nat) (wy : Int) (ms : List (Int × Int)) (A : Option Addr) (n c : Nat) (w : World) (ha : al < 18446744073709551616) (hr : Rs 2 w A n c (prs .i64 ms)) (hn : n ≤ 1000000) : Calls Tryd.prog 69 #[.agg (opC k v b e six ah al pt pr wy A n c).toArray] w (RetV w (.bool (rightB k v b e six ah al wy ms))) := by
  obtain ⟨da, a1, a2⟩ : ∃ d, Tryd.prog.underlying 32 = some d ∧ d.isRow = true := ⟨_, Tryd.underlying32, rfl⟩
  obtain ⟨dm, m1, m2⟩ : ∃ d, Tryd.prog.underlying 73 = some d ∧ d.isRow = true := ⟨_, Tryd.underlying73, rfl⟩
  have hml : ms.length = n := by have := hr.1; rw [prs_length] at this; omega
  have HAR := Lib.hid (fun w => adrRightC six ah al w ha)
  replace hr := hr.alloc (.cells (opC k v b e six ah al pt pr wy A n c).toArray 45)
  obtain ⟨dv1, v1, v2⟩ := rowOpC
  have b1 : Bk (w.alloc (.cells (opC k v b e six ah al pt pr wy A n c).toArray 45)) w.heap.size 45 (opC k v b e six ah al pt pr wy A n c) := Bk.new w 45 (opC k v b e six ah al pt pr wy A n c).toArray
  have be : Below w.heap.size w (w.alloc (.cells (opC k v b e six ah al pt pr wy A n c).toArray 45)) := Below.allocS (Below.refl _ _) _
  have zV : w.heap.size + 1 ≤ (w.alloc (.cells (opC k v b e six ah al pt pr wy A n c).toArray 45)).heap.size := by simp
  go_enter Tryd.func69, Tryd.ntmps69
  go_upto_region 1 with (fail)
  generalize w.alloc (.cells (opC k v b e six ah al pt pr wy A n c).toArray 45) = V at *
  have q0 : V.cell? ⟨w.heap.size, 0, none⟩ = some (.int .i64 k) := b1.cell 0
  have q1 : V.cell? ⟨w.heap.size, 1, none⟩ = some (.int .i64 v) := b1.cell 1
  have q2 : V.cell? ⟨w.heap.size, 2, none⟩ = some (.int .i64 b) := b1.cell 2
  have q3 : V.cell? ⟨w.heap.size, 3, none⟩ = some (.int .i64 e) := b1.cell 3
  have q9 : V.cell? ⟨w.heap.size, 9, none⟩ = some (.int .i64 wy) := b1.cell 9
  go_upto_region 2 with (fail)
  clear q0 q1 q2 q3 q9
  go_loop [18] (fun I => ∃ i : Nat, I = .int .i64 (i : Int) ∧ i ≤ 5 ∧ (1 ≤ i → shB k = true) ∧ (2 ≤ i → shB v = true) ∧ (3 ≤ i → shB b = true) ∧ (4 ≤ i → shB e = true) ∧ (5 ≤ i → shB wy = true)) (fun I => 5 - (intOf I).toNat)
  case atStart => exact ⟨0, rfl, by omega, fun h => by omega, fun h => by omega, fun h => by omega, fun h => by omega, fun h => by omega⟩
  case round =>
    obtain ⟨i, rfl, hi, hp⟩ := hrel
    rcases (by omega : i = 0 ∨ i = 1 ∨ i = 2 ∨ i = 3 ∨ i = 4 ∨ i = 5) with rfl | rfl | rfl | rfl | rfl | rfl
    · have hx := Lib.hid (short_any k)
      have hix : (Instr.index 167 (.agg #[.int .i64 k, .int .i64 v, .int .i64 b, .int .i64 e, .int .i64 wy]) (.int .i64 0)).run Tryd.prog V = .ok (.int .i64 k) V := by
        show _ = _
        kernel_rfl
      go_wp2_with fail
      refine (hx.out _).mono ?_
      rintro e1 w1 ⟨rfl, rfl⟩
      cases hb : shB k with
      | false =>
        have hno : Hid (rightB k v b e six ah al wy ms = false) := Lib.hid (by simp [rightB, hb])
        go_wp2
        go_ret
        exact RetV.is_ (by rw [hno.out]; rfl) be
      | true =>
        clear hx
        go_wp2
        go_round
        case rel => exact ⟨1, rfl, by omega, fun _ => hb, fun h => by omega, fun h => by omega, fun h => by omega, fun h => by omega⟩
        case measure => simp [intOf]
    · have hx := Lib.hid (short_any v)
      have hix : (Instr.index 167 (.agg #[.int .i64 k, .int .i64 v, .int .i64 b, .int .i64 e, .int .i64 wy]) (.int .i64 1)).run Tryd.prog V = .ok (.int .i64 v) V := by
        show _ = _
        kernel_rfl
      go_wp2_with fail
      refine (hx.out _).mono ?_
      rintro e1 w1 ⟨rfl, rfl⟩
      cases hb : shB v with
      | false =>
        have hno : Hid (rightB k v b e six ah al wy ms = false) := Lib.hid (by simp [rightB, hb])
        go_wp2
        go_ret
        exact RetV.is_ (by rw [hno.out]; rfl) be
      | true =>
        clear hx
        go_wp2
        go_round
        case rel => exact ⟨2, rfl, by omega, fun h => hp.1 (by omega), fun _ => hb, fun h => by omega, fun h => by omega, fun h => by omega⟩
        case measure => simp [intOf]
    · have hx := Lib.hid (short_any b)
      have hix : (Instr.index 167 (.agg #[.int .i64 k, .int .i64 v, .int .i64 b, .int .i64 e, .int .i64 wy]) (.int .i64 2)).run Tryd.prog V = .ok (.int .i64 b) V := by
        show _ = _
        kernel_rfl
      go_wp2_with fail
      refine (hx.out _).mono ?_
      rintro e1 w1 ⟨rfl, rfl⟩
      cases hb : shB b with
      | false =>
        have hno : Hid (rightB k v b e six ah al wy ms = false) := Lib.hid (by simp [rightB, hb])
        go_wp2
        go_ret
        exact RetV.is_ (by rw [hno.out]; rfl) be
      | true =>
        clear hx
        go_wp2
        go_round
        case rel => exact ⟨3, rfl, by omega, fun h => hp.1 (by omega), fun h => hp.2.1 (by omega), fun _ => hb, fun h => by omega, fun h => by omega⟩
        case measure => simp [intOf]
    · have hx := Lib.hid (short_any e)
      have hix : (Instr.index 167 (.agg #[.int .i64 k, .int .i64 v, .int .i64 b, .int .i64 e, .int .i64 wy]) (.int .i64 3)).run Tryd.prog V = .ok (.int .i64 e) V := by
        show _ = _
        kernel_rfl
      go_wp2_with fail
      refine (hx.out _).mono ?_
      rintro e1 w1 ⟨rfl, rfl⟩
      cases hb : shB e with
      | false =>
        have hno : Hid (rightB k v b e six ah al wy ms = false) := Lib.hid (by simp [rightB, hb])
        go_wp2
        go_ret
        exact RetV.is_ (by rw [hno.out]; rfl) be
      | true =>
        clear hx
        go_wp2
        go_round
        case rel => exact ⟨4, rfl, by omega, fun h => hp.1 (by omega), fun h => hp.2.1 (by omega), fun h => hp.2.2.1 (by omega), fun _ => hb, fun h => by omega⟩
        case measure => simp [intOf]
    · have hx := Lib.hid (short_any wy)
      have hix : (Instr.index 167 (.agg #[.int .i64 k, .int .i64 v, .int .i64 b, .int .i64 e, .int .i64 wy]) (.int .i64 4)).run Tryd.prog V = .ok (.int .i64 wy) V := by
        show _ = _
        kernel_rfl
      go_wp2_with fail
      refine (hx.out _).mono ?_
      rintro e1 w1 ⟨rfl, rfl⟩
      cases hb : shB wy with
      | false =>
        have hno : Hid (rightB k v b e six ah al wy ms = false) := Lib.hid (by simp [rightB, hb])
        go_wp2
        go_ret
        exact RetV.is_ (by rw [hno.out]; rfl) be
      | true =>
        clear hx
        go_wp2
        go_round
        case rel => exact ⟨5, rfl, by omega, fun h => hp.1 (by omega), fun h => hp.2.1 (by omega), fun h => hp.2.2.1 (by omega), fun h => hp.2.2.2.1 (by omega), fun _ => hb⟩
        case measure => simp [intOf]
    · have HK : Hid (shB k = true ∧ shB v = true ∧ shB b = true ∧ shB e = true ∧ shB wy = true) := Lib.hid ⟨hp.1 (by omega), hp.2.1 (by omega), hp.2.2.1 (by omega), hp.2.2.2.1 (by omega), hp.2.2.2.2 (by omega)⟩
      clear hp hi
      go_wp2_with (refine at_op (.load 32 (.tmp 25)) rfl ?_; refine wpList_ldA (t := 45) (off := 4) 32 (.tmp 25) rfl rfl (adC six ah al) rfl b1 rfl a1 a2 (szAd _ _ _) ?_)
      refine (HAR.out _).mono ?_
      rintro e1 w1 ⟨bs1, d1, rfl, rfl⟩
      replace b1 := b1.later (below_plus V bs1 d1)
      replace hr := hr.later (below_plus V bs1 d1)
      replace be := belowP be bs1 d1
      have q10 : (plus V bs1 d1).cell? ⟨w.heap.size, 10, none⟩ = some (.slice A n c) := b1.cell 10
      clear HAR
      generalize plus V bs1 d1 = V2 at *
      cases had : adG six ah al with
      | false =>
        have hno : Hid (rightB k v b e six ah al wy ms = false) := Lib.hid (by simp [rightB, had])
        go_wp2
        go_ret
        exact RetV.is_ (by rw [hno.out]; rfl) be
      | true =>
        by_cases h64 : 64 < n
        · have i64 : (64 : Int) < (n : Int) := by omega
          have hml9 : ¬ ms.length ≤ 64 := by omega
          have hno : Hid (rightB k v b e six ah al wy ms = false) := Lib.hid (by simp [rightB, hml9])
          go_wp2
          go_ret
          exact RetV.is_ (by rw [hno.out]; rfl) be
        have i64 : ¬ (64 : Int) < (n : Int) := by omega
        go_upto_region 10 with (fail)
        have hB0 : Hid (Below w.heap.size w V2) := Lib.hid be
        clear be
        go_loopw [38] (fun I wr => ∃ i : Nat, I = .int .i64 (i : Int) ∧ i ≤ n ∧ Below V2.heap.size V2 wr ∧ (ms.take i).all (fun p => shB p.1 && shB p.2) = true) (fun I _ => n - (intOf I).toNat)
        case atStart => exact ⟨0, rfl, Nat.zero_le _, Below.refl _ _, rfl⟩
        case round =>
          obtain ⟨i, rfl, hi, hE, hall⟩ := hrel
          have be9 : Hid (Below w.heap.size w wr) := Lib.hid (hB0.out.trans (hE.mono hB0.out.size))
          by_cases hlt : i < n
          · have ii : (i : Int) < (n : Int) := by omega
            have hjL : i < ms.length := by omega
            obtain ⟨bl, ol, rfl, hbl, -⟩ := (hr.later hE).at_ (by omega) (by decide)
            have hg7 := rng_pr ((hr.later hE).range2 i hjL)
            have hsn : ms.take (i + 1) = ms.take i ++ [ms[i]] := by simp
            have hmem : ms[i] ∈ ms := List.getElem_mem hjL
            generalize ms[i] = p at *
            obtain ⟨x, y⟩ := p
            replace hsn := Lib.hid hsn
            have hx := Lib.hid (short_any x)
            have hy := Lib.hid (short_any y)
            have hbad : Hid (shB x = false ∨ shB y = false → rightB k v b e six ah al wy ms = false) := Lib.hid (fun h => by
              have : ms.all (fun p => shB p.1 && shB p.2) = false := by
                rw [List.all_eq_false]
                exact ⟨(x, y), hmem, by rcases h with h | h <;> simp [h]⟩
              simp [rightB, this])
            clear hmem
            go_upto_region 12 with (first
              | (refine at_op (.load 73 (.tmp 40)) rfl ?_; refine wpList_load_mid rfl 73 (.tmp 40) rfl bl (ol + i * 2) rfl [.int .i64 x, .int .i64 y] _ hg7 m1 m2 (by kernel_rfl) ?_)
              | (refine at_op (.store 73 (.tmp 6) (.tmp 41)) rfl ?_; refine wpList_stA (t := 73) 73 (.tmp 6) (.tmp 41) rfl rfl [.int .i64 x, .int .i64 y] [.int .i64 0, .int .i64 0] rfl (by simp [Value.oneCell']) rfl rfl (Bk.new _ _ _) (by kernel_rfl) ?_; intro W4 h4 g4))
            have be4 : Below wr.heap.size wr W4 := below_grown (Below.allocS (Below.refl _ _) _) g4 (Nat.le_refl _)
            have q0 : W4.cell? ⟨wr.heap.size, 0, none⟩ = some (.int .i64 x) := h4.cell 0
            have q1 : W4.cell? ⟨wr.heap.size, 1, none⟩ = some (.int .i64 y) := h4.cell 1
            have be10 : Hid (Below w.heap.size w W4) := Lib.hid (be9.out.trans (be4.mono be9.out.size))
            replace hE := hE.trans (be4.mono hE.size)
            clear be4 h4 g4
            generalize wr.heap.size = g6 at *
            go_wp2_with fail
            refine (hx.out _).mono ?_
            rintro e1 w1 ⟨rfl, rfl⟩
            cases hbx : shB x with
            | false =>
              have hno : Hid (rightB k v b e six ah al wy ms = false) := Lib.hid (hbad.out (.inl hbx))
              clear hbad
              go_wp2
              go_ret
              exact RetV.is_ (by rw [hno.out]; rfl) be10.out
            | true =>
              go_wp2_with fail
              refine (hy.out _).mono ?_
              rintro e1 w1 ⟨rfl, rfl⟩
              cases hby : shB y with
              | false =>
                have hno : Hid (rightB k v b e six ah al wy ms = false) := Lib.hid (hbad.out (.inr hby))
                clear hbad
                go_wp2
                go_ret
                exact RetV.is_ (by rw [hno.out]; rfl) be10.out
              | true =>
                clear hbad
                go_wp2
                exact ⟨⟨i + 1, by go_num, by omega, hE, by rw [hsn.out, List.all_append, hall]; simp [hbx, hby]⟩, by simp [intOf]; omega⟩
          · obtain rfl : i = n := by omega
            have ii : ¬ (i : Int) < (i : Int) := by omega
            have hyes : Hid (rightB k v b e six ah al wy ms = true) := Lib.hid (by
              have h1 := HK.out
              have : ms.all (fun p => shB p.1 && shB p.2) = true := by rw [← hall, List.take_of_length_le (by omega)]
              simp [rightB, h1, had, this]
              omega)
            go_wp2
            go_ret
            exact RetV.is_ (by rw [hyes.out]; rfl) be9.out
end Go.Proofs.YtclhfbbajeoanaaDoor

/- Plain: the state of chapter 22 and its operations. No program in sight. -/
namespace Go.Proofs.YtclhfbbajeoanaaDoor
set_option linter.unusedVariables false
set_option linter.unusedSimpArgs false

abbrev Adr := Bool × Nat × Nat
/-- a service -/
structure Vp where
  ad : Adr
  pt : Nat
  pr : Nat
  wy : Int
  ms : List (Int × Int)
  S : Stk
/-- a state -/
structure Cf where
  num : Nat
  key : List UInt8
  now : Nat
  bk : List (Option Adr)
  vs : List Vp
def knC (C : Cf) (n : Int) : Bool := decide (1 ≤ n) && decide (n ≤ 64) && (C.bk.getD n.toNat none).isSome
def eqV (a : Adr) (pt pr : Nat) (v : Vp) : Bool := decide (v.ad = a ∧ v.pt = pt ∧ v.pr = pr)
def fdC (C : Cf) (a : Adr) (pt pr : Nat) : Nat := C.vs.findIdx (eqV a pt pr)
def wtB (x : Int) : Bool := decide (0 ≤ x) && decide (x ≤ 100)
/-- may members be? -/
def okM (C : Cf) (l : List (Int × Int)) : Bool := l.all (fun p => knC C p.1 && wtB p.2) && decide ((l.map (·.1)).Nodup)
def ev0 (C : Cf) : Nat := (C.vs.head?.map (·.S.ev)).getD 0
def newV (C : Cf) (o : OpR) : Vp := ⟨(o.six, o.ah, o.al), o.pt, o.pr, o.wy, [], ⟨[], ev0 C, 0⟩⟩
def wyB (x : Int) : Bool := decide (1 ≤ x) && decide (x ≤ 4)
def addE (C : Cf) (o : OpR) : Nat :=
  if (adG o.six o.ah o.al && (decide (o.pr = 6 ∨ o.pr = 17) && wyB o.wy)) = false then 1
  else if fdC C (o.six, o.ah, o.al) o.pt o.pr < C.vs.length then 7
  else if 16 ≤ C.vs.length then 23 else 0
def tabS (S : Stk) (ms : List (Int × Int)) : Tab := tNext (newT S) (ms.map (·.1))
def setE (C : Cf) (v : Vp) (ms : List (Int × Int)) : Nat := if okM C ms = false then 1 else pushE v.S
def setV (v : Vp) (ms : List (Int × Int)) : Vp := { v with S := pushS v.S (tabS v.S ms), ms := ms }
def mrkE (S : Stk) (k n : Int) : Nat := if k = 7 then admE S n else eviE S n
def mrkS (S : Stk) (k n : Int) : Stk := if k = 7 then admS S n else eviS S n
def mrkV (k n : Int) (v : Vp) : Vp := { v with S := mrkS v.S k n }
def markE (C : Cf) (k n : Int) : Nat := if knC C n = false then 6 else match C.vs with | [] => 1 | v :: _ => mrkE v.S k n
def vAt (C : Cf) (n : Int) : Option Vp := if 0 ≤ n then C.vs[n.toNat]? else none
/-- what an operation does to a service -/
def vipE (C : Cf) (o : OpR) (v : Vp) : Nat := if o.k = 3 then setE C v o.ms else if o.k = 4 then retE v.S o.e else if o.k = 5 then rlsE v.S o.e else 1
def vipV (o : OpR) (v : Vp) : Vp := if o.k = 3 then setV v o.ms else if o.k = 4 then { v with S := retS v.S o.e } else { v with S := rlsS v.S o.e }
def chE (C : Cf) (o : OpR) : Nat :=
  if o.k = 1 then (if numB o.b && adG o.six o.ah o.al then 0 else 1)
  else if o.k = 2 then addE C o
  else if o.k = 6 ∨ o.k = 7 then markE C o.k o.b
  else if o.k = 8 then 0
  else match vAt C o.v with | none => 6 | some v => vipE C o v
/-- what an operation that succeeds makes of a state, its count apart -/
def chC (C : Cf) (o : OpR) : Cf :=
  if o.k = 1 then { C with bk := C.bk.set o.b.toNat (some (o.six, o.ah, o.al)) }
  else if o.k = 2 then { C with vs := C.vs ++ [newV C o] }
  else if o.k = 6 ∨ o.k = 7 then { C with vs := C.vs.map (mrkV o.k o.b) }
  else if o.k = 8 then { C with now := (C.now + 1) % 18446744073709551616 }
  else match vAt C o.v with | none => C | some v => { C with vs := C.vs.set o.v.toNat (vipV o v) }
def doC (C : Cf) (o : OpR) : Cf := if chE C o = 0 then chC C o else C
def upN (C : Cf) : Cf := { C with num := (C.num + 1) % 18446744073709551616 }
def apC (C : Cf) (o : OpR) : Cf := if chE C o = 0 then upN (chC C o) else C
/-- what Restore answers -/
def resE (C : Cf) (ms : List (Int × Int)) (T : Option Stk) : Nat :=
  if C.vs.length = 0 then 6 else match T with
  | none => 1
  | some S => if okM C ms && (List.range 64).all (fun i : Nat => (!deadS S (i + 1 : Nat) || knC C (i + 1 : Nat)) && (decide (C.vs.length ≤ 1) || (deadS S (i + 1 : Nat) == hasB (ev0 C) (i + 1 : Nat) 1 64))) then 0 else 1
def resC (C : Cf) (ms : List (Int × Int)) (S : Stk) : Cf := { C with vs := C.vs.set (C.vs.length - 1) (match C.vs[C.vs.length - 1]? with | some v => { v with ms := ms, S := S } | none => ⟨(false, 0, 0), 0, 0, 0, ms, S⟩) }
def cf0 (key : List UInt8) : Cf := ⟨0, key, 0, List.replicate 65 none, []⟩

/-! what holds of every state -/
def adOk (a : Adr) : Prop := adG a.1 a.2.1 a.2.2 = true ∧ a.2.1 < 18446744073709551616 ∧ a.2.2 < 18446744073709551616
structure VpOk (C : Cf) (v : Vp) : Prop where
  ad : adOk v.ad
  pt : v.pt < 65536
  pr : v.pr = 6 ∨ v.pr = 17
  wy : 1 ≤ v.wy ∧ v.wy ≤ 4
  ms : okM C v.ms = true
  st : StkOk v.S
  ev : v.S.ev = ev0 C
structure CfOk (C : Cf) : Prop where
  num : C.num < 18446744073709551616
  now : C.now < 18446744073709551616
  key : C.key.length = 16
  bl : C.bk.length = 65
  b0 : C.bk.getD 0 none = none
  bk : ∀ i a, C.bk.getD i none = some a → adOk a
  vl : C.vs.length ≤ 16
  vs : ∀ v ∈ C.vs, VpOk C v
  kn : ∀ n : Int, hasB (ev0 C) n 1 64 = true → knC C n = true
  nd : C.vs.Pairwise (fun v u => ¬ (v.ad = u.ad ∧ v.pt = u.pt ∧ v.pr = u.pr))
/-- an operation's fields as Go's types bound them -/
structure OpOk (o : OpR) : Prop where
  k : -9223372036854775808 ≤ o.k ∧ o.k ≤ 9223372036854775807
  v : -9223372036854775808 ≤ o.v ∧ o.v ≤ 9223372036854775807
  b : -9223372036854775808 ≤ o.b ∧ o.b ≤ 9223372036854775807
  e : -9223372036854775808 ≤ o.e ∧ o.e ≤ 9223372036854775807
  ah : o.ah < 18446744073709551616
  al : o.al < 18446744073709551616
  pt : o.pt < 65536
  pr : o.pr < 256
  wy : -9223372036854775808 ≤ o.wy ∧ o.wy ≤ 9223372036854775807
  ms : ∀ p ∈ o.ms, (-9223372036854775808 ≤ p.1 ∧ p.1 ≤ 9223372036854775807) ∧ (-9223372036854775808 ≤ p.2 ∧ p.2 ≤ 9223372036854775807)

theorem cf0_ok (key : List UInt8) (h : key.length = 16) : CfOk (cf0 key) := by
  refine ⟨by simp [cf0], by simp [cf0], h, by simp [cf0], by rfl, ?_, by simp [cf0], by simp [cf0], ?_, by simp [cf0]⟩
  · intro i a hi
    simp only [cf0, List.getD_eq_getElem?_getD, List.getElem?_replicate] at hi
    split at hi <;> simp at hi
  · intro n hn
    have := (hasB_rg hn).2.2
    simp [cf0, ev0] at this
theorem knC_rg {C : Cf} {n : Int} (h : knC C n = true) : 1 ≤ n ∧ n ≤ 64 := by
  simp only [knC, Bool.and_eq_true, decide_eq_true_eq] at h
  exact h.1
theorem okM_all {C : Cf} {l : List (Int × Int)} (h : okM C l = true) : ∀ p ∈ l, knC C p.1 = true ∧ 0 ≤ p.2 ∧ p.2 ≤ 100 := by
  intro p hp
  simp only [okM, Bool.and_eq_true, List.all_eq_true] at h
  have h1 := h.1 p hp
  refine ⟨h1.1, ?_⟩
  have := h1.2
  simpa [wtB] using this
theorem okM_nd {C : Cf} {l : List (Int × Int)} (h : okM C l = true) : (l.map (·.1)).Nodup := by
  simp only [okM, Bool.and_eq_true, decide_eq_true_eq] at h
  exact h.2
/-- members that may be are at most 64 -/
theorem okM_len {C : Cf} {l : List (Int × Int)} (h : okM C l = true) : l.length ≤ 64 := by
  have h1 := nodup_le 64 ((l.map (·.1)).map (fun x => x.toNat - 1)) (by
    rw [List.nodup_iff_pairwise_ne, List.pairwise_map]
    refine List.Pairwise.imp_of_mem ?_ (okM_nd h)
    intro a b ha hb hab
    obtain ⟨p, hp, rfl⟩ := List.mem_map.1 ha
    obtain ⟨q, hq, rfl⟩ := List.mem_map.1 hb
    have := knC_rg (okM_all h p hp).1
    have := knC_rg (okM_all h q hq).1
    omega) (fun x hx => by
    obtain ⟨y, hy, rfl⟩ := List.mem_map.1 hx
    obtain ⟨p, hp, rfl⟩ := List.mem_map.1 hy
    have := knC_rg (okM_all h p hp).1
    omega)
  simpa using h1
theorem okM_congr {C C' : Cf} (h : ∀ n, knC C n = true → knC C' n = true) {l : List (Int × Int)} (hl : okM C l = true) : okM C' l = true := by
  simp only [okM, Bool.and_eq_true, List.all_eq_true, decide_eq_true_eq] at hl ⊢
  exact ⟨fun p hp => ⟨h _ (hl.1 p hp).1, (hl.1 p hp).2⟩, hl.2⟩
theorem VpOk.congr {C C' : Cf} (h : ∀ n, knC C n = true → knC C' n = true) (he : ev0 C' = ev0 C) {v : Vp} (hv : VpOk C v) : VpOk C' v :=
  ⟨hv.ad, hv.pt, hv.pr, hv.wy, okM_congr h hv.ms, hv.st, hv.ev.trans he.symm⟩
theorem hasB_dead (S : Stk) (n : Int) : deadS S n = hasB S.ev n 1 64 := rfl
theorem ev_evi_congr {S S' : Stk} (h : S.ev = S'.ev) (n : Int) : (eviS S n).ev = (eviS S' n).ev := by
  unfold eviS deadS
  rw [h]
  split <;> simp [h]
theorem ev_adm_congr {S S' : Stk} (h : S.ev = S'.ev) (n : Int) : (admS S n).ev = (admS S' n).ev := by
  unfold admS deadS
  rw [h]
  split <;> simp [h]
theorem ev_mrk_congr {S S' : Stk} (h : S.ev = S'.ev) (k n : Int) : (mrkS S k n).ev = (mrkS S' k n).ev := by
  unfold mrkS
  split
  · exact ev_adm_congr h n
  · exact ev_evi_congr h n
theorem ev_ret (S : Stk) (v : Int) : (retS S v).ev = S.ev := by unfold retS; split <;> rfl
theorem ev_rls (S : Stk) (v : Int) : (rlsS S v).ev = S.ev := by unfold rlsS; split <;> rfl
theorem ev_push (S : Stk) (t : Tab) : (pushS S t).ev = S.ev := by unfold pushS; split <;> rfl
theorem StkOk.mrk {S : Stk} (h : StkOk S) (k n : Int) : StkOk (mrkS S k n) := by
  unfold mrkS
  split
  · exact h.adm n
  · exact h.evi n
theorem tabS_ok {S : Stk} (h : StkOk S) (ms : List (Int × Int)) : TabOk (tabS S ms) := tNext_ok _ (newT_ok h) _
theorem vipV_ev (o : OpR) (v : Vp) : (vipV o v).S.ev = v.S.ev := by
  unfold vipV setV
  split
  · exact ev_push _ _
  · split
    · exact ev_ret _ _
    · exact ev_rls _ _
theorem vipV_st {o : OpR} {v : Vp} (h : StkOk v.S) : StkOk (vipV o v).S := by
  unfold vipV setV
  split
  · exact h.push (tabS_ok h _)
  · split
    · exact h.ret _
    · exact h.rls _
theorem vipV_id (o : OpR) (v : Vp) : (vipV o v).ad = v.ad ∧ (vipV o v).pt = v.pt ∧ (vipV o v).pr = v.pr ∧ (vipV o v).wy = v.wy := by
  unfold vipV setV
  split
  · exact ⟨rfl, rfl, rfl, rfl⟩
  · split <;> exact ⟨rfl, rfl, rfl, rfl⟩
theorem ev0_set {C : Cf} {i : Nat} {v v' : Vp} (hi : C.vs[i]? = some v) (h : v'.S.ev = v.S.ev) : ev0 { C with vs := C.vs.set i v' } = ev0 C := by
  unfold ev0
  cases hc : C.vs with
  | nil => rfl
  | cons a t =>
    cases i with
    | zero =>
      rw [hc] at hi
      simp at hi
      subst hi
      simp [h]
    | succ i => simp
theorem pw_set {l : List Vp} {R : Vp → Vp → Prop} (h : l.Pairwise R) {i : Nat} {v v' : Vp} (hi : l[i]? = some v) (h1 : ∀ u, R v u → R v' u) (h2 : ∀ u, R u v → R u v') : (l.set i v').Pairwise R := by
  rw [List.pairwise_iff_getElem] at h ⊢
  intro a b ha hb hab
  simp only [List.length_set] at ha hb
  have hv : ∀ (hl : i < l.length), l[i] = v := fun hl => by rw [List.getElem?_eq_getElem hl] at hi; exact Option.some.inj hi
  rw [List.getElem_set, List.getElem_set]
  have := h a b ha hb hab
  split
  · rename_i e
    subst e
    rw [if_neg (by omega)]
    rw [hv ha] at this
    exact h1 _ this
  · split
    · rename_i e
      subst e
      rw [hv hb] at this
      exact h2 _ this
    · exact this
theorem bk_kn {C : Cf} {i : Nat} {a : Adr} (hl : C.bk.length = 65) (n : Int) (h : knC C n = true) : knC { C with bk := C.bk.set i (some a) } n = true := by
  simp only [knC, Bool.and_eq_true, decide_eq_true_eq] at h ⊢
  refine ⟨h.1, ?_⟩
  simp only [List.getD_eq_getElem?_getD, List.getElem?_set] at h ⊢
  split
  · split
    · rfl
    · rename_i h1 h2
      have := h.2
      rw [List.getElem?_eq_none (by omega)] at this
      simp at this
  · exact h.2
theorem fdC_none {C : Cf} {a : Adr} {pt pr : Nat} (h : ¬ fdC C a pt pr < C.vs.length) : ∀ v ∈ C.vs, ¬ (v.ad = a ∧ v.pt = pt ∧ v.pr = pr) := by
  intro v hv e
  apply h
  unfold fdC
  rw [List.findIdx_lt_length]
  exact ⟨v, hv, decide_eq_true e⟩
theorem doC_ok {C : Cf} (h : CfOk C) {o : OpR} (ho : OpOk o) : CfOk (doC C o) := by
  unfold doC
  by_cases he : chE C o = 0
  rotate_left
  · rw [if_neg he]; exact h
  rw [if_pos he]
  unfold chC
  unfold chE at he
  by_cases k1 : o.k = 1
  · rw [if_pos k1] at he ⊢
    split at he
    rotate_left
    · cases he
    rename_i hg
    simp only [Bool.and_eq_true] at hg
    have hb := hg.1
    simp only [numB, Bool.and_eq_true, decide_eq_true_eq] at hb
    have hk := bk_kn (C := C) (i := o.b.toNat) (a := (o.six, o.ah, o.al)) h.bl
    refine ⟨h.num, h.now, h.key, by simpa using h.bl, ?_, ?_, h.vl, fun v hv => (h.vs v hv).congr hk rfl, fun n hn => hk n (h.kn n hn), h.nd⟩
    · have := h.b0
      simp only [List.getD_eq_getElem?_getD] at this ⊢
      rw [List.getElem?_set_ne (by omega)]
      exact this
    · intro i a hi
      simp only [List.getD_eq_getElem?_getD, List.getElem?_set] at hi
      split at hi
      · split at hi
        · simp at hi; subst hi; exact ⟨hg.2, ho.ah, ho.al⟩
        · simp at hi
      · exact h.bk i a (by simpa only [List.getD_eq_getElem?_getD] using hi)
  rw [if_neg k1] at he ⊢
  by_cases k2 : o.k = 2
  · rw [if_pos k2] at he ⊢
    unfold addE at he
    split at he
    · cases he
    rename_i hg
    split at he
    · cases he
    rename_i hf
    split at he
    · cases he
    rename_i h16
    have hg : (adG o.six o.ah o.al && (decide (o.pr = 6 ∨ o.pr = 17) && wyB o.wy)) = true := by
      cases hx : (adG o.six o.ah o.al && (decide (o.pr = 6 ∨ o.pr = 17) && wyB o.wy))
      · exact absurd hx hg
      · rfl
    simp only [Bool.and_eq_true, decide_eq_true_eq, wyB] at hg
    have he0 : ev0 { C with vs := C.vs ++ [newV C o] } = ev0 C := by
      unfold ev0
      cases hc : C.vs with
      | nil => simp [newV, ev0, hc]
      | cons a t => simp
    have hkn : ∀ n, knC C n = true → knC { C with vs := C.vs ++ [newV C o] } n = true := fun n hn => hn
    refine ⟨h.num, h.now, h.key, h.bl, h.b0, h.bk, by simp; omega, ?_, ?_, ?_⟩
    · intro v hv
      rcases List.mem_append.1 hv with hv | hv
      · exact (h.vs v hv).congr hkn he0
      · simp at hv
        subst hv
        refine ⟨⟨hg.1, ho.ah, ho.al⟩, ho.pt, hg.2.1, hg.2.2, rfl, ?_, he0.symm⟩
        refine ⟨by simp [newV], by simp [newV], ?_, by simp [newV], by simp [newV]⟩
        show ev0 C < _
        unfold ev0
        cases hc : C.vs with
        | nil => simp
        | cons a t => exact (h.vs a (by simp [hc])).st.ev
    · intro n hn
      rw [he0] at hn
      exact h.kn n hn
    · rw [List.pairwise_append]
      refine ⟨h.nd, by simp, fun v hv u hu => ?_⟩
      simp at hu
      subst hu
      exact fdC_none hf v hv
  rw [if_neg k2] at he ⊢
  by_cases k6 : o.k = 6 ∨ o.k = 7
  · rw [if_pos k6] at he ⊢
    unfold markE at he
    split at he
    · cases he
    rename_i hkn
    have hkn : knC C o.b = true := by
      cases hx : knC C o.b
      · exact absurd hx hkn
      · rfl
    have hev : ∀ v ∈ C.vs, (mrkV o.k o.b v).S.ev = ev0 { C with vs := C.vs.map (mrkV o.k o.b) } := by
      intro v hv
      cases hc : C.vs with
      | nil => rw [hc] at hv; cases hv
      | cons a t =>
        show (mrkS v.S o.k o.b).ev = _
        simp only [ev0, List.map_cons, List.head?_cons, Option.map_some, Option.getD_some]
        show _ = (mrkS a.S o.k o.b).ev
        exact ev_mrk_congr ((h.vs v hv).ev.trans (h.vs a (by simp [hc])).ev.symm) _ _
    refine ⟨h.num, h.now, h.key, h.bl, h.b0, h.bk, by simpa using h.vl, ?_, ?_, ?_⟩
    · intro v hv
      obtain ⟨u, hu, rfl⟩ := List.mem_map.1 hv
      have hu' := h.vs u hu
      exact ⟨hu'.ad, hu'.pt, hu'.pr, hu'.wy, okM_congr (C := C) (fun n hn => hn) hu'.ms, hu'.st.mrk _ _, hev u hu⟩
    · intro n hn
      show knC C n = true
      cases hc : C.vs with
      | nil => simp [ev0, hc, hasB] at hn
      | cons a t =>
        have ha := h.vs a (by simp [hc])
        have h1 : hasB (mrkS a.S o.k o.b).ev n 1 64 = true := by
          simpa [ev0, hc, mrkV] using hn
        have hr := hasB_rg h1
        obtain ⟨i, rfl⟩ : ∃ i : Nat, n = i := ⟨n.toNat, by omega⟩
        have h2 : deadS (mrkS a.S o.k o.b) (i : Int) = true := h1
        unfold mrkS at h2
        split at h2
        · by_cases hd : deadS a.S o.b = true
          · rw [deadS_adm ha.st.ev hd] at h2
            simp only [Bool.and_eq_true] at h2
            exact h.kn _ (by rw [← ha.ev]; exact h2.1)
          · have : admS a.S o.b = a.S := by unfold admS; rw [if_neg hd]
            rw [this] at h2
            exact h.kn _ (by rw [← ha.ev]; exact h2)
        · by_cases hd : (numB o.b && !deadS a.S o.b) = true
          · rw [deadS_evi hd] at h2
            simp only [Bool.or_eq_true, decide_eq_true_eq] at h2
            rcases h2 with h2 | h2
            · exact h.kn _ (by rw [← ha.ev]; exact h2)
            · rw [h2]; exact hkn
          · have : eviS a.S o.b = a.S := by unfold eviS; rw [if_neg hd]
            rw [this] at h2
            exact h.kn _ (by rw [← ha.ev]; exact h2)
    · rw [List.pairwise_map]
      exact h.nd
  rw [if_neg k6] at he ⊢
  by_cases k8 : o.k = 8
  · rw [if_pos k8]
    refine ⟨h.num, Nat.mod_lt _ (by decide), h.key, h.bl, h.b0, h.bk, h.vl, fun v hv => VpOk.congr (C := C) (C' := { C with now := (C.now + 1) % 18446744073709551616 }) (fun n hn => hn) rfl (h.vs v hv), h.kn, h.nd⟩
  rw [if_neg k8] at he ⊢
  cases hv : vAt C o.v with
  | none => exact h
  | some v =>
    rw [hv] at he
    replace he : vipE C o v = 0 := he
    show CfOk { C with vs := C.vs.set o.v.toNat (vipV o v) }
    unfold vAt at hv
    split at hv
    rotate_left
    · cases hv
    have hm := List.mem_of_getElem? hv
    have hvo := h.vs v hm
    have he0 := ev0_set (C := C) hv (vipV_ev o v)
    have hid := vipV_id o v
    refine ⟨h.num, h.now, h.key, h.bl, h.b0, h.bk, by simpa using h.vl, ?_, ?_, ?_⟩
    · intro u hu
      rcases List.mem_or_eq_of_mem_set hu with hu | rfl
      · exact VpOk.congr (C := C) (C' := { C with vs := C.vs.set o.v.toNat (vipV o v) }) (fun n hn => hn) he0 (h.vs u hu)
      · refine ⟨by rw [hid.1]; exact hvo.ad, by rw [hid.2.1]; exact hvo.pt, by rw [hid.2.2.1]; exact hvo.pr, by rw [hid.2.2.2]; exact hvo.wy, ?_, vipV_st hvo.st, ?_⟩
        · show okM C _ = true
          unfold vipE setE at he
          unfold vipV setV
          split
          · rename_i k3
            rw [if_pos k3] at he
            split at he
            · cases he
            · rename_i hx
              show okM C o.ms = true
              cases hy : okM C o.ms
              · exact absurd hy hx
              · rfl
          · split <;> exact hvo.ms
        · rw [vipV_ev, he0]; exact hvo.ev
    · intro n hn
      rw [he0] at hn
      exact h.kn n hn
    · refine pw_set h.nd hv (fun u hu => ?_) (fun u hu => ?_)
      · rw [hid.1, hid.2.1, hid.2.2.1]; exact hu
      · rw [hid.1, hid.2.1, hid.2.2.1]; exact hu
theorem upN_ok {C : Cf} (h : CfOk C) : CfOk (upN C) :=
  ⟨Nat.mod_lt _ (by decide), h.now, h.key, h.bl, h.b0, h.bk, h.vl, fun v hv => VpOk.congr (C := C) (C' := upN C) (fun n hn => hn) rfl (h.vs v hv), h.kn, h.nd⟩
theorem apC_ok {C : Cf} (h : CfOk C) {o : OpR} (ho : OpOk o) : CfOk (apC C o) := by
  have := doC_ok h ho
  unfold apC
  unfold doC at this
  split
  · rename_i he
    rw [if_pos he] at this
    exact upN_ok this
  · exact h
theorem apC_do (C : Cf) (o : OpR) : apC C o = if chE C o = 0 then upN (doC C o) else doC C o := by
  unfold apC doC
  split <;> rfl
end Go.Proofs.YtclhfbbajeoanaaDoor

/- Contracts of siphash's mixing. -/
namespace Go.Proofs.YtclhfbbajeoanaaDoor
open Go.RowKit
set_option linter.unusedVariables false
set_option linter.unusedSimpArgs false
attribute [local go_sem ↓] sliced_cut

attribute [local go_sem] cutA_zero

/-- sum and exclusive or of words, under names that simp leaves alone -/
def uadd (x y : UInt64) : UInt64 := x + y
def uxor (x y : UInt64) : UInt64 := x ^^^ y
theorem wadd (x y : UInt64) : IntKind.u64.wrap ((x.toNat : Int) + (y.toNat : Int)) = ((uadd x y).toNat : Int) := by
  unfold uadd
  rw [UInt64.toNat_add, IntKind.wrap_u64]
  omega
theorem wxor (x y : UInt64) : bits .xor .u64 (x.toNat : Int) (y.toNat : Int) = ((uxor x y).toNat : Int) := by
  unfold uxor
  rw [u64_xor_nat _ _ x.toNat_lt y.toNat_lt, UInt64.toNat_xor]
attribute [local go_sem] wadd wxor

/-- four words -/
structure W4 where
  a : UInt64
  b : UInt64
  c : UInt64
  d : UInt64
def W4.cells (v : W4) : List Value := [.int .u64 (v.a.toNat : Int), .int .u64 (v.b.toNat : Int), .int .u64 (v.c.toNat : Int), .int .u64 (v.d.toNat : Int)]
end Go.Proofs.YtclhfbbajeoanaaDoor

/- Words out of bytes, least significant first: siphash.little and its reference; plain facts. -/
namespace Go.Proofs.YtclhfbbajeoanaaDoor
open Go.RowKit
set_option linter.unusedVariables false
attribute [local go_sem ↓] sliced_cut

attribute [local go_sem] cutA_zero

def lnum : List UInt8 → Nat
  | [] => 0
  | b :: l => b.toNat + 256 * lnum l
/-- the word of at most eight bytes -/
def lit (l : List UInt8) : UInt64 := UInt64.ofNat (lnum l)
end Go.Proofs.YtclhfbbajeoanaaDoor

/- siphash: absorb, start, Sum. -/
namespace Go.Proofs.YtclhfbbajeoanaaDoor
open Go.RowKit
set_option linter.unusedVariables false
attribute [local go_sem ↓] sliced_cut

attribute [local go_sem] cutA_zero wadd wxor

theorem wxorc (x : UInt64) (k : Nat) (hk : k < 18446744073709551616) : bits .xor .u64 (x.toNat : Int) (k : Nat) = ((uxor x (UInt64.ofNat k)).toNat : Int) := by
  have e : k = (UInt64.ofNat k).toNat := by rw [UInt64.toNat_ofNat', Nat.mod_eq_of_lt hk]
  have := wxor x (UInt64.ofNat k)
  rw [← e] at this
  exact this
theorem xc1 (x : UInt64) : bits .xor .u64 (x.toNat : Int) 8317987319222330741 = ((uxor x 8317987319222330741).toNat : Int) := wxorc x 8317987319222330741 (by decide)
theorem xc2 (x : UInt64) : bits .xor .u64 (x.toNat : Int) 7237128888997146477 = ((uxor x 7237128888997146477).toNat : Int) := wxorc x 7237128888997146477 (by decide)
theorem xc3 (x : UInt64) : bits .xor .u64 (x.toNat : Int) 7816392313619706465 = ((uxor x 7816392313619706465).toNat : Int) := wxorc x 7816392313619706465 (by decide)
theorem xc4 (x : UInt64) : bits .xor .u64 (x.toNat : Int) 8387220255154660723 = ((uxor x 8387220255154660723).toNat : Int) := wxorc x 8387220255154660723 (by decide)
theorem xc5 (x : UInt64) : bits .xor .u64 (x.toNat : Int) 255 = ((uxor x 255).toNat : Int) := wxorc x 255 (by decide)
attribute [local go_sem] xc1 xc2 xc3 xc4 xc5

end Go.Proofs.YtclhfbbajeoanaaDoor

/- siphash.Sum. -/
namespace Go.Proofs.YtclhfbbajeoanaaDoor
open Go.RowKit
set_option linter.unusedVariables false
attribute [local go_sem ↓] sliced_cut

attribute [local go_sem] cutA_zero wadd wxor xc5

/-- sixteen bytes -/
def K16 (key : List UInt8) : Prop := key.length = 16
end Go.Proofs.YtclhfbbajeoanaaDoor

/- siphash.Of, Derive and their references. -/
namespace Go.Proofs.YtclhfbbajeoanaaDoor
open Go.RowKit
set_option linter.unusedVariables false
attribute [local go_sem ↓] sliced_cut

attribute [local go_sem] cutA_zero

theorem rowKey : ∃ d, Tryd.prog.underlying 82 = some d ∧ d.isRow = true ∧ (Tryd.prog.info? 82).map (·.size) = some 16 := ⟨_, Tryd.underlying82, rfl, by kernel_rfl⟩
end Go.Proofs.YtclhfbbajeoanaaDoor

/- siphash.Derive and its reference. -/
namespace Go.Proofs.YtclhfbbajeoanaaDoor
open Go.RowKit
set_option linter.unusedVariables false
set_option linter.unusedSimpArgs false
attribute [local go_sem ↓] sliced_cut

attribute [local go_sem] cutA_zero

theorem szU8 (w : World) : (sizeOf 5).run Tryd.prog w = .ok 1 w := by
  obtain ⟨i, hi, hz0, hz1, hz2⟩ := info_parts bt.info
  simp [sizeOf, typeInfo, hi, hz1]
theorem eql_key (w : World) (a b : List UInt8) (ha : K16 a) (hb : K16 b) : (binOp .eql 82 (.agg (bcs a).toArray) (.agg (bcs b).toArray)).run Tryd.prog w = .ok (.bool (a == b)) w :=
  run_eql_bytes w 82 5 16 Tryd.underlying82 Tryd.underlying5 szU8 a b ha hb
theorem eql_key' (w : World) (a b : List UInt8) (ha : K16 a) (hb : K16 b) : (binOp .eql 28 (.agg (bcs a).toArray) (.agg (bcs b).toArray)).run Tryd.prog w = .ok (.bool (a == b)) w :=
  run_eql_bytes w 28 5 16 Tryd.underlying28 Tryd.underlying5 szU8 a b ha hb
attribute [local go_sem ↓] eql_key eql_key'

end Go.Proofs.YtclhfbbajeoanaaDoor

/- Contracts of the package ring and of its reference. -/
namespace Go.Proofs.YtclhfbbajeoanaaDoor
open Go.RowKit
set_option linter.unusedVariables false
set_option linter.unusedSimpArgs false
attribute [local go_sem ↓] sliced_cut

attribute [local go_sem] cutA_zero

/-- a ring: the master key, the epoch -/
def ringC (key : List UInt8) (n : Nat) : List Value := bcs key ++ [.int .u64 (n : Int)]
theorem ringC_length (key : List UInt8) (hk : K16 key) (n : Nat) : (ringC key n).length = 17 := by
  simp [ringC, bcs_length, show key.length = 16 from hk]
theorem ringC_16 (key : List UInt8) (hk : K16 key) (n : Nat) : (ringC key n)[16]? = some (.int .u64 (n : Int)) := by
  unfold ringC
  rw [List.getElem?_append_right (by rw [bcs_length, show key.length = 16 from hk]; omega), bcs_length, show key.length = 16 from hk]
  rfl
theorem ringC_one (key : List UInt8) (n : Nat) : ∀ u ∈ ringC key n, u.oneCell' = true := by
  intro u hu
  rcases List.mem_append.1 hu with h | h
  · exact bcs_one key u h
  · simp at h; subst h; rfl

set_option maxRecDepth 100000 in
theorem run_buildRing (key : List UInt8) (hk : K16 key) (n : Nat) (w : World) : (Instr.build 84 #[(0, .agg (bcs key).toArray), (1, .int .u64 (n : Int))]).run Tryd.prog w = .ok (.agg (ringC key n).toArray) w := by
  obtain ⟨k0, k1, k2, k3, k4, k5, k6, k7, k8, k9, k10, k11, k12, k13, k14, k15, rfl⟩ := list16 hk
  kernel_rfl
theorem rowRing : ∃ d, Tryd.prog.underlying 84 = some d ∧ d.isRow = true ∧ (Tryd.prog.info? 84).map (·.size) = some 17 := ⟨_, Tryd.underlying84, rfl, by kernel_rfl⟩
def ring0 : List Value := [.int .u8 0, .int .u8 0, .int .u8 0, .int .u8 0, .int .u8 0, .int .u8 0, .int .u8 0, .int .u8 0, .int .u8 0, .int .u8 0, .int .u8 0, .int .u8 0, .int .u8 0, .int .u8 0, .int .u8 0, .int .u8 0, .int .u64 0]

set_option maxHeartbeats 1000000 in
set_option maxRecDepth 100000 in
theorem ringNew_any (key : List UInt8) (hk : K16 key) (n : Nat) (w : World) : Calls Tryd.prog 31 #[.agg (bcs key).toArray, .int .u64 n] w (RetV w (.agg (ringC key n).toArray)) := by
  obtain ⟨dk, u1, u2, u3⟩ := rowKey
  obtain ⟨dr, v1, v2, v3⟩ := rowRing
  have hl := ringC_length key hk n
  have hb0 := (Bk.new w 82 (bcs key).toArray).alloc (.cells #[.int .u8 0, .int .u8 0, .int .u8 0, .int .u8 0, .int .u8 0, .int .u8 0, .int .u8 0, .int .u8 0, .int .u8 0, .int .u8 0, .int .u8 0, .int .u8 0, .int .u8 0, .int .u8 0, .int .u8 0, .int .u8 0, .int .u64 0] 84)
  have hb1 := Bk.new (w.alloc (.cells (bcs key).toArray 82)) 84 #[.int .u8 0, .int .u8 0, .int .u8 0, .int .u8 0, .int .u8 0, .int .u8 0, .int .u8 0, .int .u8 0, .int .u8 0, .int .u8 0, .int .u8 0, .int .u8 0, .int .u8 0, .int .u8 0, .int .u8 0, .int .u8 0, .int .u64 0]
  rw [World.size_alloc] at hb1
  go_enter Tryd.func31, Tryd.ntmps31
  go_wp2_with (first
    | (refine at_op (.load 82 (.tmp 2)) rfl ?_; refine wpList_ldA 82 (.tmp 2) rfl rfl (bcs key) rfl hb0 (by rw [List.drop_zero]; exact List.take_of_length_le (Nat.le_refl _)) u1 u2 (by rw [bcs_length, show key.length = 16 from hk]; exact u3) ?_)
    | (refine at_op (.build 84 #[(0, .tmp 5), (1, .tmp 6)]) rfl ?_; refine wpList_build 84 [(0, .tmp 5), (1, .tmp 6)] rfl rfl (.agg (ringC key n).toArray) ?_ ?_; exact run_buildRing key hk n _)
    | (refine at_op (.store 84 (.tmp 4) (.tmp 7)) rfl ?_; refine wpList_stA 84 (.tmp 4) (.tmp 7) rfl rfl (ringC key n) ring0 (by rw [hl]; rfl) (ringC_one key n) rfl rfl hb1 (by rw [hl]; exact v3) ?_; intro w2 hb2 hg2))
  refine bodyPost_agg Tryd.results31 rfl hb2.range v1 v2 (by rw [hl]; exact v3) rfl (RetV.mk ?_)
  exact (((Below.refl _ _).alloc (Nat.le_refl _) _).alloc (by simp) _).trans (below_of_grown hg2 (by simp; omega) (fun k hk => by injection hk with hk; omega))

theorem bcs_whole (key : List UInt8) : ((bcs key).drop 0).take (bcs key).length = bcs key := by rw [List.drop_zero]; exact List.take_of_length_le (Nat.le_refl _)
theorem ringC_key (key : List UInt8) (n : Nat) : ((ringC key n).drop 0).take (bcs key).length = bcs key := by rw [List.drop_zero, ringC]; exact List.take_left
theorem szKey (key : List UInt8) (hk : K16 key) : (Tryd.prog.info? 82).map (·.size) = some (bcs key).length := by rw [bcs_length, show key.length = 16 from hk]; kernel_rfl
theorem szRing (key : List UInt8) (hk : K16 key) (n : Nat) : (Tryd.prog.info? 84).map (·.size) = some (ringC key n).length := by rw [ringC_length key hk n]; kernel_rfl

set_option maxHeartbeats 1000000 in
set_option maxRecDepth 100000 in
theorem ringNext_any (key : List UInt8) (hk : K16 key) (n : Nat) (w : World) (hn : n < 18446744073709551616) : Calls Tryd.prog 53 #[.agg (ringC key n).toArray] w (RetV w (.agg (ringC key ((n + 1) % 18446744073709551616)).toArray)) := by
  have q := ringC_16 key hk n
  obtain ⟨dk, u1, u2, u3⟩ := rowKey
  obtain ⟨dr, v1, v2, v3⟩ := rowRing
  have e : IntKind.u64.wrap ((n : Int) + 1) = (((n + 1) % 18446744073709551616 : Nat) : Int) := by rw [IntKind.wrap_u64]; omega
  generalize (n + 1) % 18446744073709551616 = n2 at *
  have hb0 := (Bk.new w 84 (ringC key n).toArray).alloc (.cells #[.int .u8 0, .int .u8 0, .int .u8 0, .int .u8 0, .int .u8 0, .int .u8 0, .int .u8 0, .int .u8 0, .int .u8 0, .int .u8 0, .int .u8 0, .int .u8 0, .int .u8 0, .int .u8 0, .int .u8 0, .int .u8 0, .int .u64 0] 84)
  have hb1 := Bk.new (w.alloc (.cells (ringC key n).toArray 84)) 84 #[.int .u8 0, .int .u8 0, .int .u8 0, .int .u8 0, .int .u8 0, .int .u8 0, .int .u8 0, .int .u8 0, .int .u8 0, .int .u8 0, .int .u8 0, .int .u8 0, .int .u8 0, .int .u8 0, .int .u8 0, .int .u8 0, .int .u64 0]
  rw [World.size_alloc] at hb1
  go_enter Tryd.func53, Tryd.ntmps53
  go_wp2_with (first
    | (refine at_op (.load 82 (.tmp 3)) rfl ?_; refine wpList_ldA 82 (.tmp 3) rfl rfl (bcs key) rfl hb0 (ringC_key key n) u1 u2 (szKey key hk) ?_)
    | (go_at_call 31; refine (ringNew_any key hk n2 _).mono ?_; rintro e w1 ⟨bs1, d1, rfl, rfl⟩)
    | (refine at_op (.store 84 (.tmp 2) (.tmp 8)) rfl ?_; refine wpList_stA 84 (.tmp 2) (.tmp 8) rfl rfl (ringC key n2) ring0 (by rw [ringC_length key hk]; rfl) (ringC_one key n2) rfl rfl (hb1.later (below_plus _ _ _)) (szRing key hk n2) ?_; intro w2 hb2 hg2))
  refine bodyPost_agg Tryd.results53 rfl hb2.range v1 v2 (szRing key hk n2) rfl (RetV.mk ?_)
  exact (belowP (((Below.refl _ _).alloc (Nat.le_refl _) _).alloc (by simp) _) bs1 d1).trans (below_of_grown hg2 (by simp [size_plus]; omega) (fun k hk => by injection hk with hk; omega))

def key0 : List UInt8 := List.replicate 16 0
end Go.Proofs.YtclhfbbajeoanaaDoor

/- The program's state in memory (chapter 22): a block, a row of services, stacks, rows of members. -/
namespace Go.Proofs.YtclhfbbajeoanaaDoor
open Go.RowKit
set_option linter.unusedVariables false
set_option linter.unusedSimpArgs false

theorem Bk.apart {w : World} {a b : Nat} {t u : TypeId} {cs ds : List Value} (h : Bk w a t cs) (k : Bk w b u ds) (hn : t ≠ u) : a ≠ b := by
  rintro rfl
  unfold Bk at h k
  rw [h] at k
  injection k with k
  injection k with _ k _
  exact hn k
theorem Bk.same {w : World} {a : Nat} {t u : TypeId} {cs ds : List Value} (h : Bk w a t cs) (k : Bk w a u ds) : cs = ds := by
  unfold Bk at h k
  rw [h] at k
  injection k with k
  injection k with k _ _
  simpa using k
/-- where a service's members and tables lie -/
structure VE where
  A : Option Addr
  n : Nat
  c : Nat
  T : Nat
abbrev Ve := Vp × VE
def veC (x : Ve) : List Value := [.bool x.1.ad.1, .int .u64 (x.1.ad.2.1 : Int), .int .u64 (x.1.ad.2.2 : Int), .int .u16 (x.1.pt : Int), .int .u8 (x.1.pr : Int), .int .i64 x.1.wy, .slice x.2.A x.2.n x.2.c, .pointer (some ⟨x.2.T, 0, none⟩)]
theorem veC_len (x : Ve) : (veC x).length = 8 := rfl
theorem veC_one (x : Ve) : ∀ u ∈ veC x, u.oneCell' = true := by simp [veC, Value.oneCell']
theorem szVe (x : Ve) : (Tryd.prog.info? 53).map (·.size) = some (veC x).length := by kernel_rfl
theorem rowVe : ∃ d, Tryd.prog.underlying 53 = some d ∧ d.isRow = true := ⟨_, Tryd.underlying53, rfl⟩
theorem etVe : ET Tryd.prog 88 53 (.agg #[.bool false, .int .u64 0, .int .u64 0, .int .u16 0, .int .u8 0, .int .i64 0, .slice none 0 0, .pointer none]) 8 72 := ⟨Tryd.underlying88, by kernel_rfl, rfl, by decide, by decide⟩
def z0 : Adr := (false, 0, 0)
def bkC (x : Option Adr) : List Value := [.bool (x.getD z0).1, .int .u64 ((x.getD z0).2.1 : Int), .int .u64 ((x.getD z0).2.2 : Int), .bool x.isSome]
theorem bkC_len (x : Option Adr) : (bkC x).length = 4 := rfl
theorem bkC_one (x : Option Adr) : ∀ u ∈ bkC x, u.oneCell' = true := by simp [bkC, Value.oneCell']
def stC (C : Cf) (A : Option Addr) (n c : Nat) : List Value := .int .u64 (C.num : Int) :: (ringC C.key C.now ++ (C.bk.flatMap bkC ++ [.slice A n c]))
theorem stC_len (C : Cf) (hk : C.key.length = 16) (hb : C.bk.length = 65) (A : Option Addr) (n c : Nat) : (stC C A n c).length = 279 := by
  simp [stC, ringC, bcs_length, hk, flat_len bkC 4 bkC_len, hb]
theorem stC_vips (C : Cf) (hk : C.key.length = 16) (hb : C.bk.length = 65) (A : Option Addr) (n c : Nat) : (stC C A n c)[278]? = some (.slice A n c) := by
  unfold stC
  rw [List.getElem?_cons_succ, List.getElem?_append_right (by simp [ringC, bcs_length, hk]), List.getElem?_append_right (by simp [ringC, bcs_length, hk, flat_len bkC 4 bkC_len, hb])]
  simp [ringC, bcs_length, hk, flat_len bkC 4 bkC_len, hb]
theorem stC_setVips (C : Cf) (hk : C.key.length = 16) (hb : C.bk.length = 65) (A : Option Addr) (n c : Nat) (A' : Option Addr) (n' c' : Nat) (L : List Vp) : (stC C A n c).set 278 (.slice A' n' c') = stC { C with vs := L } A' n' c' := by
  unfold stC
  rw [List.set_cons_succ, List.set_append_right _ _ (by simp [ringC, bcs_length, hk]), List.set_append_right _ _ (by simp [ringC, bcs_length, hk, flat_len bkC 4 bkC_len, hb])]
  simp [ringC, bcs_length, hk, flat_len bkC 4 bkC_len, hb]
theorem stC_num (C : Cf) (A : Option Addr) (n c : Nat) : (stC C A n c)[0]? = some (.int .u64 (C.num : Int)) := rfl
theorem stC_setNum (C : Cf) (A : Option Addr) (n c m : Nat) : (stC C A n c).set 0 (.int .u64 (m : Int)) = stC { C with num := m } A n c := rfl
theorem stC_ring (C : Cf) (hk : C.key.length = 16) (A : Option Addr) (n c : Nat) : ((stC C A n c).drop 1).take (ringC C.key C.now).length = ringC C.key C.now := by
  unfold stC
  rw [List.drop_succ_cons, List.drop_zero, List.take_left]
theorem stC_setRing (C : Cf) (hk : C.key.length = 16) (A : Option Addr) (n c m : Nat) : splice (stC C A n c) 1 (ringC C.key m) = stC { C with now := m } A n c := by
  unfold stC
  have e := splice_cons (.int .u64 (C.num : Int)) (ringC C.key C.now ++ (C.bk.flatMap bkC ++ [.slice A n c])) (ringC C.key m) 0
  rw [Nat.add_zero] at e
  rw [e]
  congr 1
  have h1 : (ringC C.key C.now).length = (ringC C.key m).length := by simp [ringC]
  unfold splice
  rw [List.take_zero, List.nil_append, Nat.zero_add, ← h1, List.drop_left]
theorem stC_bkAt (C : Cf) (hk : C.key.length = 16) (hb : C.bk.length = 65) (A : Option Addr) (n c : Nat) (i : Nat) (hi : i < 65) (k : Nat) (u : Value) (h : (bkC (C.bk.getD i none))[k]? = some u) : (stC C A n c)[18 + i * 4 + k]? = some u := by
  have hib : i < C.bk.length := by omega
  have e : C.bk.getD i none = C.bk[i] := by simp [List.getD_eq_getElem?_getD, hib]
  rw [e] at h
  have h4 := flat_at bkC 4 bkC_len C.bk i hib k u h
  have hlt := (List.getElem?_eq_some_iff.1 h4).1
  unfold stC
  rw [show 18 + i * 4 + k = (17 + (i * 4 + k)) + 1 by omega, List.getElem?_cons_succ, List.getElem?_append_right (by simp [ringC, bcs_length, hk]),
    show 17 + (i * 4 + k) - (ringC C.key C.now).length = i * 4 + k by simp [ringC, bcs_length, hk], List.getElem?_append_left hlt]
  exact h4
theorem stC_setBk (C : Cf) (hk : C.key.length = 16) (hb : C.bk.length = 65) (A : Option Addr) (n c : Nat) (i : Nat) (hi : i < 65) (x : Option Adr) : splice (stC C A n c) (18 + i * 4) (bkC x) = stC { C with bk := C.bk.set i x } A n c := by
  unfold stC
  rw [show 18 + i * 4 = 1 + (17 + i * 4) by omega, splice_cons]
  congr 1
  have hr : (ringC C.key C.now).length = 17 := by simp [ringC, bcs_length, hk]
  have hf := flat_len bkC 4 bkC_len C.bk
  have e : splice (ringC C.key C.now ++ (C.bk.flatMap bkC ++ [.slice A n c])) (17 + i * 4) (bkC x) = ringC C.key C.now ++ splice (C.bk.flatMap bkC ++ [.slice A n c]) (i * 4) (bkC x) := by
    unfold splice
    rw [← hr, List.take_length_add_append, List.append_assoc]
    congr 3
    rw [Nat.add_assoc, List.drop_length_add_append]
  rw [e, splice_app _ _ _ _ (by rw [bkC_len, hf]; omega), flat_splice bkC 4 bkC_len _ _ (by omega)]

/-- A state in memory: G: all blocks that may ever change; D: those that are this state's. -/
structure CfX (G D : Nat → Prop) (w : World) (g : Nat) (C : Cf) (A : Option Addr) (n c : Nat) (E : List Ve) : Prop where
  vs : E.map (·.1) = C.vs
  st : Bk w g 90 (stC C A n c)
  row : Os 53 8 w 0 A n c (E.flatMap veC)
  dr : ∀ k, (Value.slice A n c).ownBlock = some k → D k
  dg : D g
  tb : ∀ x ∈ E, Bk w x.2.T 120 (stkC x.1.S)
  dt : ∀ x ∈ E, D x.2.T
  mm : ∀ x ∈ E, Rs 2 w x.2.A x.2.n x.2.c (prs .i64 x.1.ms)
  mo : ∀ x ∈ E, Off G w x.2.A
  nd : (E.map (·.2.T)).Nodup
  sub : ∀ b, D b → G b
  lt : ∀ b, G b → b < w.heap.size
def CfM (G D : Nat → Prop) (w : World) (g : Nat) (C : Cf) : Prop := ∃ A n c E, CfX G D w g C A n c E
section
variable {G D : Nat → Prop} {w w' : World} {g : Nat} {C : Cf} {A : Option Addr} {n c : Nat} {E : List Ve}
theorem CfX.len (h : CfX G D w g C A n c E) : E.length = C.vs.length := by rw [← h.vs]; simp
theorem CfX.n_ (h : CfX G D w g C A n c E) : n = C.vs.length := by
  have := h.row.rs.1
  rw [flat_len veC 8 veC_len] at this
  have := h.len
  omega
theorem CfX.later (h : CfX G D w g C A n c E) (hb : Below w.heap.size w w') : CfX G D w' g C A n c E :=
  ⟨h.vs, h.st.later hb, h.row.later hb, h.dr, h.dg, fun x hx => (h.tb x hx).later hb, h.dt, fun x hx => (h.mm x hx).later hb, fun x hx => (h.mo x hx).size hb.size, h.nd, h.sub, fun b hG => Nat.lt_of_lt_of_le (h.lt b hG) hb.size⟩
/-- other blocks change -/
theorem CfX.chg {D' : Nat → Prop} (h : CfX G D w g C A n c E) (hc : Chg D' w w') (hd : ∀ b, D' b → G b) (hn : ∀ b, D' b → ¬ D b) : CfX G D w' g C A n c E :=
  ⟨h.vs, h.st.chg hc (fun k => hn _ k h.dg), h.row.chg hc (fun k hk hD => hn k hD (h.dr k hk)), h.dr, h.dg, fun x hx => (h.tb x hx).chg hc (fun k => hn _ k (h.dt x hx)), h.dt,
   fun x hx => (h.mm x hx).chg hc (fun a ha hD => (h.mo x hx a ha).2 (hd _ hD)), fun x hx => (h.mo x hx).size hc.size, h.nd, h.sub, fun b hG => Nat.lt_of_lt_of_le (h.lt b hG) hc.size⟩
/-- more blocks may change -/
theorem CfX.more {G' : Nat → Prop} (h : CfX G D w g C A n c E) (h1 : ∀ b, G b → G' b) (h2 : ∀ b, G' b → b < w.heap.size) (h3 : ∀ x ∈ E, Off G' w x.2.A) : CfX G' D w g C A n c E :=
  ⟨h.vs, h.st, h.row, h.dr, h.dg, h.tb, h.dt, h.mm, h3, h.nd, fun b hb => h1 b (h.sub b hb), h2⟩
theorem CfX.ne_st (h : CfX G D w g C A n c E) {x : Ve} (hx : x ∈ E) : x.2.T ≠ g := (h.tb x hx).apart h.st (by decide)
theorem Os.bk {e : TypeId} {s : Nat} {w : World} {base : Nat} {A : Option Addr} {n c : Nat} {cs : List Value} (h : Os e s w base A n c cs) (hn : 0 < n) : ∃ b cur, A = some ⟨b, 0, none⟩ ∧ (Value.slice A n c).ownBlock = some b ∧ Bk w b e cur ∧ cur.length = c * s ∧ cur.take (n * s) = cs ∧ n ≤ c ∧ c ≤ maxLen := by
  rcases h.2 with ⟨hv, h0⟩ | ⟨b, cap, cur, hv, _, hr, hnc, hm, hs, ht⟩
  · omega
  · injection hv with h1 h2 h3
    subst h1 h3
    exact ⟨b, cur.toList, rfl, rfl, hr, by simpa using hs, ht, hnc, hm⟩
theorem Os.of_bk {e : TypeId} {s : Nat} {w : World} {b n c : Nat} {cur cs : List Value} (h : Bk w b e cur) (hl : cur.length = c * s) (ht : cur.take (n * s) = cs) (hn : n ≤ c) (hc : c ≤ maxLen) (hcs : cs.length = n * s) : Os e s w 0 (some ⟨b, 0, none⟩) n c cs :=
  ⟨hcs, .inr ⟨b, c, cur.toArray, rfl, Nat.zero_le _, h, hn, hc, by simpa using hl, by simpa using ht⟩⟩
theorem CfX.ne_row (h : CfX G D w g C A n c E) {x : Ve} (hx : x ∈ E) : ∀ k, (Value.slice A n c).ownBlock = some k → k ≠ x.2.T := by
  intro k hk
  have hn : 0 < n := by
    have := h.len
    have := h.n_
    have := List.length_pos_of_mem hx
    omega
  obtain ⟨b, cur, _, hb, hB, _⟩ := h.row.bk hn
  rw [hb] at hk
  injection hk with hk
  subst hk
  exact hB.apart (h.tb x hx) (by decide)
theorem nodup_at {l : List Ve} (h : (l.map (·.2.T)).Nodup) {i j : Nat} (hi : i < l.length) (hj : j < l.length) (he : l[i].2.T = l[j].2.T) : i = j :=
  (List.getElem_inj (h₀ := by simpa using hi) (h₁ := by simpa using hj) h).1 (by simpa using he)
/-- one stack changes -/
theorem CfX.setStk (h : CfX G D w g C A n c E) {i : Nat} {x : Ve} (hi : E[i]? = some x) {S' : Stk} (hb : Bk w' x.2.T 120 (stkC S')) (hc : Chg (fun b => b = x.2.T) w w') : CfX G D w' g { C with vs := C.vs.set i { x.1 with S := S' } } A n c (E.set i ({ x.1 with S := S' }, x.2)) := by
  have hx := List.mem_of_getElem? hi
  have hT := h.dt x hx
  have hil := (List.getElem?_eq_some_iff.1 hi).1
  have hxi : E[i] = x := (List.getElem?_eq_some_iff.1 hi).2
  have hG := h.sub _ hT
  have hfl : (E.set i ({ x.1 with S := S' }, x.2)).flatMap veC = E.flatMap veC := by
    rw [← flat_set veC 8 veC_len E i hil ({ x.1 with S := S' }, x.2) 0 (.bool x.1.ad.1) (by decide) (by rw [hxi]; rfl)]
    apply List.ext_getElem?
    intro j
    by_cases hj : i * 8 + 0 = j
    · subst hj
      have := flat_at veC 8 veC_len E i hil 0 (.bool x.1.ad.1) (by rw [hxi]; rfl)
      rw [this, List.getElem?_set_self (List.getElem?_eq_some_iff.1 this).1]
    · rw [List.getElem?_set_ne hj]
  have mem : ∀ y ∈ E.set i ({ x.1 with S := S' }, x.2), (y = ({ x.1 with S := S' }, x.2)) ∨ (∃ j, ∃ hj : j < E.length, j ≠ i ∧ y = E[j]) := by
    intro y hy
    obtain ⟨j, hj, rfl⟩ := List.mem_iff_getElem.1 hy
    rw [List.length_set] at hj
    rw [List.getElem_set]
    split
    · exact .inl rfl
    · rename_i hne
      exact .inr ⟨j, hj, fun e => hne e.symm, rfl⟩
  refine ⟨?_, ?_, ?_, h.dr, h.dg, ?_, ?_, ?_, ?_, ?_, h.sub, fun b hb' => Nat.lt_of_lt_of_le (h.lt b hb') hc.size⟩
  · show _ = C.vs.set i _
    rw [List.map_set, h.vs]
  · exact h.st.chg hc (fun e => h.ne_st hx e.symm)
  · rw [hfl]
    exact h.row.chg hc (fun k hk e => h.ne_row hx k hk e)
  · intro y hy
    rcases mem y hy with rfl | ⟨j, hj, hne, rfl⟩
    · exact hb
    · exact (h.tb _ (List.getElem_mem hj)).chg hc (fun e => hne (nodup_at h.nd hj hil (by rw [hxi]; exact e)))
  · intro y hy
    rcases mem y hy with rfl | ⟨j, hj, _, rfl⟩
    · exact hT
    · exact h.dt _ (List.getElem_mem hj)
  · intro y hy
    have hk : ∀ z ∈ E, Rs 2 w' z.2.A z.2.n z.2.c (prs .i64 z.1.ms) := fun z hz => (h.mm z hz).chg hc (fun a ha e => (h.mo z hz a ha).2 (by rw [e]; exact hG))
    rcases mem y hy with rfl | ⟨j, hj, _, rfl⟩
    · exact hk x hx
    · exact hk _ (List.getElem_mem hj)
  · intro y hy
    rcases mem y hy with rfl | ⟨j, hj, _, rfl⟩
    · exact (h.mo x hx).size hc.size
    · exact (h.mo _ (List.getElem_mem hj)).size hc.size
  · rw [List.map_set]
    have : (E.map (·.2.T)).set i x.2.T = E.map (·.2.T) := by
      apply List.ext_getElem
      · simp
      · intro j h1 h2
        rw [List.getElem_set]
        split
        · rename_i e; subst e; simp [hxi]
        · rfl
    rw [this]
    exact h.nd
/-- the state's own block changes, its row apart -/
theorem CfX.setSt (h : CfX G D w g C A n c E) {C' : Cf} (hv : C'.vs = C.vs) (hb : Bk w' g 90 (stC C' A n c)) (hg : w.grownBy w' (some g)) : CfX G D w' g C' A n c E := by
  have hc : Chg (fun b => b = g) w w' := Chg.one hg rfl
  refine ⟨h.vs.trans hv.symm, hb, ?_, h.dr, h.dg, fun x hx => (h.tb x hx).chg hc (fun e => h.ne_st hx e), h.dt, fun x hx => (h.mm x hx).chg hc (fun a ha e => (h.mo x hx a ha).2 (by rw [e]; exact h.sub _ h.dg)), fun x hx => (h.mo x hx).size hc.size, h.nd, h.sub, fun b hb' => Nat.lt_of_lt_of_le (h.lt b hb') hc.size⟩
  refine h.row.chg hc (fun k hk e => ?_)
  have e : k = g := e
  subst e
  rcases Nat.eq_zero_or_pos n with h0 | h0
  · rcases h.row.2 with ⟨hv, _⟩ | ⟨b, cap, cur, hv, _, hr, _⟩
    · injection hv with h1 _ _; subst h1; cases hk
    · injection hv with h1 _ _
      subst h1
      injection hk with hk
      subst hk
      have := h.st
      unfold Bk at this
      rw [hr] at this
      injection this with this
      injection this with _ this _
      revert this
      decide
  · obtain ⟨b, cur, _, hb', hB, _⟩ := h.row.bk h0
    rw [hb'] at hk
    injection hk with hk
    subst hk
    exact hB.apart h.st (by decide) rfl
end
end Go.Proofs.YtclhfbbajeoanaaDoor

/- The state's Len, Backend, Find (chapter 22); policy.Right. -/
namespace Go.Proofs.YtclhfbbajeoanaaDoor
open Go.RowKit
set_option linter.unusedVariables false
set_option linter.unusedSimpArgs false
attribute [local go_sem ↓] sliced_cut

attribute [local go_sem] cutA_zero

theorem rowAdC : ∃ d, Tryd.prog.underlying 32 = some d ∧ d.isRow = true := ⟨_, Tryd.underlying32, rfl⟩
/-- a backend's address -/
def bkA (C : Cf) (m : Int) : Adr := if 1 ≤ m ∧ m ≤ 64 then (C.bk.getD m.toNat none).getD z0 else z0
theorem polRight_any (n : Int) (w : World) : Calls Tryd.prog 82 #[.int .i64 n] w fun e w' => e = .returned (.bool (wyB n)) ∧ w = w' := by
  by_cases h1 : 1 ≤ n
  · by_cases h2 : n ≤ 64 - 60
    · have h2 : n ≤ 4 := by omega
      have hh := Lib.hid (show wyB n = true by simp [wyB, h1, h2])
      go_enter Tryd.func82, Tryd.ntmps82
      go_wp2
      go_ret
      exact ⟨by rw [hh.out]; rfl, rfl⟩
    · have h2 : ¬ n ≤ 4 := by omega
      have hh := Lib.hid (show wyB n = false by simp [wyB, h2])
      go_enter Tryd.func82, Tryd.ntmps82
      go_wp2
      go_ret
      exact ⟨by rw [hh.out]; rfl, rfl⟩
  · have hh := Lib.hid (show wyB n = false by simp [wyB, h1])
    go_enter Tryd.func82, Tryd.ntmps82
    go_wp2
    go_ret
    exact ⟨by rw [hh.out]; rfl, rfl⟩
theorem cfgLen_any (C : Cf) (hk : C.key.length = 16) (hb : C.bk.length = 65) (A : Option Addr) (n c : Nat) (g : Nat) (w : World) (hS : Bk w g 90 (stC C A n c)) : Calls Tryd.prog 25 #[.pointer (some ⟨g, 0, none⟩)] w fun e w' => e = .returned (.int .i64 (n : Nat)) ∧ w = w' := by
  have q0 : w.cell? ⟨g, 278, none⟩ = some (.slice A n c) := (hS.cell _).trans (stC_vips C hk hb A n c)
  go_enter Tryd.func25, Tryd.ntmps25
  go_wp2
  go_ret
  exact ⟨rfl, rfl⟩
set_option maxHeartbeats 4000000 in
set_option maxRecDepth 100000 in
theorem backend_any (C : Cf) (hk : C.key.length = 16) (hb : C.bk.length = 65) (A : Option Addr) (n c : Nat) (g : Nat) (m : Int) (w : World) (hS : Bk w g 90 (stC C A n c)) : Calls Tryd.prog 32 #[.pointer (some ⟨g, 0, none⟩), .int .i64 m] w (RetV w (.tuple #[.agg (adC (bkA C m).1 (bkA C m).2.1 (bkA C m).2.2).toArray, .bool (knC C m)])) := by
  obtain ⟨da1, va1, va2⟩ := rowAdC
  have be : Below w.heap.size w (w.alloc (.cells #[.bool false, .int .u64 0, .int .u64 0] 32)) := Below.allocS (Below.refl _ _) _
  have b2 : Bk (w.alloc (.cells #[.bool false, .int .u64 0, .int .u64 0] 32)) w.heap.size 32 (adC false 0 0) := Bk.new w 32 #[.bool false, .int .u64 0, .int .u64 0]
  replace hS := hS.later be
  have zV : w.heap.size + 1 ≤ (w.alloc (.cells #[.bool false, .int .u64 0, .int .u64 0] 32)).heap.size := by simp
  by_cases h1 : m < 1
  · have e1 : bkA C m = z0 := if_neg (by omega)
    have e2 : knC C m = false := by unfold knC; rw [decide_eq_false (by omega)]; rfl
    rw [e1, e2]
    clear e1 e2
    go_enter Tryd.func32, Tryd.ntmps32
    go_upto_region 2 with (fail)
    generalize w.alloc (.cells #[.bool false, .int .u64 0, .int .u64 0] 32) = V at *
    refine wp_region_lit ?_
    refine wpList_plain rfl (fun K hK => ?_); go_simp; with_reducible refine hK _ _ ?_; clear hK K
    refine wpList_stA (t := 32) 32 (.tmp 4) (.tmp 16) rfl rfl (adC false 0 0) (adC false 0 0) rfl (by simp [adC, Value.oneCell']) rfl rfl b2 (szAd _ _ _) ?_
    intro W4 h4 g4
    refine wpList_plain rfl (fun K hK => ?_); go_simp; with_reducible refine hK _ _ ?_; clear hK K
    go_wp2
    refine bodyPost_agg2 Tryd.results32 rfl rfl h4.range va1 va2 (szAd _ _ _) rfl (RetV.is_ (by first | rfl | (simp only [*]; rfl)) (below_grown be g4 (by omega)))
  · by_cases h2 : 64 < m
    · have e1 : bkA C m = z0 := if_neg (by omega)
      have e2 : knC C m = false := by unfold knC; rw [decide_eq_false (show ¬ m ≤ 64 by omega)]; simp
      rw [e1, e2]
      clear e1 e2
      go_enter Tryd.func32, Tryd.ntmps32
      go_upto_region 2 with (fail)
      generalize w.alloc (.cells #[.bool false, .int .u64 0, .int .u64 0] 32) = V at *
      refine wp_region_lit ?_
      refine wpList_plain rfl (fun K hK => ?_); go_simp; with_reducible refine hK _ _ ?_; clear hK K
      refine wpList_stA (t := 32) 32 (.tmp 4) (.tmp 16) rfl rfl (adC false 0 0) (adC false 0 0) rfl (by simp [adC, Value.oneCell']) rfl rfl b2 (szAd _ _ _) ?_
      intro W4 h4 g4
      refine wpList_plain rfl (fun K hK => ?_); go_simp; with_reducible refine hK _ _ ?_; clear hK K
      go_wp2
      refine bodyPost_agg2 Tryd.results32 rfl rfl h4.range va1 va2 (szAd _ _ _) rfl (RetV.is_ (by first | rfl | (simp only [*]; rfl)) (below_grown be g4 (by omega)))
    · obtain ⟨i, rfl⟩ : ∃ i : Nat, m = i := ⟨m.toNat, by omega⟩
      have i65 : (i : Int) < 65 := by omega
      have e1 : bkA C i = (C.bk.getD i none).getD z0 := if_pos ⟨by omega, by omega⟩
      have e2 : knC C i = (C.bk.getD i none).isSome := by unfold knC; rw [decide_eq_true (by omega), decide_eq_true (by omega)]; rfl
      have hpa : ((stC C A n c).drop (18 + i * 4)).take (adC (bkA C i).1 (bkA C i).2.1 (bkA C i).2.2).length = adC (bkA C i).1 (bkA C i).2.1 (bkA C i).2.2 := part_ofS (fun k u h => stC_bkAt C hk hb A n c i (by omega) k u (by
        rw [e1] at h
        have hk3 := (List.getElem?_eq_some_iff.1 h).1
        rw [← h]
        match k, hk3 with
        | 0, _ => rfl
        | 1, _ => rfl
        | 2, _ => rfl))
      have hpb : (stC C A n c)[18 + i * 4 + 3]? = some (.bool (knC C i)) := stC_bkAt C hk hb A n c i (by omega) 3 _ (by rw [e2]; rfl)
      clear e1 e2
      go_enter Tryd.func32, Tryd.ntmps32
      go_upto_region 3 with (fail)
      generalize w.alloc (.cells #[.bool false, .int .u64 0, .int .u64 0] 32) = V at *
      have zg : ¬ g = w.heap.size := by have := b2.apart hS (by decide); omega
      refine wp_suS (fun b => b = w.heap.size) 16 31 2 [14] rfl (by kernel_rfl) (by kernel_rfl) (fun k w' => Bk w' w.heap.size 32 (if k = 0 then adC false 0 0 else (adC (bkA C i).1 (bkA C i).2.1 (bkA C i).2.2))) (fun k _ _ h hx => h.later hx.below) (b2) ?_
      apply StepsC.one (MC.eq _) 1 rfl (by decide)
      · intro o ho FA w' hC hO hD K hK
        obtain rfl := Option.some.inj ho.symm
        clear ho
        have e0 := hO 0 (by kernel_rfl)
        simp only [eval_tmp, List.getElem?_toArray, List.getElem?_cons_succ, List.getElem?_cons_zero, Option.getD_some] at e0
        have ev0 := Lib.hid ((eval_tmp FA 0).trans e0)
        clear hO hD
        go_simp
        exact hK.out _ _ (Ex.refl _) rfl
      apply StepsC.one (MC.eq _) 2 rfl (by decide)
      · intro o ho FA w' hC hO hD K hK
        obtain rfl := Option.some.inj ho.symm
        clear ho
        have e1 := hO 1 (by kernel_rfl)
        simp only [eval_tmp, List.getElem?_toArray, List.getElem?_cons_succ, List.getElem?_cons_zero, Option.getD_some] at e1
        have ev1 := Lib.hid ((eval_tmp FA 1).trans e1)
        clear hO hD
        go_simp
        exact hK.out _ _ (Ex.refl _) rfl
      apply StepsC.one (MC.eq _) 3 rfl (by decide)
      · intro o ho FA w' hC hO hD K hK
        obtain rfl := Option.some.inj ho.symm
        clear ho
        have ev17 : FA.eval (.tmp 17) = _ := hD 0 17 (by kernel_rfl)
        have e17 := (eval_tmp FA 17).symm.trans ev17
        replace ev17 := Lib.hid ev17
        clear hO hD
        go_simp
        exact hK.out _ _ (Ex.refl _) rfl
      apply StepsC.one (MC.eq _) 4 rfl (by decide)
      · intro o ho FA w' hC hO hD K hK
        obtain rfl := Option.some.inj ho.symm
        clear ho
        have ev19 : FA.eval (.tmp 19) = _ := hD 2 19 (by kernel_rfl)
        have e19 := (eval_tmp FA 19).symm.trans ev19
        replace ev19 := Lib.hid ev19
        clear hO hD
        go_simp
        exact hK.out _ _ (Ex.refl _) rfl
      apply StepsC.one (MC.eq _) 5 rfl (by decide)
      · intro o ho FA w' hC hO hD K hK
        obtain rfl := Option.some.inj ho.symm
        clear ho
        have ev20 : FA.eval (.tmp 20) = _ := hD 3 20 (by kernel_rfl)
        have e20 := (eval_tmp FA 20).symm.trans ev20
        replace ev20 := Lib.hid ev20
        have ev18 : FA.eval (.tmp 18) = _ := hD 1 18 (by kernel_rfl)
        have e18 := (eval_tmp FA 18).symm.trans ev18
        replace ev18 := Lib.hid ev18
        clear hO hD
        go_simp
        exact hK.out _ _ (Ex.refl _) rfl
      apply StepsC.one (MC.eq _) 6 rfl (by decide)
      · intro o ho FA w' hC hO hD K hK
        obtain rfl := Option.some.inj ho.symm
        clear ho
        have ev21 : FA.eval (.tmp 21) = _ := hD 4 21 (by kernel_rfl)
        have e21 := (eval_tmp FA 21).symm.trans ev21
        replace ev21 := Lib.hid ev21
        clear hO hD
        go_simp
        exact hK.out _ _ (Ex.refl _) rfl
      apply StepsC.one (MC.eq _) 7 rfl (by decide)
      · intro o ho FA w' hC hO hD K hK
        obtain rfl := Option.some.inj ho.symm
        clear ho
        have ev22 : FA.eval (.tmp 22) = _ := hD 5 22 (by kernel_rfl)
        have e22 := (eval_tmp FA 22).symm.trans ev22
        replace ev22 := Lib.hid ev22
        clear hO hD
        refine wanted_if rfl ?_
        refine wp_ldA 32 (.tmp 22) rfl (adC (bkA C i).1 (bkA C i).2.1 (bkA C i).2.2) ev22.out (hS.chg hC zg) hpa va1 va2 (szAd _ _ _) ?_
        exact hK.out _ _ (Ex.refl _) rfl
      apply StepsC.one (MC.eq _) 8 rfl (by decide)
      · intro o ho FA w' hC hO hD K hK
        obtain rfl := Option.some.inj ho.symm
        clear ho
        have e0 := hO 0 (by kernel_rfl)
        simp only [eval_tmp, List.getElem?_toArray, List.getElem?_cons_succ, List.getElem?_cons_zero, Option.getD_some] at e0
        have ev0 := Lib.hid ((eval_tmp FA 0).trans e0)
        clear hO hD
        go_simp
        exact hK.out _ _ (Ex.refl _) rfl
      apply StepsC.one (MC.eq _) 9 rfl (by decide)
      · intro o ho FA w' hC hO hD K hK
        obtain rfl := Option.some.inj ho.symm
        clear ho
        have e1 := hO 1 (by kernel_rfl)
        simp only [eval_tmp, List.getElem?_toArray, List.getElem?_cons_succ, List.getElem?_cons_zero, Option.getD_some] at e1
        have ev1 := Lib.hid ((eval_tmp FA 1).trans e1)
        clear hO hD
        go_simp
        exact hK.out _ _ (Ex.refl _) rfl
      apply StepsC.one (MC.eq _) 10 rfl (by decide)
      · intro o ho FA w' hC hO hD K hK
        obtain rfl := Option.some.inj ho.symm
        clear ho
        have ev24 : FA.eval (.tmp 24) = _ := hD 7 24 (by kernel_rfl)
        have e24 := (eval_tmp FA 24).symm.trans ev24
        replace ev24 := Lib.hid ev24
        clear hO hD
        go_simp
        exact hK.out _ _ (Ex.refl _) rfl
      apply StepsC.one (MC.eq _) 11 rfl (by decide)
      · intro o ho FA w' hC hO hD K hK
        obtain rfl := Option.some.inj ho.symm
        clear ho
        have ev26 : FA.eval (.tmp 26) = _ := hD 9 26 (by kernel_rfl)
        have e26 := (eval_tmp FA 26).symm.trans ev26
        replace ev26 := Lib.hid ev26
        clear hO hD
        go_simp
        exact hK.out _ _ (Ex.refl _) rfl
      apply StepsC.one (MC.eq _) 12 rfl (by decide)
      · intro o ho FA w' hC hO hD K hK
        obtain rfl := Option.some.inj ho.symm
        clear ho
        have ev27 : FA.eval (.tmp 27) = _ := hD 10 27 (by kernel_rfl)
        have e27 := (eval_tmp FA 27).symm.trans ev27
        replace ev27 := Lib.hid ev27
        have ev25 : FA.eval (.tmp 25) = _ := hD 8 25 (by kernel_rfl)
        have e25 := (eval_tmp FA 25).symm.trans ev25
        replace ev25 := Lib.hid ev25
        clear hO hD
        go_simp
        exact hK.out _ _ (Ex.refl _) rfl
      apply StepsC.one (MC.eq _) 13 rfl (by decide)
      · intro o ho FA w' hC hO hD K hK
        obtain rfl := Option.some.inj ho.symm
        clear ho
        have ev28 : FA.eval (.tmp 28) = _ := hD 11 28 (by kernel_rfl)
        have e28 := (eval_tmp FA 28).symm.trans ev28
        replace ev28 := Lib.hid ev28
        clear hO hD
        go_simp
        exact hK.out _ _ (Ex.refl _) rfl
      apply StepsC.one (MC.eq _) 14 rfl (by decide)
      · intro o ho FA w' hC hO hD K hK
        obtain rfl := Option.some.inj ho.symm
        clear ho
        have ev29 : FA.eval (.tmp 29) = _ := hD 12 29 (by kernel_rfl)
        have e29 := (eval_tmp FA 29).symm.trans ev29
        replace ev29 := Lib.hid ev29
        clear hO hD
        refine wanted_if rfl ?_
        refine wp_ld1 4 (.tmp 29) rfl ev29.out (hS.chg hC zg) hpb Tryd.underlying4 rfl ?_
        exact hK.out _ _ (Ex.refl _) rfl
      apply StepsC.mov (MC.any) 15 0 rfl rfl rfl
      · intro o ho FA w' hC hO hD hS K hK
        obtain rfl := Option.some.inj ho.symm
        clear ho
        have e4 := hO 4 (by kernel_rfl)
        simp only [eval_tmp, List.getElem?_toArray, List.getElem?_cons_succ, List.getElem?_cons_zero, Option.getD_some] at e4
        have ev4 := Lib.hid ((eval_tmp FA 4).trans e4)
        have ev23 : FA.eval (.tmp 23) = _ := hD 6 23 (by kernel_rfl)
        have e23 := (eval_tmp FA 23).symm.trans ev23
        replace ev23 := Lib.hid ev23
        clear hO hD
        refine wanted_if rfl ?_
        refine wp_stA 32 (.tmp 4) (.tmp 23) rfl (adC (bkA C i).1 (bkA C i).2.1 (bkA C i).2.2) (adC false 0 0) rfl (by simp [adC, Value.oneCell']) ev4.out ev23.out hS (szAd _ _ _) ?_
        intro w'' hn hg
        exact hK.out undef _ (Chg.one hg rfl) hn trivial
      apply StepsC.one (MC.eq _) 16 rfl (by decide)
      · intro o ho FA w' hC hO hD K hK
        obtain rfl := Option.some.inj ho.symm
        clear ho
        have ev30 : FA.eval (.tmp 30) = _ := hD 13 30 (by kernel_rfl)
        have e30 := (eval_tmp FA 30).symm.trans ev30
        replace ev30 := Lib.hid ev30
        clear hO hD
        go_simp
        exact hK.out _ _ (Ex.refl _) rfl
      refine StepsC.fin_ (fun vs w' hC hS hp => ?_)
      have p0 : vs 0 = _ := hp 0 (by omega) rfl
      have p1 : vs 1 = _ := hp 1 (by omega) rfl
      have p2 : vs 2 = _ := hp 2 (by omega) rfl
      have p3 : vs 3 = _ := hp 3 (by omega) rfl
      have p4 : vs 4 = _ := hp 4 (by omega) rfl
      have p5 : vs 5 = _ := hp 5 (by omega) rfl
      have p6 : vs 6 = _ := hp 6 (by omega) rfl
      have p7 : vs 7 = _ := hp 7 (by omega) rfl
      have p8 : vs 8 = _ := hp 8 (by omega) rfl
      have p9 : vs 9 = _ := hp 9 (by omega) rfl
      have p10 : vs 10 = _ := hp 10 (by omega) rfl
      have p11 : vs 11 = _ := hp 11 (by omega) rfl
      have p12 : vs 12 = _ := hp 12 (by omega) rfl
      have p13 : vs 13 = _ := hp 13 (by omega) rfl
      have p15 : vs 15 = _ := hp 15 (by omega) rfl
      clear hp
      simp only [List.take_succ_cons, List.take_zero, List.drop_succ_cons, List.drop_zero, putAll, Nat.zero_add, Nat.reduceAdd, Act.put, List.setIfInBounds_toArray, List.set_cons_zero, List.set_cons_succ, p0, p1, p2, p3, p4, p5, p6, p7, p8, p9, p10, p11, p12, p13, p15]
      clear p0 p1 p2 p3 p4 p5 p6 p7 p8 p9 p10 p11 p12 p13 p15
      clear vs
      go_wp2
      refine bodyPost_agg2 Tryd.results32 rfl rfl (Bk.range hS) va1 va2 (szAd _ _ _) rfl (RetV.is_ rfl ((be.trans (hC.below (fun b hb => by have hb : b = w.heap.size := hb; omega) (by omega)))))
theorem eqI_ad (w : World) (a b : Adr) : (Op.equalIn 10000 32 (.agg #[.bool a.1, .int .u64 (a.2.1 : Int), .int .u64 (a.2.2 : Int)]) (.agg #[.bool b.1, .int .u64 (b.2.1 : Int), .int .u64 (b.2.2 : Int)])).run Tryd.prog w = .ok (decide (a = b)) w := by
  have hS : Tryd.prog.underlying 32 = some (.struct (Tryd.prog.fieldsOf 32)) := by kernel_rfl
  have hp : Tryd.prog.stoodInHeld 32 = false := by kernel_rfl
  obtain ⟨a1, a2, a3⟩ := a
  obtain ⟨b1, b2, b3⟩ := b
  rw [run_equalIn_agg w _ 32 _ _ hS hp]
  simp only [Program.fieldsOf, Tryd.underlying32]
  go_simp
  repeat' split
  all_goals (simp_all <;> omega)
def eqAd (a : Bool) (b c : Nat) (d : Bool) (e f : Nat) : Bool := decide ((a, b, c) = (d, e, f))
theorem eqC_ad (w : World) (a : Bool) (b c : Nat) (d : Bool) (e f : Nat) : (Op.equalIn 10000 32 (.agg (adC a b c).toArray) (.agg (adC d e f).toArray)).run Tryd.prog w = .ok (eqAd a b c d e f) w := eqI_ad w (a, b, c) (d, e, f)
theorem rng_ad {w : World} {b o : Nat} {x : Ve} (h : w.rangeAt b o (veC x)) : w.rangeAt b o (adC x.1.ad.1 x.1.ad.2.1 x.1.ad.2.2) ∧ w.cell? ⟨b, o + 3, none⟩ = some (.int .u16 (x.1.pt : Int)) ∧ w.cell? ⟨b, o + 4, none⟩ = some (.int .u8 (x.1.pr : Int)) :=
  ⟨fun i u hu => h i u (by
    have hk3 := (List.getElem?_eq_some_iff.1 hu).1
    rw [← hu]
    match i, hk3 with
    | 0, _ => rfl
    | 1, _ => rfl
    | 2, _ => rfl), h 3 _ rfl, h 4 _ rfl⟩
def fdI (C : Cf) (a : Adr) (pt pr : Nat) : Int := if fdC C a pt pr < C.vs.length then (fdC C a pt pr : Int) else -1
theorem fdC_step (C : Cf) (a : Adr) (pt pr : Nat) (i : Nat) (hi : i ≤ fdC C a pt pr) (h : i < C.vs.length) : (eqV a pt pr C.vs[i] = true → fdC C a pt pr = i) ∧ (eqV a pt pr C.vs[i] = false → i + 1 ≤ fdC C a pt pr) := by
  unfold fdC at *
  constructor
  · intro he
    rcases Nat.lt_or_ge i (C.vs.findIdx (eqV a pt pr)) with h' | h'
    · have := List.not_of_lt_findIdx h'
      rw [he] at this
      cases this
    · omega
  · intro he
    rcases Nat.lt_or_ge i (C.vs.findIdx (eqV a pt pr)) with h' | h'
    · exact h'
    · exfalso
      have e : i = C.vs.findIdx (eqV a pt pr) := by omega
      have := List.findIdx_getElem (p := eqV a pt pr) (xs := C.vs) (w := by rw [← e]; exact h)
      simp only [← e] at this
      rw [he] at this
      cases this
section
attribute [local go_sem ↓] eqC_ad

set_option maxHeartbeats 4000000 in
set_option maxRecDepth 100000 in
theorem cfgFind_any (C : Cf) (hk : C.key.length = 16) (hb : C.bk.length = 65) (A : Option Addr) (n c : Nat) (E : List Ve) (hE0 : E.map (·.1) = C.vs) (g : Nat) (a : Adr) (pt pr : Nat) (w : World) (hS : Bk w g 90 (stC C A n c)) (hr : Os 53 8 w 0 A n c (E.flatMap veC)) (hn : n ≤ 1000) : Calls Tryd.prog 83 #[.pointer (some ⟨g, 0, none⟩), .agg (adC a.1 a.2.1 a.2.2).toArray, .int .u16 (pt : Int), .int .u8 (pr : Int)] w (RetV w (.int .i64 (fdI C a pt pr))) := by
  obtain ⟨da1, va1, va2⟩ := rowAdC
  obtain ⟨six, ah, al⟩ := a
  have hlE : E.length = C.vs.length := by rw [← hE0]; simp
  have hln : E.length = n := by have := hr.rs.1; rw [flat_len veC 8 veC_len] at this; omega
  have ba : Bk (w.alloc (.cells (adC six ah al).toArray 32)) w.heap.size 32 (adC six ah al) := Bk.new w 32 (adC six ah al).toArray
  have be : Below w.heap.size w (w.alloc (.cells (adC six ah al).toArray 32)) := Below.allocS (Below.refl _ _) _
  have q0 : (w.alloc (.cells (adC six ah al).toArray 32)).cell? ⟨g, 278, none⟩ = some (.slice A n c) := ((hS.later be).cell _).trans (stC_vips C hk hb A n c)
  have HS := Lib.hid (hS.later be)
  have zV : w.heap.size + 1 ≤ (w.alloc (.cells (adC six ah al).toArray 32)).heap.size := by simp
  go_enter Tryd.func83, Tryd.ntmps83
  go_upto_region 1 with (fail)
  generalize w.alloc (.cells (adC six ah al).toArray 32) = V at *
  have HL := Lib.hid (fun w h => cfgLen_any C hk hb A n c g w h)
  go_upto_region 2 with (go_at_call 25; refine (HL.out _ HS.out).mono ?_; rintro e w1 ⟨rfl, rfl⟩)
  clear q0
  have HF := Lib.hid ba
  have HB := Lib.hid be
  have hlt0 : fdC C (six, ah, al) pt pr ≤ C.vs.length := List.findIdx_le_length
  clear ba be
  go_loopw [13] (fun I wr => ∃ i : Nat, i ≤ n ∧ i ≤ fdC C (six, ah, al) pt pr ∧ I = .int .i64 (i : Int) ∧ Below w.heap.size w wr ∧ Bk wr w.heap.size 32 (adC six ah al)) (fun I _ => n - (intOf I).toNat)
  case atStart => exact ⟨0, Nat.zero_le _, Nat.zero_le _, rfl, HB.out, HF.out⟩
  case round =>
    clear HF HB
    obtain ⟨i, hi, hif, rfl, hE, ba⟩ := hrel
    by_cases hlt : i < n
    · have ii : (i : Int) < (n : Int) := by omega
      obtain ⟨b, cur, rfl, -, hB, -⟩ := hr.bk (by omega)
      have hst := fdC_step C (six, ah, al) pt pr i hif (by omega)
      have hrg : ∀ W, Below w.heap.size w W → W.rangeAt b (i * 8) (veC E[i]) := fun W h => by
        have := (hr.rs.later h).rangeE veC_len i (by omega)
        rwa [Nat.zero_add] at this
      have hCi : C.vs[i]'(by omega) = E[i].1 := by simp [← hE0]
      rw [hCi] at hst
      have q0 : wr.cell? ⟨g, 278, none⟩ = some (.slice (some ⟨b, 0, none⟩) n c) := ((hS.later hE).cell _).trans (stC_vips C hk hb _ n c)
      have HQ := Lib.hid (fun W h => rng_ad (hrg W h))
      clear hrg hCi
      generalize E[i].1 = v at *
      by_cases h1 : v.ad = (six, ah, al)
      · have hc1 : eqAd v.ad.1 v.ad.2.1 v.ad.2.2 six ah al = true := decide_eq_true h1
        have hc1' : decide (v.ad = (six, ah, al)) = true := decide_eq_true h1
        by_cases h2 : v.pt = pt
        · have hc2 : ((v.pt : Int) == (pt : Int)) = true := by simp [h2]
          by_cases h3 : v.pr = pr
          · have hc3 : ((v.pr : Int) == (pr : Int)) = true := by simp [h3]
            have he := hst.1 (decide_eq_true ⟨h1, h2, h3⟩)
            have HV := Lib.hid (show fdI C (six, ah, al) pt pr = (i : Int) by unfold fdI; rw [he, if_pos (by omega)])
            clear h1 h2 h3 hst he
            go_upto_region 5 with (fail)
            refine wp_relS 22 46 rfl (by kernel_rfl) (by kernel_rfl) ?_
            apply Steps.one (MP.eq _) 1 rfl
            · intro o ho FA x hO hD K hK
              obtain rfl := Option.some.inj ho.symm
              clear ho
              have e10 := hO 10 (by kernel_rfl)
              simp only [eval_tmp, List.getElem?_toArray, List.getElem?_cons_succ, List.getElem?_cons_zero, Option.getD_some] at e10
              have ev10 := Lib.hid ((eval_tmp FA 10).trans e10)
              clear hO hD
              go_simp
              exact hK.out _ _ (Ex.refl _) rfl
            apply Steps.one (MP.eq _) 2 rfl
            · intro o ho FA x hO hD K hK
              obtain rfl := Option.some.inj ho.symm
              clear ho
              have ev22 : FA.eval (.tmp 22) = _ := hD 0 22 (by kernel_rfl)
              have e22 := (eval_tmp FA 22).symm.trans ev22
              replace ev22 := Lib.hid ev22
              clear hO hD
              go_simp
              exact hK.out _ _ (Ex.refl _) rfl
            apply Steps.one (MP.eq _) 3 rfl
            · intro o ho FA x hO hD K hK
              obtain rfl := Option.some.inj ho.symm
              clear ho
              have ev23 : FA.eval (.tmp 23) = _ := hD 1 23 (by kernel_rfl)
              have e23 := (eval_tmp FA 23).symm.trans ev23
              replace ev23 := Lib.hid ev23
              clear hO hD
              go_simp
              exact hK.out _ _ (Ex.refl _) rfl
            apply Steps.one (MP.eq _) 4 rfl
            · intro o ho FA x hO hD K hK
              obtain rfl := Option.some.inj ho.symm
              clear ho
              have ev24 : FA.eval (.tmp 24) = _ := hD 2 24 (by kernel_rfl)
              have e24 := (eval_tmp FA 24).symm.trans ev24
              replace ev24 := Lib.hid ev24
              clear hO hD
              refine wanted_if rfl ?_
              refine wp_load_mid 32 (.tmp 24) rfl b (i * 8) ev24.out (adC v.ad.1 v.ad.2.1 v.ad.2.2) _ (HQ.out _ (belowP hE x.bs x.d)).1 va1 va2 (szAd _ _ _) ?_
              exact hK.out _ _ (Ex.refl _) rfl
            apply Steps.one (MP.eq _) 5 rfl
            · intro o ho FA x hO hD K hK
              obtain rfl := Option.some.inj ho.symm
              clear ho
              have e5 := hO 5 (by kernel_rfl)
              simp only [eval_tmp, List.getElem?_toArray, List.getElem?_cons_succ, List.getElem?_cons_zero, Option.getD_some] at e5
              have ev5 := Lib.hid ((eval_tmp FA 5).trans e5)
              clear hO hD
              refine wanted_if rfl ?_
              refine wp_ldA 32 (.tmp 5) rfl (adC six ah al) ev5.out (ba.later (below_plus _ _ _)) rfl va1 va2 (szAd _ _ _) ?_
              exact hK.out _ _ (Ex.refl _) rfl
            apply Steps.one (MP.eq _) 6 rfl
            · intro o ho FA x hO hD K hK
              obtain rfl := Option.some.inj ho.symm
              clear ho
              have ev25 : FA.eval (.tmp 25) = _ := hD 3 25 (by kernel_rfl)
              have e25 := (eval_tmp FA 25).symm.trans ev25
              replace ev25 := Lib.hid ev25
              have ev26 : FA.eval (.tmp 26) = _ := hD 4 26 (by kernel_rfl)
              have e26 := (eval_tmp FA 26).symm.trans ev26
              replace ev26 := Lib.hid ev26
              clear hO hD
              go_simp
              exact hK.out _ _ (Ex.refl _) rfl
            apply Steps.one (MP.eq _) 7 rfl
            · intro o ho FA x hO hD K hK
              obtain rfl := Option.some.inj ho.symm
              clear ho
              have ev27 : FA.eval (.tmp 27) = _ := hD 5 27 (by kernel_rfl)
              have e27 := (eval_tmp FA 27).symm.trans ev27
              replace ev27 := Lib.hid ev27
              clear hO hD
              go_simp
              exact hK.out _ _ (Ex.refl _) rfl
            apply Steps.one (MP.eq _) 8 rfl
            · intro o ho FA x hO hD K hK
              obtain rfl := Option.some.inj ho.symm
              clear ho
              have e10 := hO 10 (by kernel_rfl)
              simp only [eval_tmp, List.getElem?_toArray, List.getElem?_cons_succ, List.getElem?_cons_zero, Option.getD_some] at e10
              have ev10 := Lib.hid ((eval_tmp FA 10).trans e10)
              have ev28 : FA.eval (.tmp 28) = _ := hD 6 28 (by kernel_rfl)
              have e28 := (eval_tmp FA 28).symm.trans ev28
              replace ev28 := Lib.hid ev28
              first | have ge28 := slot_of e28 | have ge28 := slot_un e28
              clear hO hD
              first | (go_simp; exact hK.out _ _ (Ex.refl _) rfl) | (rcases ge28 with ge28 | ge28 <;> (go_simp; exact hK.out _ _ (Ex.refl _) rfl))
            apply Steps.one (MP.eq _) 9 rfl
            · intro o ho FA x hO hD K hK
              obtain rfl := Option.some.inj ho.symm
              clear ho
              have ev29 : FA.eval (.tmp 29) = _ := hD 7 29 (by kernel_rfl)
              have e29 := (eval_tmp FA 29).symm.trans ev29
              replace ev29 := Lib.hid ev29
              have ev28 : FA.eval (.tmp 28) = _ := hD 6 28 (by kernel_rfl)
              have e28 := (eval_tmp FA 28).symm.trans ev28
              replace ev28 := Lib.hid ev28
              first | have ge28 := slot_of e28 | have ge28 := slot_un e28
              clear hO hD
              first | (go_simp; exact hK.out _ _ (Ex.refl _) rfl) | (rcases ge28 with ge28 | ge28 <;> (go_simp; exact hK.out _ _ (Ex.refl _) rfl))
            apply Steps.one (MP.eq _) 10 rfl
            · intro o ho FA x hO hD K hK
              obtain rfl := Option.some.inj ho.symm
              clear ho
              have ev30 : FA.eval (.tmp 30) = _ := hD 8 30 (by kernel_rfl)
              have e30 := (eval_tmp FA 30).symm.trans ev30
              replace ev30 := Lib.hid ev30
              have ev28 : FA.eval (.tmp 28) = _ := hD 6 28 (by kernel_rfl)
              have e28 := (eval_tmp FA 28).symm.trans ev28
              replace ev28 := Lib.hid ev28
              first | have ge28 := slot_of e28 | have ge28 := slot_un e28
              clear hO hD
              first | (go_simp; exact hK.out _ _ (Ex.refl _) rfl) | (rcases ge28 with ge28 | ge28 <;> (go_simp; exact hK.out _ _ (Ex.refl _) rfl))
            apply Steps.one (MP.eq _) 11 rfl
            · intro o ho FA x hO hD K hK
              obtain rfl := Option.some.inj ho.symm
              clear ho
              have ev31 : FA.eval (.tmp 31) = _ := hD 9 31 (by kernel_rfl)
              have e31 := (eval_tmp FA 31).symm.trans ev31
              replace ev31 := Lib.hid ev31
              have ev28 : FA.eval (.tmp 28) = _ := hD 6 28 (by kernel_rfl)
              have e28 := (eval_tmp FA 28).symm.trans ev28
              replace ev28 := Lib.hid ev28
              first | have ge28 := slot_of e28 | have ge28 := slot_un e28
              clear hO hD
              have hq := (HQ.out (plus wr x.bs x.d) (belowP hE x.bs x.d)).2
              go_simp
              exact hK.out _ _ (Ex.refl _) rfl
            apply Steps.one (MP.eq _) 12 rfl
            · intro o ho FA x hO hD K hK
              obtain rfl := Option.some.inj ho.symm
              clear ho
              have e2 := hO 2 (by kernel_rfl)
              simp only [eval_tmp, List.getElem?_toArray, List.getElem?_cons_succ, List.getElem?_cons_zero, Option.getD_some] at e2
              have ev2 := Lib.hid ((eval_tmp FA 2).trans e2)
              have ev28 : FA.eval (.tmp 28) = _ := hD 6 28 (by kernel_rfl)
              have e28 := (eval_tmp FA 28).symm.trans ev28
              replace ev28 := Lib.hid ev28
              first | have ge28 := slot_of e28 | have ge28 := slot_un e28
              clear hO hD
              first | (go_simp; exact hK.out _ _ (Ex.refl _) rfl) | (rcases ge28 with ge28 | ge28 <;> (go_simp; exact hK.out _ _ (Ex.refl _) rfl))
            apply Steps.one (MP.eq _) 13 rfl
            · intro o ho FA x hO hD K hK
              obtain rfl := Option.some.inj ho.symm
              clear ho
              have ev32 : FA.eval (.tmp 32) = _ := hD 10 32 (by kernel_rfl)
              have e32 := (eval_tmp FA 32).symm.trans ev32
              replace ev32 := Lib.hid ev32
              have ev33 : FA.eval (.tmp 33) = _ := hD 11 33 (by kernel_rfl)
              have e33 := (eval_tmp FA 33).symm.trans ev33
              replace ev33 := Lib.hid ev33
              have ev28 : FA.eval (.tmp 28) = _ := hD 6 28 (by kernel_rfl)
              have e28 := (eval_tmp FA 28).symm.trans ev28
              replace ev28 := Lib.hid ev28
              first | have ge28 := slot_of e28 | have ge28 := slot_un e28
              clear hO hD
              first | (go_simp; exact hK.out _ _ (Ex.refl _) rfl) | (rcases ge28 with ge28 | ge28 <;> (go_simp; exact hK.out _ _ (Ex.refl _) rfl))
            apply Steps.one (MP.eq _) 14 rfl
            · intro o ho FA x hO hD K hK
              obtain rfl := Option.some.inj ho.symm
              clear ho
              have ev28 : FA.eval (.tmp 28) = _ := hD 6 28 (by kernel_rfl)
              have e28 := (eval_tmp FA 28).symm.trans ev28
              replace ev28 := Lib.hid ev28
              have ev34 : FA.eval (.tmp 34) = _ := hD 12 34 (by kernel_rfl)
              have e34 := (eval_tmp FA 34).symm.trans ev34
              replace ev34 := Lib.hid ev34
              clear hO hD
              go_simp
              exact hK.out _ _ (Ex.refl _) rfl
            apply Steps.one (MP.eq _) 15 rfl
            · intro o ho FA x hO hD K hK
              obtain rfl := Option.some.inj ho.symm
              clear ho
              have ev35 : FA.eval (.tmp 35) = _ := hD 13 35 (by kernel_rfl)
              have e35 := (eval_tmp FA 35).symm.trans ev35
              replace ev35 := Lib.hid ev35
              clear hO hD
              go_simp
              exact hK.out _ _ (Ex.refl _) rfl
            apply Steps.one (MP.eq _) 16 rfl
            · intro o ho FA x hO hD K hK
              obtain rfl := Option.some.inj ho.symm
              clear ho
              have e10 := hO 10 (by kernel_rfl)
              simp only [eval_tmp, List.getElem?_toArray, List.getElem?_cons_succ, List.getElem?_cons_zero, Option.getD_some] at e10
              have ev10 := Lib.hid ((eval_tmp FA 10).trans e10)
              have ev36 : FA.eval (.tmp 36) = _ := hD 14 36 (by kernel_rfl)
              have e36 := (eval_tmp FA 36).symm.trans ev36
              replace ev36 := Lib.hid ev36
              first | have ge36 := slot_of e36 | have ge36 := slot_un e36
              clear hO hD
              first | (go_simp; exact hK.out _ _ (Ex.refl _) rfl) | (rcases ge36 with ge36 | ge36 <;> (go_simp; exact hK.out _ _ (Ex.refl _) rfl))
            apply Steps.one (MP.eq _) 17 rfl
            · intro o ho FA x hO hD K hK
              obtain rfl := Option.some.inj ho.symm
              clear ho
              have ev37 : FA.eval (.tmp 37) = _ := hD 15 37 (by kernel_rfl)
              have e37 := (eval_tmp FA 37).symm.trans ev37
              replace ev37 := Lib.hid ev37
              have ev36 : FA.eval (.tmp 36) = _ := hD 14 36 (by kernel_rfl)
              have e36 := (eval_tmp FA 36).symm.trans ev36
              replace ev36 := Lib.hid ev36
              first | have ge36 := slot_of e36 | have ge36 := slot_un e36
              clear hO hD
              first | (go_simp; exact hK.out _ _ (Ex.refl _) rfl) | (rcases ge36 with ge36 | ge36 <;> (go_simp; exact hK.out _ _ (Ex.refl _) rfl))
            apply Steps.one (MP.eq _) 18 rfl
            · intro o ho FA x hO hD K hK
              obtain rfl := Option.some.inj ho.symm
              clear ho
              have ev38 : FA.eval (.tmp 38) = _ := hD 16 38 (by kernel_rfl)
              have e38 := (eval_tmp FA 38).symm.trans ev38
              replace ev38 := Lib.hid ev38
              have ev36 : FA.eval (.tmp 36) = _ := hD 14 36 (by kernel_rfl)
              have e36 := (eval_tmp FA 36).symm.trans ev36
              replace ev36 := Lib.hid ev36
              first | have ge36 := slot_of e36 | have ge36 := slot_un e36
              clear hO hD
              first | (go_simp; exact hK.out _ _ (Ex.refl _) rfl) | (rcases ge36 with ge36 | ge36 <;> (go_simp; exact hK.out _ _ (Ex.refl _) rfl))
            apply Steps.one (MP.eq _) 19 rfl
            · intro o ho FA x hO hD K hK
              obtain rfl := Option.some.inj ho.symm
              clear ho
              have ev39 : FA.eval (.tmp 39) = _ := hD 17 39 (by kernel_rfl)
              have e39 := (eval_tmp FA 39).symm.trans ev39
              replace ev39 := Lib.hid ev39
              have ev36 : FA.eval (.tmp 36) = _ := hD 14 36 (by kernel_rfl)
              have e36 := (eval_tmp FA 36).symm.trans ev36
              replace ev36 := Lib.hid ev36
              first | have ge36 := slot_of e36 | have ge36 := slot_un e36
              clear hO hD
              have hq := (HQ.out (plus wr x.bs x.d) (belowP hE x.bs x.d)).2
              go_simp
              exact hK.out _ _ (Ex.refl _) rfl
            apply Steps.one (MP.eq _) 20 rfl
            · intro o ho FA x hO hD K hK
              obtain rfl := Option.some.inj ho.symm
              clear ho
              have e3 := hO 3 (by kernel_rfl)
              simp only [eval_tmp, List.getElem?_toArray, List.getElem?_cons_succ, List.getElem?_cons_zero, Option.getD_some] at e3
              have ev3 := Lib.hid ((eval_tmp FA 3).trans e3)
              have ev36 : FA.eval (.tmp 36) = _ := hD 14 36 (by kernel_rfl)
              have e36 := (eval_tmp FA 36).symm.trans ev36
              replace ev36 := Lib.hid ev36
              first | have ge36 := slot_of e36 | have ge36 := slot_un e36
              clear hO hD
              first | (go_simp; exact hK.out _ _ (Ex.refl _) rfl) | (rcases ge36 with ge36 | ge36 <;> (go_simp; exact hK.out _ _ (Ex.refl _) rfl))
            apply Steps.one (MP.eq _) 21 rfl
            · intro o ho FA x hO hD K hK
              obtain rfl := Option.some.inj ho.symm
              clear ho
              have ev40 : FA.eval (.tmp 40) = _ := hD 18 40 (by kernel_rfl)
              have e40 := (eval_tmp FA 40).symm.trans ev40
              replace ev40 := Lib.hid ev40
              have ev41 : FA.eval (.tmp 41) = _ := hD 19 41 (by kernel_rfl)
              have e41 := (eval_tmp FA 41).symm.trans ev41
              replace ev41 := Lib.hid ev41
              have ev36 : FA.eval (.tmp 36) = _ := hD 14 36 (by kernel_rfl)
              have e36 := (eval_tmp FA 36).symm.trans ev36
              replace ev36 := Lib.hid ev36
              first | have ge36 := slot_of e36 | have ge36 := slot_un e36
              clear hO hD
              first | (go_simp; exact hK.out _ _ (Ex.refl _) rfl) | (rcases ge36 with ge36 | ge36 <;> (go_simp; exact hK.out _ _ (Ex.refl _) rfl))
            apply Steps.one (MP.eq _) 22 rfl
            · intro o ho FA x hO hD K hK
              obtain rfl := Option.some.inj ho.symm
              clear ho
              have ev36 : FA.eval (.tmp 36) = _ := hD 14 36 (by kernel_rfl)
              have e36 := (eval_tmp FA 36).symm.trans ev36
              replace ev36 := Lib.hid ev36
              have ev42 : FA.eval (.tmp 42) = _ := hD 20 42 (by kernel_rfl)
              have e42 := (eval_tmp FA 42).symm.trans ev42
              replace ev42 := Lib.hid ev42
              clear hO hD
              go_simp
              exact hK.out _ _ (Ex.refl _) rfl
            refine Steps.fin_ (fun vs x hp => ?_)
            have p0 : vs 0 = _ := hp 0 (by omega)
            have p1 : vs 1 = _ := hp 1 (by omega)
            have p2 : vs 2 = _ := hp 2 (by omega)
            have p3 : vs 3 = _ := hp 3 (by omega)
            have p4 : vs 4 = _ := hp 4 (by omega)
            have p5 : vs 5 = _ := hp 5 (by omega)
            have p6 : vs 6 = _ := hp 6 (by omega)
            have p7 : vs 7 = _ := hp 7 (by omega)
            have p8 : vs 8 = _ := hp 8 (by omega)
            have p9 : vs 9 = _ := hp 9 (by omega)
            have p10 : vs 10 = _ := hp 10 (by omega)
            have p11 : vs 11 = _ := hp 11 (by omega)
            have p12 : vs 12 = _ := hp 12 (by omega)
            have p13 : vs 13 = _ := hp 13 (by omega)
            have p14 : vs 14 = _ := hp 14 (by omega)
            have p15 : vs 15 = _ := hp 15 (by omega)
            have p16 : vs 16 = _ := hp 16 (by omega)
            have p17 : vs 17 = _ := hp 17 (by omega)
            have p18 : vs 18 = _ := hp 18 (by omega)
            have p19 : vs 19 = _ := hp 19 (by omega)
            have p20 : vs 20 = _ := hp 20 (by omega)
            have p21 : vs 21 = _ := hp 21 (by omega)
            clear hp
            simp only [List.take_succ_cons, List.take_zero, List.drop_succ_cons, List.drop_zero, putAll, Nat.zero_add, Nat.reduceAdd, Act.put, List.setIfInBounds_toArray, List.set_cons_zero, List.set_cons_succ, p0, p1, p2, p3, p4, p5, p6, p7, p8, p9, p10, p11, p12, p13, p14, p15, p16, p17, p18, p19, p20, p21]
            clear p0 p1 p2 p3 p4 p5 p6 p7 p8 p9 p10 p11 p12 p13 p14 p15 p16 p17 p18 p19 p20 p21
            clear vs
            go_wp2
            go_ret
            rw [HV.out]
            exact RetV.is_ rfl (belowP hE _ _)
          · have hc3 : ((v.pr : Int) == (pr : Int)) = false := by simp; omega
            have he := hst.2 (decide_eq_false (fun h => h3 h.2.2))
            clear h1 h2 h3 hst
            go_upto_region 5 with (fail)
            refine wp_relS 22 46 rfl (by kernel_rfl) (by kernel_rfl) ?_
            apply Steps.one (MP.eq _) 1 rfl
            · intro o ho FA x hO hD K hK
              obtain rfl := Option.some.inj ho.symm
              clear ho
              have e10 := hO 10 (by kernel_rfl)
              simp only [eval_tmp, List.getElem?_toArray, List.getElem?_cons_succ, List.getElem?_cons_zero, Option.getD_some] at e10
              have ev10 := Lib.hid ((eval_tmp FA 10).trans e10)
              clear hO hD
              go_simp
              exact hK.out _ _ (Ex.refl _) rfl
            apply Steps.one (MP.eq _) 2 rfl
            · intro o ho FA x hO hD K hK
              obtain rfl := Option.some.inj ho.symm
              clear ho
              have ev22 : FA.eval (.tmp 22) = _ := hD 0 22 (by kernel_rfl)
              have e22 := (eval_tmp FA 22).symm.trans ev22
              replace ev22 := Lib.hid ev22
              clear hO hD
              go_simp
              exact hK.out _ _ (Ex.refl _) rfl
            apply Steps.one (MP.eq _) 3 rfl
            · intro o ho FA x hO hD K hK
              obtain rfl := Option.some.inj ho.symm
              clear ho
              have ev23 : FA.eval (.tmp 23) = _ := hD 1 23 (by kernel_rfl)
              have e23 := (eval_tmp FA 23).symm.trans ev23
              replace ev23 := Lib.hid ev23
              clear hO hD
              go_simp
              exact hK.out _ _ (Ex.refl _) rfl
            apply Steps.one (MP.eq _) 4 rfl
            · intro o ho FA x hO hD K hK
              obtain rfl := Option.some.inj ho.symm
              clear ho
              have ev24 : FA.eval (.tmp 24) = _ := hD 2 24 (by kernel_rfl)
              have e24 := (eval_tmp FA 24).symm.trans ev24
              replace ev24 := Lib.hid ev24
              clear hO hD
              refine wanted_if rfl ?_
              refine wp_load_mid 32 (.tmp 24) rfl b (i * 8) ev24.out (adC v.ad.1 v.ad.2.1 v.ad.2.2) _ (HQ.out _ (belowP hE x.bs x.d)).1 va1 va2 (szAd _ _ _) ?_
              exact hK.out _ _ (Ex.refl _) rfl
            apply Steps.one (MP.eq _) 5 rfl
            · intro o ho FA x hO hD K hK
              obtain rfl := Option.some.inj ho.symm
              clear ho
              have e5 := hO 5 (by kernel_rfl)
              simp only [eval_tmp, List.getElem?_toArray, List.getElem?_cons_succ, List.getElem?_cons_zero, Option.getD_some] at e5
              have ev5 := Lib.hid ((eval_tmp FA 5).trans e5)
              clear hO hD
              refine wanted_if rfl ?_
              refine wp_ldA 32 (.tmp 5) rfl (adC six ah al) ev5.out (ba.later (below_plus _ _ _)) rfl va1 va2 (szAd _ _ _) ?_
              exact hK.out _ _ (Ex.refl _) rfl
            apply Steps.one (MP.eq _) 6 rfl
            · intro o ho FA x hO hD K hK
              obtain rfl := Option.some.inj ho.symm
              clear ho
              have ev25 : FA.eval (.tmp 25) = _ := hD 3 25 (by kernel_rfl)
              have e25 := (eval_tmp FA 25).symm.trans ev25
              replace ev25 := Lib.hid ev25
              have ev26 : FA.eval (.tmp 26) = _ := hD 4 26 (by kernel_rfl)
              have e26 := (eval_tmp FA 26).symm.trans ev26
              replace ev26 := Lib.hid ev26
              clear hO hD
              go_simp
              exact hK.out _ _ (Ex.refl _) rfl
            apply Steps.one (MP.eq _) 7 rfl
            · intro o ho FA x hO hD K hK
              obtain rfl := Option.some.inj ho.symm
              clear ho
              have ev27 : FA.eval (.tmp 27) = _ := hD 5 27 (by kernel_rfl)
              have e27 := (eval_tmp FA 27).symm.trans ev27
              replace ev27 := Lib.hid ev27
              clear hO hD
              go_simp
              exact hK.out _ _ (Ex.refl _) rfl
            apply Steps.one (MP.eq _) 8 rfl
            · intro o ho FA x hO hD K hK
              obtain rfl := Option.some.inj ho.symm
              clear ho
              have e10 := hO 10 (by kernel_rfl)
              simp only [eval_tmp, List.getElem?_toArray, List.getElem?_cons_succ, List.getElem?_cons_zero, Option.getD_some] at e10
              have ev10 := Lib.hid ((eval_tmp FA 10).trans e10)
              have ev28 : FA.eval (.tmp 28) = _ := hD 6 28 (by kernel_rfl)
              have e28 := (eval_tmp FA 28).symm.trans ev28
              replace ev28 := Lib.hid ev28
              first | have ge28 := slot_of e28 | have ge28 := slot_un e28
              clear hO hD
              first | (go_simp; exact hK.out _ _ (Ex.refl _) rfl) | (rcases ge28 with ge28 | ge28 <;> (go_simp; exact hK.out _ _ (Ex.refl _) rfl))
            apply Steps.one (MP.eq _) 9 rfl
            · intro o ho FA x hO hD K hK
              obtain rfl := Option.some.inj ho.symm
              clear ho
              have ev29 : FA.eval (.tmp 29) = _ := hD 7 29 (by kernel_rfl)
              have e29 := (eval_tmp FA 29).symm.trans ev29
              replace ev29 := Lib.hid ev29
              have ev28 : FA.eval (.tmp 28) = _ := hD 6 28 (by kernel_rfl)
              have e28 := (eval_tmp FA 28).symm.trans ev28
              replace ev28 := Lib.hid ev28
              first | have ge28 := slot_of e28 | have ge28 := slot_un e28
              clear hO hD
              first | (go_simp; exact hK.out _ _ (Ex.refl _) rfl) | (rcases ge28 with ge28 | ge28 <;> (go_simp; exact hK.out _ _ (Ex.refl _) rfl))
            apply Steps.one (MP.eq _) 10 rfl
            · intro o ho FA x hO hD K hK
              obtain rfl := Option.some.inj ho.symm
              clear ho
              have ev30 : FA.eval (.tmp 30) = _ := hD 8 30 (by kernel_rfl)
              have e30 := (eval_tmp FA 30).symm.trans ev30
              replace ev30 := Lib.hid ev30
              have ev28 : FA.eval (.tmp 28) = _ := hD 6 28 (by kernel_rfl)
              have e28 := (eval_tmp FA 28).symm.trans ev28
              replace ev28 := Lib.hid ev28
              first | have ge28 := slot_of e28 | have ge28 := slot_un e28
              clear hO hD
              first | (go_simp; exact hK.out _ _ (Ex.refl _) rfl) | (rcases ge28 with ge28 | ge28 <;> (go_simp; exact hK.out _ _ (Ex.refl _) rfl))
            apply Steps.one (MP.eq _) 11 rfl
            · intro o ho FA x hO hD K hK
              obtain rfl := Option.some.inj ho.symm
              clear ho
              have ev31 : FA.eval (.tmp 31) = _ := hD 9 31 (by kernel_rfl)
              have e31 := (eval_tmp FA 31).symm.trans ev31
              replace ev31 := Lib.hid ev31
              have ev28 : FA.eval (.tmp 28) = _ := hD 6 28 (by kernel_rfl)
              have e28 := (eval_tmp FA 28).symm.trans ev28
              replace ev28 := Lib.hid ev28
              first | have ge28 := slot_of e28 | have ge28 := slot_un e28
              clear hO hD
              have hq := (HQ.out (plus wr x.bs x.d) (belowP hE x.bs x.d)).2
              go_simp
              exact hK.out _ _ (Ex.refl _) rfl
            apply Steps.one (MP.eq _) 12 rfl
            · intro o ho FA x hO hD K hK
              obtain rfl := Option.some.inj ho.symm
              clear ho
              have e2 := hO 2 (by kernel_rfl)
              simp only [eval_tmp, List.getElem?_toArray, List.getElem?_cons_succ, List.getElem?_cons_zero, Option.getD_some] at e2
              have ev2 := Lib.hid ((eval_tmp FA 2).trans e2)
              have ev28 : FA.eval (.tmp 28) = _ := hD 6 28 (by kernel_rfl)
              have e28 := (eval_tmp FA 28).symm.trans ev28
              replace ev28 := Lib.hid ev28
              first | have ge28 := slot_of e28 | have ge28 := slot_un e28
              clear hO hD
              first | (go_simp; exact hK.out _ _ (Ex.refl _) rfl) | (rcases ge28 with ge28 | ge28 <;> (go_simp; exact hK.out _ _ (Ex.refl _) rfl))
            apply Steps.one (MP.eq _) 13 rfl
            · intro o ho FA x hO hD K hK
              obtain rfl := Option.some.inj ho.symm
              clear ho
              have ev32 : FA.eval (.tmp 32) = _ := hD 10 32 (by kernel_rfl)
              have e32 := (eval_tmp FA 32).symm.trans ev32
              replace ev32 := Lib.hid ev32
              have ev33 : FA.eval (.tmp 33) = _ := hD 11 33 (by kernel_rfl)
              have e33 := (eval_tmp FA 33).symm.trans ev33
              replace ev33 := Lib.hid ev33
              have ev28 : FA.eval (.tmp 28) = _ := hD 6 28 (by kernel_rfl)
              have e28 := (eval_tmp FA 28).symm.trans ev28
              replace ev28 := Lib.hid ev28
              first | have ge28 := slot_of e28 | have ge28 := slot_un e28
              clear hO hD
              first | (go_simp; exact hK.out _ _ (Ex.refl _) rfl) | (rcases ge28 with ge28 | ge28 <;> (go_simp; exact hK.out _ _ (Ex.refl _) rfl))
            apply Steps.one (MP.eq _) 14 rfl
            · intro o ho FA x hO hD K hK
              obtain rfl := Option.some.inj ho.symm
              clear ho
              have ev28 : FA.eval (.tmp 28) = _ := hD 6 28 (by kernel_rfl)
              have e28 := (eval_tmp FA 28).symm.trans ev28
              replace ev28 := Lib.hid ev28
              have ev34 : FA.eval (.tmp 34) = _ := hD 12 34 (by kernel_rfl)
              have e34 := (eval_tmp FA 34).symm.trans ev34
              replace ev34 := Lib.hid ev34
              clear hO hD
              go_simp
              exact hK.out _ _ (Ex.refl _) rfl
            apply Steps.one (MP.eq _) 15 rfl
            · intro o ho FA x hO hD K hK
              obtain rfl := Option.some.inj ho.symm
              clear ho
              have ev35 : FA.eval (.tmp 35) = _ := hD 13 35 (by kernel_rfl)
              have e35 := (eval_tmp FA 35).symm.trans ev35
              replace ev35 := Lib.hid ev35
              clear hO hD
              go_simp
              exact hK.out _ _ (Ex.refl _) rfl
            apply Steps.one (MP.eq _) 16 rfl
            · intro o ho FA x hO hD K hK
              obtain rfl := Option.some.inj ho.symm
              clear ho
              have e10 := hO 10 (by kernel_rfl)
              simp only [eval_tmp, List.getElem?_toArray, List.getElem?_cons_succ, List.getElem?_cons_zero, Option.getD_some] at e10
              have ev10 := Lib.hid ((eval_tmp FA 10).trans e10)
              have ev36 : FA.eval (.tmp 36) = _ := hD 14 36 (by kernel_rfl)
              have e36 := (eval_tmp FA 36).symm.trans ev36
              replace ev36 := Lib.hid ev36
              first | have ge36 := slot_of e36 | have ge36 := slot_un e36
              clear hO hD
              first | (go_simp; exact hK.out _ _ (Ex.refl _) rfl) | (rcases ge36 with ge36 | ge36 <;> (go_simp; exact hK.out _ _ (Ex.refl _) rfl))
            apply Steps.one (MP.eq _) 17 rfl
            · intro o ho FA x hO hD K hK
              obtain rfl := Option.some.inj ho.symm
              clear ho
              have ev37 : FA.eval (.tmp 37) = _ := hD 15 37 (by kernel_rfl)
              have e37 := (eval_tmp FA 37).symm.trans ev37
              replace ev37 := Lib.hid ev37
              have ev36 : FA.eval (.tmp 36) = _ := hD 14 36 (by kernel_rfl)
              have e36 := (eval_tmp FA 36).symm.trans ev36
              replace ev36 := Lib.hid ev36
              first | have ge36 := slot_of e36 | have ge36 := slot_un e36
              clear hO hD
              first | (go_simp; exact hK.out _ _ (Ex.refl _) rfl) | (rcases ge36 with ge36 | ge36 <;> (go_simp; exact hK.out _ _ (Ex.refl _) rfl))
            apply Steps.one (MP.eq _) 18 rfl
            · intro o ho FA x hO hD K hK
              obtain rfl := Option.some.inj ho.symm
              clear ho
              have ev38 : FA.eval (.tmp 38) = _ := hD 16 38 (by kernel_rfl)
              have e38 := (eval_tmp FA 38).symm.trans ev38
              replace ev38 := Lib.hid ev38
              have ev36 : FA.eval (.tmp 36) = _ := hD 14 36 (by kernel_rfl)
              have e36 := (eval_tmp FA 36).symm.trans ev36
              replace ev36 := Lib.hid ev36
              first | have ge36 := slot_of e36 | have ge36 := slot_un e36
              clear hO hD
              first | (go_simp; exact hK.out _ _ (Ex.refl _) rfl) | (rcases ge36 with ge36 | ge36 <;> (go_simp; exact hK.out _ _ (Ex.refl _) rfl))
            apply Steps.one (MP.eq _) 19 rfl
            · intro o ho FA x hO hD K hK
              obtain rfl := Option.some.inj ho.symm
              clear ho
              have ev39 : FA.eval (.tmp 39) = _ := hD 17 39 (by kernel_rfl)
              have e39 := (eval_tmp FA 39).symm.trans ev39
              replace ev39 := Lib.hid ev39
              have ev36 : FA.eval (.tmp 36) = _ := hD 14 36 (by kernel_rfl)
              have e36 := (eval_tmp FA 36).symm.trans ev36
              replace ev36 := Lib.hid ev36
              first | have ge36 := slot_of e36 | have ge36 := slot_un e36
              clear hO hD
              have hq := (HQ.out (plus wr x.bs x.d) (belowP hE x.bs x.d)).2
              go_simp
              exact hK.out _ _ (Ex.refl _) rfl
            apply Steps.one (MP.eq _) 20 rfl
            · intro o ho FA x hO hD K hK
              obtain rfl := Option.some.inj ho.symm
              clear ho
              have e3 := hO 3 (by kernel_rfl)
              simp only [eval_tmp, List.getElem?_toArray, List.getElem?_cons_succ, List.getElem?_cons_zero, Option.getD_some] at e3
              have ev3 := Lib.hid ((eval_tmp FA 3).trans e3)
              have ev36 : FA.eval (.tmp 36) = _ := hD 14 36 (by kernel_rfl)
              have e36 := (eval_tmp FA 36).symm.trans ev36
              replace ev36 := Lib.hid ev36
              first | have ge36 := slot_of e36 | have ge36 := slot_un e36
              clear hO hD
              first | (go_simp; exact hK.out _ _ (Ex.refl _) rfl) | (rcases ge36 with ge36 | ge36 <;> (go_simp; exact hK.out _ _ (Ex.refl _) rfl))
            apply Steps.one (MP.eq _) 21 rfl
            · intro o ho FA x hO hD K hK
              obtain rfl := Option.some.inj ho.symm
              clear ho
              have ev40 : FA.eval (.tmp 40) = _ := hD 18 40 (by kernel_rfl)
              have e40 := (eval_tmp FA 40).symm.trans ev40
              replace ev40 := Lib.hid ev40
              have ev41 : FA.eval (.tmp 41) = _ := hD 19 41 (by kernel_rfl)
              have e41 := (eval_tmp FA 41).symm.trans ev41
              replace ev41 := Lib.hid ev41
              have ev36 : FA.eval (.tmp 36) = _ := hD 14 36 (by kernel_rfl)
              have e36 := (eval_tmp FA 36).symm.trans ev36
              replace ev36 := Lib.hid ev36
              first | have ge36 := slot_of e36 | have ge36 := slot_un e36
              clear hO hD
              first | (go_simp; exact hK.out _ _ (Ex.refl _) rfl) | (rcases ge36 with ge36 | ge36 <;> (go_simp; exact hK.out _ _ (Ex.refl _) rfl))
            apply Steps.one (MP.eq _) 22 rfl
            · intro o ho FA x hO hD K hK
              obtain rfl := Option.some.inj ho.symm
              clear ho
              have ev36 : FA.eval (.tmp 36) = _ := hD 14 36 (by kernel_rfl)
              have e36 := (eval_tmp FA 36).symm.trans ev36
              replace ev36 := Lib.hid ev36
              have ev42 : FA.eval (.tmp 42) = _ := hD 20 42 (by kernel_rfl)
              have e42 := (eval_tmp FA 42).symm.trans ev42
              replace ev42 := Lib.hid ev42
              clear hO hD
              go_simp
              exact hK.out _ _ (Ex.refl _) rfl
            refine Steps.fin_ (fun vs x hp => ?_)
            have p0 : vs 0 = _ := hp 0 (by omega)
            have p1 : vs 1 = _ := hp 1 (by omega)
            have p2 : vs 2 = _ := hp 2 (by omega)
            have p3 : vs 3 = _ := hp 3 (by omega)
            have p4 : vs 4 = _ := hp 4 (by omega)
            have p5 : vs 5 = _ := hp 5 (by omega)
            have p6 : vs 6 = _ := hp 6 (by omega)
            have p7 : vs 7 = _ := hp 7 (by omega)
            have p8 : vs 8 = _ := hp 8 (by omega)
            have p9 : vs 9 = _ := hp 9 (by omega)
            have p10 : vs 10 = _ := hp 10 (by omega)
            have p11 : vs 11 = _ := hp 11 (by omega)
            have p12 : vs 12 = _ := hp 12 (by omega)
            have p13 : vs 13 = _ := hp 13 (by omega)
            have p14 : vs 14 = _ := hp 14 (by omega)
            have p15 : vs 15 = _ := hp 15 (by omega)
            have p16 : vs 16 = _ := hp 16 (by omega)
            have p17 : vs 17 = _ := hp 17 (by omega)
            have p18 : vs 18 = _ := hp 18 (by omega)
            have p19 : vs 19 = _ := hp 19 (by omega)
            have p20 : vs 20 = _ := hp 20 (by omega)
            have p21 : vs 21 = _ := hp 21 (by omega)
            clear hp
            simp only [List.take_succ_cons, List.take_zero, List.drop_succ_cons, List.drop_zero, putAll, Nat.zero_add, Nat.reduceAdd, Act.put, List.setIfInBounds_toArray, List.set_cons_zero, List.set_cons_succ, p0, p1, p2, p3, p4, p5, p6, p7, p8, p9, p10, p11, p12, p13, p14, p15, p16, p17, p18, p19, p20, p21]
            clear p0 p1 p2 p3 p4 p5 p6 p7 p8 p9 p10 p11 p12 p13 p14 p15 p16 p17 p18 p19 p20 p21
            clear vs
            go_wp2
            exact ⟨⟨i + 1, by omega, by omega, by go_num, belowP hE _ _, ba.later (below_plus _ _ _)⟩, by simp [intOf]; omega⟩
        · have hc2 : ((v.pt : Int) == (pt : Int)) = false := by simp; omega
          have he := hst.2 (decide_eq_false (fun h => h2 h.2.1))
          clear h1 h2 hst
          go_upto_region 5 with (fail)
          refine wp_relS 22 46 rfl (by kernel_rfl) (by kernel_rfl) ?_
          apply Steps.one (MP.eq _) 1 rfl
          · intro o ho FA x hO hD K hK
            obtain rfl := Option.some.inj ho.symm
            clear ho
            have e10 := hO 10 (by kernel_rfl)
            simp only [eval_tmp, List.getElem?_toArray, List.getElem?_cons_succ, List.getElem?_cons_zero, Option.getD_some] at e10
            have ev10 := Lib.hid ((eval_tmp FA 10).trans e10)
            clear hO hD
            go_simp
            exact hK.out _ _ (Ex.refl _) rfl
          apply Steps.one (MP.eq _) 2 rfl
          · intro o ho FA x hO hD K hK
            obtain rfl := Option.some.inj ho.symm
            clear ho
            have ev22 : FA.eval (.tmp 22) = _ := hD 0 22 (by kernel_rfl)
            have e22 := (eval_tmp FA 22).symm.trans ev22
            replace ev22 := Lib.hid ev22
            clear hO hD
            go_simp
            exact hK.out _ _ (Ex.refl _) rfl
          apply Steps.one (MP.eq _) 3 rfl
          · intro o ho FA x hO hD K hK
            obtain rfl := Option.some.inj ho.symm
            clear ho
            have ev23 : FA.eval (.tmp 23) = _ := hD 1 23 (by kernel_rfl)
            have e23 := (eval_tmp FA 23).symm.trans ev23
            replace ev23 := Lib.hid ev23
            clear hO hD
            go_simp
            exact hK.out _ _ (Ex.refl _) rfl
          apply Steps.one (MP.eq _) 4 rfl
          · intro o ho FA x hO hD K hK
            obtain rfl := Option.some.inj ho.symm
            clear ho
            have ev24 : FA.eval (.tmp 24) = _ := hD 2 24 (by kernel_rfl)
            have e24 := (eval_tmp FA 24).symm.trans ev24
            replace ev24 := Lib.hid ev24
            clear hO hD
            refine wanted_if rfl ?_
            refine wp_load_mid 32 (.tmp 24) rfl b (i * 8) ev24.out (adC v.ad.1 v.ad.2.1 v.ad.2.2) _ (HQ.out _ (belowP hE x.bs x.d)).1 va1 va2 (szAd _ _ _) ?_
            exact hK.out _ _ (Ex.refl _) rfl
          apply Steps.one (MP.eq _) 5 rfl
          · intro o ho FA x hO hD K hK
            obtain rfl := Option.some.inj ho.symm
            clear ho
            have e5 := hO 5 (by kernel_rfl)
            simp only [eval_tmp, List.getElem?_toArray, List.getElem?_cons_succ, List.getElem?_cons_zero, Option.getD_some] at e5
            have ev5 := Lib.hid ((eval_tmp FA 5).trans e5)
            clear hO hD
            refine wanted_if rfl ?_
            refine wp_ldA 32 (.tmp 5) rfl (adC six ah al) ev5.out (ba.later (below_plus _ _ _)) rfl va1 va2 (szAd _ _ _) ?_
            exact hK.out _ _ (Ex.refl _) rfl
          apply Steps.one (MP.eq _) 6 rfl
          · intro o ho FA x hO hD K hK
            obtain rfl := Option.some.inj ho.symm
            clear ho
            have ev25 : FA.eval (.tmp 25) = _ := hD 3 25 (by kernel_rfl)
            have e25 := (eval_tmp FA 25).symm.trans ev25
            replace ev25 := Lib.hid ev25
            have ev26 : FA.eval (.tmp 26) = _ := hD 4 26 (by kernel_rfl)
            have e26 := (eval_tmp FA 26).symm.trans ev26
            replace ev26 := Lib.hid ev26
            clear hO hD
            go_simp
            exact hK.out _ _ (Ex.refl _) rfl
          apply Steps.one (MP.eq _) 7 rfl
          · intro o ho FA x hO hD K hK
            obtain rfl := Option.some.inj ho.symm
            clear ho
            have ev27 : FA.eval (.tmp 27) = _ := hD 5 27 (by kernel_rfl)
            have e27 := (eval_tmp FA 27).symm.trans ev27
            replace ev27 := Lib.hid ev27
            clear hO hD
            go_simp
            exact hK.out _ _ (Ex.refl _) rfl
          apply Steps.one (MP.eq _) 8 rfl
          · intro o ho FA x hO hD K hK
            obtain rfl := Option.some.inj ho.symm
            clear ho
            have e10 := hO 10 (by kernel_rfl)
            simp only [eval_tmp, List.getElem?_toArray, List.getElem?_cons_succ, List.getElem?_cons_zero, Option.getD_some] at e10
            have ev10 := Lib.hid ((eval_tmp FA 10).trans e10)
            have ev28 : FA.eval (.tmp 28) = _ := hD 6 28 (by kernel_rfl)
            have e28 := (eval_tmp FA 28).symm.trans ev28
            replace ev28 := Lib.hid ev28
            first | have ge28 := slot_of e28 | have ge28 := slot_un e28
            clear hO hD
            first | (go_simp; exact hK.out _ _ (Ex.refl _) rfl) | (rcases ge28 with ge28 | ge28 <;> (go_simp; exact hK.out _ _ (Ex.refl _) rfl))
          apply Steps.one (MP.eq _) 9 rfl
          · intro o ho FA x hO hD K hK
            obtain rfl := Option.some.inj ho.symm
            clear ho
            have ev29 : FA.eval (.tmp 29) = _ := hD 7 29 (by kernel_rfl)
            have e29 := (eval_tmp FA 29).symm.trans ev29
            replace ev29 := Lib.hid ev29
            have ev28 : FA.eval (.tmp 28) = _ := hD 6 28 (by kernel_rfl)
            have e28 := (eval_tmp FA 28).symm.trans ev28
            replace ev28 := Lib.hid ev28
            first | have ge28 := slot_of e28 | have ge28 := slot_un e28
            clear hO hD
            first | (go_simp; exact hK.out _ _ (Ex.refl _) rfl) | (rcases ge28 with ge28 | ge28 <;> (go_simp; exact hK.out _ _ (Ex.refl _) rfl))
          apply Steps.one (MP.eq _) 10 rfl
          · intro o ho FA x hO hD K hK
            obtain rfl := Option.some.inj ho.symm
            clear ho
            have ev30 : FA.eval (.tmp 30) = _ := hD 8 30 (by kernel_rfl)
            have e30 := (eval_tmp FA 30).symm.trans ev30
            replace ev30 := Lib.hid ev30
            have ev28 : FA.eval (.tmp 28) = _ := hD 6 28 (by kernel_rfl)
            have e28 := (eval_tmp FA 28).symm.trans ev28
            replace ev28 := Lib.hid ev28
            first | have ge28 := slot_of e28 | have ge28 := slot_un e28
            clear hO hD
            first | (go_simp; exact hK.out _ _ (Ex.refl _) rfl) | (rcases ge28 with ge28 | ge28 <;> (go_simp; exact hK.out _ _ (Ex.refl _) rfl))
          apply Steps.one (MP.eq _) 11 rfl
          · intro o ho FA x hO hD K hK
            obtain rfl := Option.some.inj ho.symm
            clear ho
            have ev31 : FA.eval (.tmp 31) = _ := hD 9 31 (by kernel_rfl)
            have e31 := (eval_tmp FA 31).symm.trans ev31
            replace ev31 := Lib.hid ev31
            have ev28 : FA.eval (.tmp 28) = _ := hD 6 28 (by kernel_rfl)
            have e28 := (eval_tmp FA 28).symm.trans ev28
            replace ev28 := Lib.hid ev28
            first | have ge28 := slot_of e28 | have ge28 := slot_un e28
            clear hO hD
            have hq := (HQ.out (plus wr x.bs x.d) (belowP hE x.bs x.d)).2
            go_simp
            exact hK.out _ _ (Ex.refl _) rfl
          apply Steps.one (MP.eq _) 12 rfl
          · intro o ho FA x hO hD K hK
            obtain rfl := Option.some.inj ho.symm
            clear ho
            have e2 := hO 2 (by kernel_rfl)
            simp only [eval_tmp, List.getElem?_toArray, List.getElem?_cons_succ, List.getElem?_cons_zero, Option.getD_some] at e2
            have ev2 := Lib.hid ((eval_tmp FA 2).trans e2)
            have ev28 : FA.eval (.tmp 28) = _ := hD 6 28 (by kernel_rfl)
            have e28 := (eval_tmp FA 28).symm.trans ev28
            replace ev28 := Lib.hid ev28
            first | have ge28 := slot_of e28 | have ge28 := slot_un e28
            clear hO hD
            first | (go_simp; exact hK.out _ _ (Ex.refl _) rfl) | (rcases ge28 with ge28 | ge28 <;> (go_simp; exact hK.out _ _ (Ex.refl _) rfl))
          apply Steps.one (MP.eq _) 13 rfl
          · intro o ho FA x hO hD K hK
            obtain rfl := Option.some.inj ho.symm
            clear ho
            have ev32 : FA.eval (.tmp 32) = _ := hD 10 32 (by kernel_rfl)
            have e32 := (eval_tmp FA 32).symm.trans ev32
            replace ev32 := Lib.hid ev32
            have ev33 : FA.eval (.tmp 33) = _ := hD 11 33 (by kernel_rfl)
            have e33 := (eval_tmp FA 33).symm.trans ev33
            replace ev33 := Lib.hid ev33
            have ev28 : FA.eval (.tmp 28) = _ := hD 6 28 (by kernel_rfl)
            have e28 := (eval_tmp FA 28).symm.trans ev28
            replace ev28 := Lib.hid ev28
            first | have ge28 := slot_of e28 | have ge28 := slot_un e28
            clear hO hD
            first | (go_simp; exact hK.out _ _ (Ex.refl _) rfl) | (rcases ge28 with ge28 | ge28 <;> (go_simp; exact hK.out _ _ (Ex.refl _) rfl))
          apply Steps.one (MP.eq _) 14 rfl
          · intro o ho FA x hO hD K hK
            obtain rfl := Option.some.inj ho.symm
            clear ho
            have ev28 : FA.eval (.tmp 28) = _ := hD 6 28 (by kernel_rfl)
            have e28 := (eval_tmp FA 28).symm.trans ev28
            replace ev28 := Lib.hid ev28
            have ev34 : FA.eval (.tmp 34) = _ := hD 12 34 (by kernel_rfl)
            have e34 := (eval_tmp FA 34).symm.trans ev34
            replace ev34 := Lib.hid ev34
            clear hO hD
            go_simp
            exact hK.out _ _ (Ex.refl _) rfl
          apply Steps.one (MP.eq _) 15 rfl
          · intro o ho FA x hO hD K hK
            obtain rfl := Option.some.inj ho.symm
            clear ho
            have ev35 : FA.eval (.tmp 35) = _ := hD 13 35 (by kernel_rfl)
            have e35 := (eval_tmp FA 35).symm.trans ev35
            replace ev35 := Lib.hid ev35
            clear hO hD
            go_simp
            exact hK.out _ _ (Ex.refl _) rfl
          apply Steps.one (MP.eq _) 16 rfl
          · intro o ho FA x hO hD K hK
            obtain rfl := Option.some.inj ho.symm
            clear ho
            have e10 := hO 10 (by kernel_rfl)
            simp only [eval_tmp, List.getElem?_toArray, List.getElem?_cons_succ, List.getElem?_cons_zero, Option.getD_some] at e10
            have ev10 := Lib.hid ((eval_tmp FA 10).trans e10)
            have ev36 : FA.eval (.tmp 36) = _ := hD 14 36 (by kernel_rfl)
            have e36 := (eval_tmp FA 36).symm.trans ev36
            replace ev36 := Lib.hid ev36
            first | have ge36 := slot_of e36 | have ge36 := slot_un e36
            clear hO hD
            first | (go_simp; exact hK.out _ _ (Ex.refl _) rfl) | (rcases ge36 with ge36 | ge36 <;> (go_simp; exact hK.out _ _ (Ex.refl _) rfl))
          apply Steps.one (MP.eq _) 17 rfl
          · intro o ho FA x hO hD K hK
            obtain rfl := Option.some.inj ho.symm
            clear ho
            have ev37 : FA.eval (.tmp 37) = _ := hD 15 37 (by kernel_rfl)
            have e37 := (eval_tmp FA 37).symm.trans ev37
            replace ev37 := Lib.hid ev37
            have ev36 : FA.eval (.tmp 36) = _ := hD 14 36 (by kernel_rfl)
            have e36 := (eval_tmp FA 36).symm.trans ev36
            replace ev36 := Lib.hid ev36
            first | have ge36 := slot_of e36 | have ge36 := slot_un e36
            clear hO hD
            first | (go_simp; exact hK.out _ _ (Ex.refl _) rfl) | (rcases ge36 with ge36 | ge36 <;> (go_simp; exact hK.out _ _ (Ex.refl _) rfl))
          apply Steps.one (MP.eq _) 18 rfl
          · intro o ho FA x hO hD K hK
            obtain rfl := Option.some.inj ho.symm
            clear ho
            have ev38 : FA.eval (.tmp 38) = _ := hD 16 38 (by kernel_rfl)
            have e38 := (eval_tmp FA 38).symm.trans ev38
            replace ev38 := Lib.hid ev38
            have ev36 : FA.eval (.tmp 36) = _ := hD 14 36 (by kernel_rfl)
            have e36 := (eval_tmp FA 36).symm.trans ev36
            replace ev36 := Lib.hid ev36
            first | have ge36 := slot_of e36 | have ge36 := slot_un e36
            clear hO hD
            first | (go_simp; exact hK.out _ _ (Ex.refl _) rfl) | (rcases ge36 with ge36 | ge36 <;> (go_simp; exact hK.out _ _ (Ex.refl _) rfl))
          apply Steps.one (MP.eq _) 19 rfl
          · intro o ho FA x hO hD K hK
            obtain rfl := Option.some.inj ho.symm
            clear ho
            have ev39 : FA.eval (.tmp 39) = _ := hD 17 39 (by kernel_rfl)
            have e39 := (eval_tmp FA 39).symm.trans ev39
            replace ev39 := Lib.hid ev39
            have ev36 : FA.eval (.tmp 36) = _ := hD 14 36 (by kernel_rfl)
            have e36 := (eval_tmp FA 36).symm.trans ev36
            replace ev36 := Lib.hid ev36
            first | have ge36 := slot_of e36 | have ge36 := slot_un e36
            clear hO hD
            first | (go_simp; exact hK.out _ _ (Ex.refl _) rfl) | (rcases ge36 with ge36 | ge36 <;> (go_simp; exact hK.out _ _ (Ex.refl _) rfl))
          apply Steps.one (MP.eq _) 20 rfl
          · intro o ho FA x hO hD K hK
            obtain rfl := Option.some.inj ho.symm
            clear ho
            have e3 := hO 3 (by kernel_rfl)
            simp only [eval_tmp, List.getElem?_toArray, List.getElem?_cons_succ, List.getElem?_cons_zero, Option.getD_some] at e3
            have ev3 := Lib.hid ((eval_tmp FA 3).trans e3)
            have ev36 : FA.eval (.tmp 36) = _ := hD 14 36 (by kernel_rfl)
            have e36 := (eval_tmp FA 36).symm.trans ev36
            replace ev36 := Lib.hid ev36
            first | have ge36 := slot_of e36 | have ge36 := slot_un e36
            clear hO hD
            first | (go_simp; exact hK.out _ _ (Ex.refl _) rfl) | (rcases ge36 with ge36 | ge36 <;> (go_simp; exact hK.out _ _ (Ex.refl _) rfl))
          apply Steps.one (MP.eq _) 21 rfl
          · intro o ho FA x hO hD K hK
            obtain rfl := Option.some.inj ho.symm
            clear ho
            have ev40 : FA.eval (.tmp 40) = _ := hD 18 40 (by kernel_rfl)
            have e40 := (eval_tmp FA 40).symm.trans ev40
            replace ev40 := Lib.hid ev40
            have ev41 : FA.eval (.tmp 41) = _ := hD 19 41 (by kernel_rfl)
            have e41 := (eval_tmp FA 41).symm.trans ev41
            replace ev41 := Lib.hid ev41
            have ev36 : FA.eval (.tmp 36) = _ := hD 14 36 (by kernel_rfl)
            have e36 := (eval_tmp FA 36).symm.trans ev36
            replace ev36 := Lib.hid ev36
            first | have ge36 := slot_of e36 | have ge36 := slot_un e36
            clear hO hD
            first | (go_simp; exact hK.out _ _ (Ex.refl _) rfl) | (rcases ge36 with ge36 | ge36 <;> (go_simp; exact hK.out _ _ (Ex.refl _) rfl))
          apply Steps.one (MP.eq _) 22 rfl
          · intro o ho FA x hO hD K hK
            obtain rfl := Option.some.inj ho.symm
            clear ho
            have ev36 : FA.eval (.tmp 36) = _ := hD 14 36 (by kernel_rfl)
            have e36 := (eval_tmp FA 36).symm.trans ev36
            replace ev36 := Lib.hid ev36
            have ev42 : FA.eval (.tmp 42) = _ := hD 20 42 (by kernel_rfl)
            have e42 := (eval_tmp FA 42).symm.trans ev42
            replace ev42 := Lib.hid ev42
            clear hO hD
            go_simp
            exact hK.out _ _ (Ex.refl _) rfl
          refine Steps.fin_ (fun vs x hp => ?_)
          have p0 : vs 0 = _ := hp 0 (by omega)
          have p1 : vs 1 = _ := hp 1 (by omega)
          have p2 : vs 2 = _ := hp 2 (by omega)
          have p3 : vs 3 = _ := hp 3 (by omega)
          have p4 : vs 4 = _ := hp 4 (by omega)
          have p5 : vs 5 = _ := hp 5 (by omega)
          have p6 : vs 6 = _ := hp 6 (by omega)
          have p7 : vs 7 = _ := hp 7 (by omega)
          have p8 : vs 8 = _ := hp 8 (by omega)
          have p9 : vs 9 = _ := hp 9 (by omega)
          have p10 : vs 10 = _ := hp 10 (by omega)
          have p11 : vs 11 = _ := hp 11 (by omega)
          have p12 : vs 12 = _ := hp 12 (by omega)
          have p13 : vs 13 = _ := hp 13 (by omega)
          have p14 : vs 14 = _ := hp 14 (by omega)
          have p15 : vs 15 = _ := hp 15 (by omega)
          have p16 : vs 16 = _ := hp 16 (by omega)
          have p17 : vs 17 = _ := hp 17 (by omega)
          have p18 : vs 18 = _ := hp 18 (by omega)
          have p19 : vs 19 = _ := hp 19 (by omega)
          have p20 : vs 20 = _ := hp 20 (by omega)
          have p21 : vs 21 = _ := hp 21 (by omega)
          clear hp
          simp only [List.take_succ_cons, List.take_zero, List.drop_succ_cons, List.drop_zero, putAll, Nat.zero_add, Nat.reduceAdd, Act.put, List.setIfInBounds_toArray, List.set_cons_zero, List.set_cons_succ, p0, p1, p2, p3, p4, p5, p6, p7, p8, p9, p10, p11, p12, p13, p14, p15, p16, p17, p18, p19, p20, p21]
          clear p0 p1 p2 p3 p4 p5 p6 p7 p8 p9 p10 p11 p12 p13 p14 p15 p16 p17 p18 p19 p20 p21
          clear vs
          go_wp2
          exact ⟨⟨i + 1, by omega, by omega, by go_num, belowP hE _ _, ba.later (below_plus _ _ _)⟩, by simp [intOf]; omega⟩
      · have hc1 : eqAd v.ad.1 v.ad.2.1 v.ad.2.2 six ah al = false := decide_eq_false h1
        have hc1' : decide (v.ad = (six, ah, al)) = false := decide_eq_false h1
        have he := hst.2 (decide_eq_false (fun h => h1 h.1))
        clear h1 hst
        go_upto_region 5 with (fail)
        refine wp_relS 22 46 rfl (by kernel_rfl) (by kernel_rfl) ?_
        apply Steps.one (MP.eq _) 1 rfl
        · intro o ho FA x hO hD K hK
          obtain rfl := Option.some.inj ho.symm
          clear ho
          have e10 := hO 10 (by kernel_rfl)
          simp only [eval_tmp, List.getElem?_toArray, List.getElem?_cons_succ, List.getElem?_cons_zero, Option.getD_some] at e10
          have ev10 := Lib.hid ((eval_tmp FA 10).trans e10)
          clear hO hD
          go_simp
          exact hK.out _ _ (Ex.refl _) rfl
        apply Steps.one (MP.eq _) 2 rfl
        · intro o ho FA x hO hD K hK
          obtain rfl := Option.some.inj ho.symm
          clear ho
          have ev22 : FA.eval (.tmp 22) = _ := hD 0 22 (by kernel_rfl)
          have e22 := (eval_tmp FA 22).symm.trans ev22
          replace ev22 := Lib.hid ev22
          clear hO hD
          go_simp
          exact hK.out _ _ (Ex.refl _) rfl
        apply Steps.one (MP.eq _) 3 rfl
        · intro o ho FA x hO hD K hK
          obtain rfl := Option.some.inj ho.symm
          clear ho
          have ev23 : FA.eval (.tmp 23) = _ := hD 1 23 (by kernel_rfl)
          have e23 := (eval_tmp FA 23).symm.trans ev23
          replace ev23 := Lib.hid ev23
          clear hO hD
          go_simp
          exact hK.out _ _ (Ex.refl _) rfl
        apply Steps.one (MP.eq _) 4 rfl
        · intro o ho FA x hO hD K hK
          obtain rfl := Option.some.inj ho.symm
          clear ho
          have ev24 : FA.eval (.tmp 24) = _ := hD 2 24 (by kernel_rfl)
          have e24 := (eval_tmp FA 24).symm.trans ev24
          replace ev24 := Lib.hid ev24
          clear hO hD
          refine wanted_if rfl ?_
          refine wp_load_mid 32 (.tmp 24) rfl b (i * 8) ev24.out (adC v.ad.1 v.ad.2.1 v.ad.2.2) _ (HQ.out _ (belowP hE x.bs x.d)).1 va1 va2 (szAd _ _ _) ?_
          exact hK.out _ _ (Ex.refl _) rfl
        apply Steps.one (MP.eq _) 5 rfl
        · intro o ho FA x hO hD K hK
          obtain rfl := Option.some.inj ho.symm
          clear ho
          have e5 := hO 5 (by kernel_rfl)
          simp only [eval_tmp, List.getElem?_toArray, List.getElem?_cons_succ, List.getElem?_cons_zero, Option.getD_some] at e5
          have ev5 := Lib.hid ((eval_tmp FA 5).trans e5)
          clear hO hD
          refine wanted_if rfl ?_
          refine wp_ldA 32 (.tmp 5) rfl (adC six ah al) ev5.out (ba.later (below_plus _ _ _)) rfl va1 va2 (szAd _ _ _) ?_
          exact hK.out _ _ (Ex.refl _) rfl
        apply Steps.one (MP.eq _) 6 rfl
        · intro o ho FA x hO hD K hK
          obtain rfl := Option.some.inj ho.symm
          clear ho
          have ev25 : FA.eval (.tmp 25) = _ := hD 3 25 (by kernel_rfl)
          have e25 := (eval_tmp FA 25).symm.trans ev25
          replace ev25 := Lib.hid ev25
          have ev26 : FA.eval (.tmp 26) = _ := hD 4 26 (by kernel_rfl)
          have e26 := (eval_tmp FA 26).symm.trans ev26
          replace ev26 := Lib.hid ev26
          clear hO hD
          go_simp
          exact hK.out _ _ (Ex.refl _) rfl
        apply Steps.one (MP.eq _) 7 rfl
        · intro o ho FA x hO hD K hK
          obtain rfl := Option.some.inj ho.symm
          clear ho
          have ev27 : FA.eval (.tmp 27) = _ := hD 5 27 (by kernel_rfl)
          have e27 := (eval_tmp FA 27).symm.trans ev27
          replace ev27 := Lib.hid ev27
          clear hO hD
          go_simp
          exact hK.out _ _ (Ex.refl _) rfl
        apply Steps.one (MP.eq _) 8 rfl
        · intro o ho FA x hO hD K hK
          obtain rfl := Option.some.inj ho.symm
          clear ho
          have e10 := hO 10 (by kernel_rfl)
          simp only [eval_tmp, List.getElem?_toArray, List.getElem?_cons_succ, List.getElem?_cons_zero, Option.getD_some] at e10
          have ev10 := Lib.hid ((eval_tmp FA 10).trans e10)
          have ev28 : FA.eval (.tmp 28) = _ := hD 6 28 (by kernel_rfl)
          have e28 := (eval_tmp FA 28).symm.trans ev28
          replace ev28 := Lib.hid ev28
          first | have ge28 := slot_of e28 | have ge28 := slot_un e28
          clear hO hD
          first | (go_simp; exact hK.out _ _ (Ex.refl _) rfl) | (rcases ge28 with ge28 | ge28 <;> (go_simp; exact hK.out _ _ (Ex.refl _) rfl))
        apply Steps.one (MP.eq _) 9 rfl
        · intro o ho FA x hO hD K hK
          obtain rfl := Option.some.inj ho.symm
          clear ho
          have ev29 : FA.eval (.tmp 29) = _ := hD 7 29 (by kernel_rfl)
          have e29 := (eval_tmp FA 29).symm.trans ev29
          replace ev29 := Lib.hid ev29
          have ev28 : FA.eval (.tmp 28) = _ := hD 6 28 (by kernel_rfl)
          have e28 := (eval_tmp FA 28).symm.trans ev28
          replace ev28 := Lib.hid ev28
          first | have ge28 := slot_of e28 | have ge28 := slot_un e28
          clear hO hD
          first | (go_simp; exact hK.out _ _ (Ex.refl _) rfl) | (rcases ge28 with ge28 | ge28 <;> (go_simp; exact hK.out _ _ (Ex.refl _) rfl))
        apply Steps.one (MP.eq _) 10 rfl
        · intro o ho FA x hO hD K hK
          obtain rfl := Option.some.inj ho.symm
          clear ho
          have ev30 : FA.eval (.tmp 30) = _ := hD 8 30 (by kernel_rfl)
          have e30 := (eval_tmp FA 30).symm.trans ev30
          replace ev30 := Lib.hid ev30
          have ev28 : FA.eval (.tmp 28) = _ := hD 6 28 (by kernel_rfl)
          have e28 := (eval_tmp FA 28).symm.trans ev28
          replace ev28 := Lib.hid ev28
          first | have ge28 := slot_of e28 | have ge28 := slot_un e28
          clear hO hD
          first | (go_simp; exact hK.out _ _ (Ex.refl _) rfl) | (rcases ge28 with ge28 | ge28 <;> (go_simp; exact hK.out _ _ (Ex.refl _) rfl))
        apply Steps.one (MP.eq _) 11 rfl
        · intro o ho FA x hO hD K hK
          obtain rfl := Option.some.inj ho.symm
          clear ho
          have ev31 : FA.eval (.tmp 31) = _ := hD 9 31 (by kernel_rfl)
          have e31 := (eval_tmp FA 31).symm.trans ev31
          replace ev31 := Lib.hid ev31
          have ev28 : FA.eval (.tmp 28) = _ := hD 6 28 (by kernel_rfl)
          have e28 := (eval_tmp FA 28).symm.trans ev28
          replace ev28 := Lib.hid ev28
          first | have ge28 := slot_of e28 | have ge28 := slot_un e28
          clear hO hD
          first | (go_simp; exact hK.out _ _ (Ex.refl _) rfl) | (rcases ge28 with ge28 | ge28 <;> (go_simp; exact hK.out _ _ (Ex.refl _) rfl))
        apply Steps.one (MP.eq _) 12 rfl
        · intro o ho FA x hO hD K hK
          obtain rfl := Option.some.inj ho.symm
          clear ho
          have e2 := hO 2 (by kernel_rfl)
          simp only [eval_tmp, List.getElem?_toArray, List.getElem?_cons_succ, List.getElem?_cons_zero, Option.getD_some] at e2
          have ev2 := Lib.hid ((eval_tmp FA 2).trans e2)
          have ev28 : FA.eval (.tmp 28) = _ := hD 6 28 (by kernel_rfl)
          have e28 := (eval_tmp FA 28).symm.trans ev28
          replace ev28 := Lib.hid ev28
          first | have ge28 := slot_of e28 | have ge28 := slot_un e28
          clear hO hD
          first | (go_simp; exact hK.out _ _ (Ex.refl _) rfl) | (rcases ge28 with ge28 | ge28 <;> (go_simp; exact hK.out _ _ (Ex.refl _) rfl))
        apply Steps.one (MP.eq _) 13 rfl
        · intro o ho FA x hO hD K hK
          obtain rfl := Option.some.inj ho.symm
          clear ho
          have ev32 : FA.eval (.tmp 32) = _ := hD 10 32 (by kernel_rfl)
          have e32 := (eval_tmp FA 32).symm.trans ev32
          replace ev32 := Lib.hid ev32
          have ev33 : FA.eval (.tmp 33) = _ := hD 11 33 (by kernel_rfl)
          have e33 := (eval_tmp FA 33).symm.trans ev33
          replace ev33 := Lib.hid ev33
          have ev28 : FA.eval (.tmp 28) = _ := hD 6 28 (by kernel_rfl)
          have e28 := (eval_tmp FA 28).symm.trans ev28
          replace ev28 := Lib.hid ev28
          first | have ge28 := slot_of e28 | have ge28 := slot_un e28
          clear hO hD
          first | (go_simp; exact hK.out _ _ (Ex.refl _) rfl) | (rcases ge28 with ge28 | ge28 <;> (go_simp; exact hK.out _ _ (Ex.refl _) rfl))
        apply Steps.one (MP.eq _) 14 rfl
        · intro o ho FA x hO hD K hK
          obtain rfl := Option.some.inj ho.symm
          clear ho
          have ev28 : FA.eval (.tmp 28) = _ := hD 6 28 (by kernel_rfl)
          have e28 := (eval_tmp FA 28).symm.trans ev28
          replace ev28 := Lib.hid ev28
          have ev34 : FA.eval (.tmp 34) = _ := hD 12 34 (by kernel_rfl)
          have e34 := (eval_tmp FA 34).symm.trans ev34
          replace ev34 := Lib.hid ev34
          clear hO hD
          go_simp
          exact hK.out _ _ (Ex.refl _) rfl
        apply Steps.one (MP.eq _) 15 rfl
        · intro o ho FA x hO hD K hK
          obtain rfl := Option.some.inj ho.symm
          clear ho
          have ev35 : FA.eval (.tmp 35) = _ := hD 13 35 (by kernel_rfl)
          have e35 := (eval_tmp FA 35).symm.trans ev35
          replace ev35 := Lib.hid ev35
          clear hO hD
          go_simp
          exact hK.out _ _ (Ex.refl _) rfl
        apply Steps.one (MP.eq _) 16 rfl
        · intro o ho FA x hO hD K hK
          obtain rfl := Option.some.inj ho.symm
          clear ho
          have e10 := hO 10 (by kernel_rfl)
          simp only [eval_tmp, List.getElem?_toArray, List.getElem?_cons_succ, List.getElem?_cons_zero, Option.getD_some] at e10
          have ev10 := Lib.hid ((eval_tmp FA 10).trans e10)
          have ev36 : FA.eval (.tmp 36) = _ := hD 14 36 (by kernel_rfl)
          have e36 := (eval_tmp FA 36).symm.trans ev36
          replace ev36 := Lib.hid ev36
          first | have ge36 := slot_of e36 | have ge36 := slot_un e36
          clear hO hD
          first | (go_simp; exact hK.out _ _ (Ex.refl _) rfl) | (rcases ge36 with ge36 | ge36 <;> (go_simp; exact hK.out _ _ (Ex.refl _) rfl))
        apply Steps.one (MP.eq _) 17 rfl
        · intro o ho FA x hO hD K hK
          obtain rfl := Option.some.inj ho.symm
          clear ho
          have ev37 : FA.eval (.tmp 37) = _ := hD 15 37 (by kernel_rfl)
          have e37 := (eval_tmp FA 37).symm.trans ev37
          replace ev37 := Lib.hid ev37
          have ev36 : FA.eval (.tmp 36) = _ := hD 14 36 (by kernel_rfl)
          have e36 := (eval_tmp FA 36).symm.trans ev36
          replace ev36 := Lib.hid ev36
          first | have ge36 := slot_of e36 | have ge36 := slot_un e36
          clear hO hD
          first | (go_simp; exact hK.out _ _ (Ex.refl _) rfl) | (rcases ge36 with ge36 | ge36 <;> (go_simp; exact hK.out _ _ (Ex.refl _) rfl))
        apply Steps.one (MP.eq _) 18 rfl
        · intro o ho FA x hO hD K hK
          obtain rfl := Option.some.inj ho.symm
          clear ho
          have ev38 : FA.eval (.tmp 38) = _ := hD 16 38 (by kernel_rfl)
          have e38 := (eval_tmp FA 38).symm.trans ev38
          replace ev38 := Lib.hid ev38
          have ev36 : FA.eval (.tmp 36) = _ := hD 14 36 (by kernel_rfl)
          have e36 := (eval_tmp FA 36).symm.trans ev36
          replace ev36 := Lib.hid ev36
          first | have ge36 := slot_of e36 | have ge36 := slot_un e36
          clear hO hD
          first | (go_simp; exact hK.out _ _ (Ex.refl _) rfl) | (rcases ge36 with ge36 | ge36 <;> (go_simp; exact hK.out _ _ (Ex.refl _) rfl))
        apply Steps.one (MP.eq _) 19 rfl
        · intro o ho FA x hO hD K hK
          obtain rfl := Option.some.inj ho.symm
          clear ho
          have ev39 : FA.eval (.tmp 39) = _ := hD 17 39 (by kernel_rfl)
          have e39 := (eval_tmp FA 39).symm.trans ev39
          replace ev39 := Lib.hid ev39
          have ev36 : FA.eval (.tmp 36) = _ := hD 14 36 (by kernel_rfl)
          have e36 := (eval_tmp FA 36).symm.trans ev36
          replace ev36 := Lib.hid ev36
          first | have ge36 := slot_of e36 | have ge36 := slot_un e36
          clear hO hD
          first | (go_simp; exact hK.out _ _ (Ex.refl _) rfl) | (rcases ge36 with ge36 | ge36 <;> (go_simp; exact hK.out _ _ (Ex.refl _) rfl))
        apply Steps.one (MP.eq _) 20 rfl
        · intro o ho FA x hO hD K hK
          obtain rfl := Option.some.inj ho.symm
          clear ho
          have e3 := hO 3 (by kernel_rfl)
          simp only [eval_tmp, List.getElem?_toArray, List.getElem?_cons_succ, List.getElem?_cons_zero, Option.getD_some] at e3
          have ev3 := Lib.hid ((eval_tmp FA 3).trans e3)
          have ev36 : FA.eval (.tmp 36) = _ := hD 14 36 (by kernel_rfl)
          have e36 := (eval_tmp FA 36).symm.trans ev36
          replace ev36 := Lib.hid ev36
          first | have ge36 := slot_of e36 | have ge36 := slot_un e36
          clear hO hD
          first | (go_simp; exact hK.out _ _ (Ex.refl _) rfl) | (rcases ge36 with ge36 | ge36 <;> (go_simp; exact hK.out _ _ (Ex.refl _) rfl))
        apply Steps.one (MP.eq _) 21 rfl
        · intro o ho FA x hO hD K hK
          obtain rfl := Option.some.inj ho.symm
          clear ho
          have ev40 : FA.eval (.tmp 40) = _ := hD 18 40 (by kernel_rfl)
          have e40 := (eval_tmp FA 40).symm.trans ev40
          replace ev40 := Lib.hid ev40
          have ev41 : FA.eval (.tmp 41) = _ := hD 19 41 (by kernel_rfl)
          have e41 := (eval_tmp FA 41).symm.trans ev41
          replace ev41 := Lib.hid ev41
          have ev36 : FA.eval (.tmp 36) = _ := hD 14 36 (by kernel_rfl)
          have e36 := (eval_tmp FA 36).symm.trans ev36
          replace ev36 := Lib.hid ev36
          first | have ge36 := slot_of e36 | have ge36 := slot_un e36
          clear hO hD
          first | (go_simp; exact hK.out _ _ (Ex.refl _) rfl) | (rcases ge36 with ge36 | ge36 <;> (go_simp; exact hK.out _ _ (Ex.refl _) rfl))
        apply Steps.one (MP.eq _) 22 rfl
        · intro o ho FA x hO hD K hK
          obtain rfl := Option.some.inj ho.symm
          clear ho
          have ev36 : FA.eval (.tmp 36) = _ := hD 14 36 (by kernel_rfl)
          have e36 := (eval_tmp FA 36).symm.trans ev36
          replace ev36 := Lib.hid ev36
          have ev42 : FA.eval (.tmp 42) = _ := hD 20 42 (by kernel_rfl)
          have e42 := (eval_tmp FA 42).symm.trans ev42
          replace ev42 := Lib.hid ev42
          clear hO hD
          go_simp
          exact hK.out _ _ (Ex.refl _) rfl
        refine Steps.fin_ (fun vs x hp => ?_)
        have p0 : vs 0 = _ := hp 0 (by omega)
        have p1 : vs 1 = _ := hp 1 (by omega)
        have p2 : vs 2 = _ := hp 2 (by omega)
        have p3 : vs 3 = _ := hp 3 (by omega)
        have p4 : vs 4 = _ := hp 4 (by omega)
        have p5 : vs 5 = _ := hp 5 (by omega)
        have p6 : vs 6 = _ := hp 6 (by omega)
        have p7 : vs 7 = _ := hp 7 (by omega)
        have p8 : vs 8 = _ := hp 8 (by omega)
        have p9 : vs 9 = _ := hp 9 (by omega)
        have p10 : vs 10 = _ := hp 10 (by omega)
        have p11 : vs 11 = _ := hp 11 (by omega)
        have p12 : vs 12 = _ := hp 12 (by omega)
        have p13 : vs 13 = _ := hp 13 (by omega)
        have p14 : vs 14 = _ := hp 14 (by omega)
        have p15 : vs 15 = _ := hp 15 (by omega)
        have p16 : vs 16 = _ := hp 16 (by omega)
        have p17 : vs 17 = _ := hp 17 (by omega)
        have p18 : vs 18 = _ := hp 18 (by omega)
        have p19 : vs 19 = _ := hp 19 (by omega)
        have p20 : vs 20 = _ := hp 20 (by omega)
        have p21 : vs 21 = _ := hp 21 (by omega)
        clear hp
        simp only [List.take_succ_cons, List.take_zero, List.drop_succ_cons, List.drop_zero, putAll, Nat.zero_add, Nat.reduceAdd, Act.put, List.setIfInBounds_toArray, List.set_cons_zero, List.set_cons_succ, p0, p1, p2, p3, p4, p5, p6, p7, p8, p9, p10, p11, p12, p13, p14, p15, p16, p17, p18, p19, p20, p21]
        clear p0 p1 p2 p3 p4 p5 p6 p7 p8 p9 p10 p11 p12 p13 p14 p15 p16 p17 p18 p19 p20 p21
        clear vs
        go_wp2
        exact ⟨⟨i + 1, by omega, by omega, by go_num, belowP hE _ _, ba.later (below_plus _ _ _)⟩, by simp [intOf]; omega⟩
    · have HV := Lib.hid (show fdI C (six, ah, al) pt pr = -1 from if_neg (by omega))
      have ii : ¬ (i : Int) < (n : Int) := by omega
      clear hif hlt0
      go_wp2
      go_ret
      rw [HV.out]
      exact RetV.is_ rfl hE
end
end Go.Proofs.YtclhfbbajeoanaaDoor

/- addBackend, fit (chapter 22). -/
namespace Go.Proofs.YtclhfbbajeoanaaDoor
open Go.RowKit
set_option linter.unusedVariables false
set_option linter.unusedSimpArgs false
attribute [local go_sem ↓] sliced_cut

attribute [local go_sem] cutA_zero

/-- how the sets of blocks grow -/
structure Grow (G D G' D' : Nat → Prop) (w : World) : Prop where
  gg : ∀ b, G b → G' b
  gn : ∀ b, G' b → G b ∨ w.heap.size ≤ b
  dn : ∀ b, D' b → D b ∨ w.heap.size ≤ b
theorem Grow.refl (G D : Nat → Prop) (w : World) : Grow G D G D w := ⟨fun _ h => h, fun _ h => .inl h, fun _ h => .inl h⟩
theorem Grow.trans {G D G1 D1 G2 D2 : Nat → Prop} {w w1 : World} (h : Grow G D G1 D1 w) (k : Grow G1 D1 G2 D2 w1) (hs : w.heap.size ≤ w1.heap.size) : Grow G D G2 D2 w :=
  ⟨fun b hb => k.gg b (h.gg b hb), fun b hb => (k.gn b hb).elim (h.gn b) (fun h' => .inr (Nat.le_trans hs h')), fun b hb => (k.dn b hb).elim (h.dn b) (fun h' => .inr (Nat.le_trans hs h'))⟩
theorem Grow.early {G D G1 D1 : Nat → Prop} {w w1 : World} (k : Grow G D G1 D1 w1) (hs : w.heap.size ≤ w1.heap.size) : Grow G D G1 D1 w := (Grow.refl G D w).trans k hs
/-- a call changes a state -/
def RetCf (G D : Nat → Prop) (w : World) (g : Nat) (C' : Cf) (v : Value) (e : Ending) (w' : World) : Prop := e = .returned v ∧ ∃ G' D', CfM G' D' w' g C' ∧ Grow G D G' D' w ∧ Chg D w w'
theorem run_buildKn (six : Bool) (ah al : Nat) (w : World) : (Instr.build 86 #[(0, .agg (adC six ah al).toArray), (1, .bool true)]).run Tryd.prog w = .ok (.agg (bkC (some (six, ah, al))).toArray) w := by kernel_rfl
set_option maxHeartbeats 4000000 in
set_option maxRecDepth 100000 in
theorem addBackend_any {G D : Nat → Prop} (k v b e : Int) (six : Bool) (ah al pt pr : Nat) (wy : Int) (ms : List (Int × Int)) (B : Option Addr) (m d : Nat) (C : Cf) (hC : CfOk C) (g : Nat) (A : Option Addr) (n c : Nat) (E : List Ve) (w : World) (hX : CfX G D w g C A n c E) (hal : al < 18446744073709551616) : Calls Tryd.prog 50 #[.pointer (some ⟨g, 0, none⟩), .agg (opC k v b e six ah al pt pr wy B m d).toArray] w (RetCf G D w g (bif (numB b && adG six ah al) then { C with bk := C.bk.set b.toNat (some (six, ah, al)) } else C) (.int .i64 (bif (numB b && adG six ah al) then 0 else 1))) := by
  obtain ⟨da1, va1, va2⟩ := rowAdC
  obtain ⟨do1, vo1, vo2⟩ := rowOpC
  have hk := hC.key
  have hb := hC.bl
  have HA := Lib.hid (fun w => adrRightC six ah al w hal)
  by_cases h1 : b < 1
  · have hq : (numB b && adG six ah al) = false := by unfold numB; rw [decide_eq_false (by omega)]; rfl
    rw [hq]
    have bo : Bk (w.alloc (.cells (opC k v b e six ah al pt pr wy B m d).toArray 45)) w.heap.size 45 (opC k v b e six ah al pt pr wy B m d) := Bk.new w 45 (opC k v b e six ah al pt pr wy B m d).toArray
    have be : Below w.heap.size w (w.alloc (.cells (opC k v b e six ah al pt pr wy B m d).toArray 45)) := Below.allocS (Below.refl _ _) _
    have zV : w.heap.size + 1 ≤ (w.alloc (.cells (opC k v b e six ah al pt pr wy B m d).toArray 45)).heap.size := by simp
    go_enter Tryd.func50, Tryd.ntmps50
    go_upto_region 1 with (fail)
    generalize w.alloc (.cells (opC k v b e six ah al pt pr wy B m d).toArray 45) = V at *
    replace hX := hX.later be
    refine wp_region_lit ?_
    refine wpList_plain rfl (fun K hK => ?_); go_simp; with_reducible refine hK _ _ ?_; clear hK K
    refine wpList_ld1 (t := 45) (cs := opC k v b e six ah al pt pr wy B m d) 3 (.tmp 5) rfl (by rfl) rfl (bo) rfl Tryd.underlying3 rfl ?_
    iterate 2 (refine wpList_plain rfl (fun K hK => ?_); go_simp; with_reducible refine hK _ _ ?_; clear hK K)
    iterate 3 ((with_reducible refine wpList_skip ?_ ?_); (· first | (go_simp; done) | (go_simp; intro h; cases h)); simp only [Act.put, List.setIfInBounds_toArray, List.set_cons_zero, List.set_cons_succ])
    iterate 2 (refine wpList_plain rfl (fun K hK => ?_); go_simp; with_reducible refine hK _ _ ?_; clear hK K)
    iterate 4 ((with_reducible refine wpList_skip ?_ ?_); (· first | (go_simp; done) | (go_simp; intro h; cases h)); simp only [Act.put, List.setIfInBounds_toArray, List.set_cons_zero, List.set_cons_succ])
    refine wpList_plain rfl (fun K hK => ?_); go_simp; with_reducible refine hK _ _ ?_; clear hK K
    go_wp2
    go_ret
    exact ⟨rfl, G, D, ⟨A, n, c, E, hX⟩, Grow.refl _ _ _, Chg.of_below be⟩
  · by_cases h2 : 64 < b
    · have hq : (numB b && adG six ah al) = false := by unfold numB; rw [decide_eq_false (show ¬ b ≤ 64 by omega)]; simp
      rw [hq]
      have bo : Bk (w.alloc (.cells (opC k v b e six ah al pt pr wy B m d).toArray 45)) w.heap.size 45 (opC k v b e six ah al pt pr wy B m d) := Bk.new w 45 (opC k v b e six ah al pt pr wy B m d).toArray
      have be : Below w.heap.size w (w.alloc (.cells (opC k v b e six ah al pt pr wy B m d).toArray 45)) := Below.allocS (Below.refl _ _) _
      have zV : w.heap.size + 1 ≤ (w.alloc (.cells (opC k v b e six ah al pt pr wy B m d).toArray 45)).heap.size := by simp
      go_enter Tryd.func50, Tryd.ntmps50
      go_upto_region 1 with (fail)
      generalize w.alloc (.cells (opC k v b e six ah al pt pr wy B m d).toArray 45) = V at *
      replace hX := hX.later be
      refine wp_region_lit ?_
      refine wpList_plain rfl (fun K hK => ?_); go_simp; with_reducible refine hK _ _ ?_; clear hK K
      refine wpList_ld1 (t := 45) (cs := opC k v b e six ah al pt pr wy B m d) 3 (.tmp 5) rfl (by rfl) rfl (bo) rfl Tryd.underlying3 rfl ?_
      iterate 2 (refine wpList_plain rfl (fun K hK => ?_); go_simp; with_reducible refine hK _ _ ?_; clear hK K)
      refine wpList_step (fun K hK => ?_); go_simp; with_reducible refine hK _ _ ?_; clear hK K
      refine wpList_ld1 (t := 45) (cs := opC k v b e six ah al pt pr wy B m d) 3 (.tmp 9) rfl (by go_simp) rfl (bo) rfl Tryd.underlying3 rfl ?_
      refine wpList_step (fun K hK => ?_); go_simp; with_reducible refine hK _ _ ?_; clear hK K
      iterate 2 (refine wpList_plain rfl (fun K hK => ?_); go_simp; with_reducible refine hK _ _ ?_; clear hK K)
      iterate 4 ((with_reducible refine wpList_skip ?_ ?_); (· first | (go_simp; done) | (go_simp; intro h; cases h)); simp only [Act.put, List.setIfInBounds_toArray, List.set_cons_zero, List.set_cons_succ])
      refine wpList_plain rfl (fun K hK => ?_); go_simp; with_reducible refine hK _ _ ?_; clear hK K
      go_wp2
      go_ret
      exact ⟨rfl, G, D, ⟨A, n, c, E, hX⟩, Grow.refl _ _ _, Chg.of_below be⟩
    · have hnb : numB b = true := by unfold numB; rw [decide_eq_true (by omega), decide_eq_true (by omega)]; rfl
      rw [hnb, Bool.true_and]
      obtain ⟨i, rfl⟩ : ∃ i : Nat, b = i := ⟨b.toNat, by omega⟩
      have i65 : (i : Int) < 65 := by omega
      clear hnb
      cases hg : adG six ah al
      · rw [hg] at HA
        clear hg
        have bo : Bk (w.alloc (.cells (opC k v (i : Int) e six ah al pt pr wy B m d).toArray 45)) w.heap.size 45 (opC k v (i : Int) e six ah al pt pr wy B m d) := Bk.new w 45 (opC k v (i : Int) e six ah al pt pr wy B m d).toArray
        have be : Below w.heap.size w (w.alloc (.cells (opC k v (i : Int) e six ah al pt pr wy B m d).toArray 45)) := Below.allocS (Below.refl _ _) _
        have zV : w.heap.size + 1 ≤ (w.alloc (.cells (opC k v (i : Int) e six ah al pt pr wy B m d).toArray 45)).heap.size := by simp
        go_enter Tryd.func50, Tryd.ntmps50
        go_upto_region 1 with (fail)
        generalize w.alloc (.cells (opC k v (i : Int) e six ah al pt pr wy B m d).toArray 45) = V at *
        replace hX := hX.later be
        refine wp_region_lit ?_
        refine wpList_plain rfl (fun K hK => ?_); go_simp; with_reducible refine hK _ _ ?_; clear hK K
        refine wpList_ld1 (t := 45) (cs := opC k v (i : Int) e six ah al pt pr wy B m d) 3 (.tmp 5) rfl (by rfl) rfl (bo) rfl Tryd.underlying3 rfl ?_
        iterate 2 (refine wpList_plain rfl (fun K hK => ?_); go_simp; with_reducible refine hK _ _ ?_; clear hK K)
        refine wpList_step (fun K hK => ?_); go_simp; with_reducible refine hK _ _ ?_; clear hK K
        refine wpList_ld1 (t := 45) (cs := opC k v (i : Int) e six ah al pt pr wy B m d) 3 (.tmp 9) rfl (by go_simp) rfl (bo) rfl Tryd.underlying3 rfl ?_
        refine wpList_step (fun K hK => ?_); go_simp; with_reducible refine hK _ _ ?_; clear hK K
        iterate 2 (refine wpList_plain rfl (fun K hK => ?_); go_simp; with_reducible refine hK _ _ ?_; clear hK K)
        refine wpList_step (fun K hK => ?_); go_simp; with_reducible refine hK _ _ ?_; clear hK K
        refine wpList_ldG (t := 45) (cs := opC k v (i : Int) e six ah al pt pr wy B m d) 32 (.tmp 14) rfl (by go_simp) (adC six ah al) rfl (bo) rfl va1 va2 (szAd _ _ _) ?_
        refine wpList_step (fun K hK => ?_)
        go_simp
        refine (HA.out _).mono ?_
        rintro e w1 ⟨bs1, d1, rfl, rfl⟩
        with_reducible refine hK _ _ ?_
        clear hK K
        have hb1 := below_plus V bs1 d1
        replace hX := hX.later hb1
        replace bo := bo.later hb1
        replace be := be.trans (hb1.mono be.size)
        clear hb1
        generalize plus V bs1 d1 = V1 at *
        refine wpList_step (fun K hK => ?_); go_simp; with_reducible refine hK _ _ ?_; clear hK K
        refine wpList_plain rfl (fun K hK => ?_); go_simp; with_reducible refine hK _ _ ?_; clear hK K
        go_wp2
        go_ret
        exact ⟨rfl, G, D, ⟨A, n, c, E, hX⟩, Grow.refl _ _ _, Chg.of_below be⟩
      · rw [hg] at HA
        clear hg
        have bo : Bk (w.alloc (.cells (opC k v (i : Int) e six ah al pt pr wy B m d).toArray 45)) w.heap.size 45 (opC k v (i : Int) e six ah al pt pr wy B m d) := Bk.new w 45 (opC k v (i : Int) e six ah al pt pr wy B m d).toArray
        have be : Below w.heap.size w (w.alloc (.cells (opC k v (i : Int) e six ah al pt pr wy B m d).toArray 45)) := Below.allocS (Below.refl _ _) _
        have zV : w.heap.size + 1 ≤ (w.alloc (.cells (opC k v (i : Int) e six ah al pt pr wy B m d).toArray 45)).heap.size := by simp
        go_enter Tryd.func50, Tryd.ntmps50
        go_upto_region 1 with (fail)
        generalize w.alloc (.cells (opC k v (i : Int) e six ah al pt pr wy B m d).toArray 45) = V at *
        replace hX := hX.later be
        refine wp_region_lit ?_
        refine wpList_plain rfl (fun K hK => ?_); go_simp; with_reducible refine hK _ _ ?_; clear hK K
        refine wpList_ld1 (t := 45) (cs := opC k v (i : Int) e six ah al pt pr wy B m d) 3 (.tmp 5) rfl (by rfl) rfl (bo) rfl Tryd.underlying3 rfl ?_
        iterate 2 (refine wpList_plain rfl (fun K hK => ?_); go_simp; with_reducible refine hK _ _ ?_; clear hK K)
        refine wpList_step (fun K hK => ?_); go_simp; with_reducible refine hK _ _ ?_; clear hK K
        refine wpList_ld1 (t := 45) (cs := opC k v (i : Int) e six ah al pt pr wy B m d) 3 (.tmp 9) rfl (by go_simp) rfl (bo) rfl Tryd.underlying3 rfl ?_
        refine wpList_step (fun K hK => ?_); go_simp; with_reducible refine hK _ _ ?_; clear hK K
        iterate 2 (refine wpList_plain rfl (fun K hK => ?_); go_simp; with_reducible refine hK _ _ ?_; clear hK K)
        refine wpList_step (fun K hK => ?_); go_simp; with_reducible refine hK _ _ ?_; clear hK K
        refine wpList_ldG (t := 45) (cs := opC k v (i : Int) e six ah al pt pr wy B m d) 32 (.tmp 14) rfl (by go_simp) (adC six ah al) rfl (bo) rfl va1 va2 (szAd _ _ _) ?_
        refine wpList_step (fun K hK => ?_)
        go_simp
        refine (HA.out _).mono ?_
        rintro e w1 ⟨bs1, d1, rfl, rfl⟩
        with_reducible refine hK _ _ ?_
        clear hK K
        have hb1 := below_plus V bs1 d1
        replace hX := hX.later hb1
        replace bo := bo.later hb1
        replace be := be.trans (hb1.mono be.size)
        clear hb1
        generalize plus V bs1 d1 = V1 at *
        refine wpList_step (fun K hK => ?_); go_simp; with_reducible refine hK _ _ ?_; clear hK K
        refine wpList_plain rfl (fun K hK => ?_); go_simp; with_reducible refine hK _ _ ?_; clear hK K
        go_upto_region 3 with (fail)
        refine wp_relS 9 28 rfl (by kernel_rfl) (by kernel_rfl) ?_
        apply Steps.one (MP.eq _) 1 rfl
        · intro o ho FA x hO hD K hK
          obtain rfl := Option.some.inj ho.symm
          clear ho
          have e0 := hO 0 (by kernel_rfl)
          simp only [eval_tmp, List.getElem?_toArray, List.getElem?_cons_succ, List.getElem?_cons_zero, Option.getD_some] at e0
          have ev0 := Lib.hid ((eval_tmp FA 0).trans e0)
          clear hO hD
          go_simp
          exact hK.out _ _ (Ex.refl _) rfl
        apply Steps.one (MP.eq _) 2 rfl
        · intro o ho FA x hO hD K hK
          obtain rfl := Option.some.inj ho.symm
          clear ho
          have e3 := hO 3 (by kernel_rfl)
          simp only [eval_tmp, List.getElem?_toArray, List.getElem?_cons_succ, List.getElem?_cons_zero, Option.getD_some] at e3
          have ev3 := Lib.hid ((eval_tmp FA 3).trans e3)
          clear hO hD
          go_simp
          exact hK.out _ _ (Ex.refl _) rfl
        apply Steps.one (MP.eq _) 3 rfl
        · intro o ho FA x hO hD K hK
          obtain rfl := Option.some.inj ho.symm
          clear ho
          have ev20 : FA.eval (.tmp 20) = _ := hD 1 20 (by kernel_rfl)
          have e20 := (eval_tmp FA 20).symm.trans ev20
          replace ev20 := Lib.hid ev20
          clear hO hD
          refine wanted_if rfl ?_
          refine wp_ld1 3 (.tmp 20) rfl ev20.out (bo.later (below_plus _ _ _)) rfl Tryd.underlying3 rfl ?_
          exact hK.out _ _ (Ex.refl _) rfl
        apply Steps.one (MP.eq _) 4 rfl
        · intro o ho FA x hO hD K hK
          obtain rfl := Option.some.inj ho.symm
          clear ho
          have e3 := hO 3 (by kernel_rfl)
          simp only [eval_tmp, List.getElem?_toArray, List.getElem?_cons_succ, List.getElem?_cons_zero, Option.getD_some] at e3
          have ev3 := Lib.hid ((eval_tmp FA 3).trans e3)
          clear hO hD
          go_simp
          exact hK.out _ _ (Ex.refl _) rfl
        apply Steps.one (MP.eq _) 5 rfl
        · intro o ho FA x hO hD K hK
          obtain rfl := Option.some.inj ho.symm
          clear ho
          have ev22 : FA.eval (.tmp 22) = _ := hD 3 22 (by kernel_rfl)
          have e22 := (eval_tmp FA 22).symm.trans ev22
          replace ev22 := Lib.hid ev22
          clear hO hD
          refine wanted_if rfl ?_
          refine wp_ldA 32 (.tmp 22) rfl (adC six ah al) ev22.out (bo.later (below_plus _ _ _)) rfl va1 va2 (szAd _ _ _) ?_
          exact hK.out _ _ (Ex.refl _) rfl
        apply Steps.one (MP.eq _) 6 rfl
        · intro o ho FA x hO hD K hK
          obtain rfl := Option.some.inj ho.symm
          clear ho
          have ev23 : FA.eval (.tmp 23) = _ := hD 4 23 (by kernel_rfl)
          have e23 := (eval_tmp FA 23).symm.trans ev23
          replace ev23 := Lib.hid ev23
          clear hO hD
          refine wanted_if rfl ?_
          refine wp_buildV 86 [(0, .tmp 23), (1, .const (.bool true))] rfl (.agg (bkC (some (six, ah, al))).toArray) (by simp only [List.map_cons, List.map_nil, ev23.out]; exact run_buildKn six ah al _) ?_
          exact hK.out _ _ (Ex.refl _) rfl
        apply Steps.one (MP.eq _) 7 rfl
        · intro o ho FA x hO hD K hK
          obtain rfl := Option.some.inj ho.symm
          clear ho
          have ev19 : FA.eval (.tmp 19) = _ := hD 0 19 (by kernel_rfl)
          have e19 := (eval_tmp FA 19).symm.trans ev19
          replace ev19 := Lib.hid ev19
          clear hO hD
          go_simp
          exact hK.out _ _ (Ex.refl _) rfl
        apply Steps.one (MP.eq _) 8 rfl
        · intro o ho FA x hO hD K hK
          obtain rfl := Option.some.inj ho.symm
          clear ho
          have ev25 : FA.eval (.tmp 25) = _ := hD 6 25 (by kernel_rfl)
          have e25 := (eval_tmp FA 25).symm.trans ev25
          replace ev25 := Lib.hid ev25
          clear hO hD
          go_simp
          exact hK.out _ _ (Ex.refl _) rfl
        apply Steps.one (MP.eq _) 9 rfl
        · intro o ho FA x hO hD K hK
          obtain rfl := Option.some.inj ho.symm
          clear ho
          have ev26 : FA.eval (.tmp 26) = _ := hD 7 26 (by kernel_rfl)
          have e26 := (eval_tmp FA 26).symm.trans ev26
          replace ev26 := Lib.hid ev26
          have ev21 : FA.eval (.tmp 21) = _ := hD 2 21 (by kernel_rfl)
          have e21 := (eval_tmp FA 21).symm.trans ev21
          replace ev21 := Lib.hid ev21
          clear hO hD
          go_simp
          exact hK.out _ _ (Ex.refl _) rfl
        refine Steps.fin_ (fun vs x hp => ?_)
        have p0 : vs 0 = _ := hp 0 (by omega)
        have p1 : vs 1 = _ := hp 1 (by omega)
        have p2 : vs 2 = _ := hp 2 (by omega)
        have p3 : vs 3 = _ := hp 3 (by omega)
        have p4 : vs 4 = _ := hp 4 (by omega)
        have p5 : vs 5 = _ := hp 5 (by omega)
        have p6 : vs 6 = _ := hp 6 (by omega)
        have p7 : vs 7 = _ := hp 7 (by omega)
        have p8 : vs 8 = _ := hp 8 (by omega)
        clear hp
        simp only [List.take_succ_cons, List.take_zero, List.drop_succ_cons, List.drop_zero, putAll, Nat.zero_add, Nat.reduceAdd, Act.put, List.setIfInBounds_toArray, List.set_cons_zero, List.set_cons_succ, p0, p1, p2, p3, p4, p5, p6, p7, p8]
        clear p0 p1 p2 p3 p4 p5 p6 p7 p8
        clear vs
        have hb3 := below_plus V1 x.bs x.d
        replace hX := hX.later hb3
        replace be := be.trans (hb3.mono be.size)
        clear hb3
        generalize plus V1 x.bs x.d = V2 at *
        refine wpList_stM (t := 90) (off := 18 + i * 4) 86 (.tmp 27) (.tmp 24) rfl rfl (bkC (some (six, ah, al))) (stC C A n c) (by rw [stC_len C hk hb, bkC_len]; omega) (bkC_one _) rfl rfl hX.st (by kernel_rfl) ?_
        intro W4 h4 g4
        simp only [Act.put, List.setIfInBounds_toArray, List.set_cons_zero, List.set_cons_succ]
        replace hX := hX.setSt (C' := { C with bk := C.bk.set i (some (six, ah, al)) }) rfl (by rw [← stC_setBk C hk hb A n c i (by omega)]; exact h4) g4
        go_wp2
        go_ret
        exact ⟨rfl, G, D, ⟨A, n, c, E, hX⟩, Grow.refl _ _ _, (Chg.of_below be).trans (Chg.one g4 hX.dg)⟩
/-- whom fit has seen -/
def senC (q : List Int) : List Value := (List.range 65).map fun k : Nat => .bool (decide ((k : Int) ∈ q))
theorem senC_len (q : List Int) : (senC q).length = 65 := by simp [senC]
theorem senC_at (q : List Int) (k : Nat) (h : k < 65) : (senC q)[k]? = some (.bool (decide ((k : Int) ∈ q))) := by simp [senC, h]
theorem senC_set (q : List Int) (k : Nat) (h : k < 65) : (senC q).set k (.bool true) = senC (q ++ [(k : Int)]) := by
  apply List.ext_getElem?
  intro i
  by_cases hi : i < 65
  · rw [senC_at _ _ hi, List.getElem?_set]
    split
    · next e => subst e; rw [if_pos (by rw [senC_len]; exact hi)]; simp
    · next e =>
      rw [senC_at _ _ hi]
      have : (i : Int) ≠ (k : Int) := by omega
      simp [this]
  · rw [List.getElem?_eq_none (by rw [List.length_set, senC_len]; omega), List.getElem?_eq_none (by rw [senC_len]; omega)]
theorem okM_snoc (C : Cf) (l : List (Int × Int)) (p : Int × Int) : okM C (l ++ [p]) = (okM C l && (knC C p.1 && (!decide (p.1 ∈ l.map (·.1)) && wtB p.2))) := by
  rw [Bool.eq_iff_iff]
  simp only [okM, Bool.and_eq_true, decide_eq_true_eq, List.all_append, List.all_cons, List.all_nil, List.map_append, List.map_cons, List.map_nil, List.nodup_append, Bool.not_eq_true', decide_eq_false_iff_not]
  constructor
  · rintro ⟨⟨h1, h2, _⟩, h3, h4, h5⟩
    exact ⟨⟨h1, h3⟩, h2.1, fun hm => h5 _ hm _ (by simp) rfl, h2.2⟩
  · rintro ⟨⟨h1, h3⟩, h2, h5, h6⟩
    refine ⟨⟨h1, ⟨h2, h6⟩, trivial⟩, h3, by simp, fun a ha b hb e => ?_⟩
    simp at hb
    subst hb e
    exact h5 ha
theorem okM_take {C : Cf} {l : List (Int × Int)} (h : okM C l = true) (j : Nat) : okM C (l.take j) = true := by
  simp only [okM, Bool.and_eq_true, List.all_eq_true, decide_eq_true_eq] at h ⊢
  refine ⟨fun p hp => h.1 p (List.mem_of_mem_take hp), ?_⟩
  rw [List.map_take]
  exact h.2.sublist (List.take_sublist _ _)
theorem okM_bad {C : Cf} {l : List (Int × Int)} {j : Nat} (h : okM C (l.take j) = false) : okM C l = false := by
  cases hl : okM C l
  · rfl
  · rw [okM_take hl] at h; cases h
theorem szMb (x y : Int) : (Tryd.prog.info? 73).map (·.size) = some ([Value.int .i64 x, .int .i64 y]).length := by kernel_rfl
theorem rowMb : ∃ d, Tryd.prog.underlying 73 = some d ∧ d.isRow = true := ⟨_, Tryd.underlying73, rfl⟩
set_option maxHeartbeats 4000000 in
set_option maxRecDepth 100000 in
theorem fit_any (ms : List (Int × Int)) (B : Option Addr) (m d : Nat) (C : Cf) (hC : CfOk C) (g : Nat) (A : Option Addr) (n c : Nat) (w : World) (hS : Bk w g 90 (stC C A n c)) (hr : Rs 2 w B m d (prs .i64 ms)) (hm : m ≤ 1000000) : Calls Tryd.prog 27 #[.pointer (some ⟨g, 0, none⟩), .slice B m d] w (RetV w (.bool (okM C ms))) := by
  obtain ⟨dm, m1, m2⟩ := rowMb
  have hml : ms.length = m := by have := hr.1; rw [prs_length] at this; omega
  have HB := Lib.hid (fun x w h => backend_any C hC.key hC.bl A n c g x w h)
  by_cases h64 : 64 < m
  · have i64 : (64 : Int) < (m : Int) := by omega
    have HBAD := Lib.hid (show okM C ms = false by
      cases hl : okM C ms
      · rfl
      · have := okM_len hl; omega)
    go_enter Tryd.func27, Tryd.ntmps27
    go_wp2
    go_ret
    exact RetV.is_ (by rw [HBAD.out]; rfl) (Below.refl _ _)
  · have i64 : ¬ (64 : Int) < (m : Int) := by omega
    have hzv : ∀ w, (zeroValue 34).run Tryd.prog w = .ok (.agg (senC []).toArray) w := fun _ => by kernel_rfl
    go_enter Tryd.func27, Tryd.ntmps27
    go_upto_region 4 with (fail)
    have hk : Bk (w.alloc (.cells (senC []).toArray 34)) w.heap.size 34 (senC []) := Bk.new _ _ _
    have be : Below w.heap.size w (w.alloc (.cells (senC []).toArray 34)) := Below.allocS (Below.refl _ _) _
    generalize w.alloc (.cells (senC []).toArray 34) = V at *
    clear hzv
    go_upto_region 5 with (fail)
    have HK := Lib.hid hk
    have HE := Lib.hid be
    clear hk be
    go_loopw [15] (fun I wr => ∃ j : Nat, I = .int .i64 (j : Int) ∧ j ≤ m ∧ okM C (ms.take j) = true ∧ Bk wr w.heap.size 34 (senC ((ms.take j).map (·.1))) ∧ Below w.heap.size w wr) (fun I _ => m - (intOf I).toNat)
    case atStart => exact ⟨0, rfl, Nat.zero_le _, rfl, HK.out, HE.out⟩
    case round =>
      clear HE HK
      obtain ⟨j, rfl, hj, hok, hk, hE⟩ := hrel
      have HOK := Lib.hid hok
      clear hok
      by_cases hlt : j < m
      · have ij : (j : Int) < (m : Int) := by omega
        have hjL : j < ms.length := by omega
        obtain ⟨bl, ol, rfl, hbl, -⟩ := (hr.later hE).at_ (by omega) (by decide)
        have hg7 := rng_pr ((hr.later hE).range2 j hjL)
        have hsn : ms.take (j + 1) = ms.take j ++ [ms[j]] := by simp
        generalize ms[j] = p at *
        obtain ⟨x, y⟩ := p
        have HSN := Lib.hid hsn
        have HO2 := Lib.hid ((congrArg (okM C) hsn).trans (okM_snoc C (ms.take j) (x, y)))
        clear hsn
        go_upto_region 7 with (first
          | (refine at_op (.load 73 (.tmp 17)) rfl ?_; refine wpList_load_mid rfl 73 (.tmp 17) rfl bl (ol + j * 2) rfl [.int .i64 x, .int .i64 y] _ hg7 m1 m2 (szMb _ _) ?_)
          | (refine at_op (.store 73 (.tmp 7) (.tmp 18)) rfl ?_; refine wpList_stA (t := 73) 73 (.tmp 7) (.tmp 18) rfl rfl [.int .i64 x, .int .i64 y] [.int .i64 0, .int .i64 0] rfl (by simp [Value.oneCell']) rfl rfl (Bk.new _ _ _) (szMb _ _) ?_; intro W4 h4 g4))
        have be4 : Below wr.heap.size wr W4 := below_grown (Below.allocS (Below.refl _ _) _) g4 (Nat.le_refl _)
        have q0 : W4.cell? ⟨wr.heap.size, 0, none⟩ = some (.int .i64 x) := h4.cell 0
        have q1 : W4.cell? ⟨wr.heap.size, 1, none⟩ = some (.int .i64 y) := h4.cell 1
        have hgm : wr.heap.size < W4.heap.size := h4.lt
        have hwg : w.heap.size ≤ wr.heap.size := hE.size
        replace hE := hE.trans (be4.mono hE.size)
        replace hk := hk.later be4
        have hS4 := hS.later hE
        clear be4 h4 g4 hg7
        generalize wr.heap.size = gm at *
        refine wp_region_lit ?_
        iterate 3 (refine wpList_plain rfl (fun K hK => ?_); go_simp; with_reducible refine hK _ _ ?_; clear hK K)
        refine wpList_plain rfl (fun K hK => ?_)
        go_simp
        refine (HB.out x _ hS4).mono ?_
        rintro e w1 ⟨bs1, d1, rfl, rfl⟩
        with_reducible refine hK _ _ ?_
        clear hK K
        have hb1 := below_plus W4 bs1 d1
        replace hk := hk.later hb1
        replace hE := hE.trans (hb1.mono hE.size)
        have q0 := (hb1.cell (p := ⟨gm, 0, none⟩) hgm).trans q0
        have q1 := (hb1.cell (p := ⟨gm, 1, none⟩) hgm).trans q1
        have zgm := Nat.lt_of_lt_of_le hgm hb1.size
        clear hb1
        generalize plus W4 bs1 d1 = W5 at *
        iterate 4 (refine wpList_plain rfl (fun K hK => ?_); go_simp; with_reducible refine hK _ _ ?_; clear hK K)
        refine wpList_stA (t := 32) 32 (.tmp 8) (.tmp 24) rfl rfl (adC (bkA C x).1 (bkA C x).2.1 (bkA C x).2.2) (adC false 0 0) rfl (by simp [adC, Value.oneCell']) rfl rfl (Bk.new _ _ _) (szAd _ _ _) ?_
        intro W6 h6 g6
        refine wpList_plain rfl (fun K hK => ?_); go_simp; with_reducible refine hK _ _ ?_; clear hK K
        have be6 : Below W5.heap.size W5 W6 := below_grown (Below.allocS (Below.refl _ _) _) g6 (Nat.le_refl _)
        replace q0 := (be6.cell (p := ⟨gm, 0, none⟩) zgm).trans q0
        replace q1 := (be6.cell (p := ⟨gm, 1, none⟩) zgm).trans q1
        replace hE := hE.trans (be6.mono hE.size)
        replace hk := hk.later be6
        have hW := Lib.hid hE
        clear be6 h6 g6 hS4
        cases hkn : knC C x with
        | false =>
          have HBAD := Lib.hid (okM_bad (j := j + 1) (by rw [HO2.out]; simp [hkn]))
          replace hW := hW.out
          clear HOK hkn
          go_wp2
          go_ret
          exact RetV.is_ (by rw [HBAD.out]; rfl) hW
        | true =>
          have hrg := knC_rg hkn
          obtain ⟨i, rfl⟩ : ∃ i : Nat, x = i := ⟨x.toNat, by omega⟩
          have i65 : (i : Int) < 65 := by omega
          have hseen := (hk.cell i).trans (senC_at _ i (by omega))
          have hfz := hk.frozen i
          cases hq : decide ((i : Int) ∈ (ms.take j).map (·.1)) with
          | true =>
            rw [hq] at hseen
            have HBAD := Lib.hid (okM_bad (j := j + 1) (by rw [HO2.out]; simp only [hq]; simp))
            replace hW := hW.out
            clear HOK hkn hq
            go_wp2
            go_ret
            exact RetV.is_ (by rw [HBAD.out]; rfl) hW
          | false =>
            rw [hq] at hseen
            by_cases h0 : y < 0
            · have HBAD := Lib.hid (okM_bad (j := j + 1) (by rw [HO2.out]; unfold wtB; simp only [decide_eq_false (show ¬ 0 ≤ y by omega)]; simp))
              replace hW := hW.out
              clear HOK hkn hq
              go_wp2
              go_ret
              exact RetV.is_ (by rw [HBAD.out]; rfl) hW
            · by_cases h100 : 100 < y
              · have HBAD := Lib.hid (okM_bad (j := j + 1) (by rw [HO2.out]; unfold wtB; simp only [decide_eq_false (show ¬ y ≤ 100 by omega)]; simp))
                replace hW := hW.out
                clear HOK hkn hq
                go_wp2
                go_ret
                exact RetV.is_ (by rw [HBAD.out]; rfl) hW
              · have HK2 := Lib.hid (show okM C (ms.take (j + 1)) = true by rw [HO2.out, HOK.out, hkn]; simp only [hq]; unfold wtB; simp only [decide_eq_true (show 0 ≤ y by omega), decide_eq_true (show y ≤ 100 by omega)]; rfl)
                have e := hk.set_ i (.bool true)
                rw [senC_set _ i (by omega)] at e
                have HS2 := Lib.hid (show Bk (W6.setCell ⟨w.heap.size, i, none⟩ (.bool true)) w.heap.size 34 (senC ((ms.take (j + 1)).map (·.1))) by rw [HSN.out, List.map_append]; exact e)
                have hb2 : w.heap.size ≤ w.heap.size := Nat.le_refl _
                have hne : gm ≠ w.heap.size ∨ True := Or.inr trivial
                replace hW := hW.out
                clear e hkn hq
                go_wp2
                exact ⟨⟨j + 1, by go_num, by omega, HK2.out, HS2.out, hW.setCell hb2 _⟩, by simp [intOf]; omega⟩
      · obtain rfl : j = m := by omega
        have ij : ¬ (j : Int) < (j : Int) := by omega
        have HGOOD := Lib.hid (show okM C ms = true by have := HOK.out; rwa [List.take_of_length_le (by omega)] at this)
        clear HOK
        go_wp2
        go_ret
        exact RetV.is_ (by rw [HGOOD.out]; rfl) hE
end Go.Proofs.YtclhfbbajeoanaaDoor

/- A service more in the state's memory; the set of the evicted, one by one. -/
namespace Go.Proofs.YtclhfbbajeoanaaDoor
open Go.RowKit
set_option linter.unusedVariables false
set_option linter.unusedSimpArgs false
theorem mod_bit (x k : Nat) : x % 2 ^ (k + 1) = if x.testBit k then x % 2 ^ k ||| 2 ^ k else x % 2 ^ k := by
  apply Nat.eq_of_testBit_eq
  intro i
  rw [Nat.testBit_mod_two_pow]
  by_cases h : x.testBit k = true
  · rw [if_pos h, Nat.testBit_or, Nat.testBit_mod_two_pow, Nat.testBit_two_pow]
    by_cases hi : i = k
    · subst hi; simp [h]
    · have h2 : decide (k = i) = false := decide_eq_false (fun e => hi e.symm)
      rw [h2, Bool.or_false]
      by_cases hl : i < k
      · rw [decide_eq_true hl, decide_eq_true (by omega)]
      · rw [decide_eq_false hl, decide_eq_false (by omega)]
  · rw [if_neg h, Nat.testBit_mod_two_pow]
    by_cases hi : i = k
    · subst hi
      simp only [Bool.not_eq_true] at h
      simp [h]
    · by_cases hl : i < k
      · rw [decide_eq_true hl, decide_eq_true (by omega)]
      · rw [decide_eq_false hl, decide_eq_false (by omega)]
/-- the stack that a new service is given, after k backends -/
def stE (ev k : Nat) : Stk := ⟨[], ev % 2 ^ k, 0⟩
theorem stE_0 (ev : Nat) : stE ev 0 = stk0 := by simp [stE, stk0, Nat.mod_one]
theorem stE_64 (ev : Nat) (h : ev < 18446744073709551616) : stE ev 64 = ⟨[], ev, 0⟩ := by
  unfold stE
  rw [Nat.mod_eq_of_lt (by simpa using h)]
theorem stE_ok (ev k : Nat) (hk : k ≤ 64) : StkOk (stE ev k) := by
  refine ⟨by simp [stE], by simp [stE], ?_, by simp [stE], by simp [stE]⟩
  show ev % 2 ^ k < 18446744073709551616
  have h1 := Nat.mod_lt ev (Nat.two_pow_pos k)
  have h2 : 2 ^ k ≤ 2 ^ 64 := Nat.pow_le_pow_right (by decide) hk
  have : (2 : Nat) ^ 64 = 18446744073709551616 := by decide
  omega
theorem hasB_bit (ev k : Nat) (hk : k < 64) : hasB ev ((k + 1 : Nat) : Int) 1 64 = ev.testBit k := by
  unfold hasB
  rw [decide_eq_true (by omega), decide_eq_true (by omega), show (((k + 1 : Nat) : Int) - ((1 : Nat) : Int)).toNat = k by omega]
  rfl
theorem stE_yes (ev k : Nat) (hk : k < 64) (h : hasB ev ((k + 1 : Nat) : Int) 1 64 = true) : eviS (stE ev k) ((k + 1 : Nat) : Int) = stE ev (k + 1) := by
  rw [hasB_bit ev k hk] at h
  have hd : deadS (stE ev k) ((k + 1 : Nat) : Int) = false := by
    show hasB (ev % 2 ^ k) _ 1 64 = false
    rw [hasB_bit _ k hk, Nat.testBit_mod_two_pow]
    simp
  have hn : numB ((k + 1 : Nat) : Int) = true := by unfold numB; rw [decide_eq_true (by omega), decide_eq_true (by omega)]; rfl
  unfold eviS
  rw [hd, hn, if_pos (by rfl)]
  unfold stE
  rw [mod_bit ev k, if_pos h]
  rfl
theorem stE_no (ev k : Nat) (hk : k < 64) (h : hasB ev ((k + 1 : Nat) : Int) 1 64 = false) : stE ev k = stE ev (k + 1) := by
  rw [hasB_bit ev k hk] at h
  unfold stE
  rw [mod_bit ev k, h]
  rfl
theorem stE_yes' (ev m : Nat) (h1 : 1 ≤ m) (h2 : m ≤ 64) (h : hasB ev (m : Int) 1 64 = true) : eviS (stE ev (m - 1)) (m : Int) = stE ev m := by
  obtain ⟨k, rfl⟩ : ∃ k, m = k + 1 := ⟨m - 1, by omega⟩
  exact stE_yes ev k (by omega) h
theorem stE_no' (ev m : Nat) (h1 : 1 ≤ m) (h2 : m ≤ 64) (h : hasB ev (m : Int) 1 64 = false) : stE ev (m - 1) = stE ev m := by
  obtain ⟨k, rfl⟩ : ∃ k, m = k + 1 := ⟨m - 1, by omega⟩
  exact stE_no ev k (by omega) h
theorem CfX.add {G D : Nat → Prop} {w : World} {g : Nat} {C : Cf} {A : Option Addr} {n c : Nat} {E : List Ve} (h : CfX G D w g C A n c E) {T : Nat} {S0 : Stk}
    (hT : Bk w T 120 (stkC S0)) (hTG : G T) (hTD : ¬ D T) {w5 : World} {A' : Option Addr} {n' c' : Nat} {v0 : Vp} (hS0 : v0.S = S0) (hms : v0.ms = [])
    (hO : Os 53 8 w5 0 A' n' c' (E.flatMap veC ++ veC (v0, ⟨none, 0, 0, T⟩))) (hg5 : w.grownBy w5 (Value.slice A n c).ownBlock) (hob : ∀ b, (Value.slice A' n' c').ownBlock = some b → (Value.slice A n c).ownBlock = some b ∨ w.heap.size ≤ b)
    {w6 : World} {C' : Cf} (hst : Bk w6 g 90 (stC C' A' n' c')) (hg6 : w5.grownBy w6 (some g)) (hC' : C'.vs = C.vs ++ [v0]) :
    CfX (fun b => G b ∨ (Value.slice A' n' c').ownBlock = some b) (fun b => D b ∨ b = T ∨ (Value.slice A' n' c').ownBlock = some b) w6 g C' A' n' c' (E ++ [(v0, ⟨none, 0, 0, T⟩)]) := by
  have hn' : 0 < n' := by
    have := hO.1
    rw [List.length_append] at this
    simp [veC] at this
    omega
  have hgr : (Value.slice A n c).ownBlock ≠ some g := fun e => by
    have hgD := h.dr g e
    rcases Nat.eq_zero_or_pos n with h0 | h0
    · rcases h.row.2 with ⟨hv, _⟩ | ⟨b, cap, cur, hv, _, hr, _⟩
      · injection hv with h1 _ _; subst h1; cases e
      · injection hv with h1 _ _
        subst h1
        injection e with e
        subst e
        have := h.st
        unfold Bk at this
        rw [hr] at this
        injection this with this
        injection this with _ this _
        revert this
        decide
    · obtain ⟨b, cur, _, hb', hB, _⟩ := h.row.bk h0
      rw [hb'] at e
      injection e with e
      subst e
      exact hB.apart h.st (by decide) rfl
  have hst5 : Bk w5 g 90 (stC C A n c) := h.st.grown hg5 hgr
  have hrow_g : ∀ k, (Value.slice A' n' c').ownBlock = some k → some g ≠ some k := fun k hk e => by
    injection e with e
    subst e
    obtain ⟨b, cur, _, hb', hB, _⟩ := hO.bk hn'
    rw [hb'] at hk
    injection hk with hk
    subst hk
    exact hB.apart hst5 (by decide) rfl
  have hTr : (Value.slice A n c).ownBlock ≠ some T := fun e => hTD (h.dr T e)
  have hTg : T ≠ g := fun e => hTD (e ▸ h.dg)
  have mem : ∀ y ∈ E ++ [(v0, (⟨none, 0, 0, T⟩ : VE))], y ∈ E ∨ y = (v0, ⟨none, 0, 0, T⟩) := fun y hy => by simpa using hy
  have sz : w.heap.size ≤ w6.heap.size := Nat.le_trans hg5.size hg6.size
  refine ⟨by rw [List.map_append, h.vs, hC']; rfl, hst, ?_, fun k hk => .inr (.inr hk), .inl h.dg, ?_, ?_, ?_, ?_, ?_, ?_, ?_⟩
  · rw [List.flatMap_append]
    have : List.flatMap veC [(v0, (⟨none, 0, 0, T⟩ : VE))] = veC (v0, ⟨none, 0, 0, T⟩) := by simp
    rw [this]
    exact hO.grown hg6 hrow_g
  · intro y hy
    rcases mem y hy with hy | rfl
    · exact ((h.tb y hy).grown hg5 (fun e => h.ne_row hy _ e rfl)).grown hg6 (fun e => h.ne_st hy (by injection e with e; exact e.symm))
    · show Bk w6 T _ (stkC v0.S)
      rw [hS0]
      exact (hT.grown hg5 hTr).grown hg6 (fun e => hTg (by injection e with e; exact e.symm))
  · intro y hy
    rcases mem y hy with hy | rfl
    · exact .inl (h.dt y hy)
    · exact .inr (.inl rfl)
  · intro y hy
    rcases mem y hy with hy | rfl
    · refine ((h.mm y hy).grown hg5 (fun a ha e => ?_)).grown hg6 (fun a ha e => (h.mo y hy a ha).2 ?_)
      · exact (h.mo y hy a ha).2 (h.sub _ (h.dr _ e.symm))
      · injection e with e; rw [e]; exact h.sub _ h.dg
    · show Rs 2 w6 none 0 0 (prs .i64 v0.ms)
      rw [hms]
      exact Rs.nil_
  · intro y hy
    rcases mem y hy with hy | rfl
    · intro a ha
      refine ⟨Nat.lt_of_lt_of_le (h.mo y hy a ha).1 sz, ?_⟩
      have h1 := (h.mo y hy a ha).1
      rintro (k | k)
      · exact (h.mo y hy a ha).2 k
      · rcases hob _ k with k | k
        · exact (h.mo y hy a ha).2 (h.sub _ (h.dr _ k))
        · omega
    · exact Off.none_
  · rw [List.map_append, List.nodup_append]
    refine ⟨h.nd, by simp, fun a ha b hb e => ?_⟩
    simp at hb
    subst hb e
    obtain ⟨y, hy, e⟩ := List.mem_map.1 ha
    exact hTD (e ▸ h.dt y hy)
  · rintro b (k | k | k)
    · exact .inl (h.sub b k)
    · subst k; exact .inl hTG
    · exact .inr k
  · rintro b (k | k)
    · exact Nat.lt_of_lt_of_le (h.lt b k) sz
    · exact Nat.lt_of_lt_of_le (hO.blk b k).2 hg6.size
end Go.Proofs.YtclhfbbajeoanaaDoor

