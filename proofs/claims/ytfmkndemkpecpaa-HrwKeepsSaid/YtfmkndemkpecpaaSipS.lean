/- siphash.Sum. -/
import Derived.Test.YtfmkndemkpecpaaSipA
import Derived.Test.YtfmkndemkpecpaaAgg
import Derived.Deep.MidRow
namespace Go.Proofs.Ytfmkndemkpecpaa
open Go.RowKit
set_option linter.unusedVariables false
attribute [local go_sem ↓] sliced_cut
attribute [local go_sem] cutA_zero wadd wxor xc5

/-- sixteen bytes -/
def K16 (key : List UInt8) : Prop := key.length = 16
theorem wpList_ldKey {w : World} {ops : Array Oper} {rest : List Oper} {o : Oper} {a : Act} {Q : Exit → Act → World → Prop} (x : Operand) (ho : o.op = .load 192 x) (hgd : o.guard = none)
    {g : Nat} {t : TypeId} {key : List UInt8} (hk : K16 key) (hx : a.eval x = .pointer (some ⟨g, 0, none⟩)) (hb : Bk w g t (bcs key)) (h : wpList Try.prog ops Q rest (a.put o.dst (.agg (bcs key).toArray)) w) : wpList Try.prog ops Q (o :: rest) a w :=
  wpList_load_mid hgd _ x ho g 0 hx (bcs key) _ hb.range Try.underlying192 rfl (by rw [bcs_length, show key.length = 16 from hk]; kernel_rfl) h

theorem start4 (key : List UInt8) (hk : key.length = 16) (w : World) : Calls Try.prog 183 #[.agg (bcs key).toArray] w
    fun e w' => ∃ v bs d, e = .returned (.agg #[.int .u64 (v.a.toNat : Int), .int .u64 (v.b.toNat : Int), .int .u64 (v.c.toNat : Int), .int .u64 (v.d.toNat : Int)]) ∧ w' = plus w bs d ∧ begin4 key = v :=
  (start_any key hk w).mono fun _ _ ⟨h1, bs, d, h2⟩ => ⟨begin4 key, bs, d, h1, h2, rfl⟩
theorem last_or (n : Nat) (r : List UInt8) (hr : r.length ≤ 7) : bits .or .u64 (IntKind.u64.wrap ((n : Int) * 72057594037927936)) ((lit r).toNat : Int) = ((UInt64.ofNat (lnum r + n % 256 * 72057594037927936)).toNat : Int) := by
  have h1 : lnum r < 72057594037927936 := Nat.lt_of_lt_of_le (lnum_lt r) (pow_le_seven _ hr)
  rw [lit_toNat r (by omega), UInt64.toNat_ofNat']
  have e : IntKind.u64.wrap ((n : Int) * 72057594037927936) = ((n % 256 * 72057594037927936 : Nat) : Int) := by
    rw [IntKind.wrap_u64]
    omega
  rw [e, u64_or_nat _ _ (by omega) (by omega), nat_join 56 (n % 256 * 72057594037927936) (lnum r) (by omega) h1]
  have : (lnum r + n % 256 * 72057594037927936) % 2 ^ 64 = n % 256 * 72057594037927936 + lnum r := by omega
  rw [this]
noncomputable def rounds4 : Nat → W4 → W4
  | 0, v => v
  | k + 1, v => sround (rounds4 k v)
theorem feed_take (v : W4) (l : List UInt8) (j : Nat) : feed v l (j + 1) = absorb (feed v l j) (lit ((l.drop (8 * j)).take 8)) := rfl
set_option maxHeartbeats 2000000 in
set_option maxRecDepth 100000 in
theorem sum_any (key : List UInt8) (hk : K16 key) (A : Option Addr) (n c : Nat) (l : List UInt8) (w : World) (hr : Rb w A n c l) (hm : n ≤ 1099511627776) : Calls Try.prog 172 #[.agg (bcs key).toArray, .slice A n c] w
    (RetV w (.int .u64 ((sip key l).toNat : Int))) := by
  go_enter Try.func172, Try.ntmps172
  go_wp2_with (refine wpList_ldKey (.tmp 2) rfl rfl hk rfl (Bk.new _ _ _) ?_)
  refine (start4 key hk _).mono ?_
  rintro e w1 ⟨v, bs, d, rfl, rfl, hv⟩
  have HV := Lib.hid hv
  clear hv
  go_wp2_with fail
  have hbk := Bk.new (plus (w.alloc (.cells (bcs key).toArray 192)) bs d) 287 #[.int .u64 (v.a.toNat : Int), .int .u64 (v.b.toNat : Int), .int .u64 (v.c.toNat : Int), .int .u64 (v.d.toNat : Int)]
  simp only [size_plus, World.size_alloc] at hbk
  have hbe : Below w.heap.size w ((plus (w.alloc (.cells (bcs key).toArray 192)) bs d).alloc (.cells #[.int .u64 (v.a.toNat : Int), .int .u64 (v.b.toNat : Int), .int .u64 (v.c.toNat : Int), .int .u64 (v.d.toNat : Int)] 287)) :=
    (toPlus ((Below.refl _ _).alloc (Nat.le_refl _) _) (by simp) bs d).alloc (by simp [size_plus]; omega) _
  obtain ⟨g, hg⟩ : ∃ g, g = w.heap.size + 1 + bs.length := ⟨_, rfl⟩
  have hgl : w.heap.size ≤ g := by omega
  rw [← hg] at hbk ⊢
  have HG := Lib.hid hg
  clear hg
  have HB := Lib.hid hbk
  have HE := Lib.hid hbe
  clear hbk hbe
  generalize (plus (w.alloc (.cells (bcs key).toArray 192)) bs d).alloc (.cells #[.int .u64 (v.a.toNat : Int), .int .u64 (v.b.toNat : Int), .int .u64 (v.c.toNat : Int), .int .u64 (v.d.toNat : Int)] 287) = w0 at HB HE ⊢
  go_loopw [1] (fun b wr => ∃ j m : Nat, ∃ A c, m + 8 * j = n ∧ b = .slice A m c ∧ Rb w A m c (l.drop (8 * j)) ∧ Bk wr g 287 (feed v l j).cells ∧ Below w.heap.size w wr) (fun b _ => match b with | .slice _ n _ => n | _ => 0)
  case atStart => exact ⟨0, n, A, c, rfl, rfl, hr, HB.out, HE.out⟩
  case round =>
    obtain ⟨j, m, A1, c1, hj, rfl, hr1, hb1, he1⟩ := hrel
    have HJ := Lib.hid hj
    have hmn : m ≤ n := by omega
    clear hj
    have hc1 := hr1.cap
    by_cases hlt : 8 ≤ m
    · go_wp2_with (first
        | (go_at_call 185; refine (little_any _ _ _ ((l.drop (8 * j)).take 8) _ ((hr1.take hlt).later he1) (by omega)).mono ?_; rintro e w2 ⟨rfl, rfl⟩)
        | (go_at_call 184; refine (absorb_any g _ _ _ hb1).mono ?_; rintro e w3 ⟨rfl, hb3, hg3⟩))
      refine ⟨⟨j + 1, m - 8, cutA A1 c1 8 1, c1 - 8, by have := HJ.out; omega, rfl, ?_, by rw [feed_take]; exact hb3, he1.trans (below_of_grown hg3 he1.size (fun k hk => by injection hk with hk; omega))⟩, by simp; omega⟩
      have := hr1.cut (k := 8) hlt
      rwa [List.drop_drop] at this
    · have hrl : (l.drop (8 * j)).length ≤ 7 := by rw [hr1.1]; omega
      have hlo := last_or n _ hrl
      go_wp2_with fail
      refine (little_any _ _ _ _ _ (hr1.later he1) (by omega)).mono ?_
      rintro e w2 ⟨rfl, rfl⟩
      obtain ⟨lw, hlw⟩ : ∃ lw, lw = UInt64.ofNat (lnum (l.drop (8 * j)) + n % 256 * 72057594037927936) := ⟨_, rfl⟩
      rw [← hlw] at hlo
      have HL := Lib.hid hlw
      clear hlw
      go_wp2_with fail
      refine (absorb_any g _ lw _ hb1).mono ?_
      rintro e w3 ⟨rfl, hb3, hg3⟩
      clear hlo
      have he3 := he1.trans (below_of_grown hg3 he1.size (fun k hk => by injection hk with hk; omega))
      have hjn : j = n / 8 := by have := HJ.out; omega
      have hu : absorb (feed v l j) lw = absorb (feed v l (l.length / 8)) (lastW l) := by
        unfold lastW
        rw [HL.out, hr.1, ← hjn]
      rw [hu] at hb3
      obtain ⟨u, hu2⟩ : ∃ u, u = absorb (feed v l (l.length / 8)) (lastW l) := ⟨_, rfl⟩
      rw [← hu2] at hb3
      have HU := Lib.hid hu2
      have q2 : w3.cell? ⟨g, 2, none⟩ = some (.int .u64 (u.c.toNat : Int)) := hb3.cell 2
      have f2 := hb3.frozen 2
      clear hu hu2 hjn hg3 he1 hb1
      go_wp2
      have hb4 : Bk (w3.setCell ⟨g, 2, none⟩ (.int .u64 ((uxor u.c 255).toNat : Int))) g 287 (inC u).cells := hb3.set_ 2 _
      have he4 : Below w.heap.size w (w3.setCell ⟨g, 2, none⟩ (.int .u64 ((uxor u.c 255).toNat : Int))) := he3.setCell hgl _
      have HB4 := Lib.hid hb4
      have HE4 := Lib.hid he4
      clear hb4 he4 q2 f2 hb3 he3
      generalize w3.setCell ⟨g, 2, none⟩ (.int .u64 ((uxor u.c 255).toNat : Int)) = w4 at HB4 HE4 ⊢
      go_loopw [31] (fun i wr => ∃ k : Nat, k ≤ 4 ∧ i = .int .i64 k ∧ Bk wr g 287 (rounds4 k (inC u)).cells ∧ Below w.heap.size w wr) (fun i _ => 4 - (intOf i).toNat)
      case atStart => exact ⟨0, by omega, rfl, HB4.out, HE4.out⟩
      case round =>
        obtain ⟨k, hk4, rfl, hb5, he5⟩ := hrel
        by_cases hk5 : k < 4
        · go_wp2_with (go_at_call 186; refine (round_any g _ _ hb5).mono ?_; rintro e w6 ⟨rfl, hb6, hg6⟩)
          exact ⟨⟨k + 1, by omega, by go_num, hb6, he5.trans (below_of_grown hg6 he5.size (fun k hk => by injection hk with hk; omega))⟩, by simp [intOf]; omega⟩
        · obtain rfl : k = 4 := by omega
          generalize hx : rounds4 4 (inC u) = x at hb5
          have HX := Lib.hid hx
          clear hx
          have q0 : wr.cell? ⟨g, 0, none⟩ = some (.int .u64 (x.a.toNat : Int)) := hb5.cell 0
          have q1 : wr.cell? ⟨g, 1, none⟩ = some (.int .u64 (x.b.toNat : Int)) := hb5.cell 1
          have q2 : wr.cell? ⟨g, 2, none⟩ = some (.int .u64 (x.c.toNat : Int)) := hb5.cell 2
          have q3 : wr.cell? ⟨g, 3, none⟩ = some (.int .u64 (x.d.toNat : Int)) := hb5.cell 3
          go_wp2
          go_ret
          have e : uxor (uxor (uxor x.a x.b) x.c) x.d = sip key l := by rw [← HX.out, HU.out, ← HV.out]; rfl
          rw [e]
          exact RetV.mk he5
end Go.Proofs.Ytfmkndemkpecpaa
