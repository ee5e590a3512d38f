/- siphash.Of, Derive and their references. -/
import Derived.Test.YtldecdeiibfekaaSipF
import Derived.Laws.Cover3
namespace Go.Proofs.Ytldecdeiibfekaa
open Go.RowKit
set_option linter.unusedVariables false
attribute [local go_sem ↓] sliced_cut
attribute [local go_sem] cutA_zero


/-- the key of two numbers -/
def ofK (a b : Nat) : List UInt8 := dig a 8 ++ dig b 8
theorem K16_of (a b : Nat) : K16 (ofK a b) := by simp [K16, ofK, dig_length]

theorem wpList_stKey {w : World} {ops : Array Oper} {rest : List Oper} {o : Oper} {a : Act} {Q : Exit → Act → World → Prop} (ty : TypeId) (x y : Operand) (ho : o.op = .store ty x y) (hgd : o.guard = none)
    (hu : ∃ d, Try.prog.underlying ty = some d ∧ d.isRow = true ∧ (Try.prog.info? ty).map (·.size) = some 16) {g : Nat} {t : TypeId} {key old : List UInt8} (hk : K16 key) (hk' : K16 old) (hx : a.eval x = .pointer (some ⟨g, 0, none⟩)) (hy : a.eval y = .agg (bcs key).toArray) (hb : Bk w g t (bcs old))
    (h : wpList Try.prog ops Q rest (a.put o.dst undef) (w.setCells g 0 (bcs key))) : wpList Try.prog ops Q (o :: rest) a w := by
  obtain ⟨d, h1, h2, h3⟩ := hu
  refine wpList_store_mid hgd ty x y ho g 0 (bcs key).toArray hx hy (fun j hj => ?_) (by rw [List.size_toArray, bcs_length, show key.length = 16 from hk]; exact h3) (all_oneCell_toArray (bcs_one key)) h
  have hj2 : j < old.length := by rw [show old.length = 16 from hk']; simpa [bcs_length, show key.length = 16 from hk] using hj
  rw [Nat.zero_add]
  exact ⟨by rw [hb.cell, bcs_get _ _ hj2]; rfl, hb.frozen j⟩
theorem rowKey : ∃ d, Try.prog.underlying 54 = some d ∧ d.isRow = true ∧ (Try.prog.info? 54).map (·.size) = some 16 := ⟨_, Try.underlying54, rfl, by kernel_rfl⟩
theorem infoKey : (Try.prog.info? 54).map (·.size) = some 16 := by kernel_rfl

set_option maxHeartbeats 1000000 in
set_option maxRecDepth 100000 in
theorem of_any (a b : Nat) (w : World) (ha : a < 18446744073709551616) (hb : b < 18446744073709551616) : Calls Try.prog 175 #[.int .u64 a, .int .u64 b] w (RetV w (.agg (bcs (ofK a b)).toArray)) := by
  go_enter Try.func175, Try.ntmps175
  go_wp2_with fail
  refine (put_any none 0 0 [] a 8 _ Rb.nil_ (by omega) ha (by omega) (by omega)).mono ?_
  rintro e w1 ⟨A1, n1, c1, bs1, d1, rfl, rfl, ho1⟩
  go_wp2_with fail
  obtain rfl : n1 = 8 := by rw [← ho1.1]; simp [dig_length]
  refine (put_any A1 8 c1 _ b 8 _ ho1.rb (by omega) hb (by omega) (by omega)).mono ?_
  rintro e w2 ⟨A2, n2, c2, bs2, d2, rfl, rfl, ho2⟩
  have hk : ([] ++ dig a 8 ++ dig b 8) = ofK a b := rfl
  rw [hk] at ho2
  obtain rfl : n2 = 16 := by rw [← ho2.1]; exact K16_of a b
  clear hk
  have hcap := ho2.rb.cap
  have hkk : K16 (ofK a b) := K16_of a b
  generalize ofK a b = key at *
  obtain ⟨g, off, rfl, hg, hcell⟩ := ho2.rb.2.2.at_ (by rw [bcs_length, show key.length = 16 from hkk]; omega)
  have hb0 := Bk.new w 54 #[.int .u8 0, .int .u8 0, .int .u8 0, .int .u8 0, .int .u8 0, .int .u8 0, .int .u8 0, .int .u8 0, .int .u8 0, .int .u8 0, .int .u8 0, .int .u8 0, .int .u8 0, .int .u8 0, .int .u8 0, .int .u8 0]
  have hb2 := (hb0.later (below_plus _ bs1 d1)).later (below_plus _ bs2 d2)
  have he : Below w.heap.size w (plus (plus (w.alloc (.cells #[.int .u8 0, .int .u8 0, .int .u8 0, .int .u8 0, .int .u8 0, .int .u8 0, .int .u8 0, .int .u8 0, .int .u8 0, .int .u8 0, .int .u8 0, .int .u8 0, .int .u8 0, .int .u8 0, .int .u8 0, .int .u8 0] 54)) bs1 d1) bs2 d2) := belowP (belowP ((Below.refl _ _).alloc (Nat.le_refl _) _) _ _) _ _
  have HE := Lib.hid he
  clear he hb0 ho1
  generalize plus (plus (w.alloc (.cells #[.int .u8 0, .int .u8 0, .int .u8 0, .int .u8 0, .int .u8 0, .int .u8 0, .int .u8 0, .int .u8 0, .int .u8 0, .int .u8 0, .int .u8 0, .int .u8 0, .int .u8 0, .int .u8 0, .int .u8 0, .int .u8 0] 54)) bs1 d1) bs2 d2 = W at *
  obtain ⟨dk, u1, u2, u3⟩ := rowKey
  have hat := fun W => run_arrayAt (P := Try.prog) W 54 5 16 (some ⟨g, off, none⟩) 16 c2 Try.underlying54 (Nat.le_refl _)
  go_wp2_with (first
    | (refine wpList_load_mid rfl 54 (.tmp 9) rfl g off rfl (bcs key) dk hcell u1 u2 (by rw [bcs_length, show key.length = 16 from hkk]; exact u3) ?_)
    | (refine wpList_stKey 54 (.tmp 4) (.tmp 10) rfl rfl rowKey hkk (old := List.replicate 16 0) rfl rfl rfl hb2 ?_))
  have hb3 := Bk.setCells (bcs key) _ 0 hb2 (by rw [bcs_length, show key.length = 16 from hkk]; rfl)
  refine bodyPost_agg Try.results175 rfl (Bk.range hb3) u1 u2 (by simp only [List.take_zero, List.nil_append]; rw [bcs_length, show key.length = 16 from hkk]; exact u3) rfl (RetV.mk ?_)
  exact Below.setCells (Nat.le_refl _) _ _ _ HE.out

def fillK (key : List UInt8) (j : Nat) : List UInt8 := key.take j ++ List.replicate (16 - j) 0
theorem fillK_set (key : List UInt8) (hk : key.length = 16) (j : Nat) (h : j < 16) : (bcs (fillK key j)).set j (.int .u8 (key[j].toNat : Int)) = bcs (fillK key (j + 1)) := by
  unfold fillK
  rw [bcs_append, bcs_append, show 16 - j = (16 - (j + 1)) + 1 by omega, List.replicate_succ, List.take_succ_eq_append_getElem (by omega), bcs_append]
  have hl : (bcs (key.take j)).length = j := by rw [bcs_length, List.length_take]; omega
  rw [List.set_append_right _ _ (by omega), hl, Nat.sub_self]
  simp [bcs]
theorem K16_fill (key : List UInt8) (hk : key.length = 16) (j : Nat) (h : j ≤ 16) : K16 (fillK key j) := by
  simp [K16, fillK, hk]
  omega
theorem fillK_all (key : List UInt8) (hk : key.length = 16) : fillK key 16 = key := by simp [fillK, ← hk]

set_option maxHeartbeats 1000000 in
set_option maxRecDepth 100000 in
theorem refOf_any (a b : Nat) (w : World) (ha : a < 18446744073709551616) (hb : b < 18446744073709551616) : Calls Try.prog 180 #[.int .u64 a, .int .u64 b] w (RetV w (.agg (bcs (ofK a b)).toArray)) := by
  have hkk : K16 (ofK a b) := K16_of a b
  have hofk : dig a 8 ++ dig b 8 = ofK a b := rfl
  generalize ofK a b = key at *
  go_enter Try.func180, Try.ntmps180
  go_wp2_with fail
  have hb0 := (Bk.new w 49 #[.int .u8 0, .int .u8 0, .int .u8 0, .int .u8 0, .int .u8 0, .int .u8 0, .int .u8 0, .int .u8 0, .int .u8 0, .int .u8 0, .int .u8 0, .int .u8 0, .int .u8 0, .int .u8 0, .int .u8 0, .int .u8 0]).alloc (.cells #[.int .u8 0, .int .u8 0, .int .u8 0, .int .u8 0, .int .u8 0, .int .u8 0, .int .u8 0, .int .u8 0, .int .u8 0, .int .u8 0, .int .u8 0, .int .u8 0, .int .u8 0, .int .u8 0, .int .u8 0, .int .u8 0] 49)
  have hb1 := Bk.new (w.alloc (.cells #[.int .u8 0, .int .u8 0, .int .u8 0, .int .u8 0, .int .u8 0, .int .u8 0, .int .u8 0, .int .u8 0, .int .u8 0, .int .u8 0, .int .u8 0, .int .u8 0, .int .u8 0, .int .u8 0, .int .u8 0, .int .u8 0] 49)) 49 #[.int .u8 0, .int .u8 0, .int .u8 0, .int .u8 0, .int .u8 0, .int .u8 0, .int .u8 0, .int .u8 0, .int .u8 0, .int .u8 0, .int .u8 0, .int .u8 0, .int .u8 0, .int .u8 0, .int .u8 0, .int .u8 0]
  have he := (((Below.refl w.heap.size w).alloc (Nat.le_refl _) (.cells #[.int .u8 0, .int .u8 0, .int .u8 0, .int .u8 0, .int .u8 0, .int .u8 0, .int .u8 0, .int .u8 0, .int .u8 0, .int .u8 0, .int .u8 0, .int .u8 0, .int .u8 0, .int .u8 0, .int .u8 0, .int .u8 0] 49)).alloc (by simp) (.cells #[.int .u8 0, .int .u8 0, .int .u8 0, .int .u8 0, .int .u8 0, .int .u8 0, .int .u8 0, .int .u8 0, .int .u8 0, .int .u8 0, .int .u8 0, .int .u8 0, .int .u8 0, .int .u8 0, .int .u8 0, .int .u8 0] 49))
  rw [World.size_alloc] at hb1
  have HE := Lib.hid he
  have HF := Lib.hid hofk
  clear he hofk
  generalize (w.alloc (.cells #[.int .u8 0, .int .u8 0, .int .u8 0, .int .u8 0, .int .u8 0, .int .u8 0, .int .u8 0, .int .u8 0, .int .u8 0, .int .u8 0, .int .u8 0, .int .u8 0, .int .u8 0, .int .u8 0, .int .u8 0, .int .u8 0] 49)).alloc (.cells #[.int .u8 0, .int .u8 0, .int .u8 0, .int .u8 0, .int .u8 0, .int .u8 0, .int .u8 0, .int .u8 0, .int .u8 0, .int .u8 0, .int .u8 0, .int .u8 0, .int .u8 0, .int .u8 0, .int .u8 0, .int .u8 0] 49) = W0 at *
  have hlt1 := hb1.lt
  refine (refBytes_any a 8 _ ha (by omega)).mono ?_
  rintro e w1 ⟨A1, n1, c1, bs1, d1, rfl, rfl, ho1⟩
  obtain rfl : n1 = 8 := by rw [← ho1.1]; simp [dig_length]
  go_wp2_with fail
  refine (refBytes_any b 8 _ hb (by omega)).mono ?_
  rintro e w2 ⟨A2, n2, c2, bs2, d2, rfl, rfl, ho2⟩
  obtain rfl : n2 = 8 := by rw [← ho2.1]; simp [dig_length]
  have ho1' := ho1.plus_ bs2 d2
  have ho2' := ho2.rb
  clear ho1 ho2
  go_wp2_with (at_builtin; refine wpList_appP W0 bt rfl (.tmp 9) (.tmp 11) rfl (belowP (below_plus _ _ _) _ _) rfl ho1' rfl ho2' (by omega) ?_; intro A3 n3 c3 bs3 d3 ho3 _)
  rw [HF.out] at ho3
  obtain rfl : n3 = 16 := by rw [← ho3.1]; exact hkk
  have hcap := ho3.rb.cap
  have HO := Lib.hid ho3
  clear ho1' ho2' ho3
  go_loopw [7] (fun i wr => ∃ j : Nat, j ≤ 16 ∧ i = .int .i64 j ∧ Ob wr W0.heap.size A3 16 c3 key ∧ Bk wr (w.heap.size + 1) 49 (bcs (fillK key j)) ∧ Bk wr w.heap.size 49 (bcs (fillK key 0)) ∧ Below w.heap.size w wr) (fun i _ => 16 - (intOf i).toNat)
  case atStart => exact ⟨0, by omega, rfl, HO.out, hb1.later (below_plus _ _ _), hb0.later (below_plus _ _ _), belowP HE.out _ _⟩
  case round =>
    obtain ⟨j, hj, rfl, ho, hbk, hbr, hbe⟩ := hrel
    by_cases hlt : j < 16
    · obtain ⟨g, off, rfl, hg, hcell⟩ := ho.rb.2.2.at_ (by rw [bcs_length, show key.length = 16 from hkk]; omega)
      have hjl : j < key.length := by rw [show key.length = 16 from hkk]; exact hlt
      have q1 := hcell j _ (bcs_get key j hjl)
      have hjf : j < (fillK key j).length := by rw [show (fillK key j).length = 16 from K16_fill key hkk j hj]; exact hlt
      have q2 : wr.cell? ⟨w.heap.size + 1, j, none⟩ = some (.int .u8 ((fillK key j)[j].toNat : Int)) := by rw [hbk.cell]; exact bcs_get _ _ hjf
      have q3 := hbk.frozen j
      generalize (fillK key j)[j].toNat = z at q2
      have hbk2 := hbk.set_ j (.int .u8 (key[j].toNat : Int))
      rw [fillK_set key hkk j hlt] at hbk2
      have HB := Lib.hid hbk2
      have HC := Lib.hid hcell
      generalize hx : key[j].toNat = x at *
      clear hbk2 hcell hx
      go_wp2
      exact ⟨⟨j + 1, by omega, by go_num, ho.setCell (by exact hlt1) _, HB.out, hbr.far (by simp) _, hbe.setCell (by simp) _⟩, by simp [intOf]; omega⟩
    · obtain rfl : j = 16 := by omega
      rw [fillK_all key hkk] at hbk
      obtain ⟨dk, u1, u2, u3⟩ := row16
      go_wp2_with (first
        | (refine wpList_load_mid rfl 49 (.tmp 5) rfl (w.heap.size + 1) 0 rfl (bcs key) dk hbk.range u1 u2 (by rw [bcs_length, show key.length = 16 from hkk]; exact u3) ?_)
        | (refine wpList_stKey 49 (.tmp 4) (.tmp 23) rfl rfl row16 hkk (K16_fill key hkk 0 (by omega)) rfl rfl hbr ?_))
      have hb3 := Bk.setCells (bcs key) _ 0 hbr (by rw [bcs_length, bcs_length, show key.length = 16 from hkk, show (fillK key 0).length = 16 from K16_fill key hkk 0 (by omega)])
      refine bodyPost_agg Try.results180 rfl (Bk.range hb3) u1 u2 (by simp only [List.take_zero, List.nil_append]; rw [bcs_length, show key.length = 16 from hkk]; exact u3) rfl (RetV.mk ?_)
      exact Below.setCells (Nat.le_refl _) _ _ _ hbe
end Go.Proofs.Ytldecdeiibfekaa
