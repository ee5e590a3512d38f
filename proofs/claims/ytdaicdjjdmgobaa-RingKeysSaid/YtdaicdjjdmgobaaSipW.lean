/- The walks of the laws on siphash (chapter 10). -/
import Derived.Test.YtdaicdjjdmgobaaSipQ
import Derived.Test.YtdaicdjjdmgobaaSipE
namespace Go.Proofs.Ytdaicdjjdmgobaa
open Go.RowKit
set_option linter.unusedVariables false
attribute [local go_sem ↓] sliced_cut
attribute [local go_sem] cutA_zero

/-- the key of the example after i rounds; its bytes -/
def exK (i : Nat) : List UInt8 := (List.range 16).map fun j => if j < i then UInt8.ofNat j else 0
def exL (i : Nat) : List UInt8 := (List.range (min i 15)).map UInt8.ofNat
theorem exK_length (i : Nat) : (exK i).length = 16 := by simp [exK]
theorem exK_set (i : Nat) (h : i < 16) : (bcs (exK i)).set i (.int .u8 (i : Int)) = bcs (exK (i + 1)) := by
  apply List.ext_getElem
  · simp [bcs, exK]
  · intro j h1 h2
    simp only [bcs, exK, List.length_set, List.length_map, List.length_range] at h1
    rw [List.getElem_set]
    simp only [bcs, exK, List.getElem_map, List.getElem_range]
    split
    · subst j
      simp [show i < i + 1 by omega, Nat.mod_eq_of_lt (show i < 256 by omega)]
    · simp [show (j < i + 1) = (j < i) by apply propext; omega]
theorem exL_snoc (i : Nat) (h : i < 15) : exL i ++ [UInt8.ofNat i] = exL (i + 1) := by
  unfold exL
  rw [Nat.min_eq_left (by omega), Nat.min_eq_left (by omega), List.range_succ, List.map_append]
  rfl
theorem exL_stop : exL 16 = exB := by decide +kernel
theorem exL_15 : exL 15 = exL 16 := by decide +kernel
theorem exK_stop : exK 16 = exKey := by decide +kernel
theorem exK_zero : bcs (exK 0) = List.replicate 16 (.int .u8 0) := by
  simp [exK, bcs, List.map_const']
theorem K16_ex : K16 exKey := rfl

set_option maxHeartbeats 1000000 in
theorem awake_any (w : World) : Calls Try.prog 26 #[] w (RetV w (.bool true)) := by
  go_enter Try.func26, Try.ntmps26
  go_wp2
  have hb0 := Bk.new w 61 #[.int .u8 0, .int .u8 0, .int .u8 0, .int .u8 0, .int .u8 0, .int .u8 0, .int .u8 0, .int .u8 0, .int .u8 0, .int .u8 0, .int .u8 0, .int .u8 0, .int .u8 0, .int .u8 0, .int .u8 0, .int .u8 0]
  have HB := Lib.hid hb0
  clear hb0
  go_loopw [2, 3] (fun b i wr => ∃ j m : Nat, ∃ A c, j ≤ 16 ∧ i = .int .i64 j ∧ b = .slice A m c ∧ Ob wr (w.heap.size + 1) A m c (exL j) ∧ Bk wr w.heap.size 61 (bcs (exK j)) ∧ Below w.heap.size w wr) (fun _ i _ => 16 - (intOf i).toNat)
  case atStart => exact ⟨0, 0, none, 0, by omega, rfl, rfl, Ob.nil_, by rw [exK_zero]; exact HB.out, (Below.refl _ _).alloc (Nat.le_refl _) _⟩
  case round =>
    obtain ⟨j, m, A, c, hj, rfl, rfl, ho, hb, he⟩ := hrel
    have hsz := hb.lt
    by_cases hlt : j < 16
    · have hm : m = min j 15 := by rw [← ho.1]; simp [exL]
      have hm2 : m ≤ 15 := by omega
      have hcj : (wr.cell? ⟨w.heap.size, j, none⟩) = some (.int .u8 (((exK j)[j]'(by rw [exK_length]; exact hlt)).toNat : Int)) := by rw [hb.cell]; exact bcs_get _ _ _
      have hfj := hb.frozen j
      generalize (exK j)[j]'(by rw [exK_length]; exact hlt) = xj at hcj
      have hb2 := hb.set_ j (.int .u8 (j : Int))
      rw [exK_set j hlt] at hb2
      have ho2 := ho.setCell (p := ⟨w.heap.size, j, none⟩) (by simp) (.int .u8 (j : Int))
      have he2 := he.setCell (p := ⟨w.heap.size, j, none⟩) (Nat.le_refl _) (.int .u8 (j : Int))
      have HM := Lib.hid hm
      clear hm
      by_cases h15 : j < 15
      · go_wp2_with (at_builtin; refine wpList_app (base := w.heap.size + 1) bt rfl (.tmp 14) (.tmp 17) rfl rfl (ho2.alloc _) rfl (Rb.litW _ [UInt8.ofNat j] (by simp) rfl (by decide) (by simp [bcs]; omega)) (by omega) (by simp; omega) ?_; intro A3 n3 c3 w3 ho3 hbe3 hg3)
        rw [exL_snoc j h15] at ho3
        refine ⟨⟨j + 1, n3, A3, c3, by omega, by go_num, rfl, ho3, (hb2.alloc _).below hbe3 (by omega), ?_⟩, by simp [intOf]; omega⟩
        exact (he2.alloc (by simp; omega) _).trans (hbe3.mono (by omega))
      · obtain rfl : j = 15 := by omega
        go_wp2
        exact ⟨⟨16, m, A, c, by omega, by go_num, rfl, by rw [← exL_15]; exact ho2, hb2, he2⟩, by simp [intOf]⟩
    · obtain rfl : j = 16 := by omega
      rw [exK_stop] at hb
      rw [exL_stop] at ho
      have hx := ex_sip
      generalize hs : sip exKey exB = x at hx
      have HS := Lib.hid hs
      have HX := Lib.hid hx
      have hm : m = 15 := by rw [← ho.1]; rfl
      subst hm
      clear hs hx
      go_wp2_with (first
        | (refine wpList_ldKey (.tmp 1) rfl rfl K16_ex rfl hb ?_)
        | (go_at_call 27; refine (sum_any exKey K16_ex _ _ _ exB _ ho.rb (by omega)).mono ?_; rintro e w2 ⟨bs2, d2, rfl, rfl⟩; rw [HS.out]; simp only [HX.out]))
      go_ret
      exact RetV.mk (belowP he _ _)

/-- a whole key out of a block, in a region that draws its order -/
theorem quiet_ldKey {C : World → Prop} {K : Act → Prop} {a : Act} {o : Oper} (ty : TypeId) (x : Operand) (ho : o.op = .load ty x) {g : Nat} {t : TypeId} {key : List UInt8} (hk : K16 key) (hx : a.eval x = .pointer (some ⟨g, 0, none⟩))
    (hu : ∃ d, Try.prog.underlying ty = some d ∧ d.isRow = true ∧ (Try.prog.info? ty).map (·.size) = some 16) (hb : ∀ w', C w' → Bk w' g t (bcs key)) (h : K (a.put o.dst (.agg (bcs key).toArray))) : o.quiet Try.prog a C K := by
  obtain ⟨d, h1, h2, h3⟩ := hu
  refine ⟨_, fun w hw => ?_, h⟩
  unfold Oper.quietAt execOp
  simp only [ho, hx, run_loadAt_mid w g 0 ty (bcs key) d (hb w hw).range h1 h2 (by rw [bcs_length, show key.length = 16 from hk]; exact h3), Sem.run_bind, Sem.run_pure, Result.andThen_ok]
  exact ⟨rfl, rfl⟩
theorem row16 : ∃ d, Try.prog.underlying 40 = some d ∧ d.isRow = true ∧ (Try.prog.info? 40).map (·.size) = some 16 := ⟨_, Try.underlying40, rfl, by kernel_rfl⟩

set_option maxHeartbeats 1000000 in
theorem siphashSums_walk (w : World) (key : List UInt8) (hk : K16 key) (A : Option Addr) (c : Nat) (l : List UInt8) (hl : l.length ≤ c) (hc : c ≤ maxLen) (hr : Rd w w.heap.size A (bcs l)) :
    Calls Try.prog 6 #[.agg (bcs key).toArray, .slice A l.length c] w fun e w' => e = .returned (.bool true) ∧ Below w.heap.size w w' := by
  have hrb : Rb w A l.length c l := ⟨rfl, hl, hr⟩
  have hb1 : Bk (w.alloc (.cells (bcs key).toArray 40)) w.heap.size 40 (bcs key) := Bk.new w 40 (bcs key).toArray
  have hrb1 := hrb.alloc (.cells (bcs key).toArray 40)
  unfold maxLen at hc
  generalize hn : l.length = n at hl hrb hrb1 ⊢
  have HN := Lib.hid hn
  clear hn hr
  by_cases h3 : 3000 < n
  · go_enter Try.func6, Try.ntmps6
    go_wp2_with (go_at_call 26; refine (awake_any _).mono ?_; rintro e w2 ⟨bs2, d2, rfl, rfl⟩)
    go_ret
    exact ⟨rfl, belowP ((Below.refl _ _).alloc (Nat.le_refl _) _) _ _⟩
  · go_enter Try.func6, Try.ntmps6
    go_wp2
    refine wp_plus (by kernel_rfl) (by kernel_rfl) ?_
    repeat (first
      | (go_big_quiet_want; refine quiet_ldKey 40 (.tmp 2) rfl hk rfl row16 (by rintro _ ⟨x, rfl⟩; exact hb1.later (below_plus _ _ _)) ?_; simp only [Act.put, List.setIfInBounds_toArray, List.set_cons_zero, List.set_cons_succ]; go_big_quiet_on)
      | go_big_quiet_step (first
        | (go_at_call 27; exact callP (sum_any key hk _ _ _ l _ (hrb1.plus_ _ _) (by omega)))
        | (go_at_call 28; exact callP (refSum_any key hk _ _ _ l _ (hrb1.plus_ _ _) (by omega)))
        | (go_at_call 26; exact callP (awake_any _))))
    refine wpQuiet_nil ?_
    rintro _ ⟨x, rfl⟩
    go_wp2
    go_ret
    exact ⟨rfl, belowP ((Below.refl _ _).alloc (Nat.le_refl _) _) _ _⟩

open Go.ChangeShapes Go.WideShapes in
/-- An array of bytes that came in. -/
theorem open_arr {H : Type} {enc : TypeId × Value → H} {P : Program} {W : World} {base n : Nat} {t e : TypeId} {v : Value} {d : DataW H} {p : List MemPlace}
    (ht : P.underlying t = some (.array n e)) (he : P.underlying e = some (.int .u8)) (hC : P.cellsOf e = 1) (hCt : P.cellsOf t = n) (hv : Value.okWide P W .any base t v)
    (h : DataW.Trod enc P W 0 (fun _ => true) true t v d p) : ∃ l : List UInt8, v = .agg (bcs l).toArray ∧ l.length = n := by
  obtain ⟨cs, rfl, hsz⟩ : ∃ cs, v = .agg cs ∧ cs.size = P.cellsOf t := by
    simp only [Value.okWide, ht] at hv
    obtain ⟨cs, h1, h2, _⟩ := hv
    exact ⟨cs, h1, h2⟩
  obtain ⟨fuel, hf⟩ := h
  obtain ⟨xs, m, _, _, hl, hlen, hg⟩ := DataW.trod_array ht hf
  have hcs : cs.size = n := by omega
  have each : ∀ i, i < n → ∃ b : UInt8, cs[i]? = some (.int .u8 (b.toNat : Int)) := by
    intro i hi
    have h1 := hg i hi
    rw [hC, Nat.mul_one] at h1
    have hxi : xs[i]? = some (xs[i]'(by omega)) := List.getElem?_eq_getElem (by omega)
    rw [hxi] at h1
    obtain ⟨z, hz, _, hw⟩ := DataW.trod_int he h1
    have hb := bounds_u8 hw
    refine ⟨UInt8.ofNat z.toNat, ?_⟩
    have hic : i < cs.toList.length := by simp [hcs, hi]
    simp only [Value.cells, List.drop_eq_getElem_cons hic, List.take_succ_cons, List.take_zero, List.cons.injEq, and_true] at hz
    have hz2 : cs[i]? = some (.int .u8 z) := by
      rw [Array.getElem?_eq_getElem (by simpa using hic), ← hz]
      simp
    rw [hz2]
    simp
    omega
  refine ⟨(List.range n).map fun i => match cs[i]? with | some (Value.int _ z) => UInt8.ofNat z.toNat | _ => 0, ?_, by simp⟩
  congr 1
  apply Array.ext
  · simp [bcs, hcs]
  · intro i h1 h2
    obtain ⟨b, hb⟩ := each i (by omega)
    have hb2 : cs[i] = .int .u8 (b.toNat : Int) := by rw [Array.getElem?_eq_getElem h1] at hb; exact Option.some.inj hb
    simp [bcs, hb2, hb]
set_option maxRecDepth 100000 in
theorem open_key {H : Type} {enc : TypeId × Value → H} {W : World} {base : Nat} {v : Value} {d : DataW H} {p : List MemPlace} (hv : Value.okWide Try.prog W .any base 40 v)
    (h : DataW.Trod enc Try.prog W 0 (fun _ => true) true 40 v d p) : ∃ l : List UInt8, v = .agg (bcs l).toArray ∧ K16 l := open_arr Try.underlying40 Try.underlying5 (by kernel_rfl) (by kernel_rfl) hv h
end Go.Proofs.Ytdaicdjjdmgobaa
