/- Texts of the law SteerWhole, part 6. -/
import Derived.Test.YtfmkndemkpecpaaZSteerWhole5
/- The reference's outer of any bytes (chapter 28). -/
namespace Go.Proofs.Ytfmkndemkpecpaa
open Go.RowKit
set_option linter.unusedVariables false
set_option linter.unusedSimpArgs false
attribute [local go_sem ↓] sliced_cut

attribute [local go_sem] cutA_zero

theorem szRI_ {cs : List Value} (h : cs.length = 31) : (Try.prog.info? 60).map (·.size) = some cs.length := by rw [h]; kernel_rfl
theorem rowRI : ∃ d, Try.prog.underlying 60 = some d ∧ d.isRow = true := ⟨_, Try.underlying60, rfl⟩
/-- a head, a load in a new block, a reason -/
def RetOu (w : World) (F : List Value) (load : List UInt8) (why : Int) (e : Ending) (w' : World) : Prop := ∃ A n k bs d, e = .returned (.tuple #[.agg (inPk (F) (tcC 0 0 0 0 0 0 0 0 none 0 0 none 0 0) (dgX 0 0 0 none 0 0) (msgC 0 0 0 0 none 0 0)).toArray, .slice A n k, .int .i64 why]) ∧ w' = plus w bs d ∧ Rb (plus w bs d) A n k load ∧ ∀ a, A = some a → w.heap.size ≤ a.block
theorem RetOu.mk {w w' : World} {F : List Value} {load : List UInt8} {why : Int} {A : Option Addr} {n k : Nat} (h : Rb w' A n k load) (hf : ∀ a, A = some a → w.heap.size ≤ a.block) (hb : Below w.heap.size w w') : RetOu w F load why (.returned (.tuple #[.agg (inPk (F) (tcC 0 0 0 0 0 0 0 0 none 0 0 none 0 0) (dgX 0 0 0 none 0 0) (msgC 0 0 0 0 none 0 0)).toArray, .slice A n k, .int .i64 why])) w' := by
  obtain ⟨bs, d, rfl⟩ := plus_of hb
  exact ⟨A, n, k, bs, d, rfl, rfl, h, hf⟩
def OuR (w : World) (F : List Value) (fr : Bool) (load : List UInt8) (E : Int) (e : Ending) (w' : World) : Prop := if E = 0 then (if fr = true then RetOu w (fhC false false 0 false 0 0 false 0 0 0 0 0) [] 4 e w' else RetOu w F load 0 e w') else RetOu w (fhC false false 0 false 0 0 false 0 0 0 0 0) [] (ofN E) e w'
theorem OuR.ok {w : World} {F : List Value} {load : List UInt8} {e : Ending} {w' : World} (h : RetOu w F load 0 e w') : OuR w F false load 0 e w' := by unfold OuR; rw [if_pos rfl, if_neg (by decide)]; exact h
theorem OuR.frag {w : World} {F : List Value} {fr : Bool} {load : List UInt8} {e : Ending} {w' : World} (hf : fr = true) (h : RetOu w (fhC false false 0 false 0 0 false 0 0 0 0 0) [] 4 e w') : OuR w F fr load 0 e w' := by unfold OuR; rw [if_pos rfl, if_pos hf]; exact h
theorem OuR.err {w : World} {F : List Value} {fr : Bool} {load : List UInt8} {E : Int} {e : Ending} {w' : World} (hE : ¬ E = 0) (h : RetOu w (fhC false false 0 false 0 0 false 0 0 0 0 0) [] (ofN E) e w') : OuR w F fr load E e w' := by unfold OuR; rw [if_neg hE]; exact h
set_option maxHeartbeats 4000000 in
set_option maxRecDepth 100000 in
theorem refOuter_0 (A : Option Addr) (n c : Nat) (w : World) (F : List Value) (fr : Bool) (load : List UInt8) (HS : ∀ w', Below w.heap.size w w' → Calls Try.prog 75 #[.slice A n c] w' fun e w2 => e = .returned (.int .i64 (0)) ∧ w' = w2) : Calls Try.prog 59 #[.slice A n c] w (OuR w F fr load 21) := by
  replace HS := Lib.hid HS
  obtain ⟨di_, i1, i2⟩ := rowRI
  have b3 : Bk (w.alloc (.cells #[.bool false, .bool false, .int .u8 0, .bool false, .int .u64 0, .int .u64 0, .bool false, .int .u64 0, .int .u64 0, .int .u16 0, .int .u16 0, .int .u8 0, .int .u16 0, .int .u16 0, .int .u32 0, .int .u32 0, .int .u8 0, .int .u16 0, .int .u16 0, .int .u16 0, .slice none 0 0, .slice none 0 0, .int .u16 0, .int .u16 0, .int .u16 0, .slice none 0 0, .int .u8 0, .int .u8 0, .int .u16 0, .int .u32 0, .slice none 0 0] 60)) w.heap.size 60 (inPk (fhC false false 0 false 0 0 false 0 0 0 0 0) (tcC 0 0 0 0 0 0 0 0 none 0 0 none 0 0) (dgX 0 0 0 none 0 0) (msgC 0 0 0 0 none 0 0)) := Bk.new w 60 #[.bool false, .bool false, .int .u8 0, .bool false, .int .u64 0, .int .u64 0, .bool false, .int .u64 0, .int .u64 0, .int .u16 0, .int .u16 0, .int .u8 0, .int .u16 0, .int .u16 0, .int .u32 0, .int .u32 0, .int .u8 0, .int .u16 0, .int .u16 0, .int .u16 0, .slice none 0 0, .slice none 0 0, .int .u16 0, .int .u16 0, .int .u16 0, .slice none 0 0, .int .u8 0, .int .u8 0, .int .u16 0, .int .u32 0, .slice none 0 0]
  have be : Below w.heap.size w (w.alloc (.cells #[.bool false, .bool false, .int .u8 0, .bool false, .int .u64 0, .int .u64 0, .bool false, .int .u64 0, .int .u64 0, .int .u16 0, .int .u16 0, .int .u8 0, .int .u16 0, .int .u16 0, .int .u32 0, .int .u32 0, .int .u8 0, .int .u16 0, .int .u16 0, .int .u16 0, .slice none 0 0, .slice none 0 0, .int .u16 0, .int .u16 0, .int .u16 0, .slice none 0 0, .int .u8 0, .int .u8 0, .int .u16 0, .int .u32 0, .slice none 0 0] 60)) := Below.allocS (Below.refl _ _) _
  have zV : w.heap.size + 1 ≤ (w.alloc (.cells #[.bool false, .bool false, .int .u8 0, .bool false, .int .u64 0, .int .u64 0, .bool false, .int .u64 0, .int .u64 0, .int .u16 0, .int .u16 0, .int .u8 0, .int .u16 0, .int .u16 0, .int .u32 0, .int .u32 0, .int .u8 0, .int .u16 0, .int .u16 0, .int .u16 0, .slice none 0 0, .slice none 0 0, .int .u16 0, .int .u16 0, .int .u16 0, .slice none 0 0, .int .u8 0, .int .u8 0, .int .u16 0, .int .u32 0, .slice none 0 0] 60)).heap.size := by simp
  go_enter Try.func59, Try.ntmps59
  go_upto_region 1 with (fail)
  generalize w.alloc (.cells #[.bool false, .bool false, .int .u8 0, .bool false, .int .u64 0, .int .u64 0, .bool false, .int .u64 0, .int .u64 0, .int .u16 0, .int .u16 0, .int .u8 0, .int .u16 0, .int .u16 0, .int .u32 0, .int .u32 0, .int .u8 0, .int .u16 0, .int .u16 0, .int .u16 0, .slice none 0 0, .slice none 0 0, .int .u16 0, .int .u16 0, .int .u16 0, .slice none 0 0, .int .u8 0, .int .u8 0, .int .u16 0, .int .u32 0, .slice none 0 0] 60) = V at *
  go_wp2_with fail
  refine (HS.out _ be).mono ?_
  rintro e w1 ⟨rfl, rfl⟩
  go_upto_region 15 with (fail)
  refine wp_region_lit ?_
  refine wpList_plain rfl (fun K hK => ?_); go_simp; with_reducible refine hK _ _ ?_; clear hK K
  refine wpList_stA 60 (.tmp 2) (.tmp 73) rfl rfl (inPk (fhC false false 0 false 0 0 false 0 0 0 0 0) (tcC 0 0 0 0 0 0 0 0 none 0 0 none 0 0) (dgX 0 0 0 none 0 0) (msgC 0 0 0 0 none 0 0)) (inPk (fhC false false 0 false 0 0 false 0 0 0 0 0) (tcC 0 0 0 0 0 0 0 0 none 0 0 none 0 0) (dgX 0 0 0 none 0 0) (msgC 0 0 0 0 none 0 0)) rfl (inPk_one (fhC_one _ _ _ _ _ _ _ _ _ _ _ _ ) (tcC_one _ _ _ _ _ _ _ _ _ _ _ _ _ _ ) (dgX_one _ _ _ _ _ _) (msgC_one _ _ _ _ _ _ _)) rfl rfl b3 (szRI_ (by rfl)) ?_
  intro W9 h9 g9
  refine wpList_plain rfl (fun K hK => ?_); go_simp; with_reducible refine hK _ _ ?_; clear hK K
  go_wp2
  refine bodyPost_agg3 Try.results59 rfl rfl rfl h9.range i1 i2 (szRI_ (by rfl)) rfl ?_
  exact OuR.err (by decide) (RetOu.mk Rb.nil_ (fun a ha => by cases ha) (below_grown be g9 (by omega)))
set_option maxHeartbeats 4000000 in
set_option maxRecDepth 100000 in
theorem refOuter_s (A : Option Addr) (n c : Nat) (w : World) (F : List Value) (fr : Bool) (load : List UInt8) (HS : ∀ w', Below w.heap.size w w' → Calls Try.prog 75 #[.slice A n c] w' fun e w2 => e = .returned (.int .i64 (-1)) ∧ w' = w2) : Calls Try.prog 59 #[.slice A n c] w (OuR w F fr load 20) := by
  replace HS := Lib.hid HS
  obtain ⟨di_, i1, i2⟩ := rowRI
  have b3 : Bk (w.alloc (.cells #[.bool false, .bool false, .int .u8 0, .bool false, .int .u64 0, .int .u64 0, .bool false, .int .u64 0, .int .u64 0, .int .u16 0, .int .u16 0, .int .u8 0, .int .u16 0, .int .u16 0, .int .u32 0, .int .u32 0, .int .u8 0, .int .u16 0, .int .u16 0, .int .u16 0, .slice none 0 0, .slice none 0 0, .int .u16 0, .int .u16 0, .int .u16 0, .slice none 0 0, .int .u8 0, .int .u8 0, .int .u16 0, .int .u32 0, .slice none 0 0] 60)) w.heap.size 60 (inPk (fhC false false 0 false 0 0 false 0 0 0 0 0) (tcC 0 0 0 0 0 0 0 0 none 0 0 none 0 0) (dgX 0 0 0 none 0 0) (msgC 0 0 0 0 none 0 0)) := Bk.new w 60 #[.bool false, .bool false, .int .u8 0, .bool false, .int .u64 0, .int .u64 0, .bool false, .int .u64 0, .int .u64 0, .int .u16 0, .int .u16 0, .int .u8 0, .int .u16 0, .int .u16 0, .int .u32 0, .int .u32 0, .int .u8 0, .int .u16 0, .int .u16 0, .int .u16 0, .slice none 0 0, .slice none 0 0, .int .u16 0, .int .u16 0, .int .u16 0, .slice none 0 0, .int .u8 0, .int .u8 0, .int .u16 0, .int .u32 0, .slice none 0 0]
  have be : Below w.heap.size w (w.alloc (.cells #[.bool false, .bool false, .int .u8 0, .bool false, .int .u64 0, .int .u64 0, .bool false, .int .u64 0, .int .u64 0, .int .u16 0, .int .u16 0, .int .u8 0, .int .u16 0, .int .u16 0, .int .u32 0, .int .u32 0, .int .u8 0, .int .u16 0, .int .u16 0, .int .u16 0, .slice none 0 0, .slice none 0 0, .int .u16 0, .int .u16 0, .int .u16 0, .slice none 0 0, .int .u8 0, .int .u8 0, .int .u16 0, .int .u32 0, .slice none 0 0] 60)) := Below.allocS (Below.refl _ _) _
  have zV : w.heap.size + 1 ≤ (w.alloc (.cells #[.bool false, .bool false, .int .u8 0, .bool false, .int .u64 0, .int .u64 0, .bool false, .int .u64 0, .int .u64 0, .int .u16 0, .int .u16 0, .int .u8 0, .int .u16 0, .int .u16 0, .int .u32 0, .int .u32 0, .int .u8 0, .int .u16 0, .int .u16 0, .int .u16 0, .slice none 0 0, .slice none 0 0, .int .u16 0, .int .u16 0, .int .u16 0, .slice none 0 0, .int .u8 0, .int .u8 0, .int .u16 0, .int .u32 0, .slice none 0 0] 60)).heap.size := by simp
  go_enter Try.func59, Try.ntmps59
  go_upto_region 1 with (fail)
  generalize w.alloc (.cells #[.bool false, .bool false, .int .u8 0, .bool false, .int .u64 0, .int .u64 0, .bool false, .int .u64 0, .int .u64 0, .int .u16 0, .int .u16 0, .int .u8 0, .int .u16 0, .int .u16 0, .int .u32 0, .int .u32 0, .int .u8 0, .int .u16 0, .int .u16 0, .int .u16 0, .slice none 0 0, .slice none 0 0, .int .u16 0, .int .u16 0, .int .u16 0, .slice none 0 0, .int .u8 0, .int .u8 0, .int .u16 0, .int .u32 0, .slice none 0 0] 60) = V at *
  go_wp2_with fail
  refine (HS.out _ be).mono ?_
  rintro e w1 ⟨rfl, rfl⟩
  go_upto_region 16 with (fail)
  refine wp_region_lit ?_
  refine wpList_plain rfl (fun K hK => ?_); go_simp; with_reducible refine hK _ _ ?_; clear hK K
  refine wpList_stA 60 (.tmp 2) (.tmp 74) rfl rfl (inPk (fhC false false 0 false 0 0 false 0 0 0 0 0) (tcC 0 0 0 0 0 0 0 0 none 0 0 none 0 0) (dgX 0 0 0 none 0 0) (msgC 0 0 0 0 none 0 0)) (inPk (fhC false false 0 false 0 0 false 0 0 0 0 0) (tcC 0 0 0 0 0 0 0 0 none 0 0 none 0 0) (dgX 0 0 0 none 0 0) (msgC 0 0 0 0 none 0 0)) rfl (inPk_one (fhC_one _ _ _ _ _ _ _ _ _ _ _ _ ) (tcC_one _ _ _ _ _ _ _ _ _ _ _ _ _ _ ) (dgX_one _ _ _ _ _ _) (msgC_one _ _ _ _ _ _ _)) rfl rfl b3 (szRI_ (by rfl)) ?_
  intro W9 h9 g9
  refine wpList_plain rfl (fun K hK => ?_); go_simp; with_reducible refine hK _ _ ?_; clear hK K
  go_wp2
  refine bodyPost_agg3 Try.results59 rfl rfl rfl h9.range i1 i2 (szRI_ (by rfl)) rfl ?_
  exact OuR.err (by decide) (RetOu.mk Rb.nil_ (fun a ha => by cases ha) (below_grown be g9 (by omega)))
set_option maxHeartbeats 4000000 in
set_option maxRecDepth 100000 in
theorem refOuter_6 (A : Option Addr) (n c : Nat) (w : World) (cl lb ln nx ht : Nat) (s6 : Bool) (sh sl dh dl : Nat) (load : List UInt8) (E1 : Int) (HS : ∀ w', Below w.heap.size w w' → Calls Try.prog 75 #[.slice A n c] w' fun e w2 => e = .returned (.int .i64 (6)) ∧ w' = w2) (HP : ∀ w', Below w.heap.size w w' → Calls Try.prog 76 #[.slice A n c] w' (RetP6 w' cl lb ln nx ht s6 sh sl dh dl load E1)) : Calls Try.prog 59 #[.slice A n c] w (OuR w (fhC true true ht s6 sh sl s6 dh dl 0 0 nx) false load E1) := by
  obtain ⟨dp_, p1, p2⟩ := rowR6
  obtain ⟨dv_, v1, v2⟩ := rowAd
  replace HS := Lib.hid HS
  replace HP := Lib.hid HP
  obtain ⟨di_, i1, i2⟩ := rowRI
  have b3 : Bk (w.alloc (.cells #[.bool false, .bool false, .int .u8 0, .bool false, .int .u64 0, .int .u64 0, .bool false, .int .u64 0, .int .u64 0, .int .u16 0, .int .u16 0, .int .u8 0, .int .u16 0, .int .u16 0, .int .u32 0, .int .u32 0, .int .u8 0, .int .u16 0, .int .u16 0, .int .u16 0, .slice none 0 0, .slice none 0 0, .int .u16 0, .int .u16 0, .int .u16 0, .slice none 0 0, .int .u8 0, .int .u8 0, .int .u16 0, .int .u32 0, .slice none 0 0] 60)) w.heap.size 60 (inPk (fhC false false 0 false 0 0 false 0 0 0 0 0) (tcC 0 0 0 0 0 0 0 0 none 0 0 none 0 0) (dgX 0 0 0 none 0 0) (msgC 0 0 0 0 none 0 0)) := Bk.new w 60 #[.bool false, .bool false, .int .u8 0, .bool false, .int .u64 0, .int .u64 0, .bool false, .int .u64 0, .int .u64 0, .int .u16 0, .int .u16 0, .int .u8 0, .int .u16 0, .int .u16 0, .int .u32 0, .int .u32 0, .int .u8 0, .int .u16 0, .int .u16 0, .int .u16 0, .slice none 0 0, .slice none 0 0, .int .u16 0, .int .u16 0, .int .u16 0, .slice none 0 0, .int .u8 0, .int .u8 0, .int .u16 0, .int .u32 0, .slice none 0 0]
  have be : Below w.heap.size w (w.alloc (.cells #[.bool false, .bool false, .int .u8 0, .bool false, .int .u64 0, .int .u64 0, .bool false, .int .u64 0, .int .u64 0, .int .u16 0, .int .u16 0, .int .u8 0, .int .u16 0, .int .u16 0, .int .u32 0, .int .u32 0, .int .u8 0, .int .u16 0, .int .u16 0, .int .u16 0, .slice none 0 0, .slice none 0 0, .int .u16 0, .int .u16 0, .int .u16 0, .slice none 0 0, .int .u8 0, .int .u8 0, .int .u16 0, .int .u32 0, .slice none 0 0] 60)) := Below.allocS (Below.refl _ _) _
  have zV : w.heap.size + 1 ≤ (w.alloc (.cells #[.bool false, .bool false, .int .u8 0, .bool false, .int .u64 0, .int .u64 0, .bool false, .int .u64 0, .int .u64 0, .int .u16 0, .int .u16 0, .int .u8 0, .int .u16 0, .int .u16 0, .int .u32 0, .int .u32 0, .int .u8 0, .int .u16 0, .int .u16 0, .int .u16 0, .slice none 0 0, .slice none 0 0, .int .u16 0, .int .u16 0, .int .u16 0, .slice none 0 0, .int .u8 0, .int .u8 0, .int .u16 0, .int .u32 0, .slice none 0 0] 60)).heap.size := by simp
  go_enter Try.func59, Try.ntmps59
  go_upto_region 1 with (fail)
  generalize w.alloc (.cells #[.bool false, .bool false, .int .u8 0, .bool false, .int .u64 0, .int .u64 0, .bool false, .int .u64 0, .int .u64 0, .int .u16 0, .int .u16 0, .int .u8 0, .int .u16 0, .int .u16 0, .int .u32 0, .int .u32 0, .int .u8 0, .int .u16 0, .int .u16 0, .int .u16 0, .slice none 0 0, .slice none 0 0, .int .u16 0, .int .u16 0, .int .u16 0, .slice none 0 0, .int .u8 0, .int .u8 0, .int .u16 0, .int .u32 0, .slice none 0 0] 60) = V at *
  go_wp2_with fail
  refine (HS.out _ be).mono ?_
  rintro e w1 ⟨rfl, rfl⟩
  go_upto_region 3 with (fail)
  go_wp2_with fail
  refine (HP.out _ be).mono ?_
  rintro e w1 ⟨A1, n1, k1, bs1, d1, rfl, rfl, hl, hf⟩
  go_upto_region 4 with (refine at_op (.store 180 (.tmp 5) (.tmp 18)) rfl ?_; refine wpList_stA (t := 180) 180 (.tmp 5) (.tmp 18) rfl rfl (h6C cl lb (ln : Int) nx ht s6 sh sl s6 dh dl) (h6C 0 0 0 0 0 false 0 0 false 0 0) rfl (h6C_one _ _ _ _ _ _ _ _ _ _ _) rfl rfl ?_ (szR6 _ _ _ _ _ _ _ _ _ _ _) ?_; (· refine Bk.newK _ _ _ ?_ rfl; simp [size_plus]); intro W8 hH gr8)
  have z0 := be.size
  have b8 := below_grown (Below.allocS (below_plus V bs1 d1) _) gr8 (by omega)
  replace be := be.trans (b8.mono z0)
  replace b3 := b3.later b8
  replace hl := hl.later (below_grown (Below.allocS (Below.refl _ _) _) gr8 (by simp [size_plus]))
  have zh : w.heap.size < V.heap.size + bs1.length := by omega
  clear b8 gr8
  generalize V.heap.size + bs1.length = gh at *
  by_cases hE : E1 = 0
  case neg =>
    have hE1 : (E1 != 0) = true := by rw [bne_iff_ne]; exact hE
    have hE2 : (E1 == 0) = false := by rw [beq_eq_false_iff_ne]; exact hE
    go_upto_region 5 with (fail)
    refine wp_region_lit ?_
    iterate 2 (refine wpList_plain rfl (fun K hK => ?_); go_simp; with_reducible refine hK _ _ ?_; clear hK K)
    refine wpList_plain rfl (fun K hK => ?_)
    go_simp
    refine (ofR _ _).mono ?_
    rintro e w1 ⟨rfl, rfl⟩
    with_reducible refine hK _ _ ?_
    clear hK K
    refine wpList_stA 60 (.tmp 2) (.tmp 23) rfl rfl (inPk (fhC false false 0 false 0 0 false 0 0 0 0 0) (tcC 0 0 0 0 0 0 0 0 none 0 0 none 0 0) (dgX 0 0 0 none 0 0) (msgC 0 0 0 0 none 0 0)) (inPk (fhC false false 0 false 0 0 false 0 0 0 0 0) (tcC 0 0 0 0 0 0 0 0 none 0 0 none 0 0) (dgX 0 0 0 none 0 0) (msgC 0 0 0 0 none 0 0)) rfl (inPk_one (fhC_one _ _ _ _ _ _ _ _ _ _ _ _ ) (tcC_one _ _ _ _ _ _ _ _ _ _ _ _ _ _ ) (dgX_one _ _ _ _ _ _) (msgC_one _ _ _ _ _ _ _)) rfl rfl b3 (szRI_ (by rfl)) ?_
    intro W9 h9 g9
    refine wpList_plain rfl (fun K hK => ?_); go_simp; with_reducible refine hK _ _ ?_; clear hK K
    go_wp2
    refine bodyPost_agg3 Try.results59 rfl rfl rfl h9.range i1 i2 (szRI_ (by rfl)) rfl ?_
    exact OuR.err hE (RetOu.mk Rb.nil_ (fun a ha => by cases ha) (below_grown be g9 (by omega)))
  subst hE
  go_upto_region 6 with (fail)
  refine wp_region_lit ?_
  refine wpList_plain rfl (fun K hK => ?_); go_simp; with_reducible refine hK _ _ ?_; clear hK K
  refine wpList_ld1 (t := 180) (cs := h6C cl lb (ln : Int) nx ht s6 sh sl s6 dh dl) 5 (.tmp 26) rfl (by rfl) rfl (hH) rfl Try.underlying5 rfl ?_
  refine wpList_plain rfl (fun K hK => ?_); go_simp; with_reducible refine hK _ _ ?_; clear hK K
  refine wpList_ldA (t := 180) (cs := h6C cl lb (ln : Int) nx ht s6 sh sl s6 dh dl) 26 (.tmp 28) rfl rfl ([.bool s6, .int .u64 (sh : Int), .int .u64 (sl : Int)]) rfl (hH) rfl v1 v2 (szAd _ _ _) ?_
  refine wpList_plain rfl (fun K hK => ?_); go_simp; with_reducible refine hK _ _ ?_; clear hK K
  refine wpList_ldA (t := 180) (cs := h6C cl lb (ln : Int) nx ht s6 sh sl s6 dh dl) 26 (.tmp 30) rfl rfl ([.bool s6, .int .u64 (dh : Int), .int .u64 (dl : Int)]) rfl (hH) rfl v1 v2 (szAd _ _ _) ?_
  refine wpList_plain rfl (fun K hK => ?_); go_simp; with_reducible refine hK _ _ ?_; clear hK K
  refine wpList_ld1 (t := 180) (cs := h6C cl lb (ln : Int) nx ht s6 sh sl s6 dh dl) 5 (.tmp 32) rfl (by rfl) rfl (hH) rfl Try.underlying5 rfl ?_
  iterate 3 (refine wpList_plain rfl (fun K hK => ?_); go_simp; with_reducible refine hK _ _ ?_; clear hK K)
  refine wpList_stA 60 (.tmp 2) (.tmp 35) rfl rfl (inPk (fhC true true ht s6 sh sl s6 dh dl 0 0 nx) (tcC 0 0 0 0 0 0 0 0 none 0 0 none 0 0) (dgX 0 0 0 none 0 0) (msgC 0 0 0 0 none 0 0)) (inPk (fhC false false 0 false 0 0 false 0 0 0 0 0) (tcC 0 0 0 0 0 0 0 0 none 0 0 none 0 0) (dgX 0 0 0 none 0 0) (msgC 0 0 0 0 none 0 0)) rfl (inPk_one (fhC_one _ _ _ _ _ _ _ _ _ _ _ _ ) (tcC_one _ _ _ _ _ _ _ _ _ _ _ _ _ _ ) (dgX_one _ _ _ _ _ _) (msgC_one _ _ _ _ _ _ _)) rfl rfl b3 (szRI_ (by rfl)) ?_
  intro W9 h9 g9
  refine wpList_plain rfl (fun K hK => ?_); go_simp; with_reducible refine hK _ _ ?_; clear hK K
  go_wp2
  refine bodyPost_agg3 Try.results59 rfl rfl rfl h9.range i1 i2 (szRI_ (by rfl)) rfl ?_
  exact OuR.ok (RetOu.mk (hl.grownF hf g9 (by omega)) (fun a ha => by have := hf a ha; omega) (below_grown be g9 (by omega)))
set_option maxHeartbeats 4000000 in
set_option maxRecDepth 100000 in
theorem refOuter_4 (A : Option Addr) (n c : Nat) (w : World) (ts ln id : Nat) (st mo : Bool) (fo tl pr sm sa da : Nat) (o load : List UInt8) (E1 : Int) (fr : Bool) (hF : (mo || decide (0 < (fo : Int))) = fr) (HS : ∀ w', Below w.heap.size w w' → Calls Try.prog 75 #[.slice A n c] w' fun e w2 => e = .returned (.int .i64 (4)) ∧ w' = w2) (HP : ∀ w', Below w.heap.size w w' → Calls Try.prog 78 #[.slice A n c] w' (RetPE w' ts ln id st mo fo tl pr sm sa da o load E1)) : Calls Try.prog 59 #[.slice A n c] w (OuR w (fhC false st tl false 0 sa false 0 da 0 0 pr) fr load E1) := by
  obtain ⟨dp_, p1, p2⟩ := rowR4
  obtain ⟨dv_, v1, v2⟩ := rowAd
  replace HS := Lib.hid HS
  replace HP := Lib.hid HP
  obtain ⟨di_, i1, i2⟩ := rowRI
  have b3 : Bk (w.alloc (.cells #[.bool false, .bool false, .int .u8 0, .bool false, .int .u64 0, .int .u64 0, .bool false, .int .u64 0, .int .u64 0, .int .u16 0, .int .u16 0, .int .u8 0, .int .u16 0, .int .u16 0, .int .u32 0, .int .u32 0, .int .u8 0, .int .u16 0, .int .u16 0, .int .u16 0, .slice none 0 0, .slice none 0 0, .int .u16 0, .int .u16 0, .int .u16 0, .slice none 0 0, .int .u8 0, .int .u8 0, .int .u16 0, .int .u32 0, .slice none 0 0] 60)) w.heap.size 60 (inPk (fhC false false 0 false 0 0 false 0 0 0 0 0) (tcC 0 0 0 0 0 0 0 0 none 0 0 none 0 0) (dgX 0 0 0 none 0 0) (msgC 0 0 0 0 none 0 0)) := Bk.new w 60 #[.bool false, .bool false, .int .u8 0, .bool false, .int .u64 0, .int .u64 0, .bool false, .int .u64 0, .int .u64 0, .int .u16 0, .int .u16 0, .int .u8 0, .int .u16 0, .int .u16 0, .int .u32 0, .int .u32 0, .int .u8 0, .int .u16 0, .int .u16 0, .int .u16 0, .slice none 0 0, .slice none 0 0, .int .u16 0, .int .u16 0, .int .u16 0, .slice none 0 0, .int .u8 0, .int .u8 0, .int .u16 0, .int .u32 0, .slice none 0 0]
  have be : Below w.heap.size w (w.alloc (.cells #[.bool false, .bool false, .int .u8 0, .bool false, .int .u64 0, .int .u64 0, .bool false, .int .u64 0, .int .u64 0, .int .u16 0, .int .u16 0, .int .u8 0, .int .u16 0, .int .u16 0, .int .u32 0, .int .u32 0, .int .u8 0, .int .u16 0, .int .u16 0, .int .u16 0, .slice none 0 0, .slice none 0 0, .int .u16 0, .int .u16 0, .int .u16 0, .slice none 0 0, .int .u8 0, .int .u8 0, .int .u16 0, .int .u32 0, .slice none 0 0] 60)) := Below.allocS (Below.refl _ _) _
  have zV : w.heap.size + 1 ≤ (w.alloc (.cells #[.bool false, .bool false, .int .u8 0, .bool false, .int .u64 0, .int .u64 0, .bool false, .int .u64 0, .int .u64 0, .int .u16 0, .int .u16 0, .int .u8 0, .int .u16 0, .int .u16 0, .int .u32 0, .int .u32 0, .int .u8 0, .int .u16 0, .int .u16 0, .int .u16 0, .slice none 0 0, .slice none 0 0, .int .u16 0, .int .u16 0, .int .u16 0, .slice none 0 0, .int .u8 0, .int .u8 0, .int .u16 0, .int .u32 0, .slice none 0 0] 60)).heap.size := by simp
  go_enter Try.func59, Try.ntmps59
  go_upto_region 1 with (fail)
  generalize w.alloc (.cells #[.bool false, .bool false, .int .u8 0, .bool false, .int .u64 0, .int .u64 0, .bool false, .int .u64 0, .int .u64 0, .int .u16 0, .int .u16 0, .int .u8 0, .int .u16 0, .int .u16 0, .int .u32 0, .int .u32 0, .int .u8 0, .int .u16 0, .int .u16 0, .int .u16 0, .slice none 0 0, .slice none 0 0, .int .u16 0, .int .u16 0, .int .u16 0, .slice none 0 0, .int .u8 0, .int .u8 0, .int .u16 0, .int .u32 0, .slice none 0 0] 60) = V at *
  go_wp2_with fail
  refine (HS.out _ be).mono ?_
  rintro e w1 ⟨rfl, rfl⟩
  go_upto_region 8 with (fail)
  go_wp2_with fail
  refine (HP.out _ be).mono ?_
  rintro e w1 ⟨Ao, no, ko, A1, n1, k1, bs1, d1, rfl, rfl, -, hl, hf⟩
  go_upto_region 9 with (refine at_op (.store 184 (.tmp 8) (.tmp 42)) rfl ?_; refine wpList_stA (t := 184) 184 (.tmp 8) (.tmp 42) rfl rfl (h4C ts (ln : Int) id st mo (fo : Int) tl pr sm false 0 sa false 0 da Ao no ko) (h4C 0 0 0 false false 0 0 0 0 false 0 0 false 0 0 none 0 0) rfl (h4C_one _ _ _ _ _ _ _ _ _ _ _ _ _ _ _ _ _ _) rfl rfl ?_ (szR4 _ _ _ _ _ _ _ _ _ _ _ _ _ _ _ _ _ _) ?_; (· refine Bk.newK _ _ _ ?_ rfl; simp [size_plus]); intro W8 hH gr8)
  have z0 := be.size
  have b8 := below_grown (Below.allocS (below_plus V bs1 d1) _) gr8 (by omega)
  replace be := be.trans (b8.mono z0)
  replace b3 := b3.later b8
  replace hl := hl.later (below_grown (Below.allocS (Below.refl _ _) _) gr8 (by simp [size_plus]))
  have zh : w.heap.size < V.heap.size + bs1.length := by omega
  clear b8 gr8
  generalize V.heap.size + bs1.length = gh at *
  by_cases hE : E1 = 0
  case neg =>
    have hE1 : (E1 != 0) = true := by rw [bne_iff_ne]; exact hE
    have hE2 : (E1 == 0) = false := by rw [beq_eq_false_iff_ne]; exact hE
    go_upto_region 10 with (fail)
    refine wp_region_lit ?_
    iterate 2 (refine wpList_plain rfl (fun K hK => ?_); go_simp; with_reducible refine hK _ _ ?_; clear hK K)
    refine wpList_plain rfl (fun K hK => ?_)
    go_simp
    refine (ofR _ _).mono ?_
    rintro e w1 ⟨rfl, rfl⟩
    with_reducible refine hK _ _ ?_
    clear hK K
    refine wpList_stA 60 (.tmp 2) (.tmp 47) rfl rfl (inPk (fhC false false 0 false 0 0 false 0 0 0 0 0) (tcC 0 0 0 0 0 0 0 0 none 0 0 none 0 0) (dgX 0 0 0 none 0 0) (msgC 0 0 0 0 none 0 0)) (inPk (fhC false false 0 false 0 0 false 0 0 0 0 0) (tcC 0 0 0 0 0 0 0 0 none 0 0 none 0 0) (dgX 0 0 0 none 0 0) (msgC 0 0 0 0 none 0 0)) rfl (inPk_one (fhC_one _ _ _ _ _ _ _ _ _ _ _ _ ) (tcC_one _ _ _ _ _ _ _ _ _ _ _ _ _ _ ) (dgX_one _ _ _ _ _ _) (msgC_one _ _ _ _ _ _ _)) rfl rfl b3 (szRI_ (by rfl)) ?_
    intro W9 h9 g9
    refine wpList_plain rfl (fun K hK => ?_); go_simp; with_reducible refine hK _ _ ?_; clear hK K
    go_wp2
    refine bodyPost_agg3 Try.results59 rfl rfl rfl h9.range i1 i2 (szRI_ (by rfl)) rfl ?_
    exact OuR.err hE (RetOu.mk Rb.nil_ (fun a ha => by cases ha) (below_grown be g9 (by omega)))
  subst hE
  cases mo with
  | true =>
    have hfr : fr = true := by rw [← hF]; rfl
    go_upto_region 11 with (fail)
    refine wp_region_lit ?_
    refine wpList_plain rfl (fun K hK => ?_); go_simp; with_reducible refine hK _ _ ?_; clear hK K
    refine wpList_ld1 (t := 184) (cs := h4C ts (ln : Int) id st true (fo : Int) tl pr sm false 0 sa false 0 da Ao no ko) 4 (.tmp 50) rfl (by rfl) rfl (hH) rfl Try.underlying4 rfl ?_
    refine wpList_plain rfl (fun K hK => ?_); go_simp; with_reducible refine hK _ _ ?_; clear hK K
    iterate 3 ((with_reducible refine wpList_skip ?_ ?_); (· first | (go_simp; done) | (go_simp; intro h; cases h)); simp only [Act.put, List.setIfInBounds_toArray, List.set_cons_zero, List.set_cons_succ])
    refine wpList_plain rfl (fun K hK => ?_); go_simp; with_reducible refine hK _ _ ?_; clear hK K
    go_upto_region 12 with (fail)
    refine wp_region_lit ?_
    refine wpList_plain rfl (fun K hK => ?_); go_simp; with_reducible refine hK _ _ ?_; clear hK K
    refine wpList_stA 60 (.tmp 2) (.tmp 57) rfl rfl (inPk (fhC false false 0 false 0 0 false 0 0 0 0 0) (tcC 0 0 0 0 0 0 0 0 none 0 0 none 0 0) (dgX 0 0 0 none 0 0) (msgC 0 0 0 0 none 0 0)) (inPk (fhC false false 0 false 0 0 false 0 0 0 0 0) (tcC 0 0 0 0 0 0 0 0 none 0 0 none 0 0) (dgX 0 0 0 none 0 0) (msgC 0 0 0 0 none 0 0)) rfl (inPk_one (fhC_one _ _ _ _ _ _ _ _ _ _ _ _ ) (tcC_one _ _ _ _ _ _ _ _ _ _ _ _ _ _ ) (dgX_one _ _ _ _ _ _) (msgC_one _ _ _ _ _ _ _)) rfl rfl b3 (szRI_ (by rfl)) ?_
    intro W9 h9 g9
    refine wpList_plain rfl (fun K hK => ?_); go_simp; with_reducible refine hK _ _ ?_; clear hK K
    go_wp2
    refine bodyPost_agg3 Try.results59 rfl rfl rfl h9.range i1 i2 (szRI_ (by rfl)) rfl ?_
    exact OuR.frag hfr (RetOu.mk Rb.nil_ (fun a ha => by cases ha) (below_grown be g9 (by omega)))
  | false =>
    cases hd : decide (0 < (fo : Int)) with
    | true =>
      have hfr : fr = true := by rw [← hF, hd]; rfl
      have hd2 : decide (0 < fo) = true := by rw [decide_eq_true_eq] at hd ⊢; omega
      go_upto_region 11 with (fail)
      refine wp_region_lit ?_
      refine wpList_plain rfl (fun K hK => ?_); go_simp; with_reducible refine hK _ _ ?_; clear hK K
      refine wpList_ld1 (t := 184) (cs := h4C ts (ln : Int) id st false (fo : Int) tl pr sm false 0 sa false 0 da Ao no ko) 4 (.tmp 50) rfl (by rfl) rfl (hH) rfl Try.underlying4 rfl ?_
      refine wpList_plain rfl (fun K hK => ?_); go_simp; with_reducible refine hK _ _ ?_; clear hK K
      refine wpList_step (fun K hK => ?_); go_simp; with_reducible refine hK _ _ ?_; clear hK K
      refine wpList_ld1 (t := 184) (cs := h4C ts (ln : Int) id st false (fo : Int) tl pr sm false 0 sa false 0 da Ao no ko) 3 (.tmp 53) rfl (by go_simp) rfl (hH) rfl Try.underlying3 rfl ?_
      refine wpList_step (fun K hK => ?_); go_simp; with_reducible refine hK _ _ ?_; clear hK K
      refine wpList_plain rfl (fun K hK => ?_); go_simp; with_reducible refine hK _ _ ?_; clear hK K
      go_upto_region 12 with (fail)
      refine wp_region_lit ?_
      refine wpList_plain rfl (fun K hK => ?_); go_simp; with_reducible refine hK _ _ ?_; clear hK K
      refine wpList_stA 60 (.tmp 2) (.tmp 57) rfl rfl (inPk (fhC false false 0 false 0 0 false 0 0 0 0 0) (tcC 0 0 0 0 0 0 0 0 none 0 0 none 0 0) (dgX 0 0 0 none 0 0) (msgC 0 0 0 0 none 0 0)) (inPk (fhC false false 0 false 0 0 false 0 0 0 0 0) (tcC 0 0 0 0 0 0 0 0 none 0 0 none 0 0) (dgX 0 0 0 none 0 0) (msgC 0 0 0 0 none 0 0)) rfl (inPk_one (fhC_one _ _ _ _ _ _ _ _ _ _ _ _ ) (tcC_one _ _ _ _ _ _ _ _ _ _ _ _ _ _ ) (dgX_one _ _ _ _ _ _) (msgC_one _ _ _ _ _ _ _)) rfl rfl b3 (szRI_ (by rfl)) ?_
      intro W9 h9 g9
      refine wpList_plain rfl (fun K hK => ?_); go_simp; with_reducible refine hK _ _ ?_; clear hK K
      go_wp2
      refine bodyPost_agg3 Try.results59 rfl rfl rfl h9.range i1 i2 (szRI_ (by rfl)) rfl ?_
      exact OuR.frag hfr (RetOu.mk Rb.nil_ (fun a ha => by cases ha) (below_grown be g9 (by omega)))
    | false =>
      have hfr : fr = false := by rw [← hF, hd]; rfl
      have hd2 : decide (0 < fo) = false := by rw [decide_eq_false_iff_not] at hd ⊢; omega
      subst hfr
      go_upto_region 11 with (fail)
      refine wp_region_lit ?_
      refine wpList_plain rfl (fun K hK => ?_); go_simp; with_reducible refine hK _ _ ?_; clear hK K
      refine wpList_ld1 (t := 184) (cs := h4C ts (ln : Int) id st false (fo : Int) tl pr sm false 0 sa false 0 da Ao no ko) 4 (.tmp 50) rfl (by rfl) rfl (hH) rfl Try.underlying4 rfl ?_
      refine wpList_plain rfl (fun K hK => ?_); go_simp; with_reducible refine hK _ _ ?_; clear hK K
      refine wpList_step (fun K hK => ?_); go_simp; with_reducible refine hK _ _ ?_; clear hK K
      refine wpList_ld1 (t := 184) (cs := h4C ts (ln : Int) id st false (fo : Int) tl pr sm false 0 sa false 0 da Ao no ko) 3 (.tmp 53) rfl (by go_simp) rfl (hH) rfl Try.underlying3 rfl ?_
      refine wpList_step (fun K hK => ?_); go_simp; with_reducible refine hK _ _ ?_; clear hK K
      refine wpList_plain rfl (fun K hK => ?_); go_simp; with_reducible refine hK _ _ ?_; clear hK K
      go_upto_region 13 with (fail)
      refine wp_region_lit ?_
      refine wpList_plain rfl (fun K hK => ?_); go_simp; with_reducible refine hK _ _ ?_; clear hK K
      refine wpList_ld1 (t := 184) (cs := h4C ts (ln : Int) id st false (fo : Int) tl pr sm false 0 sa false 0 da Ao no ko) 4 (.tmp 58) rfl (by rfl) rfl (hH) rfl Try.underlying4 rfl ?_
      refine wpList_plain rfl (fun K hK => ?_); go_simp; with_reducible refine hK _ _ ?_; clear hK K
      refine wpList_ld1 (t := 184) (cs := h4C ts (ln : Int) id st false (fo : Int) tl pr sm false 0 sa false 0 da Ao no ko) 5 (.tmp 60) rfl (by rfl) rfl (hH) rfl Try.underlying5 rfl ?_
      refine wpList_plain rfl (fun K hK => ?_); go_simp; with_reducible refine hK _ _ ?_; clear hK K
      refine wpList_ldA (t := 184) (cs := h4C ts (ln : Int) id st false (fo : Int) tl pr sm false 0 sa false 0 da Ao no ko) 26 (.tmp 62) rfl rfl ([.bool false, .int .u64 (0 : Int), .int .u64 (sa : Int)]) rfl (hH) rfl v1 v2 (szAd _ _ _) ?_
      refine wpList_plain rfl (fun K hK => ?_); go_simp; with_reducible refine hK _ _ ?_; clear hK K
      refine wpList_ldA (t := 184) (cs := h4C ts (ln : Int) id st false (fo : Int) tl pr sm false 0 sa false 0 da Ao no ko) 26 (.tmp 64) rfl rfl ([.bool false, .int .u64 (0 : Int), .int .u64 (da : Int)]) rfl (hH) rfl v1 v2 (szAd _ _ _) ?_
      refine wpList_plain rfl (fun K hK => ?_); go_simp; with_reducible refine hK _ _ ?_; clear hK K
      refine wpList_ld1 (t := 184) (cs := h4C ts (ln : Int) id st false (fo : Int) tl pr sm false 0 sa false 0 da Ao no ko) 5 (.tmp 66) rfl (by rfl) rfl (hH) rfl Try.underlying5 rfl ?_
      iterate 3 (refine wpList_plain rfl (fun K hK => ?_); go_simp; with_reducible refine hK _ _ ?_; clear hK K)
      refine wpList_stA 60 (.tmp 2) (.tmp 69) rfl rfl (inPk (fhC false st tl false 0 sa false 0 da 0 0 pr) (tcC 0 0 0 0 0 0 0 0 none 0 0 none 0 0) (dgX 0 0 0 none 0 0) (msgC 0 0 0 0 none 0 0)) (inPk (fhC false false 0 false 0 0 false 0 0 0 0 0) (tcC 0 0 0 0 0 0 0 0 none 0 0 none 0 0) (dgX 0 0 0 none 0 0) (msgC 0 0 0 0 none 0 0)) rfl (inPk_one (fhC_one _ _ _ _ _ _ _ _ _ _ _ _ ) (tcC_one _ _ _ _ _ _ _ _ _ _ _ _ _ _ ) (dgX_one _ _ _ _ _ _) (msgC_one _ _ _ _ _ _ _)) rfl rfl b3 (szRI_ (by rfl)) ?_
      intro W9 h9 g9
      refine wpList_plain rfl (fun K hK => ?_); go_simp; with_reducible refine hK _ _ ?_; clear hK K
      go_wp2
      refine bodyPost_agg3 Try.results59 rfl rfl rfl h9.range i1 i2 (szRI_ (by rfl)) rfl ?_
      exact OuR.ok (RetOu.mk (hl.grownF hf g9 (by omega)) (fun a ha => by have := hf a ha; omega) (below_grown be g9 (by omega)))
end Go.Proofs.Ytfmkndemkpecpaa

/- packet.look, Read, Host of any bytes (chapter 28). -/
namespace Go.Proofs.Ytfmkndemkpecpaa
open Go.RowKit
set_option linter.unusedVariables false
set_option linter.unusedSimpArgs false
attribute [local go_sem ↓] sliced_cut

attribute [local go_sem] cutA_zero

/-- what becomes of a load, by its number -/
inductive Carries (si st : Bool) (tl : Nat) (s6 : Bool) (sh sl dh dl pr : Nat) (load : List UInt8) : PI → Int → Prop
  | tBad (x0 x1 x2 x3 x4 x5 x6 x7 : Nat) (o1 o2 : List UInt8) (E2 : Int) (any : TcpAny load x0 x1 x2 x3 x4 x5 x6 x7 o1 o2 E2) (hp : pr = 6) (why : Int) (hw : tkW E2 (65535 - fd (tcT s6 sh sl s6 dh dl load) == 0) = why) (h0 : (why != 0) = true) : Carries si st tl s6 sh sl dh dl pr load PI.zero why
  | tOk (x0 x1 x2 x3 x4 x5 x6 x7 : Nat) (o1 o2 : List UInt8) (E2 : Int) (any : TcpAny load x0 x1 x2 x3 x4 x5 x6 x7 o1 o2 E2) (hp : pr = 6) (hw : tkW E2 (65535 - fd (tcT s6 sh sl s6 dh dl load) == 0) = 0) : Carries si st tl s6 sh sl dh dl pr load { si := si, st := st, tl := tl, s6 := s6, sh := sh, sl := sl, d6 := s6, dh := dh, dl := dl, sp := x0, dp := x1, pr := pr, x0 := x0, x1 := x1, x2 := x2, x3 := x3, x4 := x4, x5 := x5, x6 := x6, x7 := x7, o1 := o1, o2 := o2 } 0
  | uBad (x0 x1 x2 : Nat) (o1 : List UInt8) (E2 : Int) (any : UdpAny load x0 x1 x2 o1 E2) (hp : pr = 17) (why : Int) (hw : tkW E2 (udF s6 sh sl dh dl x0 x1 x2 o1) = why) (h0 : (why != 0) = true) : Carries si st tl s6 sh sl dh dl pr load PI.zero why
  | uOk (x0 x1 x2 : Nat) (o1 : List UInt8) (E2 : Int) (any : UdpAny load x0 x1 x2 o1 E2) (hp : pr = 17) (hw : tkW E2 (udF s6 sh sl dh dl x0 x1 x2 o1) = 0) : Carries si st tl s6 sh sl dh dl pr load { si := si, st := st, tl := tl, s6 := s6, sh := sh, sl := sl, d6 := s6, dh := dh, dl := dl, sp := x0, dp := x1, pr := pr, u0 := x0, u1 := x1, u2 := x2, o3 := o1 } 0
  | mBad (x0 x1 x2 x3 : Nat) (o1 : List UInt8) (ok : Bool) (any : IcmpAny load x0 x1 x2 x3 o1 ok) (hp : pr = 1 ∧ si = false ∨ pr = 58 ∧ si = true) (why : Int) (hw : tkW (if ok then 0 else 20) (65535 - fd (icT s6 sh sl s6 dh dl x0 x1 x2 x3 o1) == 0) = why) (h0 : (why != 0) = true) : Carries si st tl s6 sh sl dh dl pr load PI.zero why
  | mOk (x0 x1 x2 x3 : Nat) (o1 : List UInt8) (ok : Bool) (any : IcmpAny load x0 x1 x2 x3 o1 ok) (hp : pr = 1 ∧ si = false ∨ pr = 58 ∧ si = true) (hw : tkW (if ok then 0 else 20) (65535 - fd (icT s6 sh sl s6 dh dl x0 x1 x2 x3 o1) == 0) = 0) : Carries si st tl s6 sh sl dh dl pr load { si := si, st := st, tl := tl, s6 := s6, sh := sh, sl := sl, d6 := s6, dh := dh, dl := dl, sp := 0, dp := 0, pr := pr, m0 := x0, m1 := x1, m2 := x2, m3 := x3, o4 := o1 } 0
  | none_ (hp : pr ≠ 6 ∧ pr ≠ 17 ∧ ¬ (pr = 1 ∧ si = false) ∧ ¬ (pr = 58 ∧ si = true)) : Carries si st tl s6 sh sl dh dl pr load PI.zero 6
theorem carries_any (si st : Bool) (tl : Nat) (s6 : Bool) (sh sl dh dl pr : Nat) (load : List UInt8) (hl : load.length ≤ 1000000) : ∃ p why, Carries si st tl s6 sh sl dh dl pr load p why := by
  by_cases hp : pr = 6
  · obtain ⟨_, _, _, _, _, _, _, _, _, _, _, any, -⟩ := tcp_any load hl
    exact Classical.byCases (fun h0 => ⟨_, _, .tOk _ _ _ _ _ _ _ _ _ _ _ any hp h0⟩) (fun h0 => ⟨_, _, .tBad _ _ _ _ _ _ _ _ _ _ _ any hp _ rfl (bne_iff_ne.2 h0)⟩)
  have ht := hp
  clear hp
  by_cases hp : pr = 17
  · obtain ⟨_, _, _, _, _, any, -⟩ := udp_any load hl
    exact Classical.byCases (fun h0 => ⟨_, _, .uOk _ _ _ _ _ any hp h0⟩) (fun h0 => ⟨_, _, .uBad _ _ _ _ _ any hp _ rfl (bne_iff_ne.2 h0)⟩)
  have hu := hp
  clear hp
  by_cases hp : pr = 1 ∧ si = false ∨ pr = 58 ∧ si = true
  · obtain ⟨_, _, _, _, _, _, any⟩ := icmp_any load hl
    exact Classical.byCases (fun h0 => ⟨_, _, .mOk _ _ _ _ _ _ any hp h0⟩) (fun h0 => ⟨_, _, .mBad _ _ _ _ _ _ any hp _ rfl (bne_iff_ne.2 h0)⟩)
  have hm := hp
  clear hp
  exact ⟨_, _, .none_ ⟨ht, hu, fun h => hm (.inl h), fun h => hm (.inr h)⟩⟩
/-- what becomes of a header that was read -/
inductive Lk (si st : Bool) (tl : Nat) (s6 : Bool) (sh sl dh dl pr : Nat) (fr : Bool) (load : List UInt8) (ex : Int) (E : Int) : PI → Int → Prop
  | err (h : ¬ E = 0) : Lk si st tl s6 sh sl dh dl pr fr load ex E PI.zero (ofN E)
  | frag (h : E = 0) (hf : fr = true) : Lk si st tl s6 sh sl dh dl pr fr load ex E PI.zero 4
  | exp (h : E = 0) (hf : fr = false) (ht : decide ((tl : Int) ≤ ex) = true) : Lk si st tl s6 sh sl dh dl pr fr load ex E PI.zero 5
  | go (h : E = 0) (hf : fr = false) (ht : decide ((tl : Int) ≤ ex) = false) (p : PI) (why : Int) (c : Carries si st tl s6 sh sl dh dl pr load p why) : Lk si st tl s6 sh sl dh dl pr fr load ex E p why
theorem lk_any (si st : Bool) (tl : Nat) (s6 : Bool) (sh sl dh dl pr : Nat) (fr : Bool) (load : List UInt8) (ex : Int) (E : Int) (hl : load.length ≤ 1000000) : ∃ p why, Lk si st tl s6 sh sl dh dl pr fr load ex E p why := by
  by_cases h : E = 0
  case neg => exact ⟨_, _, .err h⟩
  cases fr with
  | true => exact ⟨_, _, .frag h rfl⟩
  | false =>
    cases ht : decide ((tl : Int) ≤ ex) with
    | true => exact ⟨_, _, .exp h rfl ht⟩
    | false =>
      obtain ⟨p, why, c⟩ := carries_any si st tl s6 sh sl dh dl pr load hl
      exact ⟨p, why, .go h rfl ht p why c⟩
theorem RetPI.zero_ {w w' : World} {why : Int} (hb : Below w.heap.size w w') : RetPI w PI.zero why (.returned (.tuple #[.agg (inPk (fhC false false 0 false 0 0 false 0 0 0 0 0) (tcC 0 0 0 0 0 0 0 0 none 0 0 none 0 0) (dgX 0 0 0 none 0 0) (msgC 0 0 0 0 none 0 0)).toArray, .int .i64 why])) w' := RetPI.mk (p := PI.zero) Rb.nil_ Rb.nil_ Rb.nil_ Rb.nil_ noRow noRow noRow noRow hb
set_option maxHeartbeats 4000000 in
set_option maxRecDepth 100000 in
theorem look_all (A : Option Addr) (n c : Nat) (si st : Bool) (tl : Nat) (s6 : Bool) (sh sl dh dl pr : Nat) (fr : Bool) (load : List UInt8) (ex E : Int) (w : World) (p : PI) (why : Int) (L : Lk si st tl s6 sh sl dh dl pr fr load ex E p why) (hpr : pr < 256) (htl : tl < 256) (hll : load.length ≤ 5000) (k1 : sh < 18446744073709551616) (k2 : sl < 18446744073709551616) (k3 : dh < 18446744073709551616) (k4 : dl < 18446744073709551616)
    (HO : ∀ w', Below w.heap.size w w' → Calls Try.prog 114 #[.slice A n c] w' (OpR w' (fhC si st tl s6 sh sl s6 dh dl 0 0 pr) fr load E)) : Calls Try.prog 58 #[.slice A n c, .int .i64 ex] w (RetPI w p why) := by
  have wt : IntKind.i64.wrap (tl : Int) = (tl : Int) := IntWalk.i64_in _ (by omega)
  by_cases hE : E = 0
  case neg =>
    cases L with
    | frag h _ => exact absurd h hE
    | exp h _ _ => exact absurd h hE
    | go h _ _ _ _ _ => exact absurd h hE
    | err _ =>
    have hE1 : (E != 0) = true := by rw [bne_iff_ne]; exact hE
    unfold OpR at HO
    simp only [if_neg hE] at HO
    replace HO := Lib.hid HO
    obtain ⟨di_, i1, i2⟩ := rowIn
    obtain ⟨dh_, u1, u2⟩ := rowHd
    have b3 : Bk (w.alloc (.cells #[.bool false, .bool false, .int .u8 0, .bool false, .int .u64 0, .int .u64 0, .bool false, .int .u64 0, .int .u64 0, .int .u16 0, .int .u16 0, .int .u8 0, .int .u16 0, .int .u16 0, .int .u32 0, .int .u32 0, .int .u8 0, .int .u16 0, .int .u16 0, .int .u16 0, .slice none 0 0, .slice none 0 0, .int .u16 0, .int .u16 0, .int .u16 0, .slice none 0 0, .int .u8 0, .int .u8 0, .int .u16 0, .int .u32 0, .slice none 0 0] 53)) w.heap.size 53 (inPk (fhC false false 0 false 0 0 false 0 0 0 0 0) (tcC 0 0 0 0 0 0 0 0 none 0 0 none 0 0) (dgX 0 0 0 none 0 0) (msgC 0 0 0 0 none 0 0)) := Bk.new w 53 #[.bool false, .bool false, .int .u8 0, .bool false, .int .u64 0, .int .u64 0, .bool false, .int .u64 0, .int .u64 0, .int .u16 0, .int .u16 0, .int .u8 0, .int .u16 0, .int .u16 0, .int .u32 0, .int .u32 0, .int .u8 0, .int .u16 0, .int .u16 0, .int .u16 0, .slice none 0 0, .slice none 0 0, .int .u16 0, .int .u16 0, .int .u16 0, .slice none 0 0, .int .u8 0, .int .u8 0, .int .u16 0, .int .u32 0, .slice none 0 0]
    have be : Below w.heap.size w (w.alloc (.cells #[.bool false, .bool false, .int .u8 0, .bool false, .int .u64 0, .int .u64 0, .bool false, .int .u64 0, .int .u64 0, .int .u16 0, .int .u16 0, .int .u8 0, .int .u16 0, .int .u16 0, .int .u32 0, .int .u32 0, .int .u8 0, .int .u16 0, .int .u16 0, .int .u16 0, .slice none 0 0, .slice none 0 0, .int .u16 0, .int .u16 0, .int .u16 0, .slice none 0 0, .int .u8 0, .int .u8 0, .int .u16 0, .int .u32 0, .slice none 0 0] 53)) := Below.allocS (Below.refl _ _) _
    have zV : w.heap.size + 1 ≤ (w.alloc (.cells #[.bool false, .bool false, .int .u8 0, .bool false, .int .u64 0, .int .u64 0, .bool false, .int .u64 0, .int .u64 0, .int .u16 0, .int .u16 0, .int .u8 0, .int .u16 0, .int .u16 0, .int .u32 0, .int .u32 0, .int .u8 0, .int .u16 0, .int .u16 0, .int .u16 0, .slice none 0 0, .slice none 0 0, .int .u16 0, .int .u16 0, .int .u16 0, .slice none 0 0, .int .u8 0, .int .u8 0, .int .u16 0, .int .u32 0, .slice none 0 0] 53)).heap.size := by simp
    go_enter Try.func58, Try.ntmps58
    go_upto_region 1 with (fail)
    generalize w.alloc (.cells #[.bool false, .bool false, .int .u8 0, .bool false, .int .u64 0, .int .u64 0, .bool false, .int .u64 0, .int .u64 0, .int .u16 0, .int .u16 0, .int .u8 0, .int .u16 0, .int .u16 0, .int .u32 0, .int .u32 0, .int .u8 0, .int .u16 0, .int .u16 0, .int .u16 0, .slice none 0 0, .slice none 0 0, .int .u16 0, .int .u16 0, .int .u16 0, .slice none 0 0, .int .u8 0, .int .u8 0, .int .u16 0, .int .u32 0, .slice none 0 0] 53) = V at *
    go_wp2_with fail
    refine (HO.out _ be).mono ?_
    rintro e w1 ⟨Ar, nr, kr, bs1, d1, rfl, rfl, hl, hf_⟩
    go_upto_region 2 with (refine at_op (.store 225 (.tmp 6) (.tmp 13)) rfl ?_; refine wpList_stA (t := 225) 225 (.tmp 6) (.tmp 13) rfl rfl (hdC (fhC false false 0 false 0 0 false 0 0 0 0 0) (tcC 0 0 0 0 0 0 0 0 none 0 0 none 0 0) (dgX 0 0 0 none 0 0) (msgC 0 0 0 0 none 0 0) false Ar nr kr) (hdC (fhC false false 0 false 0 0 false 0 0 0 0 0) (tcC 0 0 0 0 0 0 0 0 none 0 0 none 0 0) (dgX 0 0 0 none 0 0) (msgC 0 0 0 0 none 0 0) false none 0 0) rfl (hdC_one (fhC_one _ _ _ _ _ _ _ _ _ _ _ _ ) (tcC_one _ _ _ _ _ _ _ _ _ _ _ _ _ _ ) (dgX_one _ _ _ _ _ _) (msgC_one _ _ _ _ _ _ _) _ _ _ _) rfl rfl ?_ (szHD_ (by rfl)) ?_; (· refine Bk.newK _ _ _ ?_ rfl; simp [size_plus]); intro W8 hX gr8)
    have z0 := be.size
    have b8 := below_grown (Below.allocS (below_plus V bs1 d1) _) gr8 (by omega)
    replace be := be.trans (b8.mono z0)
    replace b3 := b3.later b8
    replace hl := hl.later (below_grown (Below.allocS (Below.refl _ _) _) gr8 (by simp [size_plus]))
    have zx : w.heap.size < V.heap.size + bs1.length := by omega
    have nl : ∀ a, Ar = some a → V.heap.size ≤ a.block := hf_
    clear b8 gr8
    generalize V.heap.size + bs1.length = gx at *
    go_upto_region 3 with (fail)
    refine wp_region_lit ?_
    iterate 2 (refine wpList_plain rfl (fun K hK => ?_); go_simp; with_reducible refine hK _ _ ?_; clear hK K)
    refine wpList_plain rfl (fun K hK => ?_)
    go_simp
    refine (ofP _ _).mono ?_
    rintro e w1 ⟨rfl, rfl⟩
    with_reducible refine hK _ _ ?_
    clear hK K
    refine wpList_stA 53 (.tmp 4) (.tmp 17) rfl rfl (inPk (fhC false false 0 false 0 0 false 0 0 0 0 0) (tcC 0 0 0 0 0 0 0 0 none 0 0 none 0 0) (dgX 0 0 0 none 0 0) (msgC 0 0 0 0 none 0 0)) (inPk (fhC false false 0 false 0 0 false 0 0 0 0 0) (tcC 0 0 0 0 0 0 0 0 none 0 0 none 0 0) (dgX 0 0 0 none 0 0) (msgC 0 0 0 0 none 0 0)) rfl (inPk_one (fhC_one _ _ _ _ _ _ _ _ _ _ _ _ ) (tcC_one _ _ _ _ _ _ _ _ _ _ _ _ _ _ ) (dgX_one _ _ _ _ _ _) (msgC_one _ _ _ _ _ _ _)) rfl rfl (b3) (szIN_ (by rfl)) ?_
    intro W9 h9 g9
    simp only [Act.put, List.setIfInBounds_toArray, List.set_cons_zero, List.set_cons_succ]
    go_wp2
    refine bodyPost_agg2 Try.results58 rfl rfl h9.range i1 i2 (szIN_ (by rfl)) rfl ?_
    exact RetPI.zero_ (below_grown be g9 (by omega))
  subst hE
  unfold OpR at HO
  simp only [if_true] at HO
  replace HO := Lib.hid HO
  obtain ⟨di_, i1, i2⟩ := rowIn
  obtain ⟨dh_, u1, u2⟩ := rowHd
  have b3 : Bk (w.alloc (.cells #[.bool false, .bool false, .int .u8 0, .bool false, .int .u64 0, .int .u64 0, .bool false, .int .u64 0, .int .u64 0, .int .u16 0, .int .u16 0, .int .u8 0, .int .u16 0, .int .u16 0, .int .u32 0, .int .u32 0, .int .u8 0, .int .u16 0, .int .u16 0, .int .u16 0, .slice none 0 0, .slice none 0 0, .int .u16 0, .int .u16 0, .int .u16 0, .slice none 0 0, .int .u8 0, .int .u8 0, .int .u16 0, .int .u32 0, .slice none 0 0] 53)) w.heap.size 53 (inPk (fhC false false 0 false 0 0 false 0 0 0 0 0) (tcC 0 0 0 0 0 0 0 0 none 0 0 none 0 0) (dgX 0 0 0 none 0 0) (msgC 0 0 0 0 none 0 0)) := Bk.new w 53 #[.bool false, .bool false, .int .u8 0, .bool false, .int .u64 0, .int .u64 0, .bool false, .int .u64 0, .int .u64 0, .int .u16 0, .int .u16 0, .int .u8 0, .int .u16 0, .int .u16 0, .int .u32 0, .int .u32 0, .int .u8 0, .int .u16 0, .int .u16 0, .int .u16 0, .slice none 0 0, .slice none 0 0, .int .u16 0, .int .u16 0, .int .u16 0, .slice none 0 0, .int .u8 0, .int .u8 0, .int .u16 0, .int .u32 0, .slice none 0 0]
  have be : Below w.heap.size w (w.alloc (.cells #[.bool false, .bool false, .int .u8 0, .bool false, .int .u64 0, .int .u64 0, .bool false, .int .u64 0, .int .u64 0, .int .u16 0, .int .u16 0, .int .u8 0, .int .u16 0, .int .u16 0, .int .u32 0, .int .u32 0, .int .u8 0, .int .u16 0, .int .u16 0, .int .u16 0, .slice none 0 0, .slice none 0 0, .int .u16 0, .int .u16 0, .int .u16 0, .slice none 0 0, .int .u8 0, .int .u8 0, .int .u16 0, .int .u32 0, .slice none 0 0] 53)) := Below.allocS (Below.refl _ _) _
  have zV : w.heap.size + 1 ≤ (w.alloc (.cells #[.bool false, .bool false, .int .u8 0, .bool false, .int .u64 0, .int .u64 0, .bool false, .int .u64 0, .int .u64 0, .int .u16 0, .int .u16 0, .int .u8 0, .int .u16 0, .int .u16 0, .int .u32 0, .int .u32 0, .int .u8 0, .int .u16 0, .int .u16 0, .int .u16 0, .slice none 0 0, .slice none 0 0, .int .u16 0, .int .u16 0, .int .u16 0, .slice none 0 0, .int .u8 0, .int .u8 0, .int .u16 0, .int .u32 0, .slice none 0 0] 53)).heap.size := by simp
  go_enter Try.func58, Try.ntmps58
  go_upto_region 1 with (fail)
  generalize w.alloc (.cells #[.bool false, .bool false, .int .u8 0, .bool false, .int .u64 0, .int .u64 0, .bool false, .int .u64 0, .int .u64 0, .int .u16 0, .int .u16 0, .int .u8 0, .int .u16 0, .int .u16 0, .int .u32 0, .int .u32 0, .int .u8 0, .int .u16 0, .int .u16 0, .int .u16 0, .slice none 0 0, .slice none 0 0, .int .u16 0, .int .u16 0, .int .u16 0, .slice none 0 0, .int .u8 0, .int .u8 0, .int .u16 0, .int .u32 0, .slice none 0 0] 53) = V at *
  go_wp2_with fail
  refine (HO.out _ be).mono ?_
  rintro e w1 ⟨Ar, nr, kr, bs1, d1, rfl, rfl, hl, hf_⟩
  go_upto_region 2 with (refine at_op (.store 225 (.tmp 6) (.tmp 13)) rfl ?_; refine wpList_stA (t := 225) 225 (.tmp 6) (.tmp 13) rfl rfl (hdC (fhC si st tl s6 sh sl s6 dh dl 0 0 pr) (tcC 0 0 0 0 0 0 0 0 none 0 0 none 0 0) (dgX 0 0 0 none 0 0) (msgC 0 0 0 0 none 0 0) fr Ar nr kr) (hdC (fhC false false 0 false 0 0 false 0 0 0 0 0) (tcC 0 0 0 0 0 0 0 0 none 0 0 none 0 0) (dgX 0 0 0 none 0 0) (msgC 0 0 0 0 none 0 0) false none 0 0) rfl (hdC_one (fhC_one _ _ _ _ _ _ _ _ _ _ _ _ ) (tcC_one _ _ _ _ _ _ _ _ _ _ _ _ _ _ ) (dgX_one _ _ _ _ _ _) (msgC_one _ _ _ _ _ _ _) _ _ _ _) rfl rfl ?_ (szHD_ (by rfl)) ?_; (· refine Bk.newK _ _ _ ?_ rfl; simp [size_plus]); intro W8 hX gr8)
  have z0 := be.size
  have b8 := below_grown (Below.allocS (below_plus V bs1 d1) _) gr8 (by omega)
  replace be := be.trans (b8.mono z0)
  replace b3 := b3.later b8
  replace hl := hl.later (below_grown (Below.allocS (Below.refl _ _) _) gr8 (by simp [size_plus]))
  have zx : w.heap.size < V.heap.size + bs1.length := by omega
  have nl : ∀ a, Ar = some a → V.heap.size ≤ a.block := hf_
  clear b8 gr8
  generalize V.heap.size + bs1.length = gx at *
  cases L with
  | err h => exact absurd rfl h
  | frag _ hf =>
    subst hf
    go_upto_region 4 with (fail)
    refine wp_region_lit ?_
    refine wpList_plain rfl (fun K hK => ?_); go_simp; with_reducible refine hK _ _ ?_; clear hK K
    refine wpList_ld1 (t := 225) (cs := hdC (fhC si st tl s6 sh sl s6 dh dl 0 0 pr) (tcC 0 0 0 0 0 0 0 0 none 0 0 none 0 0) (dgX 0 0 0 none 0 0) (msgC 0 0 0 0 none 0 0) true Ar nr kr) 4 (.tmp 20) rfl (by rfl) rfl (hX) rfl Try.underlying4 rfl ?_
    simp only [Act.put, List.setIfInBounds_toArray, List.set_cons_zero, List.set_cons_succ]
    go_upto_region 5 with (fail)
    refine wp_region_lit ?_
    refine wpList_plain rfl (fun K hK => ?_); go_simp; with_reducible refine hK _ _ ?_; clear hK K
    refine wpList_stA 53 (.tmp 4) (.tmp 22) rfl rfl (inPk (fhC false false 0 false 0 0 false 0 0 0 0 0) (tcC 0 0 0 0 0 0 0 0 none 0 0 none 0 0) (dgX 0 0 0 none 0 0) (msgC 0 0 0 0 none 0 0)) (inPk (fhC false false 0 false 0 0 false 0 0 0 0 0) (tcC 0 0 0 0 0 0 0 0 none 0 0 none 0 0) (dgX 0 0 0 none 0 0) (msgC 0 0 0 0 none 0 0)) rfl (inPk_one (fhC_one _ _ _ _ _ _ _ _ _ _ _ _ ) (tcC_one _ _ _ _ _ _ _ _ _ _ _ _ _ _ ) (dgX_one _ _ _ _ _ _) (msgC_one _ _ _ _ _ _ _)) rfl rfl (b3) (szIN_ (by rfl)) ?_
    intro W9 h9 g9
    simp only [Act.put, List.setIfInBounds_toArray, List.set_cons_zero, List.set_cons_succ]
    go_wp2
    refine bodyPost_agg2 Try.results58 rfl rfl h9.range i1 i2 (szIN_ (by rfl)) rfl ?_
    exact RetPI.zero_ (below_grown be g9 (by omega))
  | exp _ hf ht =>
    subst hf
    go_upto_region 4 with (fail)
    refine wp_region_lit ?_
    refine wpList_plain rfl (fun K hK => ?_); go_simp; with_reducible refine hK _ _ ?_; clear hK K
    refine wpList_ld1 (t := 225) (cs := hdC (fhC si st tl s6 sh sl s6 dh dl 0 0 pr) (tcC 0 0 0 0 0 0 0 0 none 0 0 none 0 0) (dgX 0 0 0 none 0 0) (msgC 0 0 0 0 none 0 0) false Ar nr kr) 4 (.tmp 20) rfl (by rfl) rfl (hX) rfl Try.underlying4 rfl ?_
    simp only [Act.put, List.setIfInBounds_toArray, List.set_cons_zero, List.set_cons_succ]
    go_upto_region 6 with (fail)
    refine wp_region_lit ?_
    iterate 2 (refine wpList_plain rfl (fun K hK => ?_); go_simp; with_reducible refine hK _ _ ?_; clear hK K)
    refine wpList_ld1 (t := 225) (cs := hdC (fhC si st tl s6 sh sl s6 dh dl 0 0 pr) (tcC 0 0 0 0 0 0 0 0 none 0 0 none 0 0) (dgX 0 0 0 none 0 0) (msgC 0 0 0 0 none 0 0) false Ar nr kr) 5 (.tmp 24) rfl (by rfl) rfl (hX) rfl Try.underlying5 rfl ?_
    iterate 3 (refine wpList_plain rfl (fun K hK => ?_); go_simp; with_reducible refine hK _ _ ?_; clear hK K)
    go_upto_region 7 with (fail)
    refine wp_region_lit ?_
    refine wpList_plain rfl (fun K hK => ?_); go_simp; with_reducible refine hK _ _ ?_; clear hK K
    refine wpList_stA 53 (.tmp 4) (.tmp 29) rfl rfl (inPk (fhC false false 0 false 0 0 false 0 0 0 0 0) (tcC 0 0 0 0 0 0 0 0 none 0 0 none 0 0) (dgX 0 0 0 none 0 0) (msgC 0 0 0 0 none 0 0)) (inPk (fhC false false 0 false 0 0 false 0 0 0 0 0) (tcC 0 0 0 0 0 0 0 0 none 0 0 none 0 0) (dgX 0 0 0 none 0 0) (msgC 0 0 0 0 none 0 0)) rfl (inPk_one (fhC_one _ _ _ _ _ _ _ _ _ _ _ _ ) (tcC_one _ _ _ _ _ _ _ _ _ _ _ _ _ _ ) (dgX_one _ _ _ _ _ _) (msgC_one _ _ _ _ _ _ _)) rfl rfl (b3) (szIN_ (by rfl)) ?_
    intro W9 h9 g9
    simp only [Act.put, List.setIfInBounds_toArray, List.set_cons_zero, List.set_cons_succ]
    go_wp2
    refine bodyPost_agg2 Try.results58 rfl rfl h9.range i1 i2 (szIN_ (by rfl)) rfl ?_
    exact RetPI.zero_ (below_grown be g9 (by omega))
  | go _ hf ht _ _ c =>
    subst hf
    go_upto_region 4 with (fail)
    refine wp_region_lit ?_
    refine wpList_plain rfl (fun K hK => ?_); go_simp; with_reducible refine hK _ _ ?_; clear hK K
    refine wpList_ld1 (t := 225) (cs := hdC (fhC si st tl s6 sh sl s6 dh dl 0 0 pr) (tcC 0 0 0 0 0 0 0 0 none 0 0 none 0 0) (dgX 0 0 0 none 0 0) (msgC 0 0 0 0 none 0 0) false Ar nr kr) 4 (.tmp 20) rfl (by rfl) rfl (hX) rfl Try.underlying4 rfl ?_
    simp only [Act.put, List.setIfInBounds_toArray, List.set_cons_zero, List.set_cons_succ]
    go_upto_region 6 with (fail)
    refine wp_region_lit ?_
    iterate 2 (refine wpList_plain rfl (fun K hK => ?_); go_simp; with_reducible refine hK _ _ ?_; clear hK K)
    refine wpList_ld1 (t := 225) (cs := hdC (fhC si st tl s6 sh sl s6 dh dl 0 0 pr) (tcC 0 0 0 0 0 0 0 0 none 0 0 none 0 0) (dgX 0 0 0 none 0 0) (msgC 0 0 0 0 none 0 0) false Ar nr kr) 5 (.tmp 24) rfl (by rfl) rfl (hX) rfl Try.underlying5 rfl ?_
    iterate 3 (refine wpList_plain rfl (fun K hK => ?_); go_simp; with_reducible refine hK _ _ ?_; clear hK K)
    go_upto_region 9 with (fail)
    refine wp_region_lit ?_
    iterate 3 (refine wpList_plain rfl (fun K hK => ?_); go_simp; with_reducible refine hK _ _ ?_; clear hK K)
    refine wpList_ld1 (t := 225) (cs := hdC (fhC si st tl s6 sh sl s6 dh dl 0 0 pr) (tcC 0 0 0 0 0 0 0 0 none 0 0 none 0 0) (dgX 0 0 0 none 0 0) (msgC 0 0 0 0 none 0 0) false Ar nr kr) 5 (.tmp 32) rfl (by rfl) rfl (hX) rfl Try.underlying5 rfl ?_
    simp only [Act.put, List.setIfInBounds_toArray, List.set_cons_zero, List.set_cons_succ]
    have nR : ¬ (fun b => b = gx) w.heap.size := fun h => by have h' : w.heap.size = gx := h; omega
    have hnr : nr ≤ 5000 := by rw [← hl.1]; exact hll
    rcases c with ⟨x0, x1, x2, x3, x4, x5, x6, x7, o1, o2, E2, any, hp, why, hw, h0⟩ | ⟨x0, x1, x2, x3, x4, x5, x6, x7, o1, o2, E2, any, hp, hw⟩ | ⟨x0, x1, x2, o1, E2, any, hp, why, hw, h0⟩ | ⟨x0, x1, x2, o1, E2, any, hp, hw⟩ | ⟨x0, x1, x2, x3, o1, ok, any, hp, why, hw, h0⟩ | ⟨x0, x1, x2, x3, o1, ok, any, hp, hw⟩ | hp
    · have HT0 := takeTCP gx Ar nr kr si st tl s6 sh sl dh dl pr false Ar nr kr load W8 x0 x1 x2 x3 x4 x5 x6 x7 o1 o2 E2 any k1 k2 k3 k4 hX hl hnr
      rw [hw] at HT0
      have HT := Lib.hid HT0
      clear HT0 any hw
      have t6 : ((pr : Int) == 6) = true := by rw [beq_iff_eq]; omega
      clear hp
      go_upto_region 10 with (fail)
      go_upto_region 11 with (fail)
      refine wp_region_lit ?_
      iterate 2 (refine wpList_plain rfl (fun K hK => ?_); go_simp; with_reducible refine hK _ _ ?_; clear hK K)
      refine wpList_ld1 (t := 225) (cs := hdC (fhC si st tl s6 sh sl s6 dh dl 0 0 pr) (tcC 0 0 0 0 0 0 0 0 none 0 0 none 0 0) (dgX 0 0 0 none 0 0) (msgC 0 0 0 0 none 0 0) false Ar nr kr) 22 (.tmp 38) rfl (by rfl) rfl (hX) rfl Try.underlying22 rfl ?_
      refine wpList_plain rfl (fun K hK => ?_)
      go_simp
      refine (HT.out).mono ?_
      rintro e w1 ⟨rfl, hC, hT⟩
      with_reducible refine hK _ _ ?_
      clear hK K
      go_upto_region 18 with (fail)
      refine wp_region_lit ?_
      iterate 2 (refine wpList_plain rfl (fun K hK => ?_); go_simp; with_reducible refine hK _ _ ?_; clear hK K)
      refine wpList_stA 53 (.tmp 4) (.tmp 70) rfl rfl (inPk (fhC false false 0 false 0 0 false 0 0 0 0 0) (tcC 0 0 0 0 0 0 0 0 none 0 0 none 0 0) (dgX 0 0 0 none 0 0) (msgC 0 0 0 0 none 0 0)) (inPk (fhC false false 0 false 0 0 false 0 0 0 0 0) (tcC 0 0 0 0 0 0 0 0 none 0 0 none 0 0) (dgX 0 0 0 none 0 0) (msgC 0 0 0 0 none 0 0)) rfl (inPk_one (fhC_one _ _ _ _ _ _ _ _ _ _ _ _ ) (tcC_one _ _ _ _ _ _ _ _ _ _ _ _ _ _ ) (dgX_one _ _ _ _ _ _) (msgC_one _ _ _ _ _ _ _)) rfl rfl (b3.chg hC nR) (szIN_ (by rfl)) ?_
      intro W9 h9 g9
      simp only [Act.put, List.setIfInBounds_toArray, List.set_cons_zero, List.set_cons_succ]
      go_wp2
      refine bodyPost_agg2 Try.results58 rfl rfl h9.range i1 i2 (szIN_ (by rfl)) rfl ?_
      exact RetPI.zero_ (below_grown (be.trans (hC.below (B := w.heap.size) (fun b hb => by have hb2 : b = gx := hb; omega) be.size)) g9 (by omega))
    · have HT0 := takeTCP gx Ar nr kr si st tl s6 sh sl dh dl pr false Ar nr kr load W8 x0 x1 x2 x3 x4 x5 x6 x7 o1 o2 E2 any k1 k2 k3 k4 hX hl hnr
      rw [hw] at HT0
      have HT := Lib.hid HT0
      clear HT0 any hw
      have t6 : ((pr : Int) == 6) = true := by rw [beq_iff_eq]; omega
      clear hp
      go_upto_region 10 with (fail)
      go_upto_region 11 with (fail)
      refine wp_region_lit ?_
      iterate 2 (refine wpList_plain rfl (fun K hK => ?_); go_simp; with_reducible refine hK _ _ ?_; clear hK K)
      refine wpList_ld1 (t := 225) (cs := hdC (fhC si st tl s6 sh sl s6 dh dl 0 0 pr) (tcC 0 0 0 0 0 0 0 0 none 0 0 none 0 0) (dgX 0 0 0 none 0 0) (msgC 0 0 0 0 none 0 0) false Ar nr kr) 22 (.tmp 38) rfl (by rfl) rfl (hX) rfl Try.underlying22 rfl ?_
      refine wpList_plain rfl (fun K hK => ?_)
      go_simp
      refine (HT.out).mono ?_
      rintro e w1 ⟨rfl, hC, hT⟩
      with_reducible refine hK _ _ ?_
      clear hK K
      obtain ⟨A1, n1, c1, A2, n2, c2, A3, n3, c3, A4, n4, c4, hX2, r1, r2, r3, r4, f1, f2, f3, f4⟩ := hT rfl
      have z8 : w.heap.size < W8.heap.size := by have := hX.lt; omega
      have be2 := be.trans (hC.below (B := w.heap.size) (fun b hb => by have hb2 : b = gx := hb; omega) be.size)
      replace b3 := b3.chg hC nR
      clear hC hT hX hl nl
      go_upto_region 19 with (fail)
      refine wp_region_lit ?_
      refine wpList_plain rfl (fun K hK => ?_); go_simp; with_reducible refine hK _ _ ?_; clear hK K
      refine wpList_ldA (t := 225) (cs := ({ si := si, st := st, tl := tl, s6 := s6, sh := sh, sl := sl, d6 := s6, dh := dh, dl := dl, sp := x0, dp := x1, pr := pr, x0 := x0, x1 := x1, x2 := x2, x3 := x3, x4 := x4, x5 := x5, x6 := x6, x7 := x7, o1 := o1, o2 := o2 } : PI).cs A1 n1 c1 A2 n2 c2 A3 n3 c3 A4 n4 c4 ++ [.bool false, .slice Ar nr kr]) 53 (.tmp 72) rfl rfl (({ si := si, st := st, tl := tl, s6 := s6, sh := sh, sl := sl, d6 := s6, dh := dh, dl := dl, sp := x0, dp := x1, pr := pr, x0 := x0, x1 := x1, x2 := x2, x3 := x3, x4 := x4, x5 := x5, x6 := x6, x7 := x7, o1 := o1, o2 := o2 } : PI).cs A1 n1 c1 A2 n2 c2 A3 n3 c3 A4 n4 c4) rfl hX2 rfl i1 i2 (szIN_ (by rfl)) ?_
      simp only [Act.put, List.setIfInBounds_toArray, List.set_cons_zero, List.set_cons_succ]
      refine wpList_stA 53 (.tmp 4) (.tmp 73) rfl rfl (({ si := si, st := st, tl := tl, s6 := s6, sh := sh, sl := sl, d6 := s6, dh := dh, dl := dl, sp := x0, dp := x1, pr := pr, x0 := x0, x1 := x1, x2 := x2, x3 := x3, x4 := x4, x5 := x5, x6 := x6, x7 := x7, o1 := o1, o2 := o2 } : PI).cs A1 n1 c1 A2 n2 c2 A3 n3 c3 A4 n4 c4) (inPk (fhC false false 0 false 0 0 false 0 0 0 0 0) (tcC 0 0 0 0 0 0 0 0 none 0 0 none 0 0) (dgX 0 0 0 none 0 0) (msgC 0 0 0 0 none 0 0)) rfl (inPk_one (fhC_one _ _ _ _ _ _ _ _ _ _ _ _ ) (tcC_one _ _ _ _ _ _ _ _ _ _ _ _ _ _ ) (dgX_one _ _ _ _ _ _) (msgC_one _ _ _ _ _ _ _)) rfl rfl b3 (szIN_ (by rfl)) ?_
      intro W9 h9 g9
      simp only [Act.put, List.setIfInBounds_toArray, List.set_cons_zero, List.set_cons_succ]
      go_wp2
      refine bodyPost_agg2 Try.results58 rfl rfl h9.range i1 i2 (szIN_ (by rfl)) rfl ?_
      have hCg : Chg (fun b => b = w.heap.size) _ W9 := Chg.one g9 rfl
      exact RetPI.mk (p := { si := si, st := st, tl := tl, s6 := s6, sh := sh, sl := sl, d6 := s6, dh := dh, dl := dl, sp := x0, dp := x1, pr := pr, x0 := x0, x1 := x1, x2 := x2, x3 := x3, x4 := x4, x5 := x5, x6 := x6, x7 := x7, o1 := o1, o2 := o2 }) (r1.chg hCg (fun a ha hb => by have h' : a.block = w.heap.size := hb; have := f1 a ha; omega)) (r2.chg hCg (fun a ha hb => by have h' : a.block = w.heap.size := hb; have := f2 a ha; omega)) (r3.chg hCg (fun a ha hb => by have h' : a.block = w.heap.size := hb; have := f3 a ha; omega)) (r4.chg hCg (fun a ha hb => by have h' : a.block = w.heap.size := hb; have := f4 a ha; omega)) (fun a ha => by have := f1 a ha; omega) (fun a ha => by have := f2 a ha; omega) (fun a ha => by have := f3 a ha; omega) (fun a ha => by have := f4 a ha; omega) (below_grown be2 g9 (by omega))
    · have HT0 := takeUDP gx Ar nr kr si st tl s6 sh sl dh dl pr false Ar nr kr load W8 x0 x1 x2 o1 E2 any k1 k2 k3 k4 hX hl hnr
      rw [hw] at HT0
      have HT := Lib.hid HT0
      clear HT0 any hw
      have t6 : ((pr : Int) == 6) = false := by rw [beq_eq_false_iff_ne]; omega
      have t17 : ((pr : Int) == 17) = true := by rw [beq_iff_eq]; omega
      clear hp
      go_upto_region 10 with (fail)
      go_upto_region 12 with (fail)
      go_upto_region 13 with (fail)
      refine wp_region_lit ?_
      iterate 2 (refine wpList_plain rfl (fun K hK => ?_); go_simp; with_reducible refine hK _ _ ?_; clear hK K)
      refine wpList_ld1 (t := 225) (cs := hdC (fhC si st tl s6 sh sl s6 dh dl 0 0 pr) (tcC 0 0 0 0 0 0 0 0 none 0 0 none 0 0) (dgX 0 0 0 none 0 0) (msgC 0 0 0 0 none 0 0) false Ar nr kr) 22 (.tmp 45) rfl (by rfl) rfl (hX) rfl Try.underlying22 rfl ?_
      refine wpList_plain rfl (fun K hK => ?_)
      go_simp
      refine (HT.out).mono ?_
      rintro e w1 ⟨rfl, hC, hT⟩
      with_reducible refine hK _ _ ?_
      clear hK K
      go_upto_region 18 with (fail)
      refine wp_region_lit ?_
      iterate 2 (refine wpList_plain rfl (fun K hK => ?_); go_simp; with_reducible refine hK _ _ ?_; clear hK K)
      refine wpList_stA 53 (.tmp 4) (.tmp 70) rfl rfl (inPk (fhC false false 0 false 0 0 false 0 0 0 0 0) (tcC 0 0 0 0 0 0 0 0 none 0 0 none 0 0) (dgX 0 0 0 none 0 0) (msgC 0 0 0 0 none 0 0)) (inPk (fhC false false 0 false 0 0 false 0 0 0 0 0) (tcC 0 0 0 0 0 0 0 0 none 0 0 none 0 0) (dgX 0 0 0 none 0 0) (msgC 0 0 0 0 none 0 0)) rfl (inPk_one (fhC_one _ _ _ _ _ _ _ _ _ _ _ _ ) (tcC_one _ _ _ _ _ _ _ _ _ _ _ _ _ _ ) (dgX_one _ _ _ _ _ _) (msgC_one _ _ _ _ _ _ _)) rfl rfl (b3.chg hC nR) (szIN_ (by rfl)) ?_
      intro W9 h9 g9
      simp only [Act.put, List.setIfInBounds_toArray, List.set_cons_zero, List.set_cons_succ]
      go_wp2
      refine bodyPost_agg2 Try.results58 rfl rfl h9.range i1 i2 (szIN_ (by rfl)) rfl ?_
      exact RetPI.zero_ (below_grown (be.trans (hC.below (B := w.heap.size) (fun b hb => by have hb2 : b = gx := hb; omega) be.size)) g9 (by omega))
    · have HT0 := takeUDP gx Ar nr kr si st tl s6 sh sl dh dl pr false Ar nr kr load W8 x0 x1 x2 o1 E2 any k1 k2 k3 k4 hX hl hnr
      rw [hw] at HT0
      have HT := Lib.hid HT0
      clear HT0 any hw
      have t6 : ((pr : Int) == 6) = false := by rw [beq_eq_false_iff_ne]; omega
      have t17 : ((pr : Int) == 17) = true := by rw [beq_iff_eq]; omega
      clear hp
      go_upto_region 10 with (fail)
      go_upto_region 12 with (fail)
      go_upto_region 13 with (fail)
      refine wp_region_lit ?_
      iterate 2 (refine wpList_plain rfl (fun K hK => ?_); go_simp; with_reducible refine hK _ _ ?_; clear hK K)
      refine wpList_ld1 (t := 225) (cs := hdC (fhC si st tl s6 sh sl s6 dh dl 0 0 pr) (tcC 0 0 0 0 0 0 0 0 none 0 0 none 0 0) (dgX 0 0 0 none 0 0) (msgC 0 0 0 0 none 0 0) false Ar nr kr) 22 (.tmp 45) rfl (by rfl) rfl (hX) rfl Try.underlying22 rfl ?_
      refine wpList_plain rfl (fun K hK => ?_)
      go_simp
      refine (HT.out).mono ?_
      rintro e w1 ⟨rfl, hC, hT⟩
      with_reducible refine hK _ _ ?_
      clear hK K
      obtain ⟨A1, n1, c1, A2, n2, c2, A3, n3, c3, A4, n4, c4, hX2, r1, r2, r3, r4, f1, f2, f3, f4⟩ := hT rfl
      have z8 : w.heap.size < W8.heap.size := by have := hX.lt; omega
      have be2 := be.trans (hC.below (B := w.heap.size) (fun b hb => by have hb2 : b = gx := hb; omega) be.size)
      replace b3 := b3.chg hC nR
      clear hC hT hX hl nl
      go_upto_region 19 with (fail)
      refine wp_region_lit ?_
      refine wpList_plain rfl (fun K hK => ?_); go_simp; with_reducible refine hK _ _ ?_; clear hK K
      refine wpList_ldA (t := 225) (cs := ({ si := si, st := st, tl := tl, s6 := s6, sh := sh, sl := sl, d6 := s6, dh := dh, dl := dl, sp := x0, dp := x1, pr := pr, u0 := x0, u1 := x1, u2 := x2, o3 := o1 } : PI).cs A1 n1 c1 A2 n2 c2 A3 n3 c3 A4 n4 c4 ++ [.bool false, .slice Ar nr kr]) 53 (.tmp 72) rfl rfl (({ si := si, st := st, tl := tl, s6 := s6, sh := sh, sl := sl, d6 := s6, dh := dh, dl := dl, sp := x0, dp := x1, pr := pr, u0 := x0, u1 := x1, u2 := x2, o3 := o1 } : PI).cs A1 n1 c1 A2 n2 c2 A3 n3 c3 A4 n4 c4) rfl hX2 rfl i1 i2 (szIN_ (by rfl)) ?_
      simp only [Act.put, List.setIfInBounds_toArray, List.set_cons_zero, List.set_cons_succ]
      refine wpList_stA 53 (.tmp 4) (.tmp 73) rfl rfl (({ si := si, st := st, tl := tl, s6 := s6, sh := sh, sl := sl, d6 := s6, dh := dh, dl := dl, sp := x0, dp := x1, pr := pr, u0 := x0, u1 := x1, u2 := x2, o3 := o1 } : PI).cs A1 n1 c1 A2 n2 c2 A3 n3 c3 A4 n4 c4) (inPk (fhC false false 0 false 0 0 false 0 0 0 0 0) (tcC 0 0 0 0 0 0 0 0 none 0 0 none 0 0) (dgX 0 0 0 none 0 0) (msgC 0 0 0 0 none 0 0)) rfl (inPk_one (fhC_one _ _ _ _ _ _ _ _ _ _ _ _ ) (tcC_one _ _ _ _ _ _ _ _ _ _ _ _ _ _ ) (dgX_one _ _ _ _ _ _) (msgC_one _ _ _ _ _ _ _)) rfl rfl b3 (szIN_ (by rfl)) ?_
      intro W9 h9 g9
      simp only [Act.put, List.setIfInBounds_toArray, List.set_cons_zero, List.set_cons_succ]
      go_wp2
      refine bodyPost_agg2 Try.results58 rfl rfl h9.range i1 i2 (szIN_ (by rfl)) rfl ?_
      have hCg : Chg (fun b => b = w.heap.size) _ W9 := Chg.one g9 rfl
      exact RetPI.mk (p := { si := si, st := st, tl := tl, s6 := s6, sh := sh, sl := sl, d6 := s6, dh := dh, dl := dl, sp := x0, dp := x1, pr := pr, u0 := x0, u1 := x1, u2 := x2, o3 := o1 }) (r1.chg hCg (fun a ha hb => by have h' : a.block = w.heap.size := hb; have := f1 a ha; omega)) (r2.chg hCg (fun a ha hb => by have h' : a.block = w.heap.size := hb; have := f2 a ha; omega)) (r3.chg hCg (fun a ha hb => by have h' : a.block = w.heap.size := hb; have := f3 a ha; omega)) (r4.chg hCg (fun a ha hb => by have h' : a.block = w.heap.size := hb; have := f4 a ha; omega)) (fun a ha => by have := f1 a ha; omega) (fun a ha => by have := f2 a ha; omega) (fun a ha => by have := f3 a ha; omega) (fun a ha => by have := f4 a ha; omega) (below_grown be2 g9 (by omega))
    · rcases hp with ⟨hp, hsi⟩ | ⟨hp, hsi⟩
      · subst hsi
        have HT0 := takeICMP gx Ar nr kr false st tl s6 sh sl dh dl pr false Ar nr kr load W8 x0 x1 x2 x3 o1 ok any k1 k2 k3 k4 hX hl hnr
        rw [hw] at HT0
        have HT := Lib.hid HT0
        clear HT0 any hw
        have t6 : ((pr : Int) == 6) = false := by rw [beq_eq_false_iff_ne]; omega
        have t17 : ((pr : Int) == 17) = false := by rw [beq_eq_false_iff_ne]; omega
        have t1 : ((pr : Int) == 1) = true := by rw [beq_iff_eq]; omega
        have t58 : ((pr : Int) == 58) = false := by rw [beq_eq_false_iff_ne]; omega
        clear hp
        go_upto_region 10 with (fail)
        go_upto_region 12 with (fail)
        go_upto_region 14 with (fail)
        refine wp_region_lit ?_
        iterate 3 (refine wpList_plain rfl (fun K hK => ?_); go_simp; with_reducible refine hK _ _ ?_; clear hK K)
        iterate 2 (refine wpList_step (fun K hK => ?_); go_simp; with_reducible refine hK _ _ ?_; clear hK K)
        refine wpList_ld1 (t := 225) (cs := hdC (fhC false st tl s6 sh sl s6 dh dl 0 0 pr) (tcC 0 0 0 0 0 0 0 0 none 0 0 none 0 0) (dgX 0 0 0 none 0 0) (msgC 0 0 0 0 none 0 0) false Ar nr kr) 4 (.tmp 53) rfl (by go_simp) rfl (hX) rfl Try.underlying4 rfl ?_
        refine wpList_step (fun K hK => ?_); go_simp; with_reducible refine hK _ _ ?_; clear hK K
        refine wpList_plain rfl (fun K hK => ?_); go_simp; with_reducible refine hK _ _ ?_; clear hK K
        go_upto_region 16 with (fail)
        refine wp_region_lit ?_
        iterate 2 (refine wpList_plain rfl (fun K hK => ?_); go_simp; with_reducible refine hK _ _ ?_; clear hK K)
        refine wpList_ld1 (t := 225) (cs := hdC (fhC false st tl s6 sh sl s6 dh dl 0 0 pr) (tcC 0 0 0 0 0 0 0 0 none 0 0 none 0 0) (dgX 0 0 0 none 0 0) (msgC 0 0 0 0 none 0 0) false Ar nr kr) 22 (.tmp 65) rfl (by rfl) rfl (hX) rfl Try.underlying22 rfl ?_
        refine wpList_plain rfl (fun K hK => ?_)
        go_simp
        refine (HT.out).mono ?_
        rintro e w1 ⟨rfl, hC, hT⟩
        with_reducible refine hK _ _ ?_
        clear hK K
        go_upto_region 18 with (fail)
        refine wp_region_lit ?_
        iterate 2 (refine wpList_plain rfl (fun K hK => ?_); go_simp; with_reducible refine hK _ _ ?_; clear hK K)
        refine wpList_stA 53 (.tmp 4) (.tmp 70) rfl rfl (inPk (fhC false false 0 false 0 0 false 0 0 0 0 0) (tcC 0 0 0 0 0 0 0 0 none 0 0 none 0 0) (dgX 0 0 0 none 0 0) (msgC 0 0 0 0 none 0 0)) (inPk (fhC false false 0 false 0 0 false 0 0 0 0 0) (tcC 0 0 0 0 0 0 0 0 none 0 0 none 0 0) (dgX 0 0 0 none 0 0) (msgC 0 0 0 0 none 0 0)) rfl (inPk_one (fhC_one _ _ _ _ _ _ _ _ _ _ _ _ ) (tcC_one _ _ _ _ _ _ _ _ _ _ _ _ _ _ ) (dgX_one _ _ _ _ _ _) (msgC_one _ _ _ _ _ _ _)) rfl rfl (b3.chg hC nR) (szIN_ (by rfl)) ?_
        intro W9 h9 g9
        simp only [Act.put, List.setIfInBounds_toArray, List.set_cons_zero, List.set_cons_succ]
        go_wp2
        refine bodyPost_agg2 Try.results58 rfl rfl h9.range i1 i2 (szIN_ (by rfl)) rfl ?_
        exact RetPI.zero_ (below_grown (be.trans (hC.below (B := w.heap.size) (fun b hb => by have hb2 : b = gx := hb; omega) be.size)) g9 (by omega))
      · subst hsi
        have HT0 := takeICMP gx Ar nr kr true st tl s6 sh sl dh dl pr false Ar nr kr load W8 x0 x1 x2 x3 o1 ok any k1 k2 k3 k4 hX hl hnr
        rw [hw] at HT0
        have HT := Lib.hid HT0
        clear HT0 any hw
        have t6 : ((pr : Int) == 6) = false := by rw [beq_eq_false_iff_ne]; omega
        have t17 : ((pr : Int) == 17) = false := by rw [beq_eq_false_iff_ne]; omega
        have t1 : ((pr : Int) == 1) = false := by rw [beq_eq_false_iff_ne]; omega
        have t58 : ((pr : Int) == 58) = true := by rw [beq_iff_eq]; omega
        clear hp
        go_upto_region 10 with (fail)
        go_upto_region 12 with (fail)
        go_upto_region 14 with (fail)
        refine wp_region_lit ?_
        iterate 3 (refine wpList_plain rfl (fun K hK => ?_); go_simp; with_reducible refine hK _ _ ?_; clear hK K)
        iterate 4 ((with_reducible refine wpList_skip ?_ ?_); (· first | (go_simp; done) | (go_simp; intro h; cases h)); simp only [Act.put, List.setIfInBounds_toArray, List.set_cons_zero, List.set_cons_succ])
        refine wpList_plain rfl (fun K hK => ?_); go_simp; with_reducible refine hK _ _ ?_; clear hK K
        go_upto_region 15 with (fail)
        refine wp_region_lit ?_
        iterate 3 (refine wpList_plain rfl (fun K hK => ?_); go_simp; with_reducible refine hK _ _ ?_; clear hK K)
        iterate 2 (refine wpList_step (fun K hK => ?_); go_simp; with_reducible refine hK _ _ ?_; clear hK K)
        refine wpList_ld1 (t := 225) (cs := hdC (fhC true st tl s6 sh sl s6 dh dl 0 0 pr) (tcC 0 0 0 0 0 0 0 0 none 0 0 none 0 0) (dgX 0 0 0 none 0 0) (msgC 0 0 0 0 none 0 0) false Ar nr kr) 4 (.tmp 61) rfl (by go_simp) rfl (hX) rfl Try.underlying4 rfl ?_
        refine wpList_plain rfl (fun K hK => ?_); go_simp; with_reducible refine hK _ _ ?_; clear hK K
        go_upto_region 16 with (fail)
        refine wp_region_lit ?_
        iterate 2 (refine wpList_plain rfl (fun K hK => ?_); go_simp; with_reducible refine hK _ _ ?_; clear hK K)
        refine wpList_ld1 (t := 225) (cs := hdC (fhC true st tl s6 sh sl s6 dh dl 0 0 pr) (tcC 0 0 0 0 0 0 0 0 none 0 0 none 0 0) (dgX 0 0 0 none 0 0) (msgC 0 0 0 0 none 0 0) false Ar nr kr) 22 (.tmp 65) rfl (by rfl) rfl (hX) rfl Try.underlying22 rfl ?_
        refine wpList_plain rfl (fun K hK => ?_)
        go_simp
        refine (HT.out).mono ?_
        rintro e w1 ⟨rfl, hC, hT⟩
        with_reducible refine hK _ _ ?_
        clear hK K
        go_upto_region 18 with (fail)
        refine wp_region_lit ?_
        iterate 2 (refine wpList_plain rfl (fun K hK => ?_); go_simp; with_reducible refine hK _ _ ?_; clear hK K)
        refine wpList_stA 53 (.tmp 4) (.tmp 70) rfl rfl (inPk (fhC false false 0 false 0 0 false 0 0 0 0 0) (tcC 0 0 0 0 0 0 0 0 none 0 0 none 0 0) (dgX 0 0 0 none 0 0) (msgC 0 0 0 0 none 0 0)) (inPk (fhC false false 0 false 0 0 false 0 0 0 0 0) (tcC 0 0 0 0 0 0 0 0 none 0 0 none 0 0) (dgX 0 0 0 none 0 0) (msgC 0 0 0 0 none 0 0)) rfl (inPk_one (fhC_one _ _ _ _ _ _ _ _ _ _ _ _ ) (tcC_one _ _ _ _ _ _ _ _ _ _ _ _ _ _ ) (dgX_one _ _ _ _ _ _) (msgC_one _ _ _ _ _ _ _)) rfl rfl (b3.chg hC nR) (szIN_ (by rfl)) ?_
        intro W9 h9 g9
        simp only [Act.put, List.setIfInBounds_toArray, List.set_cons_zero, List.set_cons_succ]
        go_wp2
        refine bodyPost_agg2 Try.results58 rfl rfl h9.range i1 i2 (szIN_ (by rfl)) rfl ?_
        exact RetPI.zero_ (below_grown (be.trans (hC.below (B := w.heap.size) (fun b hb => by have hb2 : b = gx := hb; omega) be.size)) g9 (by omega))
    · rcases hp with ⟨hp, hsi⟩ | ⟨hp, hsi⟩
      · subst hsi
        have HT0 := takeICMP gx Ar nr kr false st tl s6 sh sl dh dl pr false Ar nr kr load W8 x0 x1 x2 x3 o1 ok any k1 k2 k3 k4 hX hl hnr
        rw [hw] at HT0
        have HT := Lib.hid HT0
        clear HT0 any hw
        have t6 : ((pr : Int) == 6) = false := by rw [beq_eq_false_iff_ne]; omega
        have t17 : ((pr : Int) == 17) = false := by rw [beq_eq_false_iff_ne]; omega
        have t1 : ((pr : Int) == 1) = true := by rw [beq_iff_eq]; omega
        have t58 : ((pr : Int) == 58) = false := by rw [beq_eq_false_iff_ne]; omega
        clear hp
        go_upto_region 10 with (fail)
        go_upto_region 12 with (fail)
        go_upto_region 14 with (fail)
        refine wp_region_lit ?_
        iterate 3 (refine wpList_plain rfl (fun K hK => ?_); go_simp; with_reducible refine hK _ _ ?_; clear hK K)
        iterate 2 (refine wpList_step (fun K hK => ?_); go_simp; with_reducible refine hK _ _ ?_; clear hK K)
        refine wpList_ld1 (t := 225) (cs := hdC (fhC false st tl s6 sh sl s6 dh dl 0 0 pr) (tcC 0 0 0 0 0 0 0 0 none 0 0 none 0 0) (dgX 0 0 0 none 0 0) (msgC 0 0 0 0 none 0 0) false Ar nr kr) 4 (.tmp 53) rfl (by go_simp) rfl (hX) rfl Try.underlying4 rfl ?_
        refine wpList_step (fun K hK => ?_); go_simp; with_reducible refine hK _ _ ?_; clear hK K
        refine wpList_plain rfl (fun K hK => ?_); go_simp; with_reducible refine hK _ _ ?_; clear hK K
        go_upto_region 16 with (fail)
        refine wp_region_lit ?_
        iterate 2 (refine wpList_plain rfl (fun K hK => ?_); go_simp; with_reducible refine hK _ _ ?_; clear hK K)
        refine wpList_ld1 (t := 225) (cs := hdC (fhC false st tl s6 sh sl s6 dh dl 0 0 pr) (tcC 0 0 0 0 0 0 0 0 none 0 0 none 0 0) (dgX 0 0 0 none 0 0) (msgC 0 0 0 0 none 0 0) false Ar nr kr) 22 (.tmp 65) rfl (by rfl) rfl (hX) rfl Try.underlying22 rfl ?_
        refine wpList_plain rfl (fun K hK => ?_)
        go_simp
        refine (HT.out).mono ?_
        rintro e w1 ⟨rfl, hC, hT⟩
        with_reducible refine hK _ _ ?_
        clear hK K
        obtain ⟨A1, n1, c1, A2, n2, c2, A3, n3, c3, A4, n4, c4, hX2, r1, r2, r3, r4, f1, f2, f3, f4⟩ := hT rfl
        have z8 : w.heap.size < W8.heap.size := by have := hX.lt; omega
        have be2 := be.trans (hC.below (B := w.heap.size) (fun b hb => by have hb2 : b = gx := hb; omega) be.size)
        replace b3 := b3.chg hC nR
        clear hC hT hX hl nl
        go_upto_region 19 with (fail)
        refine wp_region_lit ?_
        refine wpList_plain rfl (fun K hK => ?_); go_simp; with_reducible refine hK _ _ ?_; clear hK K
        refine wpList_ldA (t := 225) (cs := ({ si := false, st := st, tl := tl, s6 := s6, sh := sh, sl := sl, d6 := s6, dh := dh, dl := dl, sp := 0, dp := 0, pr := pr, m0 := x0, m1 := x1, m2 := x2, m3 := x3, o4 := o1 } : PI).cs A1 n1 c1 A2 n2 c2 A3 n3 c3 A4 n4 c4 ++ [.bool false, .slice Ar nr kr]) 53 (.tmp 72) rfl rfl (({ si := false, st := st, tl := tl, s6 := s6, sh := sh, sl := sl, d6 := s6, dh := dh, dl := dl, sp := 0, dp := 0, pr := pr, m0 := x0, m1 := x1, m2 := x2, m3 := x3, o4 := o1 } : PI).cs A1 n1 c1 A2 n2 c2 A3 n3 c3 A4 n4 c4) rfl hX2 rfl i1 i2 (szIN_ (by rfl)) ?_
        simp only [Act.put, List.setIfInBounds_toArray, List.set_cons_zero, List.set_cons_succ]
        refine wpList_stA 53 (.tmp 4) (.tmp 73) rfl rfl (({ si := false, st := st, tl := tl, s6 := s6, sh := sh, sl := sl, d6 := s6, dh := dh, dl := dl, sp := 0, dp := 0, pr := pr, m0 := x0, m1 := x1, m2 := x2, m3 := x3, o4 := o1 } : PI).cs A1 n1 c1 A2 n2 c2 A3 n3 c3 A4 n4 c4) (inPk (fhC false false 0 false 0 0 false 0 0 0 0 0) (tcC 0 0 0 0 0 0 0 0 none 0 0 none 0 0) (dgX 0 0 0 none 0 0) (msgC 0 0 0 0 none 0 0)) rfl (inPk_one (fhC_one _ _ _ _ _ _ _ _ _ _ _ _ ) (tcC_one _ _ _ _ _ _ _ _ _ _ _ _ _ _ ) (dgX_one _ _ _ _ _ _) (msgC_one _ _ _ _ _ _ _)) rfl rfl b3 (szIN_ (by rfl)) ?_
        intro W9 h9 g9
        simp only [Act.put, List.setIfInBounds_toArray, List.set_cons_zero, List.set_cons_succ]
        go_wp2
        refine bodyPost_agg2 Try.results58 rfl rfl h9.range i1 i2 (szIN_ (by rfl)) rfl ?_
        have hCg : Chg (fun b => b = w.heap.size) _ W9 := Chg.one g9 rfl
        exact RetPI.mk (p := { si := false, st := st, tl := tl, s6 := s6, sh := sh, sl := sl, d6 := s6, dh := dh, dl := dl, sp := 0, dp := 0, pr := pr, m0 := x0, m1 := x1, m2 := x2, m3 := x3, o4 := o1 }) (r1.chg hCg (fun a ha hb => by have h' : a.block = w.heap.size := hb; have := f1 a ha; omega)) (r2.chg hCg (fun a ha hb => by have h' : a.block = w.heap.size := hb; have := f2 a ha; omega)) (r3.chg hCg (fun a ha hb => by have h' : a.block = w.heap.size := hb; have := f3 a ha; omega)) (r4.chg hCg (fun a ha hb => by have h' : a.block = w.heap.size := hb; have := f4 a ha; omega)) (fun a ha => by have := f1 a ha; omega) (fun a ha => by have := f2 a ha; omega) (fun a ha => by have := f3 a ha; omega) (fun a ha => by have := f4 a ha; omega) (below_grown be2 g9 (by omega))
      · subst hsi
        have HT0 := takeICMP gx Ar nr kr true st tl s6 sh sl dh dl pr false Ar nr kr load W8 x0 x1 x2 x3 o1 ok any k1 k2 k3 k4 hX hl hnr
        rw [hw] at HT0
        have HT := Lib.hid HT0
        clear HT0 any hw
        have t6 : ((pr : Int) == 6) = false := by rw [beq_eq_false_iff_ne]; omega
        have t17 : ((pr : Int) == 17) = false := by rw [beq_eq_false_iff_ne]; omega
        have t1 : ((pr : Int) == 1) = false := by rw [beq_eq_false_iff_ne]; omega
        have t58 : ((pr : Int) == 58) = true := by rw [beq_iff_eq]; omega
        clear hp
        go_upto_region 10 with (fail)
        go_upto_region 12 with (fail)
        go_upto_region 14 with (fail)
        refine wp_region_lit ?_
        iterate 3 (refine wpList_plain rfl (fun K hK => ?_); go_simp; with_reducible refine hK _ _ ?_; clear hK K)
        iterate 4 ((with_reducible refine wpList_skip ?_ ?_); (· first | (go_simp; done) | (go_simp; intro h; cases h)); simp only [Act.put, List.setIfInBounds_toArray, List.set_cons_zero, List.set_cons_succ])
        refine wpList_plain rfl (fun K hK => ?_); go_simp; with_reducible refine hK _ _ ?_; clear hK K
        go_upto_region 15 with (fail)
        refine wp_region_lit ?_
        iterate 3 (refine wpList_plain rfl (fun K hK => ?_); go_simp; with_reducible refine hK _ _ ?_; clear hK K)
        iterate 2 (refine wpList_step (fun K hK => ?_); go_simp; with_reducible refine hK _ _ ?_; clear hK K)
        refine wpList_ld1 (t := 225) (cs := hdC (fhC true st tl s6 sh sl s6 dh dl 0 0 pr) (tcC 0 0 0 0 0 0 0 0 none 0 0 none 0 0) (dgX 0 0 0 none 0 0) (msgC 0 0 0 0 none 0 0) false Ar nr kr) 4 (.tmp 61) rfl (by go_simp) rfl (hX) rfl Try.underlying4 rfl ?_
        refine wpList_plain rfl (fun K hK => ?_); go_simp; with_reducible refine hK _ _ ?_; clear hK K
        go_upto_region 16 with (fail)
        refine wp_region_lit ?_
        iterate 2 (refine wpList_plain rfl (fun K hK => ?_); go_simp; with_reducible refine hK _ _ ?_; clear hK K)
        refine wpList_ld1 (t := 225) (cs := hdC (fhC true st tl s6 sh sl s6 dh dl 0 0 pr) (tcC 0 0 0 0 0 0 0 0 none 0 0 none 0 0) (dgX 0 0 0 none 0 0) (msgC 0 0 0 0 none 0 0) false Ar nr kr) 22 (.tmp 65) rfl (by rfl) rfl (hX) rfl Try.underlying22 rfl ?_
        refine wpList_plain rfl (fun K hK => ?_)
        go_simp
        refine (HT.out).mono ?_
        rintro e w1 ⟨rfl, hC, hT⟩
        with_reducible refine hK _ _ ?_
        clear hK K
        obtain ⟨A1, n1, c1, A2, n2, c2, A3, n3, c3, A4, n4, c4, hX2, r1, r2, r3, r4, f1, f2, f3, f4⟩ := hT rfl
        have z8 : w.heap.size < W8.heap.size := by have := hX.lt; omega
        have be2 := be.trans (hC.below (B := w.heap.size) (fun b hb => by have hb2 : b = gx := hb; omega) be.size)
        replace b3 := b3.chg hC nR
        clear hC hT hX hl nl
        go_upto_region 19 with (fail)
        refine wp_region_lit ?_
        refine wpList_plain rfl (fun K hK => ?_); go_simp; with_reducible refine hK _ _ ?_; clear hK K
        refine wpList_ldA (t := 225) (cs := ({ si := true, st := st, tl := tl, s6 := s6, sh := sh, sl := sl, d6 := s6, dh := dh, dl := dl, sp := 0, dp := 0, pr := pr, m0 := x0, m1 := x1, m2 := x2, m3 := x3, o4 := o1 } : PI).cs A1 n1 c1 A2 n2 c2 A3 n3 c3 A4 n4 c4 ++ [.bool false, .slice Ar nr kr]) 53 (.tmp 72) rfl rfl (({ si := true, st := st, tl := tl, s6 := s6, sh := sh, sl := sl, d6 := s6, dh := dh, dl := dl, sp := 0, dp := 0, pr := pr, m0 := x0, m1 := x1, m2 := x2, m3 := x3, o4 := o1 } : PI).cs A1 n1 c1 A2 n2 c2 A3 n3 c3 A4 n4 c4) rfl hX2 rfl i1 i2 (szIN_ (by rfl)) ?_
        simp only [Act.put, List.setIfInBounds_toArray, List.set_cons_zero, List.set_cons_succ]
        refine wpList_stA 53 (.tmp 4) (.tmp 73) rfl rfl (({ si := true, st := st, tl := tl, s6 := s6, sh := sh, sl := sl, d6 := s6, dh := dh, dl := dl, sp := 0, dp := 0, pr := pr, m0 := x0, m1 := x1, m2 := x2, m3 := x3, o4 := o1 } : PI).cs A1 n1 c1 A2 n2 c2 A3 n3 c3 A4 n4 c4) (inPk (fhC false false 0 false 0 0 false 0 0 0 0 0) (tcC 0 0 0 0 0 0 0 0 none 0 0 none 0 0) (dgX 0 0 0 none 0 0) (msgC 0 0 0 0 none 0 0)) rfl (inPk_one (fhC_one _ _ _ _ _ _ _ _ _ _ _ _ ) (tcC_one _ _ _ _ _ _ _ _ _ _ _ _ _ _ ) (dgX_one _ _ _ _ _ _) (msgC_one _ _ _ _ _ _ _)) rfl rfl b3 (szIN_ (by rfl)) ?_
        intro W9 h9 g9
        simp only [Act.put, List.setIfInBounds_toArray, List.set_cons_zero, List.set_cons_succ]
        go_wp2
        refine bodyPost_agg2 Try.results58 rfl rfl h9.range i1 i2 (szIN_ (by rfl)) rfl ?_
        have hCg : Chg (fun b => b = w.heap.size) _ W9 := Chg.one g9 rfl
        exact RetPI.mk (p := { si := true, st := st, tl := tl, s6 := s6, sh := sh, sl := sl, d6 := s6, dh := dh, dl := dl, sp := 0, dp := 0, pr := pr, m0 := x0, m1 := x1, m2 := x2, m3 := x3, o4 := o1 }) (r1.chg hCg (fun a ha hb => by have h' : a.block = w.heap.size := hb; have := f1 a ha; omega)) (r2.chg hCg (fun a ha hb => by have h' : a.block = w.heap.size := hb; have := f2 a ha; omega)) (r3.chg hCg (fun a ha hb => by have h' : a.block = w.heap.size := hb; have := f3 a ha; omega)) (r4.chg hCg (fun a ha hb => by have h' : a.block = w.heap.size := hb; have := f4 a ha; omega)) (fun a ha => by have := f1 a ha; omega) (fun a ha => by have := f2 a ha; omega) (fun a ha => by have := f3 a ha; omega) (fun a ha => by have := f4 a ha; omega) (below_grown be2 g9 (by omega))
    · obtain ⟨p6, p17, p1, p58⟩ := hp
      cases si
      · have q1 : pr ≠ 1 := fun h => p1 ⟨h, rfl⟩
        have t6 : ((pr : Int) == 6) = false := by rw [beq_eq_false_iff_ne]; omega
        have t17 : ((pr : Int) == 17) = false := by rw [beq_eq_false_iff_ne]; omega
        have t1 : ((pr : Int) == 1) = false := by rw [beq_eq_false_iff_ne]; omega
        clear p6 p17 p1 p58
        go_upto_region 10 with (fail)
        go_upto_region 12 with (fail)
        go_upto_region 14 with (fail)
        refine wp_region_lit ?_
        iterate 3 (refine wpList_plain rfl (fun K hK => ?_); go_simp; with_reducible refine hK _ _ ?_; clear hK K)
        iterate 4 ((with_reducible refine wpList_skip ?_ ?_); (· first | (go_simp; done) | (go_simp; intro h; cases h)); simp only [Act.put, List.setIfInBounds_toArray, List.set_cons_zero, List.set_cons_succ])
        refine wpList_plain rfl (fun K hK => ?_); go_simp; with_reducible refine hK _ _ ?_; clear hK K
        go_upto_region 15 with (fail)
        cases h58 : ((pr : Int) == 58)
        · refine wp_region_lit ?_
          iterate 3 (refine wpList_plain rfl (fun K hK => ?_); go_simp; with_reducible refine hK _ _ ?_; clear hK K)
          iterate 3 ((with_reducible refine wpList_skip ?_ ?_); (· first | (go_simp; done) | (go_simp; intro h; cases h)); simp only [Act.put, List.setIfInBounds_toArray, List.set_cons_zero, List.set_cons_succ])
          refine wpList_plain rfl (fun K hK => ?_); go_simp; with_reducible refine hK _ _ ?_; clear hK K
          have hC : Chg (fun b => b = gx) W8 W8 := Chg.refl _
          go_upto_region 18 with (fail)
          refine wp_region_lit ?_
          iterate 2 (refine wpList_plain rfl (fun K hK => ?_); go_simp; with_reducible refine hK _ _ ?_; clear hK K)
          refine wpList_stA 53 (.tmp 4) (.tmp 70) rfl rfl (inPk (fhC false false 0 false 0 0 false 0 0 0 0 0) (tcC 0 0 0 0 0 0 0 0 none 0 0 none 0 0) (dgX 0 0 0 none 0 0) (msgC 0 0 0 0 none 0 0)) (inPk (fhC false false 0 false 0 0 false 0 0 0 0 0) (tcC 0 0 0 0 0 0 0 0 none 0 0 none 0 0) (dgX 0 0 0 none 0 0) (msgC 0 0 0 0 none 0 0)) rfl (inPk_one (fhC_one _ _ _ _ _ _ _ _ _ _ _ _ ) (tcC_one _ _ _ _ _ _ _ _ _ _ _ _ _ _ ) (dgX_one _ _ _ _ _ _) (msgC_one _ _ _ _ _ _ _)) rfl rfl (b3.chg hC nR) (szIN_ (by rfl)) ?_
          intro W9 h9 g9
          simp only [Act.put, List.setIfInBounds_toArray, List.set_cons_zero, List.set_cons_succ]
          go_wp2
          refine bodyPost_agg2 Try.results58 rfl rfl h9.range i1 i2 (szIN_ (by rfl)) rfl ?_
          exact RetPI.zero_ (below_grown (be.trans (hC.below (B := w.heap.size) (fun b hb => by have hb2 : b = gx := hb; omega) be.size)) g9 (by omega))
        · refine wp_region_lit ?_
          iterate 3 (refine wpList_plain rfl (fun K hK => ?_); go_simp; with_reducible refine hK _ _ ?_; clear hK K)
          iterate 2 (refine wpList_step (fun K hK => ?_); go_simp; with_reducible refine hK _ _ ?_; clear hK K)
          refine wpList_ld1 (t := 225) (cs := hdC (fhC false st tl s6 sh sl s6 dh dl 0 0 pr) (tcC 0 0 0 0 0 0 0 0 none 0 0 none 0 0) (dgX 0 0 0 none 0 0) (msgC 0 0 0 0 none 0 0) false Ar nr kr) 4 (.tmp 61) rfl (by go_simp) rfl (hX) rfl Try.underlying4 rfl ?_
          refine wpList_plain rfl (fun K hK => ?_); go_simp; with_reducible refine hK _ _ ?_; clear hK K
          have hC : Chg (fun b => b = gx) W8 W8 := Chg.refl _
          go_upto_region 18 with (fail)
          refine wp_region_lit ?_
          iterate 2 (refine wpList_plain rfl (fun K hK => ?_); go_simp; with_reducible refine hK _ _ ?_; clear hK K)
          refine wpList_stA 53 (.tmp 4) (.tmp 70) rfl rfl (inPk (fhC false false 0 false 0 0 false 0 0 0 0 0) (tcC 0 0 0 0 0 0 0 0 none 0 0 none 0 0) (dgX 0 0 0 none 0 0) (msgC 0 0 0 0 none 0 0)) (inPk (fhC false false 0 false 0 0 false 0 0 0 0 0) (tcC 0 0 0 0 0 0 0 0 none 0 0 none 0 0) (dgX 0 0 0 none 0 0) (msgC 0 0 0 0 none 0 0)) rfl (inPk_one (fhC_one _ _ _ _ _ _ _ _ _ _ _ _ ) (tcC_one _ _ _ _ _ _ _ _ _ _ _ _ _ _ ) (dgX_one _ _ _ _ _ _) (msgC_one _ _ _ _ _ _ _)) rfl rfl (b3.chg hC nR) (szIN_ (by rfl)) ?_
          intro W9 h9 g9
          simp only [Act.put, List.setIfInBounds_toArray, List.set_cons_zero, List.set_cons_succ]
          go_wp2
          refine bodyPost_agg2 Try.results58 rfl rfl h9.range i1 i2 (szIN_ (by rfl)) rfl ?_
          exact RetPI.zero_ (below_grown (be.trans (hC.below (B := w.heap.size) (fun b hb => by have hb2 : b = gx := hb; omega) be.size)) g9 (by omega))
      · have q58 : pr ≠ 58 := fun h => p58 ⟨h, rfl⟩
        have t6 : ((pr : Int) == 6) = false := by rw [beq_eq_false_iff_ne]; omega
        have t17 : ((pr : Int) == 17) = false := by rw [beq_eq_false_iff_ne]; omega
        have t58 : ((pr : Int) == 58) = false := by rw [beq_eq_false_iff_ne]; omega
        clear p6 p17 p1 p58
        go_upto_region 10 with (fail)
        go_upto_region 12 with (fail)
        go_upto_region 14 with (fail)
        cases h1 : ((pr : Int) == 1)
        · refine wp_region_lit ?_
          iterate 3 (refine wpList_plain rfl (fun K hK => ?_); go_simp; with_reducible refine hK _ _ ?_; clear hK K)
          iterate 4 ((with_reducible refine wpList_skip ?_ ?_); (· first | (go_simp; done) | (go_simp; intro h; cases h)); simp only [Act.put, List.setIfInBounds_toArray, List.set_cons_zero, List.set_cons_succ])
          refine wpList_plain rfl (fun K hK => ?_); go_simp; with_reducible refine hK _ _ ?_; clear hK K
          go_upto_region 15 with (fail)
          refine wp_region_lit ?_
          iterate 3 (refine wpList_plain rfl (fun K hK => ?_); go_simp; with_reducible refine hK _ _ ?_; clear hK K)
          iterate 3 ((with_reducible refine wpList_skip ?_ ?_); (· first | (go_simp; done) | (go_simp; intro h; cases h)); simp only [Act.put, List.setIfInBounds_toArray, List.set_cons_zero, List.set_cons_succ])
          refine wpList_plain rfl (fun K hK => ?_); go_simp; with_reducible refine hK _ _ ?_; clear hK K
          have hC : Chg (fun b => b = gx) W8 W8 := Chg.refl _
          go_upto_region 18 with (fail)
          refine wp_region_lit ?_
          iterate 2 (refine wpList_plain rfl (fun K hK => ?_); go_simp; with_reducible refine hK _ _ ?_; clear hK K)
          refine wpList_stA 53 (.tmp 4) (.tmp 70) rfl rfl (inPk (fhC false false 0 false 0 0 false 0 0 0 0 0) (tcC 0 0 0 0 0 0 0 0 none 0 0 none 0 0) (dgX 0 0 0 none 0 0) (msgC 0 0 0 0 none 0 0)) (inPk (fhC false false 0 false 0 0 false 0 0 0 0 0) (tcC 0 0 0 0 0 0 0 0 none 0 0 none 0 0) (dgX 0 0 0 none 0 0) (msgC 0 0 0 0 none 0 0)) rfl (inPk_one (fhC_one _ _ _ _ _ _ _ _ _ _ _ _ ) (tcC_one _ _ _ _ _ _ _ _ _ _ _ _ _ _ ) (dgX_one _ _ _ _ _ _) (msgC_one _ _ _ _ _ _ _)) rfl rfl (b3.chg hC nR) (szIN_ (by rfl)) ?_
          intro W9 h9 g9
          simp only [Act.put, List.setIfInBounds_toArray, List.set_cons_zero, List.set_cons_succ]
          go_wp2
          refine bodyPost_agg2 Try.results58 rfl rfl h9.range i1 i2 (szIN_ (by rfl)) rfl ?_
          exact RetPI.zero_ (below_grown (be.trans (hC.below (B := w.heap.size) (fun b hb => by have hb2 : b = gx := hb; omega) be.size)) g9 (by omega))
        · refine wp_region_lit ?_
          iterate 3 (refine wpList_plain rfl (fun K hK => ?_); go_simp; with_reducible refine hK _ _ ?_; clear hK K)
          iterate 2 (refine wpList_step (fun K hK => ?_); go_simp; with_reducible refine hK _ _ ?_; clear hK K)
          refine wpList_ld1 (t := 225) (cs := hdC (fhC true st tl s6 sh sl s6 dh dl 0 0 pr) (tcC 0 0 0 0 0 0 0 0 none 0 0 none 0 0) (dgX 0 0 0 none 0 0) (msgC 0 0 0 0 none 0 0) false Ar nr kr) 4 (.tmp 53) rfl (by go_simp) rfl (hX) rfl Try.underlying4 rfl ?_
          refine wpList_step (fun K hK => ?_); go_simp; with_reducible refine hK _ _ ?_; clear hK K
          refine wpList_plain rfl (fun K hK => ?_); go_simp; with_reducible refine hK _ _ ?_; clear hK K
          go_upto_region 15 with (fail)
          refine wp_region_lit ?_
          iterate 3 (refine wpList_plain rfl (fun K hK => ?_); go_simp; with_reducible refine hK _ _ ?_; clear hK K)
          iterate 3 ((with_reducible refine wpList_skip ?_ ?_); (· first | (go_simp; done) | (go_simp; intro h; cases h)); simp only [Act.put, List.setIfInBounds_toArray, List.set_cons_zero, List.set_cons_succ])
          refine wpList_plain rfl (fun K hK => ?_); go_simp; with_reducible refine hK _ _ ?_; clear hK K
          have hC : Chg (fun b => b = gx) W8 W8 := Chg.refl _
          go_upto_region 18 with (fail)
          refine wp_region_lit ?_
          iterate 2 (refine wpList_plain rfl (fun K hK => ?_); go_simp; with_reducible refine hK _ _ ?_; clear hK K)
          refine wpList_stA 53 (.tmp 4) (.tmp 70) rfl rfl (inPk (fhC false false 0 false 0 0 false 0 0 0 0 0) (tcC 0 0 0 0 0 0 0 0 none 0 0 none 0 0) (dgX 0 0 0 none 0 0) (msgC 0 0 0 0 none 0 0)) (inPk (fhC false false 0 false 0 0 false 0 0 0 0 0) (tcC 0 0 0 0 0 0 0 0 none 0 0 none 0 0) (dgX 0 0 0 none 0 0) (msgC 0 0 0 0 none 0 0)) rfl (inPk_one (fhC_one _ _ _ _ _ _ _ _ _ _ _ _ ) (tcC_one _ _ _ _ _ _ _ _ _ _ _ _ _ _ ) (dgX_one _ _ _ _ _ _) (msgC_one _ _ _ _ _ _ _)) rfl rfl (b3.chg hC nR) (szIN_ (by rfl)) ?_
          intro W9 h9 g9
          simp only [Act.put, List.setIfInBounds_toArray, List.set_cons_zero, List.set_cons_succ]
          go_wp2
          refine bodyPost_agg2 Try.results58 rfl rfl h9.range i1 i2 (szIN_ (by rfl)) rfl ?_
          exact RetPI.zero_ (below_grown (be.trans (hC.below (B := w.heap.size) (fun b hb => by have hb2 : b = gx := hb; omega) be.size)) g9 (by omega))
end Go.Proofs.Ytfmkndemkpecpaa

/- The reference's Host and Read of any bytes (chapter 28). -/
namespace Go.Proofs.Ytfmkndemkpecpaa
open Go.RowKit
set_option linter.unusedVariables false
set_option linter.unusedSimpArgs false
attribute [local go_sem ↓] sliced_cut

attribute [local go_sem] cutA_zero

theorem tkW_why {E : Int} {f : Bool} {why : Int} (h : tkW E f = why) : (¬ E = 0 ∧ why = ofN E) ∨ (E = 0 ∧ f = false ∧ why = 3) ∨ (E = 0 ∧ f = true ∧ why = 0) := by
  unfold tkW at h
  by_cases hE : E = 0
  · rw [if_pos hE] at h
    cases f
    · exact .inr (.inl ⟨hE, rfl, h.symm⟩)
    · exact .inr (.inr ⟨hE, rfl, h.symm⟩)
  · rw [if_neg hE] at h
    exact .inl ⟨hE, h.symm⟩
theorem Rb.low {w : World} {A : Option Addr} {n c : Nat} {l : List UInt8} (h : Rb w A n c l) : l = [] ∨ ∀ a, A = some a → a.block < w.heap.size := by
  rcases h.2.2 with h' | ⟨b, off, hA, hb, _⟩
  · exact .inl (bcs_nil h')
  · refine .inr fun a ha => ?_
    rw [hA] at ha
    injection ha with ha
    subst ha
    exact hb
theorem Rb.chgE {D : Nat → Prop} {w w' : World} {A : Option Addr} {n c : Nat} {l : List UInt8} (h : Rb w A n c l) (hc : Chg D w w') (hd : l = [] ∨ ∀ a, A = some a → ¬ D a.block) : Rb w' A n c l := by
  rcases hd with rfl | hd
  · exact ⟨h.1, h.2.1, .inl rfl⟩
  · exact h.chg hc hd
/-- what the reference takes of a load: letters whatever the error -/
def SegW (w : World) (x0 x1 x2 x3 x4 x5 x6 x7 : Nat) (o1 o2 : List UInt8) (E : Int) (e : Ending) (w' : World) : Prop := ∃ (z0 z1 z2 z3 z4 z5 z6 z7 : Nat) (q1 q2 : List UInt8), ∃ A1 n1 c1 A2 n2 c2 bs d, e = .returned (.tuple #[.agg (tcC z0 z1 z2 z3 z4 z5 z6 z7 A1 n1 c1 A2 n2 c2).toArray, .int .i64 E]) ∧ w' = plus w bs d ∧ Rb (plus w bs d) A1 n1 c1 q1 ∧ Rb (plus w bs d) A2 n2 c2 q2 ∧ (E = 0 → x0 = z0 ∧ x1 = z1 ∧ x2 = z2 ∧ x3 = z3 ∧ x4 = z4 ∧ x5 = z5 ∧ x6 = z6 ∧ x7 = z7 ∧ o1 = q1 ∧ o2 = q2 ∧ (∀ a, A1 = some a → w.heap.size ≤ a.block) ∧ ∀ a, A2 = some a → w.heap.size ≤ a.block)
theorem RetSegE.w {w : World} {x0 x1 x2 x3 x4 x5 x6 x7 : Nat} {o1 o2 : List UInt8} {E : Int} {e : Ending} {w' : World} (h : RetSegE w x0 x1 x2 x3 x4 x5 x6 x7 o1 o2 E e w') : SegW w x0 x1 x2 x3 x4 x5 x6 x7 o1 o2 E e w' := by
  unfold RetSegE at h
  by_cases hE : E = 0
  · rw [if_pos hE] at h
    obtain ⟨A1, n1, c1, A2, n2, c2, bs, d, rfl, rfl, h1, h2, f1, f2⟩ := h
    subst hE
    exact ⟨_, _, _, _, _, _, _, _, _, _, A1, n1, c1, A2, n2, c2, bs, d, rfl, rfl, h1, h2, fun _ => ⟨rfl, rfl, rfl, rfl, rfl, rfl, rfl, rfl, rfl, rfl, f1, f2⟩⟩
  · rw [if_neg hE] at h
    obtain ⟨A1, n1, c1, A2, n2, c2, bs, d, rfl, rfl, h1, h2⟩ := h
    exact ⟨_, _, _, _, _, _, _, _, _, _, A1, n1, c1, A2, n2, c2, bs, d, rfl, rfl, h1, h2, fun h => absurd h hE⟩
def DgW (w : World) (l : List UInt8) (x0 x1 x2 : Nat) (o1 : List UInt8) (E : Int) (e : Ending) (w' : World) : Prop := ∃ (z0 z1 z2 : Nat) (q1 : List UInt8), ∃ A1 n1 c1 bs d, e = .returned (.tuple #[.agg (dgX z0 z1 z2 A1 n1 c1).toArray, .int .i64 E]) ∧ w' = plus w bs d ∧ Rb (plus w bs d) A1 n1 c1 q1 ∧ (z0 < 65536 ∧ z1 < 65536 ∧ z2 < 65536 ∧ n1 ≤ l.length) ∧ (q1 = [] ∨ ∀ a, A1 = some a → w.heap.size ≤ a.block) ∧ (E = 0 → x0 = z0 ∧ x1 = z1 ∧ x2 = z2 ∧ o1 = q1 ∧ ∀ a, A1 = some a → w.heap.size ≤ a.block)
theorem RetDgE.w {w : World} {l : List UInt8} {x0 x1 x2 : Nat} {o1 : List UInt8} {E : Int} {e : Ending} {w' : World} (hb : x0 < 65536 ∧ x1 < 65536 ∧ x2 < 65536) (hl : o1.length ≤ l.length) (h : RetDgE w x0 x1 x2 o1 E e w') : DgW w l x0 x1 x2 o1 E e w' := by
  unfold RetDgE at h
  by_cases hE : E = 0
  · rw [if_pos hE] at h
    obtain ⟨A1, n1, c1, bs, d, rfl, rfl, h1, f1⟩ := h
    subst hE
    exact ⟨_, _, _, _, A1, n1, c1, bs, d, rfl, rfl, h1, ⟨hb.1, hb.2.1, hb.2.2, by rw [← h1.1]; exact hl⟩, .inr f1, fun _ => ⟨rfl, rfl, rfl, rfl, f1⟩⟩
  · rw [if_neg hE] at h
    obtain ⟨A1, n1, c1, bs, d, rfl, rfl, h1⟩ := h
    exact ⟨_, _, _, _, A1, n1, c1, bs, d, rfl, rfl, h1, ⟨by decide, by decide, by decide, by rw [← h1.1]; simp⟩, .inl rfl, fun h => absurd h hE⟩
set_option maxHeartbeats 4000000 in
set_option maxRecDepth 100000 in
theorem refHost_bad (A : Option Addr) (n c : Nat) (y : Int) (hy : (y != 0) = true) (w : World) (HO : ∀ w', Below w.heap.size w w' → Calls Try.prog 59 #[.slice A n c] w' (RetOu w' (fhC false false 0 false 0 0 false 0 0 0 0 0) [] y)) : Calls Try.prog 23 #[.slice A n c] w (RetPI w PI.zero y) := by
  replace HO := Lib.hid HO
  obtain ⟨di_, i1, i2⟩ := rowRI
  obtain ⟨dv_, v1, v2⟩ := rowAd
  have b3 : Bk (w.alloc (.cells #[.bool false, .bool false, .int .u8 0, .bool false, .int .u64 0, .int .u64 0, .bool false, .int .u64 0, .int .u64 0, .int .u16 0, .int .u16 0, .int .u8 0, .int .u16 0, .int .u16 0, .int .u32 0, .int .u32 0, .int .u8 0, .int .u16 0, .int .u16 0, .int .u16 0, .slice none 0 0, .slice none 0 0, .int .u16 0, .int .u16 0, .int .u16 0, .slice none 0 0, .int .u8 0, .int .u8 0, .int .u16 0, .int .u32 0, .slice none 0 0] 60)) w.heap.size 60 (inPk (fhC false false 0 false 0 0 false 0 0 0 0 0) (tcC 0 0 0 0 0 0 0 0 none 0 0 none 0 0) (dgX 0 0 0 none 0 0) (msgC 0 0 0 0 none 0 0)) := Bk.new w 60 #[.bool false, .bool false, .int .u8 0, .bool false, .int .u64 0, .int .u64 0, .bool false, .int .u64 0, .int .u64 0, .int .u16 0, .int .u16 0, .int .u8 0, .int .u16 0, .int .u16 0, .int .u32 0, .int .u32 0, .int .u8 0, .int .u16 0, .int .u16 0, .int .u16 0, .slice none 0 0, .slice none 0 0, .int .u16 0, .int .u16 0, .int .u16 0, .slice none 0 0, .int .u8 0, .int .u8 0, .int .u16 0, .int .u32 0, .slice none 0 0]
  have be : Below w.heap.size w (w.alloc (.cells #[.bool false, .bool false, .int .u8 0, .bool false, .int .u64 0, .int .u64 0, .bool false, .int .u64 0, .int .u64 0, .int .u16 0, .int .u16 0, .int .u8 0, .int .u16 0, .int .u16 0, .int .u32 0, .int .u32 0, .int .u8 0, .int .u16 0, .int .u16 0, .int .u16 0, .slice none 0 0, .slice none 0 0, .int .u16 0, .int .u16 0, .int .u16 0, .slice none 0 0, .int .u8 0, .int .u8 0, .int .u16 0, .int .u32 0, .slice none 0 0] 60)) := Below.allocS (Below.refl _ _) _
  have zV : w.heap.size + 1 ≤ (w.alloc (.cells #[.bool false, .bool false, .int .u8 0, .bool false, .int .u64 0, .int .u64 0, .bool false, .int .u64 0, .int .u64 0, .int .u16 0, .int .u16 0, .int .u8 0, .int .u16 0, .int .u16 0, .int .u32 0, .int .u32 0, .int .u8 0, .int .u16 0, .int .u16 0, .int .u16 0, .slice none 0 0, .slice none 0 0, .int .u16 0, .int .u16 0, .int .u16 0, .slice none 0 0, .int .u8 0, .int .u8 0, .int .u16 0, .int .u32 0, .slice none 0 0] 60)).heap.size := by simp
  go_enter Try.func23, Try.ntmps23
  go_upto_region 1 with (fail)
  generalize w.alloc (.cells #[.bool false, .bool false, .int .u8 0, .bool false, .int .u64 0, .int .u64 0, .bool false, .int .u64 0, .int .u64 0, .int .u16 0, .int .u16 0, .int .u8 0, .int .u16 0, .int .u16 0, .int .u32 0, .int .u32 0, .int .u8 0, .int .u16 0, .int .u16 0, .int .u16 0, .slice none 0 0, .slice none 0 0, .int .u16 0, .int .u16 0, .int .u16 0, .slice none 0 0, .int .u8 0, .int .u8 0, .int .u16 0, .int .u32 0, .slice none 0 0] 60) = V at *
  go_wp2_with fail
  refine (HO.out _ be).mono ?_
  rintro e w1 ⟨Ar, nr, kr, bs1, d1, rfl, rfl, hl, hf_⟩
  have hlow := hl.low
  rw [size_plus] at hlow
  go_upto_region 2 with (refine at_op (.store 60 (.tmp 4) (.tmp 14)) rfl ?_; refine wpList_stA (t := 60) 60 (.tmp 4) (.tmp 14) rfl rfl (inPk (fhC false false 0 false 0 0 false 0 0 0 0 0) (tcC 0 0 0 0 0 0 0 0 none 0 0 none 0 0) (dgX 0 0 0 none 0 0) (msgC 0 0 0 0 none 0 0)) (inPk (fhC false false 0 false 0 0 false 0 0 0 0 0) (tcC 0 0 0 0 0 0 0 0 none 0 0 none 0 0) (dgX 0 0 0 none 0 0) (msgC 0 0 0 0 none 0 0)) rfl (inPk_one (fhC_one _ _ _ _ _ _ _ _ _ _ _ _ ) (tcC_one _ _ _ _ _ _ _ _ _ _ _ _ _ _ ) (dgX_one _ _ _ _ _ _) (msgC_one _ _ _ _ _ _ _)) rfl rfl ?_ (szRI_ (by rfl)) ?_; (· refine Bk.newK _ _ _ ?_ rfl; simp [size_plus]); intro W8 hX gr8)
  have z0 := be.size
  have b8 := below_grown (Below.allocS (below_plus V bs1 d1) _) gr8 (by omega)
  replace be := be.trans (b8.mono z0)
  replace b3 := b3.later b8
  replace hl := hl.later (below_grown (Below.allocS (Below.refl _ _) _) gr8 (by simp [size_plus]))
  have zx : w.heap.size < V.heap.size + bs1.length := by omega
  clear b8 gr8
  generalize V.heap.size + bs1.length = gx at *
  go_upto_region 3 with (fail)
  refine wp_region_lit ?_
  iterate 2 (refine wpList_plain rfl (fun K hK => ?_); go_simp; with_reducible refine hK _ _ ?_; clear hK K)
  refine wpList_stA 60 (.tmp 2) (.tmp 19) rfl rfl (inPk (fhC false false 0 false 0 0 false 0 0 0 0 0) (tcC 0 0 0 0 0 0 0 0 none 0 0 none 0 0) (dgX 0 0 0 none 0 0) (msgC 0 0 0 0 none 0 0)) (inPk (fhC false false 0 false 0 0 false 0 0 0 0 0) (tcC 0 0 0 0 0 0 0 0 none 0 0 none 0 0) (dgX 0 0 0 none 0 0) (msgC 0 0 0 0 none 0 0)) rfl (inPk_one (fhC_one _ _ _ _ _ _ _ _ _ _ _ _ ) (tcC_one _ _ _ _ _ _ _ _ _ _ _ _ _ _ ) (dgX_one _ _ _ _ _ _) (msgC_one _ _ _ _ _ _ _)) rfl rfl (b3) (szRI_ (by rfl)) ?_
  intro W9 h9 g9
  refine wpList_plain rfl (fun K hK => ?_); go_simp; with_reducible refine hK _ _ ?_; clear hK K
  go_wp2
  refine bodyPost_agg2 Try.results23 rfl rfl h9.range i1 i2 (szRI_ (by rfl)) rfl ?_
  exact RetPI.zero_ (below_grown be g9 (by omega))
theorem Carries.split {si st : Bool} {tl : Nat} {s6 : Bool} {sh sl dh dl pr : Nat} {load : List UInt8} {p : PI} {why : Int} (c : Carries si st tl s6 sh sl dh dl pr load p why) :
    (∃ (x0 x1 x2 x3 x4 x5 x6 x7 : Nat) (o1 o2 : List UInt8) (E2 : Int), TcpAny load x0 x1 x2 x3 x4 x5 x6 x7 o1 o2 E2 ∧ (pr = 6) ∧ tkW E2 (65535 - fd (tcT s6 sh sl s6 dh dl load) == 0) = why ∧ (why ≠ 0 → p = PI.zero) ∧ (why = 0 → p = { si := si, st := st, tl := tl, s6 := s6, sh := sh, sl := sl, d6 := s6, dh := dh, dl := dl, sp := x0, dp := x1, pr := pr, x0 := x0, x1 := x1, x2 := x2, x3 := x3, x4 := x4, x5 := x5, x6 := x6, x7 := x7, o1 := o1, o2 := o2 })) ∨
    (∃ (x0 x1 x2 : Nat) (o1 : List UInt8) (E2 : Int), UdpAny load x0 x1 x2 o1 E2 ∧ (pr = 17) ∧ tkW E2 (udF s6 sh sl dh dl x0 x1 x2 o1) = why ∧ (why ≠ 0 → p = PI.zero) ∧ (why = 0 → p = { si := si, st := st, tl := tl, s6 := s6, sh := sh, sl := sl, d6 := s6, dh := dh, dl := dl, sp := x0, dp := x1, pr := pr, u0 := x0, u1 := x1, u2 := x2, o3 := o1 })) ∨
    (∃ (x0 x1 x2 x3 : Nat) (o1 : List UInt8) (ok : Bool), IcmpAny load x0 x1 x2 x3 o1 ok ∧ (pr = 1 ∧ si = false ∨ pr = 58 ∧ si = true) ∧ tkW (if ok then 0 else 20) (65535 - fd (icT s6 sh sl s6 dh dl x0 x1 x2 x3 o1) == 0) = why ∧ (why ≠ 0 → p = PI.zero) ∧ (why = 0 → p = { si := si, st := st, tl := tl, s6 := s6, sh := sh, sl := sl, d6 := s6, dh := dh, dl := dl, sp := 0, dp := 0, pr := pr, m0 := x0, m1 := x1, m2 := x2, m3 := x3, o4 := o1 })) ∨
    ((pr ≠ 6 ∧ pr ≠ 17 ∧ ¬ (pr = 1 ∧ si = false) ∧ ¬ (pr = 58 ∧ si = true)) ∧ p = PI.zero ∧ why = 6) := by
  cases c with
  | tBad x0 x1 x2 x3 x4 x5 x6 x7 o1 o2 E2 any hp why hw h0 => exact .inl ⟨x0, x1, x2, x3, x4, x5, x6, x7, o1, o2, E2, any, hp, hw, fun _ => rfl, fun h => absurd h (bne_iff_ne.1 h0)⟩
  | tOk x0 x1 x2 x3 x4 x5 x6 x7 o1 o2 E2 any hp hw => exact .inl ⟨x0, x1, x2, x3, x4, x5, x6, x7, o1, o2, E2, any, hp, hw, fun h => absurd rfl h, fun _ => rfl⟩
  | uBad x0 x1 x2 o1 E2 any hp why hw h0 => exact .inr (.inl ⟨x0, x1, x2, o1, E2, any, hp, hw, fun _ => rfl, fun h => absurd h (bne_iff_ne.1 h0)⟩)
  | uOk x0 x1 x2 o1 E2 any hp hw => exact .inr (.inl ⟨x0, x1, x2, o1, E2, any, hp, hw, fun h => absurd rfl h, fun _ => rfl⟩)
  | mBad x0 x1 x2 x3 o1 ok any hp why hw h0 => exact .inr (.inr (.inl ⟨x0, x1, x2, x3, o1, ok, any, hp, hw, fun _ => rfl, fun h => absurd h (bne_iff_ne.1 h0)⟩))
  | mOk x0 x1 x2 x3 o1 ok any hp hw => exact .inr (.inr (.inl ⟨x0, x1, x2, x3, o1, ok, any, hp, hw, fun h => absurd rfl h, fun _ => rfl⟩))
  | none_ hp => exact .inr (.inr (.inr ⟨hp, rfl, rfl⟩))
set_option maxHeartbeats 4000000 in
set_option maxRecDepth 100000 in
theorem refHost_go (A : Option Addr) (n c : Nat) (si st : Bool) (tl : Nat) (s6 : Bool) (sh sl dh dl pr : Nat) (load : List UInt8) (w : World) (p : PI) (why : Int) (cc : Carries si st tl s6 sh sl dh dl pr load p why) (hpr : pr < 256) (htl : tl < 256) (hll : load.length ≤ 5000) (k1 : sh < 18446744073709551616) (k2 : sl < 18446744073709551616) (k3 : dh < 18446744073709551616) (k4 : dl < 18446744073709551616)
    (HO : ∀ w', Below w.heap.size w w' → Calls Try.prog 59 #[.slice A n c] w' (RetOu w' (fhC si st tl s6 sh sl s6 dh dl 0 0 pr) load 0)) : Calls Try.prog 23 #[.slice A n c] w (RetPI w p why) := by
  have c2 := cc.split
  clear cc
  replace HO := Lib.hid HO
  obtain ⟨di_, i1, i2⟩ := rowRI
  obtain ⟨dv_, v1, v2⟩ := rowAd
  have b3 : Bk (w.alloc (.cells #[.bool false, .bool false, .int .u8 0, .bool false, .int .u64 0, .int .u64 0, .bool false, .int .u64 0, .int .u64 0, .int .u16 0, .int .u16 0, .int .u8 0, .int .u16 0, .int .u16 0, .int .u32 0, .int .u32 0, .int .u8 0, .int .u16 0, .int .u16 0, .int .u16 0, .slice none 0 0, .slice none 0 0, .int .u16 0, .int .u16 0, .int .u16 0, .slice none 0 0, .int .u8 0, .int .u8 0, .int .u16 0, .int .u32 0, .slice none 0 0] 60)) w.heap.size 60 (inPk (fhC false false 0 false 0 0 false 0 0 0 0 0) (tcC 0 0 0 0 0 0 0 0 none 0 0 none 0 0) (dgX 0 0 0 none 0 0) (msgC 0 0 0 0 none 0 0)) := Bk.new w 60 #[.bool false, .bool false, .int .u8 0, .bool false, .int .u64 0, .int .u64 0, .bool false, .int .u64 0, .int .u64 0, .int .u16 0, .int .u16 0, .int .u8 0, .int .u16 0, .int .u16 0, .int .u32 0, .int .u32 0, .int .u8 0, .int .u16 0, .int .u16 0, .int .u16 0, .slice none 0 0, .slice none 0 0, .int .u16 0, .int .u16 0, .int .u16 0, .slice none 0 0, .int .u8 0, .int .u8 0, .int .u16 0, .int .u32 0, .slice none 0 0]
  have be : Below w.heap.size w (w.alloc (.cells #[.bool false, .bool false, .int .u8 0, .bool false, .int .u64 0, .int .u64 0, .bool false, .int .u64 0, .int .u64 0, .int .u16 0, .int .u16 0, .int .u8 0, .int .u16 0, .int .u16 0, .int .u32 0, .int .u32 0, .int .u8 0, .int .u16 0, .int .u16 0, .int .u16 0, .slice none 0 0, .slice none 0 0, .int .u16 0, .int .u16 0, .int .u16 0, .slice none 0 0, .int .u8 0, .int .u8 0, .int .u16 0, .int .u32 0, .slice none 0 0] 60)) := Below.allocS (Below.refl _ _) _
  have zV : w.heap.size + 1 ≤ (w.alloc (.cells #[.bool false, .bool false, .int .u8 0, .bool false, .int .u64 0, .int .u64 0, .bool false, .int .u64 0, .int .u64 0, .int .u16 0, .int .u16 0, .int .u8 0, .int .u16 0, .int .u16 0, .int .u32 0, .int .u32 0, .int .u8 0, .int .u16 0, .int .u16 0, .int .u16 0, .slice none 0 0, .slice none 0 0, .int .u16 0, .int .u16 0, .int .u16 0, .slice none 0 0, .int .u8 0, .int .u8 0, .int .u16 0, .int .u32 0, .slice none 0 0] 60)).heap.size := by simp
  go_enter Try.func23, Try.ntmps23
  go_upto_region 1 with (fail)
  generalize w.alloc (.cells #[.bool false, .bool false, .int .u8 0, .bool false, .int .u64 0, .int .u64 0, .bool false, .int .u64 0, .int .u64 0, .int .u16 0, .int .u16 0, .int .u8 0, .int .u16 0, .int .u16 0, .int .u32 0, .int .u32 0, .int .u8 0, .int .u16 0, .int .u16 0, .int .u16 0, .slice none 0 0, .slice none 0 0, .int .u16 0, .int .u16 0, .int .u16 0, .slice none 0 0, .int .u8 0, .int .u8 0, .int .u16 0, .int .u32 0, .slice none 0 0] 60) = V at *
  go_wp2_with fail
  refine (HO.out _ be).mono ?_
  rintro e w1 ⟨Ar, nr, kr, bs1, d1, rfl, rfl, hl, hf_⟩
  have hlow := hl.low
  rw [size_plus] at hlow
  go_upto_region 2 with (refine at_op (.store 60 (.tmp 4) (.tmp 14)) rfl ?_; refine wpList_stA (t := 60) 60 (.tmp 4) (.tmp 14) rfl rfl (inPk (fhC si st tl s6 sh sl s6 dh dl 0 0 pr) (tcC 0 0 0 0 0 0 0 0 none 0 0 none 0 0) (dgX 0 0 0 none 0 0) (msgC 0 0 0 0 none 0 0)) (inPk (fhC false false 0 false 0 0 false 0 0 0 0 0) (tcC 0 0 0 0 0 0 0 0 none 0 0 none 0 0) (dgX 0 0 0 none 0 0) (msgC 0 0 0 0 none 0 0)) rfl (inPk_one (fhC_one _ _ _ _ _ _ _ _ _ _ _ _ ) (tcC_one _ _ _ _ _ _ _ _ _ _ _ _ _ _ ) (dgX_one _ _ _ _ _ _) (msgC_one _ _ _ _ _ _ _)) rfl rfl ?_ (szRI_ (by rfl)) ?_; (· refine Bk.newK _ _ _ ?_ rfl; simp [size_plus]); intro W8 hX gr8)
  have z0 := be.size
  have b8 := below_grown (Below.allocS (below_plus V bs1 d1) _) gr8 (by omega)
  replace be := be.trans (b8.mono z0)
  replace b3 := b3.later b8
  replace hl := hl.later (below_grown (Below.allocS (Below.refl _ _) _) gr8 (by simp [size_plus]))
  have zx : w.heap.size < V.heap.size + bs1.length := by omega
  clear b8 gr8
  generalize V.heap.size + bs1.length = gx at *
  have nR : ¬ (fun b => b = gx) w.heap.size := fun h => by have h' : w.heap.size = gx := h; omega
  have nl : load = [] ∨ ∀ a, Ar = some a → ¬ (fun b => b = gx) a.block := hlow.imp id (fun f a ha hb => by have h' : a.block = gx := hb; have := f a ha; omega)
  have hnr : nr ≤ 5000 := by rw [← hl.1]; exact hll
  have hlt0 := hX.lt
  rcases c2 with ⟨x0, x1, x2, x3, x4, x5, x6, x7, o1, o2, E2, any, hp, hw, hpz, hpo⟩ | ⟨x0, x1, x2, o1, E2, any, hp, hw, hpz, hpo⟩ | ⟨x0, x1, x2, x3, o1, ok, any, hp, hw, hpz, hpo⟩ | ⟨⟨p6, p17, p1, p58⟩, rfl, rfl⟩
  · have hC : Chg (fun b => b = gx) W8 W8 := Chg.refl _
    have t6 : ((pr : Int) == 6) = true := by rw [beq_iff_eq]; omega
    clear hp
    have HP := Lib.hid (fun w A n c h => (any.R w A n c h).mono fun _ _ => RetSegE.w)
    have HF := Lib.hid (fun w (h : Rb w Ar nr kr load) => refTcpFine Ar nr kr s6 sh sl s6 dh dl load w k1 k2 k3 k4 h (by omega))
    clear any
    generalize (65535 - fd (tcT s6 sh sl s6 dh dl load) == 0) = fi at *
    go_upto_region 6 with (fail)
    refine wp_region_lit ?_
    iterate 2 (refine wpList_plain rfl (fun K hK => ?_); go_simp; with_reducible refine hK _ _ ?_; clear hK K)
    refine wpList_ld1 (t := 60) (cs := inPk (fhC si st tl s6 sh sl s6 dh dl 0 0 pr) (tcC 0 0 0 0 0 0 0 0 none 0 0 none 0 0) (dgX 0 0 0 none 0 0) (msgC 0 0 0 0 none 0 0)) 5 (.tmp 24) rfl (by rfl) rfl (hX) rfl Try.underlying5 rfl ?_
    iterate 2 (refine wpList_plain rfl (fun K hK => ?_); go_simp; with_reducible refine hK _ _ ?_; clear hK K)
    go_upto_region 7 with (fail)
    refine wp_region_lit ?_
    refine wpList_plain rfl (fun K hK => ?_); go_simp; with_reducible refine hK _ _ ?_; clear hK K
    refine wpList_plain rfl (fun K hK => ?_)
    go_simp
    refine (HP.out _ _ _ _ hl).mono ?_
    rintro e w1 ⟨z0, z1, z2, z3, z4, z5, z6, z7, q1, q2, A1, n1, c1, A2, n2, c2, bs2, d2, rfl, rfl, h1, h2, hz⟩
    with_reducible refine hK _ _ ?_
    clear hK K
    have hlt := hX.lt
    have b9 := below_plus W8 bs2 d2
    replace be := belowP be bs2 d2
    replace b3 := b3.later b9
    replace hX := hX.later b9
    replace hl := hl.later b9
    replace hC : Chg (fun b => b = gx) (plus W8 bs2 d2) (plus W8 bs2 d2) := Chg.refl _
    clear b9
    generalize plus W8 bs2 d2 = W9 at *
    iterate 4 (refine wpList_plain rfl (fun K hK => ?_); go_simp; with_reducible refine hK _ _ ?_; clear hK K)
    refine wpList_stM 56 (.tmp 32) (.tmp 30) rfl rfl (tcC z0 z1 z2 z3 z4 z5 z6 z7 A1 n1 c1 A2 n2 c2) (inPk (fhC si st tl s6 sh sl s6 dh dl 0 0 pr) (tcC 0 0 0 0 0 0 0 0 none 0 0 none 0 0) (dgX 0 0 0 none 0 0) (msgC 0 0 0 0 none 0 0)) (Nat.le_of_ble_eq_true rfl) (tcC_one _ _ _ _ _ _ _ _ _ _ _ _ _ _ ) (by rfl) (by rfl) hX (szSegR _ rfl) ?_
    intro W10 hX' gr'
    replace hX : Bk W10 gx 60 (inPk (fhC si st tl s6 sh sl s6 dh dl 0 0 pr) (tcC z0 z1 z2 z3 z4 z5 z6 z7 A1 n1 c1 A2 n2 c2) (dgX 0 0 0 none 0 0) (msgC 0 0 0 0 none 0 0)) := hX'
    replace hC := hC.trans (Chg.one gr' (rfl))
    clear hX' gr'
    refine wpList_plain rfl (fun K hK => ?_); go_simp; with_reducible refine hK _ _ ?_; clear hK K
    go_upto_region 8 with (fail)
    refine wp_region_lit ?_
    iterate 3 (refine wpList_plain rfl (fun K hK => ?_); go_simp; with_reducible refine hK _ _ ?_; clear hK K)
    refine wpList_ldA (t := 60) (cs := inPk (fhC si st tl s6 sh sl s6 dh dl 0 0 pr) (tcC z0 z1 z2 z3 z4 z5 z6 z7 A1 n1 c1 A2 n2 c2) (dgX 0 0 0 none 0 0) (msgC 0 0 0 0 none 0 0)) 26 (.tmp 35) rfl rfl ([.bool s6, .int .u64 (sh : Int), .int .u64 (sl : Int)]) rfl (hX) rfl v1 v2 (szAd _ _ _) ?_
    iterate 2 (refine wpList_plain rfl (fun K hK => ?_); go_simp; with_reducible refine hK _ _ ?_; clear hK K)
    refine wpList_ldA (t := 60) (cs := inPk (fhC si st tl s6 sh sl s6 dh dl 0 0 pr) (tcC z0 z1 z2 z3 z4 z5 z6 z7 A1 n1 c1 A2 n2 c2) (dgX 0 0 0 none 0 0) (msgC 0 0 0 0 none 0 0)) 26 (.tmp 38) rfl rfl ([.bool s6, .int .u64 (dh : Int), .int .u64 (dl : Int)]) rfl (hX) rfl v1 v2 (szAd _ _ _) ?_
    refine wpList_plain rfl (fun K hK => ?_)
    go_simp
    refine (HF.out _ (hl.chgE hC nl)).mono ?_
    rintro e w1 ⟨bs3, d3, rfl, rfl⟩
    with_reducible refine hK _ _ ?_
    clear hK K
    replace hC := hC.trans (Chg.of_below (below_plus W10 bs3 d3))
    replace hX := hX.later (below_plus W10 bs3 d3)
    generalize plus W10 bs3 d3 = W11 at *
    refine wpList_plain rfl (fun K hK => ?_); go_simp; with_reducible refine hK _ _ ?_; clear hK K
    go_upto_region 9 with (fail)
    refine wp_region_lit ?_
    iterate 2 (refine wpList_plain rfl (fun K hK => ?_); go_simp; with_reducible refine hK _ _ ?_; clear hK K)
    refine wpList_ld1 (t := 60) (cs := inPk (fhC si st tl s6 sh sl s6 dh dl 0 0 pr) (tcC z0 z1 z2 z3 z4 z5 z6 z7 A1 n1 c1 A2 n2 c2) (dgX 0 0 0 none 0 0) (msgC 0 0 0 0 none 0 0)) 27 (.tmp 42) rfl (by rfl) rfl (hX) rfl Try.underlying27 rfl ?_
    iterate 2 (refine wpList_plain rfl (fun K hK => ?_); go_simp; with_reducible refine hK _ _ ?_; clear hK K)
    refine wpList_ld1 (t := 60) (cs := inPk (fhC si st tl s6 sh sl s6 dh dl 0 0 pr) (tcC z0 z1 z2 z3 z4 z5 z6 z7 A1 n1 c1 A2 n2 c2) (dgX 0 0 0 none 0 0) (msgC 0 0 0 0 none 0 0)) 27 (.tmp 45) rfl (by rfl) rfl (hX) rfl Try.underlying27 rfl ?_
    iterate 2 (refine wpList_plain rfl (fun K hK => ?_); go_simp; with_reducible refine hK _ _ ?_; clear hK K)
    refine wpList_st1 27 (.tmp 48) (.tmp 43) rfl rfl (by rfl) (by rfl) hX (Nat.le_of_ble_eq_true rfl) rfl (by kernel_rfl) ?_
    intro W12 hX' gr'
    replace hX : Bk W12 gx 60 (inPk (fhC si st tl s6 sh sl s6 dh dl z0 0 pr) (tcC z0 z1 z2 z3 z4 z5 z6 z7 A1 n1 c1 A2 n2 c2) (dgX 0 0 0 none 0 0) (msgC 0 0 0 0 none 0 0)) := hX'
    replace hC := hC.trans (Chg.one gr' (rfl))
    clear hX' gr'
    iterate 2 (refine wpList_plain rfl (fun K hK => ?_); go_simp; with_reducible refine hK _ _ ?_; clear hK K)
    refine wpList_st1 27 (.tmp 50) (.tmp 46) rfl rfl (by rfl) (by rfl) hX (Nat.le_of_ble_eq_true rfl) rfl (by kernel_rfl) ?_
    intro W13 hX' gr'
    replace hX : Bk W13 gx 60 (inPk (fhC si st tl s6 sh sl s6 dh dl z0 z1 pr) (tcC z0 z1 z2 z3 z4 z5 z6 z7 A1 n1 c1 A2 n2 c2) (dgX 0 0 0 none 0 0) (msgC 0 0 0 0 none 0 0)) := hX'
    replace hC := hC.trans (Chg.one gr' (rfl))
    clear hX' gr'
    simp only [Act.put, List.setIfInBounds_toArray, List.set_cons_zero, List.set_cons_succ]
    rcases tkW_why hw with ⟨hE, hwy⟩ | ⟨hE, hf, hwy⟩ | ⟨hE, hf, hwy⟩
    · have hE1 : (E2 != 0) = true := by rw [bne_iff_ne]; exact hE
      obtain rfl := hpz (by rw [hwy]; exact ofN_ne hE)
      subst hwy
      clear hw hpz hpo hz hE
      go_upto_region 21 with (fail)
      refine wp_region_lit ?_
      iterate 2 (refine wpList_plain rfl (fun K hK => ?_); go_simp; with_reducible refine hK _ _ ?_; clear hK K)
      refine wpList_plain rfl (fun K hK => ?_)
      go_simp
      refine (ofR _ _).mono ?_
      rintro e w1 ⟨rfl, rfl⟩
      with_reducible refine hK _ _ ?_
      clear hK K
      refine wpList_stA 60 (.tmp 2) (.tmp 121) rfl rfl (inPk (fhC false false 0 false 0 0 false 0 0 0 0 0) (tcC 0 0 0 0 0 0 0 0 none 0 0 none 0 0) (dgX 0 0 0 none 0 0) (msgC 0 0 0 0 none 0 0)) (inPk (fhC false false 0 false 0 0 false 0 0 0 0 0) (tcC 0 0 0 0 0 0 0 0 none 0 0 none 0 0) (dgX 0 0 0 none 0 0) (msgC 0 0 0 0 none 0 0)) rfl (inPk_one (fhC_one _ _ _ _ _ _ _ _ _ _ _ _ ) (tcC_one _ _ _ _ _ _ _ _ _ _ _ _ _ _ ) (dgX_one _ _ _ _ _ _) (msgC_one _ _ _ _ _ _ _)) rfl rfl (b3.chg hC nR) (szRI_ (by rfl)) ?_
      intro W9 h9 g9
      refine wpList_plain rfl (fun K hK => ?_); go_simp; with_reducible refine hK _ _ ?_; clear hK K
      go_wp2
      refine bodyPost_agg2 Try.results23 rfl rfl h9.range i1 i2 (szRI_ (by rfl)) rfl ?_
      exact RetPI.zero_ (below_grown (be.trans (hC.below (B := w.heap.size) (fun b hb => by have hb2 : b = gx := hb; omega) be.size)) g9 (by omega))
    · obtain rfl := hpz (by rw [hwy]; decide)
      subst hwy
      subst hE
      obtain ⟨e0, e1, e2, e3, e4, e5, e6, e7, e8, e9, f1, f2⟩ := hz rfl
      subst e0 e1 e2 e3 e4 e5 e6 e7 e8 e9
      subst hf
      clear hw hpz hpo hz
      go_upto_region 23 with (fail)
      refine wp_region_lit ?_
      refine wpList_plain rfl (fun K hK => ?_); go_simp; with_reducible refine hK _ _ ?_; clear hK K
      refine wpList_stA 60 (.tmp 2) (.tmp 126) rfl rfl (inPk (fhC false false 0 false 0 0 false 0 0 0 0 0) (tcC 0 0 0 0 0 0 0 0 none 0 0 none 0 0) (dgX 0 0 0 none 0 0) (msgC 0 0 0 0 none 0 0)) (inPk (fhC false false 0 false 0 0 false 0 0 0 0 0) (tcC 0 0 0 0 0 0 0 0 none 0 0 none 0 0) (dgX 0 0 0 none 0 0) (msgC 0 0 0 0 none 0 0)) rfl (inPk_one (fhC_one _ _ _ _ _ _ _ _ _ _ _ _ ) (tcC_one _ _ _ _ _ _ _ _ _ _ _ _ _ _ ) (dgX_one _ _ _ _ _ _) (msgC_one _ _ _ _ _ _ _)) rfl rfl (b3.chg hC nR) (szRI_ (by rfl)) ?_
      intro W9 h9 g9
      simp only [Act.put, List.setIfInBounds_toArray, List.set_cons_zero, List.set_cons_succ]
      go_wp2
      refine bodyPost_agg2 Try.results23 rfl rfl h9.range i1 i2 (szRI_ (by rfl)) rfl ?_
      exact RetPI.zero_ (below_grown (be.trans (hC.below (B := w.heap.size) (fun b hb => by have hb2 : b = gx := hb; omega) be.size)) g9 (by omega))
    · obtain rfl := hpo hwy
      subst hwy
      subst hE
      obtain ⟨e0, e1, e2, e3, e4, e5, e6, e7, e8, e9, f1, f2⟩ := hz rfl
      subst e0 e1 e2 e3 e4 e5 e6 e7 e8 e9
      subst hf
      clear hw hpz hpo hz
      have be2 := be.trans (hC.below (B := w.heap.size) (fun b hb => by have hb2 : b = gx := hb; omega) be.size)
      replace b3 := b3.chg hC nR
      replace h1 := h1.chg hC (fun a ha hb => by have h' : a.block = gx := hb; have := f1 a ha; omega)
      replace h2 := h2.chg hC (fun a ha hb => by have h' : a.block = gx := hb; have := f2 a ha; omega)
      clear hC hl
      go_upto_region 24 with (fail)
      refine wp_region_lit ?_
      refine wpList_ldA (t := 60) 60 (.tmp 4) rfl rfl (({ si := si, st := st, tl := tl, s6 := s6, sh := sh, sl := sl, d6 := s6, dh := dh, dl := dl, sp := x0, dp := x1, pr := pr, x0 := x0, x1 := x1, x2 := x2, x3 := x3, x4 := x4, x5 := x5, x6 := x6, x7 := x7, o1 := o1, o2 := o2 } : PI).cs A1 n1 c1 A2 n2 c2 none 0 0 none 0 0) rfl hX rfl i1 i2 (szRI_ (by rfl)) ?_
      simp only [Act.put, List.setIfInBounds_toArray, List.set_cons_zero, List.set_cons_succ]
      refine wpList_stA 60 (.tmp 2) (.tmp 127) rfl rfl (({ si := si, st := st, tl := tl, s6 := s6, sh := sh, sl := sl, d6 := s6, dh := dh, dl := dl, sp := x0, dp := x1, pr := pr, x0 := x0, x1 := x1, x2 := x2, x3 := x3, x4 := x4, x5 := x5, x6 := x6, x7 := x7, o1 := o1, o2 := o2 } : PI).cs A1 n1 c1 A2 n2 c2 none 0 0 none 0 0) (inPk (fhC false false 0 false 0 0 false 0 0 0 0 0) (tcC 0 0 0 0 0 0 0 0 none 0 0 none 0 0) (dgX 0 0 0 none 0 0) (msgC 0 0 0 0 none 0 0)) rfl (inPk_one (fhC_one _ _ _ _ _ _ _ _ _ _ _ _ ) (tcC_one _ _ _ _ _ _ _ _ _ _ _ _ _ _ ) (dgX_one _ _ _ _ _ _) (msgC_one _ _ _ _ _ _ _)) rfl rfl b3 (szRI_ (by rfl)) ?_
      intro W9 h9 g9
      simp only [Act.put, List.setIfInBounds_toArray, List.set_cons_zero, List.set_cons_succ]
      go_wp2
      refine bodyPost_agg2 Try.results23 rfl rfl h9.range i1 i2 (szRI_ (by rfl)) rfl ?_
      have hCg : Chg (fun b => b = w.heap.size) _ W9 := Chg.one g9 rfl
      exact RetPI.mk (p := { si := si, st := st, tl := tl, s6 := s6, sh := sh, sl := sl, d6 := s6, dh := dh, dl := dl, sp := x0, dp := x1, pr := pr, x0 := x0, x1 := x1, x2 := x2, x3 := x3, x4 := x4, x5 := x5, x6 := x6, x7 := x7, o1 := o1, o2 := o2 }) (h1.chg hCg (fun a ha hb => by have h' : a.block = w.heap.size := hb; have := f1 a ha; omega)) (h2.chg hCg (fun a ha hb => by have h' : a.block = w.heap.size := hb; have := f2 a ha; omega)) Rb.nil_ Rb.nil_ (fun a ha => by have := f1 a ha; omega) (fun a ha => by have := f2 a ha; omega) noRow noRow (below_grown be2 g9 (by omega))
  · have hC : Chg (fun b => b = gx) W8 W8 := Chg.refl _
    have t6 : ((pr : Int) == 6) = false := by rw [beq_eq_false_iff_ne]; omega
    have t17 : ((pr : Int) == 17) = true := by rw [beq_iff_eq]; omega
    clear hp
    have HP := Lib.hid (fun w A n c h => (any.R w A n c h).mono fun _ _ => RetDgE.w (l := load) any.b any.o)
    clear any
    go_upto_region 6 with (fail)
    refine wp_region_lit ?_
    iterate 2 (refine wpList_plain rfl (fun K hK => ?_); go_simp; with_reducible refine hK _ _ ?_; clear hK K)
    refine wpList_ld1 (t := 60) (cs := inPk (fhC si st tl s6 sh sl s6 dh dl 0 0 pr) (tcC 0 0 0 0 0 0 0 0 none 0 0 none 0 0) (dgX 0 0 0 none 0 0) (msgC 0 0 0 0 none 0 0)) 5 (.tmp 24) rfl (by rfl) rfl (hX) rfl Try.underlying5 rfl ?_
    iterate 2 (refine wpList_plain rfl (fun K hK => ?_); go_simp; with_reducible refine hK _ _ ?_; clear hK K)
    go_upto_region 10 with (fail)
    refine wp_region_lit ?_
    iterate 2 (refine wpList_plain rfl (fun K hK => ?_); go_simp; with_reducible refine hK _ _ ?_; clear hK K)
    refine wpList_ld1 (t := 60) (cs := inPk (fhC si st tl s6 sh sl s6 dh dl 0 0 pr) (tcC 0 0 0 0 0 0 0 0 none 0 0 none 0 0) (dgX 0 0 0 none 0 0) (msgC 0 0 0 0 none 0 0)) 5 (.tmp 53) rfl (by rfl) rfl (hX) rfl Try.underlying5 rfl ?_
    iterate 2 (refine wpList_plain rfl (fun K hK => ?_); go_simp; with_reducible refine hK _ _ ?_; clear hK K)
    go_upto_region 11 with (fail)
    refine wp_region_lit ?_
    refine wpList_plain rfl (fun K hK => ?_); go_simp; with_reducible refine hK _ _ ?_; clear hK K
    refine wpList_plain rfl (fun K hK => ?_)
    go_simp
    refine (HP.out _ _ _ _ hl).mono ?_
    rintro e w1 ⟨z0, z1, z2, q1, A1, n1, c1, bs2, d2, rfl, rfl, h1, hzb, hq1, hz⟩
    with_reducible refine hK _ _ ?_
    clear hK K
    have hlt := hX.lt
    have b9 := below_plus W8 bs2 d2
    replace be := belowP be bs2 d2
    replace b3 := b3.later b9
    replace hX := hX.later b9
    replace hl := hl.later b9
    replace hC : Chg (fun b => b = gx) (plus W8 bs2 d2) (plus W8 bs2 d2) := Chg.refl _
    clear b9
    generalize plus W8 bs2 d2 = W9 at *
    iterate 4 (refine wpList_plain rfl (fun K hK => ?_); go_simp; with_reducible refine hK _ _ ?_; clear hK K)
    refine wpList_stM 57 (.tmp 61) (.tmp 59) rfl rfl (dgX z0 z1 z2 A1 n1 c1) (inPk (fhC si st tl s6 sh sl s6 dh dl 0 0 pr) (tcC 0 0 0 0 0 0 0 0 none 0 0 none 0 0) (dgX 0 0 0 none 0 0) (msgC 0 0 0 0 none 0 0)) (Nat.le_of_ble_eq_true rfl) (dgX_one _ _ _ _ _ _ ) (by rfl) (by rfl) hX (szRX _ _ _ _ _ _) ?_
    intro W10 hX' gr'
    replace hX : Bk W10 gx 60 (inPk (fhC si st tl s6 sh sl s6 dh dl 0 0 pr) (tcC 0 0 0 0 0 0 0 0 none 0 0 none 0 0) (dgX z0 z1 z2 A1 n1 c1) (msgC 0 0 0 0 none 0 0)) := hX'
    replace hC := hC.trans (Chg.one gr' (rfl))
    clear hX' gr'
    refine wpList_plain rfl (fun K hK => ?_); go_simp; with_reducible refine hK _ _ ?_; clear hK K
    have HF := Lib.hid (fun w (h : Rb w A1 n1 c1 q1) => refUdpFine z0 z1 z2 A1 n1 c1 s6 sh sl dh dl q1 w hzb.1 hzb.2.1 hzb.2.2.1 k1 k2 k3 k4 h (by omega))
    have hff : udF s6 sh sl dh dl z0 z1 z2 q1 = udF s6 sh sl dh dl z0 z1 z2 q1 := rfl
    generalize hgf : udF s6 sh sl dh dl z0 z1 z2 q1 = fi at HF
    clear hff
    have hgf2 := Lib.hid hgf
    clear hgf
    obtain ⟨dr_, r1, r2⟩ := rowRX
    have h1w := h1.chgE hC (hq1.imp id (fun f a ha hb => by have h' : a.block = gx := hb; have := f a ha; omega))
    go_upto_region 12 with (fail)
    refine wp_region_lit ?_
    refine wpList_plain rfl (fun K hK => ?_); go_simp; with_reducible refine hK _ _ ?_; clear hK K
    refine wpList_ldA (t := 60) (cs := inPk (fhC si st tl s6 sh sl s6 dh dl 0 0 pr) (tcC 0 0 0 0 0 0 0 0 none 0 0 none 0 0) (dgX z0 z1 z2 A1 n1 c1) (msgC 0 0 0 0 none 0 0)) 57 (.tmp 62) rfl rfl (dgX z0 z1 z2 A1 n1 c1) rfl (hX) rfl r1 r2 (szRX _ _ _ _ _ _) ?_
    iterate 2 (refine wpList_plain rfl (fun K hK => ?_); go_simp; with_reducible refine hK _ _ ?_; clear hK K)
    refine wpList_ldA (t := 60) (cs := inPk (fhC si st tl s6 sh sl s6 dh dl 0 0 pr) (tcC 0 0 0 0 0 0 0 0 none 0 0 none 0 0) (dgX z0 z1 z2 A1 n1 c1) (msgC 0 0 0 0 none 0 0)) 26 (.tmp 65) rfl rfl ([.bool s6, .int .u64 (sh : Int), .int .u64 (sl : Int)]) rfl (hX) rfl v1 v2 (szAd _ _ _) ?_
    iterate 2 (refine wpList_plain rfl (fun K hK => ?_); go_simp; with_reducible refine hK _ _ ?_; clear hK K)
    refine wpList_ldA (t := 60) (cs := inPk (fhC si st tl s6 sh sl s6 dh dl 0 0 pr) (tcC 0 0 0 0 0 0 0 0 none 0 0 none 0 0) (dgX z0 z1 z2 A1 n1 c1) (msgC 0 0 0 0 none 0 0)) 26 (.tmp 68) rfl rfl ([.bool s6, .int .u64 (dh : Int), .int .u64 (dl : Int)]) rfl (hX) rfl v1 v2 (szAd _ _ _) ?_
    refine wpList_plain rfl (fun K hK => ?_)
    go_simp
    refine (HF.out _ h1w).mono ?_
    rintro e w1 ⟨bs3, d3, rfl, rfl⟩
    with_reducible refine hK _ _ ?_
    clear hK K
    replace hC := hC.trans (Chg.of_below (below_plus W10 bs3 d3))
    replace hX := hX.later (below_plus W10 bs3 d3)
    generalize plus W10 bs3 d3 = W11 at *
    refine wpList_plain rfl (fun K hK => ?_); go_simp; with_reducible refine hK _ _ ?_; clear hK K
    go_upto_region 13 with (fail)
    refine wp_region_lit ?_
    iterate 2 (refine wpList_plain rfl (fun K hK => ?_); go_simp; with_reducible refine hK _ _ ?_; clear hK K)
    refine wpList_ld1 (t := 60) (cs := inPk (fhC si st tl s6 sh sl s6 dh dl 0 0 pr) (tcC 0 0 0 0 0 0 0 0 none 0 0 none 0 0) (dgX z0 z1 z2 A1 n1 c1) (msgC 0 0 0 0 none 0 0)) 27 (.tmp 72) rfl (by rfl) rfl (hX) rfl Try.underlying27 rfl ?_
    iterate 2 (refine wpList_plain rfl (fun K hK => ?_); go_simp; with_reducible refine hK _ _ ?_; clear hK K)
    refine wpList_ld1 (t := 60) (cs := inPk (fhC si st tl s6 sh sl s6 dh dl 0 0 pr) (tcC 0 0 0 0 0 0 0 0 none 0 0 none 0 0) (dgX z0 z1 z2 A1 n1 c1) (msgC 0 0 0 0 none 0 0)) 27 (.tmp 75) rfl (by rfl) rfl (hX) rfl Try.underlying27 rfl ?_
    iterate 2 (refine wpList_plain rfl (fun K hK => ?_); go_simp; with_reducible refine hK _ _ ?_; clear hK K)
    refine wpList_st1 27 (.tmp 78) (.tmp 73) rfl rfl (by rfl) (by rfl) hX (Nat.le_of_ble_eq_true rfl) rfl (by kernel_rfl) ?_
    intro W12 hX' gr'
    replace hX : Bk W12 gx 60 (inPk (fhC si st tl s6 sh sl s6 dh dl z0 0 pr) (tcC 0 0 0 0 0 0 0 0 none 0 0 none 0 0) (dgX z0 z1 z2 A1 n1 c1) (msgC 0 0 0 0 none 0 0)) := hX'
    replace hC := hC.trans (Chg.one gr' (rfl))
    clear hX' gr'
    iterate 2 (refine wpList_plain rfl (fun K hK => ?_); go_simp; with_reducible refine hK _ _ ?_; clear hK K)
    refine wpList_st1 27 (.tmp 80) (.tmp 76) rfl rfl (by rfl) (by rfl) hX (Nat.le_of_ble_eq_true rfl) rfl (by kernel_rfl) ?_
    intro W13 hX' gr'
    replace hX : Bk W13 gx 60 (inPk (fhC si st tl s6 sh sl s6 dh dl z0 z1 pr) (tcC 0 0 0 0 0 0 0 0 none 0 0 none 0 0) (dgX z0 z1 z2 A1 n1 c1) (msgC 0 0 0 0 none 0 0)) := hX'
    replace hC := hC.trans (Chg.one gr' (rfl))
    clear hX' gr'
    simp only [Act.put, List.setIfInBounds_toArray, List.set_cons_zero, List.set_cons_succ]
    rcases tkW_why hw with ⟨hE, hwy⟩ | ⟨hE, hf, hwy⟩ | ⟨hE, hf, hwy⟩
    · have hE1 : (E2 != 0) = true := by rw [bne_iff_ne]; exact hE
      obtain rfl := hpz (by rw [hwy]; exact ofN_ne hE)
      subst hwy
      clear hw hpz hpo hz hE
      go_upto_region 21 with (fail)
      refine wp_region_lit ?_
      iterate 2 (refine wpList_plain rfl (fun K hK => ?_); go_simp; with_reducible refine hK _ _ ?_; clear hK K)
      refine wpList_plain rfl (fun K hK => ?_)
      go_simp
      refine (ofR _ _).mono ?_
      rintro e w1 ⟨rfl, rfl⟩
      with_reducible refine hK _ _ ?_
      clear hK K
      refine wpList_stA 60 (.tmp 2) (.tmp 121) rfl rfl (inPk (fhC false false 0 false 0 0 false 0 0 0 0 0) (tcC 0 0 0 0 0 0 0 0 none 0 0 none 0 0) (dgX 0 0 0 none 0 0) (msgC 0 0 0 0 none 0 0)) (inPk (fhC false false 0 false 0 0 false 0 0 0 0 0) (tcC 0 0 0 0 0 0 0 0 none 0 0 none 0 0) (dgX 0 0 0 none 0 0) (msgC 0 0 0 0 none 0 0)) rfl (inPk_one (fhC_one _ _ _ _ _ _ _ _ _ _ _ _ ) (tcC_one _ _ _ _ _ _ _ _ _ _ _ _ _ _ ) (dgX_one _ _ _ _ _ _) (msgC_one _ _ _ _ _ _ _)) rfl rfl (b3.chg hC nR) (szRI_ (by rfl)) ?_
      intro W9 h9 g9
      refine wpList_plain rfl (fun K hK => ?_); go_simp; with_reducible refine hK _ _ ?_; clear hK K
      go_wp2
      refine bodyPost_agg2 Try.results23 rfl rfl h9.range i1 i2 (szRI_ (by rfl)) rfl ?_
      exact RetPI.zero_ (below_grown (be.trans (hC.below (B := w.heap.size) (fun b hb => by have hb2 : b = gx := hb; omega) be.size)) g9 (by omega))
    · obtain rfl := hpz (by rw [hwy]; decide)
      subst hwy
      subst hE
      obtain ⟨e0, e1, e2, e3, f1⟩ := hz rfl
      subst e0 e1 e2 e3
      rw [hgf2.out] at hf
      subst hf
      clear hw hpz hpo hz
      go_upto_region 23 with (fail)
      refine wp_region_lit ?_
      refine wpList_plain rfl (fun K hK => ?_); go_simp; with_reducible refine hK _ _ ?_; clear hK K
      refine wpList_stA 60 (.tmp 2) (.tmp 126) rfl rfl (inPk (fhC false false 0 false 0 0 false 0 0 0 0 0) (tcC 0 0 0 0 0 0 0 0 none 0 0 none 0 0) (dgX 0 0 0 none 0 0) (msgC 0 0 0 0 none 0 0)) (inPk (fhC false false 0 false 0 0 false 0 0 0 0 0) (tcC 0 0 0 0 0 0 0 0 none 0 0 none 0 0) (dgX 0 0 0 none 0 0) (msgC 0 0 0 0 none 0 0)) rfl (inPk_one (fhC_one _ _ _ _ _ _ _ _ _ _ _ _ ) (tcC_one _ _ _ _ _ _ _ _ _ _ _ _ _ _ ) (dgX_one _ _ _ _ _ _) (msgC_one _ _ _ _ _ _ _)) rfl rfl (b3.chg hC nR) (szRI_ (by rfl)) ?_
      intro W9 h9 g9
      simp only [Act.put, List.setIfInBounds_toArray, List.set_cons_zero, List.set_cons_succ]
      go_wp2
      refine bodyPost_agg2 Try.results23 rfl rfl h9.range i1 i2 (szRI_ (by rfl)) rfl ?_
      exact RetPI.zero_ (below_grown (be.trans (hC.below (B := w.heap.size) (fun b hb => by have hb2 : b = gx := hb; omega) be.size)) g9 (by omega))
    · obtain rfl := hpo hwy
      subst hwy
      subst hE
      obtain ⟨e0, e1, e2, e3, f1⟩ := hz rfl
      subst e0 e1 e2 e3
      rw [hgf2.out] at hf
      subst hf
      clear hw hpz hpo hz
      have be2 := be.trans (hC.below (B := w.heap.size) (fun b hb => by have hb2 : b = gx := hb; omega) be.size)
      replace b3 := b3.chg hC nR
      replace h1 := h1.chg hC (fun a ha hb => by have h' : a.block = gx := hb; have := f1 a ha; omega)
      clear hC hl
      go_upto_region 24 with (fail)
      refine wp_region_lit ?_
      refine wpList_ldA (t := 60) 60 (.tmp 4) rfl rfl (({ si := si, st := st, tl := tl, s6 := s6, sh := sh, sl := sl, d6 := s6, dh := dh, dl := dl, sp := x0, dp := x1, pr := pr, u0 := x0, u1 := x1, u2 := x2, o3 := o1 } : PI).cs none 0 0 none 0 0 A1 n1 c1 none 0 0) rfl hX rfl i1 i2 (szRI_ (by rfl)) ?_
      simp only [Act.put, List.setIfInBounds_toArray, List.set_cons_zero, List.set_cons_succ]
      refine wpList_stA 60 (.tmp 2) (.tmp 127) rfl rfl (({ si := si, st := st, tl := tl, s6 := s6, sh := sh, sl := sl, d6 := s6, dh := dh, dl := dl, sp := x0, dp := x1, pr := pr, u0 := x0, u1 := x1, u2 := x2, o3 := o1 } : PI).cs none 0 0 none 0 0 A1 n1 c1 none 0 0) (inPk (fhC false false 0 false 0 0 false 0 0 0 0 0) (tcC 0 0 0 0 0 0 0 0 none 0 0 none 0 0) (dgX 0 0 0 none 0 0) (msgC 0 0 0 0 none 0 0)) rfl (inPk_one (fhC_one _ _ _ _ _ _ _ _ _ _ _ _ ) (tcC_one _ _ _ _ _ _ _ _ _ _ _ _ _ _ ) (dgX_one _ _ _ _ _ _) (msgC_one _ _ _ _ _ _ _)) rfl rfl b3 (szRI_ (by rfl)) ?_
      intro W9 h9 g9
      simp only [Act.put, List.setIfInBounds_toArray, List.set_cons_zero, List.set_cons_succ]
      go_wp2
      refine bodyPost_agg2 Try.results23 rfl rfl h9.range i1 i2 (szRI_ (by rfl)) rfl ?_
      have hCg : Chg (fun b => b = w.heap.size) _ W9 := Chg.one g9 rfl
      exact RetPI.mk (p := { si := si, st := st, tl := tl, s6 := s6, sh := sh, sl := sl, d6 := s6, dh := dh, dl := dl, sp := x0, dp := x1, pr := pr, u0 := x0, u1 := x1, u2 := x2, o3 := o1 }) Rb.nil_ Rb.nil_ (h1.chg hCg (fun a ha hb => by have h' : a.block = w.heap.size := hb; have := f1 a ha; omega)) Rb.nil_ noRow noRow (fun a ha => by have := f1 a ha; omega) noRow (below_grown be2 g9 (by omega))
  · rcases hp with ⟨hp, hsi⟩ | ⟨hp, hsi⟩
    · subst hsi
      have hC : Chg (fun b => b = gx) W8 W8 := Chg.refl _
      have t6 : ((pr : Int) == 6) = false := by rw [beq_eq_false_iff_ne]; omega
      have t17 : ((pr : Int) == 17) = false := by rw [beq_eq_false_iff_ne]; omega
      have t1 : ((pr : Int) == 1) = true := by rw [beq_iff_eq]; omega
      clear hp
      have HP := Lib.hid any.R
      obtain ⟨b0, b1, b2, b3_⟩ := any.b
      have hlo := any.o
      have HF := Lib.hid (fun w A n c (h : Rb w A n c o1) (hn : n ≤ 10000) => refCheck x0 x1 x2 x3 A n c s6 sh sl s6 dh dl o1 w b0 b1 b2 b3_ k1 k2 k3 k4 h hn)
      clear any
      have HW : ((((65535 - fd (icT s6 sh sl s6 dh dl x0 x1 x2 x3 o1) : Nat) : Int) == 0) = (65535 - fd (icT s6 sh sl s6 dh dl x0 x1 x2 x3 o1) == 0)) := by rw [Bool.eq_iff_iff, beq_iff_eq, beq_iff_eq]; omega
      generalize 65535 - fd (icT s6 sh sl s6 dh dl x0 x1 x2 x3 o1) = qf at *
      have HWf := Lib.hid HW
      clear HW
      go_upto_region 6 with (fail)
      refine wp_region_lit ?_
      iterate 2 (refine wpList_plain rfl (fun K hK => ?_); go_simp; with_reducible refine hK _ _ ?_; clear hK K)
      refine wpList_ld1 (t := 60) (cs := inPk (fhC false st tl s6 sh sl s6 dh dl 0 0 pr) (tcC 0 0 0 0 0 0 0 0 none 0 0 none 0 0) (dgX 0 0 0 none 0 0) (msgC 0 0 0 0 none 0 0)) 5 (.tmp 24) rfl (by rfl) rfl (hX) rfl Try.underlying5 rfl ?_
      iterate 2 (refine wpList_plain rfl (fun K hK => ?_); go_simp; with_reducible refine hK _ _ ?_; clear hK K)
      go_upto_region 10 with (fail)
      refine wp_region_lit ?_
      iterate 2 (refine wpList_plain rfl (fun K hK => ?_); go_simp; with_reducible refine hK _ _ ?_; clear hK K)
      refine wpList_ld1 (t := 60) (cs := inPk (fhC false st tl s6 sh sl s6 dh dl 0 0 pr) (tcC 0 0 0 0 0 0 0 0 none 0 0 none 0 0) (dgX 0 0 0 none 0 0) (msgC 0 0 0 0 none 0 0)) 5 (.tmp 53) rfl (by rfl) rfl (hX) rfl Try.underlying5 rfl ?_
      iterate 2 (refine wpList_plain rfl (fun K hK => ?_); go_simp; with_reducible refine hK _ _ ?_; clear hK K)
      go_upto_region 14 with (fail)
      refine wp_region_lit ?_
      refine wpList_plain rfl (fun K hK => ?_); go_simp; with_reducible refine hK _ _ ?_; clear hK K
      refine wpList_ld1 (t := 60) (cs := inPk (fhC false st tl s6 sh sl s6 dh dl 0 0 pr) (tcC 0 0 0 0 0 0 0 0 none 0 0 none 0 0) (dgX 0 0 0 none 0 0) (msgC 0 0 0 0 none 0 0)) 4 (.tmp 82) rfl (by rfl) rfl (hX) rfl Try.underlying4 rfl ?_
      iterate 2 (refine wpList_plain rfl (fun K hK => ?_); go_simp; with_reducible refine hK _ _ ?_; clear hK K)
      iterate 2 (refine wpList_step (fun K hK => ?_); go_simp; with_reducible refine hK _ _ ?_; clear hK K)
      refine wpList_ld1 (t := 60) (cs := inPk (fhC false st tl s6 sh sl s6 dh dl 0 0 pr) (tcC 0 0 0 0 0 0 0 0 none 0 0 none 0 0) (dgX 0 0 0 none 0 0) (msgC 0 0 0 0 none 0 0)) 5 (.tmp 87) rfl (by go_simp) rfl (hX) rfl Try.underlying5 rfl ?_
      refine wpList_step (fun K hK => ?_); go_simp; with_reducible refine hK _ _ ?_; clear hK K
      iterate 2 (refine wpList_plain rfl (fun K hK => ?_); go_simp; with_reducible refine hK _ _ ?_; clear hK K)
      iterate 8 ((with_reducible refine wpList_skip ?_ ?_); (· first | (go_simp; done) | (go_simp; intro h; cases h)); simp only [Act.put, List.setIfInBounds_toArray, List.set_cons_zero, List.set_cons_succ])
      iterate 2 (refine wpList_plain rfl (fun K hK => ?_); go_simp; with_reducible refine hK _ _ ?_; clear hK K)
      go_upto_region 15 with (fail)
      go_wp2_with fail
      refine (HP.out _ _ _ _ hl).mono ?_
      rintro e w1 ⟨A1, n1, c1, bs2, d2, rfl, rfl, h1, f1⟩
      go_upto_region 16 with (refine at_op (.store 58 (.tmp 9) (.tmp 104)) rfl ?_; refine wpList_stA (t := 58) 58 (.tmp 9) (.tmp 104) rfl rfl (msgC x0 x1 x2 x3 A1 n1 c1) ((msgC 0 0 0 0 none 0 0)) rfl (msgC_one _ _ _ _ _ _ _) rfl rfl ?_ (szMr _ _ _ _ _ _ _) ?_; (· refine Bk.newK _ _ _ ?_ rfl; simp [size_plus]); intro W10 hS gr9)
      have b9 := below_grown (Below.allocS (below_plus W8 bs2 d2) _) gr9 (by omega)
      have b10 := below_grown (Below.allocS (Below.refl _ _) _) gr9 (by simp [size_plus])
      replace hC := hC.trans (Chg.of_below b9)
      replace hX := hX.later b9
      replace h1 := h1.later b10
      have hgs : gx < W8.heap.size + bs2.length := by omega
      clear b9 b10 gr9
      generalize W8.heap.size + bs2.length = gs at *
      have nS : ¬ (fun b => b = gx) gs := fun h => by have h' : gs = gx := h; omega
      have hCb := hC
      replace be := be.trans (hC.below (B := w.heap.size) (fun b hb => by have hb2 : b = gx := hb; omega) be.size)
      replace b3 := b3.chg hC nR
      replace hC : Chg (fun b => b = gx) W10 W10 := Chg.refl _
      obtain ⟨dr_, r1, r2⟩ := rowMr
      refine wp_region_lit ?_
      refine wpList_ldA (t := 58) 58 (.tmp 9) rfl rfl (msgC x0 x1 x2 x3 A1 n1 c1) rfl (hS.chg hC nS) (whole_ _) r1 r2 (szMr _ _ _ _ _ _ _ ) ?_
      refine wpList_plain rfl (fun K hK => ?_); go_simp; with_reducible refine hK _ _ ?_; clear hK K
      refine wpList_stM 58 (.tmp 107) (.tmp 106) rfl rfl (msgC x0 x1 x2 x3 A1 n1 c1) (inPk (fhC false st tl s6 sh sl s6 dh dl 0 0 pr) (tcC 0 0 0 0 0 0 0 0 none 0 0 none 0 0) (dgX 0 0 0 none 0 0) (msgC 0 0 0 0 none 0 0)) (Nat.le_of_ble_eq_true rfl) (msgC_one _ _ _ _ _ _ _ ) (by rfl) (by rfl) hX (szMr _ _ _ _ _ _ _ ) ?_
      intro W11 hX' gr'
      replace hX : Bk W11 gx 60 (inPk (fhC false st tl s6 sh sl s6 dh dl 0 0 pr) (tcC 0 0 0 0 0 0 0 0 none 0 0 none 0 0) (dgX 0 0 0 none 0 0) (msgC x0 x1 x2 x3 A1 n1 c1)) := hX'
      replace hC := hC.trans (Chg.one gr' (rfl))
      clear hX' gr'
      simp only [Act.put, List.setIfInBounds_toArray, List.set_cons_zero, List.set_cons_succ]
      cases ok
      · have nl1 : ∀ a, A1 = some a → ¬ (fun b => b = gx) a.block := fun a ha hb => by have h' : a.block = gx := hb; have := f1 a ha; omega
        have hn1 : n1 ≤ 10000 := by have := h1.1; omega
        have hE : ¬ ((20 : Int) = 0) := by decide
        go_upto_region 18 with (fail)
        go_upto_region 19 with (fail)
        refine wp_region_lit ?_
        refine wpList_ldA (t := 58) 58 (.tmp 9) rfl rfl (msgC x0 x1 x2 x3 A1 n1 c1) rfl (hS.chg hC nS) (whole_ _) r1 r2 (szMr _ _ _ _ _ _ _ ) ?_
        iterate 2 (refine wpList_plain rfl (fun K hK => ?_); go_simp; with_reducible refine hK _ _ ?_; clear hK K)
        refine wpList_ldA (t := 60) (cs := inPk (fhC false st tl s6 sh sl s6 dh dl 0 0 pr) (tcC 0 0 0 0 0 0 0 0 none 0 0 none 0 0) (dgX 0 0 0 none 0 0) (msgC x0 x1 x2 x3 A1 n1 c1)) 26 (.tmp 112) rfl rfl ([.bool s6, .int .u64 (sh : Int), .int .u64 (sl : Int)]) rfl (hX) rfl v1 v2 (szAd _ _ _) ?_
        iterate 2 (refine wpList_plain rfl (fun K hK => ?_); go_simp; with_reducible refine hK _ _ ?_; clear hK K)
        refine wpList_ldA (t := 60) (cs := inPk (fhC false st tl s6 sh sl s6 dh dl 0 0 pr) (tcC 0 0 0 0 0 0 0 0 none 0 0 none 0 0) (dgX 0 0 0 none 0 0) (msgC x0 x1 x2 x3 A1 n1 c1)) 26 (.tmp 115) rfl rfl ([.bool s6, .int .u64 (dh : Int), .int .u64 (dl : Int)]) rfl (hX) rfl v1 v2 (szAd _ _ _) ?_
        refine wpList_plain rfl (fun K hK => ?_)
        go_simp
        refine (HF.out _ _ _ _ (h1.chg hC nl1) hn1).mono ?_
        rintro e w1 ⟨bs3, d3, rfl, rfl⟩
        with_reducible refine hK _ _ ?_
        clear hK K
        replace hC := hC.trans (Chg.of_below (below_plus W11 bs3 d3))
        replace hX := hX.later (below_plus W11 bs3 d3)
        generalize plus W11 bs3 d3 = W12 at *
        iterate 2 (refine wpList_plain rfl (fun K hK => ?_); go_simp; with_reducible refine hK _ _ ?_; clear hK K)
        obtain rfl : why = ofN 20 := by rw [← hw]; rfl
        obtain rfl := hpz (by decide)
        clear hw hpz hpo
        go_upto_region 21 with (fail)
        refine wp_region_lit ?_
        iterate 2 (refine wpList_plain rfl (fun K hK => ?_); go_simp; with_reducible refine hK _ _ ?_; clear hK K)
        refine wpList_plain rfl (fun K hK => ?_)
        go_simp
        refine (ofR _ _).mono ?_
        rintro e w1 ⟨rfl, rfl⟩
        with_reducible refine hK _ _ ?_
        clear hK K
        refine wpList_stA 60 (.tmp 2) (.tmp 121) rfl rfl (inPk (fhC false false 0 false 0 0 false 0 0 0 0 0) (tcC 0 0 0 0 0 0 0 0 none 0 0 none 0 0) (dgX 0 0 0 none 0 0) (msgC 0 0 0 0 none 0 0)) (inPk (fhC false false 0 false 0 0 false 0 0 0 0 0) (tcC 0 0 0 0 0 0 0 0 none 0 0 none 0 0) (dgX 0 0 0 none 0 0) (msgC 0 0 0 0 none 0 0)) rfl (inPk_one (fhC_one _ _ _ _ _ _ _ _ _ _ _ _ ) (tcC_one _ _ _ _ _ _ _ _ _ _ _ _ _ _ ) (dgX_one _ _ _ _ _ _) (msgC_one _ _ _ _ _ _ _)) rfl rfl (b3.chg hC nR) (szRI_ (by rfl)) ?_
        intro W9 h9 g9
        refine wpList_plain rfl (fun K hK => ?_); go_simp; with_reducible refine hK _ _ ?_; clear hK K
        go_wp2
        refine bodyPost_agg2 Try.results23 rfl rfl h9.range i1 i2 (szRI_ (by rfl)) rfl ?_
        exact RetPI.zero_ (below_grown (be.trans (hC.below (B := w.heap.size) (fun b hb => by have hb2 : b = gx := hb; omega) be.size)) g9 (by omega))
      · have nl1 : ∀ a, A1 = some a → ¬ (fun b => b = gx) a.block := fun a ha hb => by have h' : a.block = gx := hb; have := f1 a ha; omega
        have hn1 : n1 ≤ 10000 := by have := h1.1; omega
        go_upto_region 19 with (fail)
        refine wp_region_lit ?_
        refine wpList_ldA (t := 58) 58 (.tmp 9) rfl rfl (msgC x0 x1 x2 x3 A1 n1 c1) rfl (hS.chg hC nS) (whole_ _) r1 r2 (szMr _ _ _ _ _ _ _ ) ?_
        iterate 2 (refine wpList_plain rfl (fun K hK => ?_); go_simp; with_reducible refine hK _ _ ?_; clear hK K)
        refine wpList_ldA (t := 60) (cs := inPk (fhC false st tl s6 sh sl s6 dh dl 0 0 pr) (tcC 0 0 0 0 0 0 0 0 none 0 0 none 0 0) (dgX 0 0 0 none 0 0) (msgC x0 x1 x2 x3 A1 n1 c1)) 26 (.tmp 112) rfl rfl ([.bool s6, .int .u64 (sh : Int), .int .u64 (sl : Int)]) rfl (hX) rfl v1 v2 (szAd _ _ _) ?_
        iterate 2 (refine wpList_plain rfl (fun K hK => ?_); go_simp; with_reducible refine hK _ _ ?_; clear hK K)
        refine wpList_ldA (t := 60) (cs := inPk (fhC false st tl s6 sh sl s6 dh dl 0 0 pr) (tcC 0 0 0 0 0 0 0 0 none 0 0 none 0 0) (dgX 0 0 0 none 0 0) (msgC x0 x1 x2 x3 A1 n1 c1)) 26 (.tmp 115) rfl rfl ([.bool s6, .int .u64 (dh : Int), .int .u64 (dl : Int)]) rfl (hX) rfl v1 v2 (szAd _ _ _) ?_
        refine wpList_plain rfl (fun K hK => ?_)
        go_simp
        refine (HF.out _ _ _ _ (h1.chg hC nl1) hn1).mono ?_
        rintro e w1 ⟨bs3, d3, rfl, rfl⟩
        with_reducible refine hK _ _ ?_
        clear hK K
        replace hC := hC.trans (Chg.of_below (below_plus W11 bs3 d3))
        replace hX := hX.later (below_plus W11 bs3 d3)
        generalize plus W11 bs3 d3 = W12 at *
        iterate 2 (refine wpList_plain rfl (fun K hK => ?_); go_simp; with_reducible refine hK _ _ ?_; clear hK K)
        rcases tkW_why hw with ⟨hE, hwy⟩ | ⟨hE, hf, hwy⟩ | ⟨hE, hf, hwy⟩
        · exact absurd rfl hE
        · obtain rfl := hpz (by rw [hwy]; decide)
          subst hwy
          have hf2 := HWf.out.trans hf
          clear hE hw hpz hpo
          go_upto_region 23 with (fail)
          refine wp_region_lit ?_
          refine wpList_plain rfl (fun K hK => ?_); go_simp; with_reducible refine hK _ _ ?_; clear hK K
          refine wpList_stA 60 (.tmp 2) (.tmp 126) rfl rfl (inPk (fhC false false 0 false 0 0 false 0 0 0 0 0) (tcC 0 0 0 0 0 0 0 0 none 0 0 none 0 0) (dgX 0 0 0 none 0 0) (msgC 0 0 0 0 none 0 0)) (inPk (fhC false false 0 false 0 0 false 0 0 0 0 0) (tcC 0 0 0 0 0 0 0 0 none 0 0 none 0 0) (dgX 0 0 0 none 0 0) (msgC 0 0 0 0 none 0 0)) rfl (inPk_one (fhC_one _ _ _ _ _ _ _ _ _ _ _ _ ) (tcC_one _ _ _ _ _ _ _ _ _ _ _ _ _ _ ) (dgX_one _ _ _ _ _ _) (msgC_one _ _ _ _ _ _ _)) rfl rfl (b3.chg hC nR) (szRI_ (by rfl)) ?_
          intro W9 h9 g9
          simp only [Act.put, List.setIfInBounds_toArray, List.set_cons_zero, List.set_cons_succ]
          go_wp2
          refine bodyPost_agg2 Try.results23 rfl rfl h9.range i1 i2 (szRI_ (by rfl)) rfl ?_
          exact RetPI.zero_ (below_grown (be.trans (hC.below (B := w.heap.size) (fun b hb => by have hb2 : b = gx := hb; omega) be.size)) g9 (by omega))
        · obtain rfl := hpo hwy
          subst hwy
          have hf2 := HWf.out.trans hf
          clear hE hw hpz hpo
          have be2 := be.trans (hC.below (B := w.heap.size) (fun b hb => by have hb2 : b = gx := hb; omega) be.size)
          replace b3 := b3.chg hC nR
          replace h1 := h1.chg hC (fun a ha hb => by have h' : a.block = gx := hb; have := f1 a ha; omega)
          clear hC hl
          go_upto_region 24 with (fail)
          refine wp_region_lit ?_
          refine wpList_ldA (t := 60) 60 (.tmp 4) rfl rfl (({ si := false, st := st, tl := tl, s6 := s6, sh := sh, sl := sl, d6 := s6, dh := dh, dl := dl, sp := 0, dp := 0, pr := pr, m0 := x0, m1 := x1, m2 := x2, m3 := x3, o4 := o1 } : PI).cs none 0 0 none 0 0 none 0 0 A1 n1 c1) rfl hX rfl i1 i2 (szRI_ (by rfl)) ?_
          simp only [Act.put, List.setIfInBounds_toArray, List.set_cons_zero, List.set_cons_succ]
          refine wpList_stA 60 (.tmp 2) (.tmp 127) rfl rfl (({ si := false, st := st, tl := tl, s6 := s6, sh := sh, sl := sl, d6 := s6, dh := dh, dl := dl, sp := 0, dp := 0, pr := pr, m0 := x0, m1 := x1, m2 := x2, m3 := x3, o4 := o1 } : PI).cs none 0 0 none 0 0 none 0 0 A1 n1 c1) (inPk (fhC false false 0 false 0 0 false 0 0 0 0 0) (tcC 0 0 0 0 0 0 0 0 none 0 0 none 0 0) (dgX 0 0 0 none 0 0) (msgC 0 0 0 0 none 0 0)) rfl (inPk_one (fhC_one _ _ _ _ _ _ _ _ _ _ _ _ ) (tcC_one _ _ _ _ _ _ _ _ _ _ _ _ _ _ ) (dgX_one _ _ _ _ _ _) (msgC_one _ _ _ _ _ _ _)) rfl rfl b3 (szRI_ (by rfl)) ?_
          intro W9 h9 g9
          simp only [Act.put, List.setIfInBounds_toArray, List.set_cons_zero, List.set_cons_succ]
          go_wp2
          refine bodyPost_agg2 Try.results23 rfl rfl h9.range i1 i2 (szRI_ (by rfl)) rfl ?_
          have hCg : Chg (fun b => b = w.heap.size) _ W9 := Chg.one g9 rfl
          exact RetPI.mk (p := { si := false, st := st, tl := tl, s6 := s6, sh := sh, sl := sl, d6 := s6, dh := dh, dl := dl, sp := 0, dp := 0, pr := pr, m0 := x0, m1 := x1, m2 := x2, m3 := x3, o4 := o1 }) Rb.nil_ Rb.nil_ Rb.nil_ (h1.chg hCg (fun a ha hb => by have h' : a.block = w.heap.size := hb; have := f1 a ha; omega)) noRow noRow noRow (fun a ha => by have := f1 a ha; omega) (below_grown be2 g9 (by omega))
    · subst hsi
      have hC : Chg (fun b => b = gx) W8 W8 := Chg.refl _
      have t6 : ((pr : Int) == 6) = false := by rw [beq_eq_false_iff_ne]; omega
      have t17 : ((pr : Int) == 17) = false := by rw [beq_eq_false_iff_ne]; omega
      have t58 : ((pr : Int) == 58) = true := by rw [beq_iff_eq]; omega
      clear hp
      have HP := Lib.hid any.R
      obtain ⟨b0, b1, b2, b3_⟩ := any.b
      have hlo := any.o
      have HF := Lib.hid (fun w A n c (h : Rb w A n c o1) (hn : n ≤ 10000) => refCheck x0 x1 x2 x3 A n c s6 sh sl s6 dh dl o1 w b0 b1 b2 b3_ k1 k2 k3 k4 h hn)
      clear any
      have HW : ((((65535 - fd (icT s6 sh sl s6 dh dl x0 x1 x2 x3 o1) : Nat) : Int) == 0) = (65535 - fd (icT s6 sh sl s6 dh dl x0 x1 x2 x3 o1) == 0)) := by rw [Bool.eq_iff_iff, beq_iff_eq, beq_iff_eq]; omega
      generalize 65535 - fd (icT s6 sh sl s6 dh dl x0 x1 x2 x3 o1) = qf at *
      have HWf := Lib.hid HW
      clear HW
      go_upto_region 6 with (fail)
      refine wp_region_lit ?_
      iterate 2 (refine wpList_plain rfl (fun K hK => ?_); go_simp; with_reducible refine hK _ _ ?_; clear hK K)
      refine wpList_ld1 (t := 60) (cs := inPk (fhC true st tl s6 sh sl s6 dh dl 0 0 pr) (tcC 0 0 0 0 0 0 0 0 none 0 0 none 0 0) (dgX 0 0 0 none 0 0) (msgC 0 0 0 0 none 0 0)) 5 (.tmp 24) rfl (by rfl) rfl (hX) rfl Try.underlying5 rfl ?_
      iterate 2 (refine wpList_plain rfl (fun K hK => ?_); go_simp; with_reducible refine hK _ _ ?_; clear hK K)
      go_upto_region 10 with (fail)
      refine wp_region_lit ?_
      iterate 2 (refine wpList_plain rfl (fun K hK => ?_); go_simp; with_reducible refine hK _ _ ?_; clear hK K)
      refine wpList_ld1 (t := 60) (cs := inPk (fhC true st tl s6 sh sl s6 dh dl 0 0 pr) (tcC 0 0 0 0 0 0 0 0 none 0 0 none 0 0) (dgX 0 0 0 none 0 0) (msgC 0 0 0 0 none 0 0)) 5 (.tmp 53) rfl (by rfl) rfl (hX) rfl Try.underlying5 rfl ?_
      iterate 2 (refine wpList_plain rfl (fun K hK => ?_); go_simp; with_reducible refine hK _ _ ?_; clear hK K)
      go_upto_region 14 with (fail)
      refine wp_region_lit ?_
      refine wpList_plain rfl (fun K hK => ?_); go_simp; with_reducible refine hK _ _ ?_; clear hK K
      refine wpList_ld1 (t := 60) (cs := inPk (fhC true st tl s6 sh sl s6 dh dl 0 0 pr) (tcC 0 0 0 0 0 0 0 0 none 0 0 none 0 0) (dgX 0 0 0 none 0 0) (msgC 0 0 0 0 none 0 0)) 4 (.tmp 82) rfl (by rfl) rfl (hX) rfl Try.underlying4 rfl ?_
      iterate 2 (refine wpList_plain rfl (fun K hK => ?_); go_simp; with_reducible refine hK _ _ ?_; clear hK K)
      iterate 4 ((with_reducible refine wpList_skip ?_ ?_); (· first | (go_simp; done) | (go_simp; intro h; cases h)); simp only [Act.put, List.setIfInBounds_toArray, List.set_cons_zero, List.set_cons_succ])
      iterate 2 (refine wpList_plain rfl (fun K hK => ?_); go_simp; with_reducible refine hK _ _ ?_; clear hK K)
      refine wpList_step (fun K hK => ?_); go_simp; with_reducible refine hK _ _ ?_; clear hK K
      refine wpList_ld1 (t := 60) (cs := inPk (fhC true st tl s6 sh sl s6 dh dl 0 0 pr) (tcC 0 0 0 0 0 0 0 0 none 0 0 none 0 0) (dgX 0 0 0 none 0 0) (msgC 0 0 0 0 none 0 0)) 4 (.tmp 92) rfl (by go_simp) rfl (hX) rfl Try.underlying4 rfl ?_
      iterate 3 (refine wpList_step (fun K hK => ?_); go_simp; with_reducible refine hK _ _ ?_; clear hK K)
      refine wpList_ld1 (t := 60) (cs := inPk (fhC true st tl s6 sh sl s6 dh dl 0 0 pr) (tcC 0 0 0 0 0 0 0 0 none 0 0 none 0 0) (dgX 0 0 0 none 0 0) (msgC 0 0 0 0 none 0 0)) 5 (.tmp 96) rfl (by go_simp) rfl (hX) rfl Try.underlying5 rfl ?_
      iterate 2 (refine wpList_step (fun K hK => ?_); go_simp; with_reducible refine hK _ _ ?_; clear hK K)
      iterate 2 (refine wpList_plain rfl (fun K hK => ?_); go_simp; with_reducible refine hK _ _ ?_; clear hK K)
      go_upto_region 15 with (fail)
      go_wp2_with fail
      refine (HP.out _ _ _ _ hl).mono ?_
      rintro e w1 ⟨A1, n1, c1, bs2, d2, rfl, rfl, h1, f1⟩
      go_upto_region 16 with (refine at_op (.store 58 (.tmp 9) (.tmp 104)) rfl ?_; refine wpList_stA (t := 58) 58 (.tmp 9) (.tmp 104) rfl rfl (msgC x0 x1 x2 x3 A1 n1 c1) ((msgC 0 0 0 0 none 0 0)) rfl (msgC_one _ _ _ _ _ _ _) rfl rfl ?_ (szMr _ _ _ _ _ _ _) ?_; (· refine Bk.newK _ _ _ ?_ rfl; simp [size_plus]); intro W10 hS gr9)
      have b9 := below_grown (Below.allocS (below_plus W8 bs2 d2) _) gr9 (by omega)
      have b10 := below_grown (Below.allocS (Below.refl _ _) _) gr9 (by simp [size_plus])
      replace hC := hC.trans (Chg.of_below b9)
      replace hX := hX.later b9
      replace h1 := h1.later b10
      have hgs : gx < W8.heap.size + bs2.length := by omega
      clear b9 b10 gr9
      generalize W8.heap.size + bs2.length = gs at *
      have nS : ¬ (fun b => b = gx) gs := fun h => by have h' : gs = gx := h; omega
      have hCb := hC
      replace be := be.trans (hC.below (B := w.heap.size) (fun b hb => by have hb2 : b = gx := hb; omega) be.size)
      replace b3 := b3.chg hC nR
      replace hC : Chg (fun b => b = gx) W10 W10 := Chg.refl _
      obtain ⟨dr_, r1, r2⟩ := rowMr
      refine wp_region_lit ?_
      refine wpList_ldA (t := 58) 58 (.tmp 9) rfl rfl (msgC x0 x1 x2 x3 A1 n1 c1) rfl (hS.chg hC nS) (whole_ _) r1 r2 (szMr _ _ _ _ _ _ _ ) ?_
      refine wpList_plain rfl (fun K hK => ?_); go_simp; with_reducible refine hK _ _ ?_; clear hK K
      refine wpList_stM 58 (.tmp 107) (.tmp 106) rfl rfl (msgC x0 x1 x2 x3 A1 n1 c1) (inPk (fhC true st tl s6 sh sl s6 dh dl 0 0 pr) (tcC 0 0 0 0 0 0 0 0 none 0 0 none 0 0) (dgX 0 0 0 none 0 0) (msgC 0 0 0 0 none 0 0)) (Nat.le_of_ble_eq_true rfl) (msgC_one _ _ _ _ _ _ _ ) (by rfl) (by rfl) hX (szMr _ _ _ _ _ _ _ ) ?_
      intro W11 hX' gr'
      replace hX : Bk W11 gx 60 (inPk (fhC true st tl s6 sh sl s6 dh dl 0 0 pr) (tcC 0 0 0 0 0 0 0 0 none 0 0 none 0 0) (dgX 0 0 0 none 0 0) (msgC x0 x1 x2 x3 A1 n1 c1)) := hX'
      replace hC := hC.trans (Chg.one gr' (rfl))
      clear hX' gr'
      simp only [Act.put, List.setIfInBounds_toArray, List.set_cons_zero, List.set_cons_succ]
      cases ok
      · have nl1 : ∀ a, A1 = some a → ¬ (fun b => b = gx) a.block := fun a ha hb => by have h' : a.block = gx := hb; have := f1 a ha; omega
        have hn1 : n1 ≤ 10000 := by have := h1.1; omega
        have hE : ¬ ((20 : Int) = 0) := by decide
        go_upto_region 18 with (fail)
        go_upto_region 19 with (fail)
        refine wp_region_lit ?_
        refine wpList_ldA (t := 58) 58 (.tmp 9) rfl rfl (msgC x0 x1 x2 x3 A1 n1 c1) rfl (hS.chg hC nS) (whole_ _) r1 r2 (szMr _ _ _ _ _ _ _ ) ?_
        iterate 2 (refine wpList_plain rfl (fun K hK => ?_); go_simp; with_reducible refine hK _ _ ?_; clear hK K)
        refine wpList_ldA (t := 60) (cs := inPk (fhC true st tl s6 sh sl s6 dh dl 0 0 pr) (tcC 0 0 0 0 0 0 0 0 none 0 0 none 0 0) (dgX 0 0 0 none 0 0) (msgC x0 x1 x2 x3 A1 n1 c1)) 26 (.tmp 112) rfl rfl ([.bool s6, .int .u64 (sh : Int), .int .u64 (sl : Int)]) rfl (hX) rfl v1 v2 (szAd _ _ _) ?_
        iterate 2 (refine wpList_plain rfl (fun K hK => ?_); go_simp; with_reducible refine hK _ _ ?_; clear hK K)
        refine wpList_ldA (t := 60) (cs := inPk (fhC true st tl s6 sh sl s6 dh dl 0 0 pr) (tcC 0 0 0 0 0 0 0 0 none 0 0 none 0 0) (dgX 0 0 0 none 0 0) (msgC x0 x1 x2 x3 A1 n1 c1)) 26 (.tmp 115) rfl rfl ([.bool s6, .int .u64 (dh : Int), .int .u64 (dl : Int)]) rfl (hX) rfl v1 v2 (szAd _ _ _) ?_
        refine wpList_plain rfl (fun K hK => ?_)
        go_simp
        refine (HF.out _ _ _ _ (h1.chg hC nl1) hn1).mono ?_
        rintro e w1 ⟨bs3, d3, rfl, rfl⟩
        with_reducible refine hK _ _ ?_
        clear hK K
        replace hC := hC.trans (Chg.of_below (below_plus W11 bs3 d3))
        replace hX := hX.later (below_plus W11 bs3 d3)
        generalize plus W11 bs3 d3 = W12 at *
        iterate 2 (refine wpList_plain rfl (fun K hK => ?_); go_simp; with_reducible refine hK _ _ ?_; clear hK K)
        obtain rfl : why = ofN 20 := by rw [← hw]; rfl
        obtain rfl := hpz (by decide)
        clear hw hpz hpo
        go_upto_region 21 with (fail)
        refine wp_region_lit ?_
        iterate 2 (refine wpList_plain rfl (fun K hK => ?_); go_simp; with_reducible refine hK _ _ ?_; clear hK K)
        refine wpList_plain rfl (fun K hK => ?_)
        go_simp
        refine (ofR _ _).mono ?_
        rintro e w1 ⟨rfl, rfl⟩
        with_reducible refine hK _ _ ?_
        clear hK K
        refine wpList_stA 60 (.tmp 2) (.tmp 121) rfl rfl (inPk (fhC false false 0 false 0 0 false 0 0 0 0 0) (tcC 0 0 0 0 0 0 0 0 none 0 0 none 0 0) (dgX 0 0 0 none 0 0) (msgC 0 0 0 0 none 0 0)) (inPk (fhC false false 0 false 0 0 false 0 0 0 0 0) (tcC 0 0 0 0 0 0 0 0 none 0 0 none 0 0) (dgX 0 0 0 none 0 0) (msgC 0 0 0 0 none 0 0)) rfl (inPk_one (fhC_one _ _ _ _ _ _ _ _ _ _ _ _ ) (tcC_one _ _ _ _ _ _ _ _ _ _ _ _ _ _ ) (dgX_one _ _ _ _ _ _) (msgC_one _ _ _ _ _ _ _)) rfl rfl (b3.chg hC nR) (szRI_ (by rfl)) ?_
        intro W9 h9 g9
        refine wpList_plain rfl (fun K hK => ?_); go_simp; with_reducible refine hK _ _ ?_; clear hK K
        go_wp2
        refine bodyPost_agg2 Try.results23 rfl rfl h9.range i1 i2 (szRI_ (by rfl)) rfl ?_
        exact RetPI.zero_ (below_grown (be.trans (hC.below (B := w.heap.size) (fun b hb => by have hb2 : b = gx := hb; omega) be.size)) g9 (by omega))
      · have nl1 : ∀ a, A1 = some a → ¬ (fun b => b = gx) a.block := fun a ha hb => by have h' : a.block = gx := hb; have := f1 a ha; omega
        have hn1 : n1 ≤ 10000 := by have := h1.1; omega
        go_upto_region 19 with (fail)
        refine wp_region_lit ?_
        refine wpList_ldA (t := 58) 58 (.tmp 9) rfl rfl (msgC x0 x1 x2 x3 A1 n1 c1) rfl (hS.chg hC nS) (whole_ _) r1 r2 (szMr _ _ _ _ _ _ _ ) ?_
        iterate 2 (refine wpList_plain rfl (fun K hK => ?_); go_simp; with_reducible refine hK _ _ ?_; clear hK K)
        refine wpList_ldA (t := 60) (cs := inPk (fhC true st tl s6 sh sl s6 dh dl 0 0 pr) (tcC 0 0 0 0 0 0 0 0 none 0 0 none 0 0) (dgX 0 0 0 none 0 0) (msgC x0 x1 x2 x3 A1 n1 c1)) 26 (.tmp 112) rfl rfl ([.bool s6, .int .u64 (sh : Int), .int .u64 (sl : Int)]) rfl (hX) rfl v1 v2 (szAd _ _ _) ?_
        iterate 2 (refine wpList_plain rfl (fun K hK => ?_); go_simp; with_reducible refine hK _ _ ?_; clear hK K)
        refine wpList_ldA (t := 60) (cs := inPk (fhC true st tl s6 sh sl s6 dh dl 0 0 pr) (tcC 0 0 0 0 0 0 0 0 none 0 0 none 0 0) (dgX 0 0 0 none 0 0) (msgC x0 x1 x2 x3 A1 n1 c1)) 26 (.tmp 115) rfl rfl ([.bool s6, .int .u64 (dh : Int), .int .u64 (dl : Int)]) rfl (hX) rfl v1 v2 (szAd _ _ _) ?_
        refine wpList_plain rfl (fun K hK => ?_)
        go_simp
        refine (HF.out _ _ _ _ (h1.chg hC nl1) hn1).mono ?_
        rintro e w1 ⟨bs3, d3, rfl, rfl⟩
        with_reducible refine hK _ _ ?_
        clear hK K
        replace hC := hC.trans (Chg.of_below (below_plus W11 bs3 d3))
        replace hX := hX.later (below_plus W11 bs3 d3)
        generalize plus W11 bs3 d3 = W12 at *
        iterate 2 (refine wpList_plain rfl (fun K hK => ?_); go_simp; with_reducible refine hK _ _ ?_; clear hK K)
        rcases tkW_why hw with ⟨hE, hwy⟩ | ⟨hE, hf, hwy⟩ | ⟨hE, hf, hwy⟩
        · exact absurd rfl hE
        · obtain rfl := hpz (by rw [hwy]; decide)
          subst hwy
          have hf2 := HWf.out.trans hf
          clear hE hw hpz hpo
          go_upto_region 23 with (fail)
          refine wp_region_lit ?_
          refine wpList_plain rfl (fun K hK => ?_); go_simp; with_reducible refine hK _ _ ?_; clear hK K
          refine wpList_stA 60 (.tmp 2) (.tmp 126) rfl rfl (inPk (fhC false false 0 false 0 0 false 0 0 0 0 0) (tcC 0 0 0 0 0 0 0 0 none 0 0 none 0 0) (dgX 0 0 0 none 0 0) (msgC 0 0 0 0 none 0 0)) (inPk (fhC false false 0 false 0 0 false 0 0 0 0 0) (tcC 0 0 0 0 0 0 0 0 none 0 0 none 0 0) (dgX 0 0 0 none 0 0) (msgC 0 0 0 0 none 0 0)) rfl (inPk_one (fhC_one _ _ _ _ _ _ _ _ _ _ _ _ ) (tcC_one _ _ _ _ _ _ _ _ _ _ _ _ _ _ ) (dgX_one _ _ _ _ _ _) (msgC_one _ _ _ _ _ _ _)) rfl rfl (b3.chg hC nR) (szRI_ (by rfl)) ?_
          intro W9 h9 g9
          simp only [Act.put, List.setIfInBounds_toArray, List.set_cons_zero, List.set_cons_succ]
          go_wp2
          refine bodyPost_agg2 Try.results23 rfl rfl h9.range i1 i2 (szRI_ (by rfl)) rfl ?_
          exact RetPI.zero_ (below_grown (be.trans (hC.below (B := w.heap.size) (fun b hb => by have hb2 : b = gx := hb; omega) be.size)) g9 (by omega))
        · obtain rfl := hpo hwy
          subst hwy
          have hf2 := HWf.out.trans hf
          clear hE hw hpz hpo
          have be2 := be.trans (hC.below (B := w.heap.size) (fun b hb => by have hb2 : b = gx := hb; omega) be.size)
          replace b3 := b3.chg hC nR
          replace h1 := h1.chg hC (fun a ha hb => by have h' : a.block = gx := hb; have := f1 a ha; omega)
          clear hC hl
          go_upto_region 24 with (fail)
          refine wp_region_lit ?_
          refine wpList_ldA (t := 60) 60 (.tmp 4) rfl rfl (({ si := true, st := st, tl := tl, s6 := s6, sh := sh, sl := sl, d6 := s6, dh := dh, dl := dl, sp := 0, dp := 0, pr := pr, m0 := x0, m1 := x1, m2 := x2, m3 := x3, o4 := o1 } : PI).cs none 0 0 none 0 0 none 0 0 A1 n1 c1) rfl hX rfl i1 i2 (szRI_ (by rfl)) ?_
          simp only [Act.put, List.setIfInBounds_toArray, List.set_cons_zero, List.set_cons_succ]
          refine wpList_stA 60 (.tmp 2) (.tmp 127) rfl rfl (({ si := true, st := st, tl := tl, s6 := s6, sh := sh, sl := sl, d6 := s6, dh := dh, dl := dl, sp := 0, dp := 0, pr := pr, m0 := x0, m1 := x1, m2 := x2, m3 := x3, o4 := o1 } : PI).cs none 0 0 none 0 0 none 0 0 A1 n1 c1) (inPk (fhC false false 0 false 0 0 false 0 0 0 0 0) (tcC 0 0 0 0 0 0 0 0 none 0 0 none 0 0) (dgX 0 0 0 none 0 0) (msgC 0 0 0 0 none 0 0)) rfl (inPk_one (fhC_one _ _ _ _ _ _ _ _ _ _ _ _ ) (tcC_one _ _ _ _ _ _ _ _ _ _ _ _ _ _ ) (dgX_one _ _ _ _ _ _) (msgC_one _ _ _ _ _ _ _)) rfl rfl b3 (szRI_ (by rfl)) ?_
          intro W9 h9 g9
          simp only [Act.put, List.setIfInBounds_toArray, List.set_cons_zero, List.set_cons_succ]
          go_wp2
          refine bodyPost_agg2 Try.results23 rfl rfl h9.range i1 i2 (szRI_ (by rfl)) rfl ?_
          have hCg : Chg (fun b => b = w.heap.size) _ W9 := Chg.one g9 rfl
          exact RetPI.mk (p := { si := true, st := st, tl := tl, s6 := s6, sh := sh, sl := sl, d6 := s6, dh := dh, dl := dl, sp := 0, dp := 0, pr := pr, m0 := x0, m1 := x1, m2 := x2, m3 := x3, o4 := o1 }) Rb.nil_ Rb.nil_ Rb.nil_ (h1.chg hCg (fun a ha hb => by have h' : a.block = w.heap.size := hb; have := f1 a ha; omega)) noRow noRow noRow (fun a ha => by have := f1 a ha; omega) (below_grown be2 g9 (by omega))
  · have hC : Chg (fun b => b = gx) W8 W8 := Chg.refl _
    cases si
    · have q1 : pr ≠ 1 := fun h => p1 ⟨h, rfl⟩
      have t6 : ((pr : Int) == 6) = false := by rw [beq_eq_false_iff_ne]; omega
      have t17 : ((pr : Int) == 17) = false := by rw [beq_eq_false_iff_ne]; omega
      have t1 : ((pr : Int) == 1) = false := by rw [beq_eq_false_iff_ne]; omega
      clear p6 p17 p1 p58
      go_upto_region 6 with (fail)
      refine wp_region_lit ?_
      iterate 2 (refine wpList_plain rfl (fun K hK => ?_); go_simp; with_reducible refine hK _ _ ?_; clear hK K)
      refine wpList_ld1 (t := 60) (cs := inPk (fhC false st tl s6 sh sl s6 dh dl 0 0 pr) (tcC 0 0 0 0 0 0 0 0 none 0 0 none 0 0) (dgX 0 0 0 none 0 0) (msgC 0 0 0 0 none 0 0)) 5 (.tmp 24) rfl (by rfl) rfl (hX) rfl Try.underlying5 rfl ?_
      iterate 2 (refine wpList_plain rfl (fun K hK => ?_); go_simp; with_reducible refine hK _ _ ?_; clear hK K)
      go_upto_region 10 with (fail)
      refine wp_region_lit ?_
      iterate 2 (refine wpList_plain rfl (fun K hK => ?_); go_simp; with_reducible refine hK _ _ ?_; clear hK K)
      refine wpList_ld1 (t := 60) (cs := inPk (fhC false st tl s6 sh sl s6 dh dl 0 0 pr) (tcC 0 0 0 0 0 0 0 0 none 0 0 none 0 0) (dgX 0 0 0 none 0 0) (msgC 0 0 0 0 none 0 0)) 5 (.tmp 53) rfl (by rfl) rfl (hX) rfl Try.underlying5 rfl ?_
      iterate 2 (refine wpList_plain rfl (fun K hK => ?_); go_simp; with_reducible refine hK _ _ ?_; clear hK K)
      go_upto_region 14 with (fail)
      refine wp_region_lit ?_
      refine wpList_plain rfl (fun K hK => ?_); go_simp; with_reducible refine hK _ _ ?_; clear hK K
      refine wpList_ld1 (t := 60) (cs := inPk (fhC false st tl s6 sh sl s6 dh dl 0 0 pr) (tcC 0 0 0 0 0 0 0 0 none 0 0 none 0 0) (dgX 0 0 0 none 0 0) (msgC 0 0 0 0 none 0 0)) 4 (.tmp 82) rfl (by rfl) rfl (hX) rfl Try.underlying4 rfl ?_
      iterate 2 (refine wpList_plain rfl (fun K hK => ?_); go_simp; with_reducible refine hK _ _ ?_; clear hK K)
      iterate 2 (refine wpList_step (fun K hK => ?_); go_simp; with_reducible refine hK _ _ ?_; clear hK K)
      refine wpList_ld1 (t := 60) (cs := inPk (fhC false st tl s6 sh sl s6 dh dl 0 0 pr) (tcC 0 0 0 0 0 0 0 0 none 0 0 none 0 0) (dgX 0 0 0 none 0 0) (msgC 0 0 0 0 none 0 0)) 5 (.tmp 87) rfl (by go_simp) rfl (hX) rfl Try.underlying5 rfl ?_
      refine wpList_step (fun K hK => ?_); go_simp; with_reducible refine hK _ _ ?_; clear hK K
      iterate 2 (refine wpList_plain rfl (fun K hK => ?_); go_simp; with_reducible refine hK _ _ ?_; clear hK K)
      refine wpList_step (fun K hK => ?_); go_simp; with_reducible refine hK _ _ ?_; clear hK K
      refine wpList_ld1 (t := 60) (cs := inPk (fhC false st tl s6 sh sl s6 dh dl 0 0 pr) (tcC 0 0 0 0 0 0 0 0 none 0 0 none 0 0) (dgX 0 0 0 none 0 0) (msgC 0 0 0 0 none 0 0)) 4 (.tmp 92) rfl (by go_simp) rfl (hX) rfl Try.underlying4 rfl ?_
      refine wpList_step (fun K hK => ?_); go_simp; with_reducible refine hK _ _ ?_; clear hK K
      iterate 4 ((with_reducible refine wpList_skip ?_ ?_); (· first | (go_simp; done) | (go_simp; intro h; cases h)); simp only [Act.put, List.setIfInBounds_toArray, List.set_cons_zero, List.set_cons_succ])
      refine wpList_step (fun K hK => ?_); go_simp; with_reducible refine hK _ _ ?_; clear hK K
      iterate 2 (refine wpList_plain rfl (fun K hK => ?_); go_simp; with_reducible refine hK _ _ ?_; clear hK K)
      go_upto_region 5 with (fail)
      refine wp_region_lit ?_
      refine wpList_plain rfl (fun K hK => ?_); go_simp; with_reducible refine hK _ _ ?_; clear hK K
      refine wpList_stA 60 (.tmp 2) (.tmp 21) rfl rfl (inPk (fhC false false 0 false 0 0 false 0 0 0 0 0) (tcC 0 0 0 0 0 0 0 0 none 0 0 none 0 0) (dgX 0 0 0 none 0 0) (msgC 0 0 0 0 none 0 0)) (inPk (fhC false false 0 false 0 0 false 0 0 0 0 0) (tcC 0 0 0 0 0 0 0 0 none 0 0 none 0 0) (dgX 0 0 0 none 0 0) (msgC 0 0 0 0 none 0 0)) rfl (inPk_one (fhC_one _ _ _ _ _ _ _ _ _ _ _ _ ) (tcC_one _ _ _ _ _ _ _ _ _ _ _ _ _ _ ) (dgX_one _ _ _ _ _ _) (msgC_one _ _ _ _ _ _ _)) rfl rfl (b3.chg hC nR) (szRI_ (by rfl)) ?_
      intro W9 h9 g9
      simp only [Act.put, List.setIfInBounds_toArray, List.set_cons_zero, List.set_cons_succ]
      go_wp2
      refine bodyPost_agg2 Try.results23 rfl rfl h9.range i1 i2 (szRI_ (by rfl)) rfl ?_
      exact RetPI.zero_ (below_grown (be.trans (hC.below (B := w.heap.size) (fun b hb => by have hb2 : b = gx := hb; omega) be.size)) g9 (by omega))
    · have q58 : pr ≠ 58 := fun h => p58 ⟨h, rfl⟩
      have t6 : ((pr : Int) == 6) = false := by rw [beq_eq_false_iff_ne]; omega
      have t17 : ((pr : Int) == 17) = false := by rw [beq_eq_false_iff_ne]; omega
      have t58 : ((pr : Int) == 58) = false := by rw [beq_eq_false_iff_ne]; omega
      clear p6 p17 p1 p58
      go_upto_region 6 with (fail)
      refine wp_region_lit ?_
      iterate 2 (refine wpList_plain rfl (fun K hK => ?_); go_simp; with_reducible refine hK _ _ ?_; clear hK K)
      refine wpList_ld1 (t := 60) (cs := inPk (fhC true st tl s6 sh sl s6 dh dl 0 0 pr) (tcC 0 0 0 0 0 0 0 0 none 0 0 none 0 0) (dgX 0 0 0 none 0 0) (msgC 0 0 0 0 none 0 0)) 5 (.tmp 24) rfl (by rfl) rfl (hX) rfl Try.underlying5 rfl ?_
      iterate 2 (refine wpList_plain rfl (fun K hK => ?_); go_simp; with_reducible refine hK _ _ ?_; clear hK K)
      go_upto_region 10 with (fail)
      refine wp_region_lit ?_
      iterate 2 (refine wpList_plain rfl (fun K hK => ?_); go_simp; with_reducible refine hK _ _ ?_; clear hK K)
      refine wpList_ld1 (t := 60) (cs := inPk (fhC true st tl s6 sh sl s6 dh dl 0 0 pr) (tcC 0 0 0 0 0 0 0 0 none 0 0 none 0 0) (dgX 0 0 0 none 0 0) (msgC 0 0 0 0 none 0 0)) 5 (.tmp 53) rfl (by rfl) rfl (hX) rfl Try.underlying5 rfl ?_
      iterate 2 (refine wpList_plain rfl (fun K hK => ?_); go_simp; with_reducible refine hK _ _ ?_; clear hK K)
      go_upto_region 14 with (fail)
      refine wp_region_lit ?_
      refine wpList_plain rfl (fun K hK => ?_); go_simp; with_reducible refine hK _ _ ?_; clear hK K
      refine wpList_ld1 (t := 60) (cs := inPk (fhC true st tl s6 sh sl s6 dh dl 0 0 pr) (tcC 0 0 0 0 0 0 0 0 none 0 0 none 0 0) (dgX 0 0 0 none 0 0) (msgC 0 0 0 0 none 0 0)) 4 (.tmp 82) rfl (by rfl) rfl (hX) rfl Try.underlying4 rfl ?_
      iterate 2 (refine wpList_plain rfl (fun K hK => ?_); go_simp; with_reducible refine hK _ _ ?_; clear hK K)
      iterate 4 ((with_reducible refine wpList_skip ?_ ?_); (· first | (go_simp; done) | (go_simp; intro h; cases h)); simp only [Act.put, List.setIfInBounds_toArray, List.set_cons_zero, List.set_cons_succ])
      iterate 2 (refine wpList_plain rfl (fun K hK => ?_); go_simp; with_reducible refine hK _ _ ?_; clear hK K)
      refine wpList_step (fun K hK => ?_); go_simp; with_reducible refine hK _ _ ?_; clear hK K
      refine wpList_ld1 (t := 60) (cs := inPk (fhC true st tl s6 sh sl s6 dh dl 0 0 pr) (tcC 0 0 0 0 0 0 0 0 none 0 0 none 0 0) (dgX 0 0 0 none 0 0) (msgC 0 0 0 0 none 0 0)) 4 (.tmp 92) rfl (by go_simp) rfl (hX) rfl Try.underlying4 rfl ?_
      iterate 3 (refine wpList_step (fun K hK => ?_); go_simp; with_reducible refine hK _ _ ?_; clear hK K)
      refine wpList_ld1 (t := 60) (cs := inPk (fhC true st tl s6 sh sl s6 dh dl 0 0 pr) (tcC 0 0 0 0 0 0 0 0 none 0 0 none 0 0) (dgX 0 0 0 none 0 0) (msgC 0 0 0 0 none 0 0)) 5 (.tmp 96) rfl (by go_simp) rfl (hX) rfl Try.underlying5 rfl ?_
      iterate 2 (refine wpList_step (fun K hK => ?_); go_simp; with_reducible refine hK _ _ ?_; clear hK K)
      iterate 2 (refine wpList_plain rfl (fun K hK => ?_); go_simp; with_reducible refine hK _ _ ?_; clear hK K)
      go_upto_region 5 with (fail)
      refine wp_region_lit ?_
      refine wpList_plain rfl (fun K hK => ?_); go_simp; with_reducible refine hK _ _ ?_; clear hK K
      refine wpList_stA 60 (.tmp 2) (.tmp 21) rfl rfl (inPk (fhC false false 0 false 0 0 false 0 0 0 0 0) (tcC 0 0 0 0 0 0 0 0 none 0 0 none 0 0) (dgX 0 0 0 none 0 0) (msgC 0 0 0 0 none 0 0)) (inPk (fhC false false 0 false 0 0 false 0 0 0 0 0) (tcC 0 0 0 0 0 0 0 0 none 0 0 none 0 0) (dgX 0 0 0 none 0 0) (msgC 0 0 0 0 none 0 0)) rfl (inPk_one (fhC_one _ _ _ _ _ _ _ _ _ _ _ _ ) (tcC_one _ _ _ _ _ _ _ _ _ _ _ _ _ _ ) (dgX_one _ _ _ _ _ _) (msgC_one _ _ _ _ _ _ _)) rfl rfl (b3.chg hC nR) (szRI_ (by rfl)) ?_
      intro W9 h9 g9
      simp only [Act.put, List.setIfInBounds_toArray, List.set_cons_zero, List.set_cons_succ]
      go_wp2
      refine bodyPost_agg2 Try.results23 rfl rfl h9.range i1 i2 (szRI_ (by rfl)) rfl ?_
      exact RetPI.zero_ (below_grown (be.trans (hC.below (B := w.heap.size) (fun b hb => by have hb2 : b = gx := hb; omega) be.size)) g9 (by omega))
set_option maxHeartbeats 4000000 in
set_option maxRecDepth 100000 in
theorem refRead_bad (A : Option Addr) (n c : Nat) (y : Int) (hy : (y == 0) = false) (p : PI) (why : Int) (w : World) (HO : ∀ w', Below w.heap.size w w' → Calls Try.prog 59 #[.slice A n c] w' (RetOu w' (fhC false false 0 false 0 0 false 0 0 0 0 0) [] y)) (HH : ∀ w', Below w.heap.size w w' → Calls Try.prog 23 #[.slice A n c] w' (RetPI w' p why)) : Calls Try.prog 21 #[.slice A n c] w (RetPI w p why) := by
  replace HO := Lib.hid HO
  replace HH := Lib.hid HH
  obtain ⟨di_, i1, i2⟩ := rowRI
  obtain ⟨dv_, v1, v2⟩ := rowAd
  have b3 : Bk (w.alloc (.cells #[.bool false, .bool false, .int .u8 0, .bool false, .int .u64 0, .int .u64 0, .bool false, .int .u64 0, .int .u64 0, .int .u16 0, .int .u16 0, .int .u8 0, .int .u16 0, .int .u16 0, .int .u32 0, .int .u32 0, .int .u8 0, .int .u16 0, .int .u16 0, .int .u16 0, .slice none 0 0, .slice none 0 0, .int .u16 0, .int .u16 0, .int .u16 0, .slice none 0 0, .int .u8 0, .int .u8 0, .int .u16 0, .int .u32 0, .slice none 0 0] 60)) w.heap.size 60 (inPk (fhC false false 0 false 0 0 false 0 0 0 0 0) (tcC 0 0 0 0 0 0 0 0 none 0 0 none 0 0) (dgX 0 0 0 none 0 0) (msgC 0 0 0 0 none 0 0)) := Bk.new w 60 #[.bool false, .bool false, .int .u8 0, .bool false, .int .u64 0, .int .u64 0, .bool false, .int .u64 0, .int .u64 0, .int .u16 0, .int .u16 0, .int .u8 0, .int .u16 0, .int .u16 0, .int .u32 0, .int .u32 0, .int .u8 0, .int .u16 0, .int .u16 0, .int .u16 0, .slice none 0 0, .slice none 0 0, .int .u16 0, .int .u16 0, .int .u16 0, .slice none 0 0, .int .u8 0, .int .u8 0, .int .u16 0, .int .u32 0, .slice none 0 0]
  have be : Below w.heap.size w (w.alloc (.cells #[.bool false, .bool false, .int .u8 0, .bool false, .int .u64 0, .int .u64 0, .bool false, .int .u64 0, .int .u64 0, .int .u16 0, .int .u16 0, .int .u8 0, .int .u16 0, .int .u16 0, .int .u32 0, .int .u32 0, .int .u8 0, .int .u16 0, .int .u16 0, .int .u16 0, .slice none 0 0, .slice none 0 0, .int .u16 0, .int .u16 0, .int .u16 0, .slice none 0 0, .int .u8 0, .int .u8 0, .int .u16 0, .int .u32 0, .slice none 0 0] 60)) := Below.allocS (Below.refl _ _) _
  have zV : w.heap.size + 1 ≤ (w.alloc (.cells #[.bool false, .bool false, .int .u8 0, .bool false, .int .u64 0, .int .u64 0, .bool false, .int .u64 0, .int .u64 0, .int .u16 0, .int .u16 0, .int .u8 0, .int .u16 0, .int .u16 0, .int .u32 0, .int .u32 0, .int .u8 0, .int .u16 0, .int .u16 0, .int .u16 0, .slice none 0 0, .slice none 0 0, .int .u16 0, .int .u16 0, .int .u16 0, .slice none 0 0, .int .u8 0, .int .u8 0, .int .u16 0, .int .u32 0, .slice none 0 0] 60)).heap.size := by simp
  go_enter Try.func21, Try.ntmps21
  go_upto_region 1 with (fail)
  generalize w.alloc (.cells #[.bool false, .bool false, .int .u8 0, .bool false, .int .u64 0, .int .u64 0, .bool false, .int .u64 0, .int .u64 0, .int .u16 0, .int .u16 0, .int .u8 0, .int .u16 0, .int .u16 0, .int .u32 0, .int .u32 0, .int .u8 0, .int .u16 0, .int .u16 0, .int .u16 0, .slice none 0 0, .slice none 0 0, .int .u16 0, .int .u16 0, .int .u16 0, .slice none 0 0, .int .u8 0, .int .u8 0, .int .u16 0, .int .u32 0, .slice none 0 0] 60) = V at *
  go_wp2_with fail
  refine (HO.out _ be).mono ?_
  rintro e w1 ⟨Ar, nr, kr, bs1, d1, rfl, rfl, hl, hf_⟩
  have hlow := hl.low
  rw [size_plus] at hlow
  go_upto_region 2 with (refine at_op (.store 60 (.tmp 4) (.tmp 10)) rfl ?_; refine wpList_stA (t := 60) 60 (.tmp 4) (.tmp 10) rfl rfl (inPk (fhC false false 0 false 0 0 false 0 0 0 0 0) (tcC 0 0 0 0 0 0 0 0 none 0 0 none 0 0) (dgX 0 0 0 none 0 0) (msgC 0 0 0 0 none 0 0)) (inPk (fhC false false 0 false 0 0 false 0 0 0 0 0) (tcC 0 0 0 0 0 0 0 0 none 0 0 none 0 0) (dgX 0 0 0 none 0 0) (msgC 0 0 0 0 none 0 0)) rfl (inPk_one (fhC_one _ _ _ _ _ _ _ _ _ _ _ _ ) (tcC_one _ _ _ _ _ _ _ _ _ _ _ _ _ _ ) (dgX_one _ _ _ _ _ _) (msgC_one _ _ _ _ _ _ _)) rfl rfl ?_ (szRI_ (by rfl)) ?_; (· refine Bk.newK _ _ _ ?_ rfl; simp [size_plus]); intro W8 hX gr8)
  have z0 := be.size
  have b8 := below_grown (Below.allocS (below_plus V bs1 d1) _) gr8 (by omega)
  replace be := be.trans (b8.mono z0)
  replace b3 := b3.later b8
  replace hl := hl.later (below_grown (Below.allocS (Below.refl _ _) _) gr8 (by simp [size_plus]))
  have zx : w.heap.size < V.heap.size + bs1.length := by omega
  clear b8 gr8
  generalize V.heap.size + bs1.length = gx at *
  have zh := hX.lt
  clear hX hl hlow
  go_upto_region 2 with (fail)
  refine wp_region_lit ?_
  iterate 3 (refine wpList_plain rfl (fun K hK => ?_); go_simp; with_reducible refine hK _ _ ?_; clear hK K)
  iterate 3 ((with_reducible refine wpList_skip ?_ ?_); (· first | (go_simp; done) | (go_simp; intro h; cases h)); simp only [Act.put, List.setIfInBounds_toArray, List.set_cons_zero, List.set_cons_succ])
  refine wpList_plain rfl (fun K hK => ?_); go_simp; with_reducible refine hK _ _ ?_; clear hK K
  go_upto_region 4 with (fail)
  refine wp_region_lit ?_
  refine wpList_plain rfl (fun K hK => ?_); go_simp; with_reducible refine hK _ _ ?_; clear hK K
  refine wpList_plain rfl (fun K hK => ?_)
  go_simp
  refine (HH.out _ be).mono ?_
  rintro e w1 ⟨A1, n1, c1, A2, n2, c2, A3, n3, c3, A4, n4, c4, bs2, d2, rfl, rfl, r1, r2, r3, r4, f1, f2, f3, f4⟩
  with_reducible refine hK _ _ ?_
  clear hK K
  replace b3 := b3.later (below_plus W8 bs2 d2)
  replace be := belowP be bs2 d2
  generalize plus W8 bs2 d2 = W9 at *
  iterate 2 (refine wpList_plain rfl (fun K hK => ?_); go_simp; with_reducible refine hK _ _ ?_; clear hK K)
  refine wpList_stA 60 (.tmp 2) (.tmp 23) rfl rfl (p.cs A1 n1 c1 A2 n2 c2 A3 n3 c3 A4 n4 c4) (inPk (fhC false false 0 false 0 0 false 0 0 0 0 0) (tcC 0 0 0 0 0 0 0 0 none 0 0 none 0 0) (dgX 0 0 0 none 0 0) (msgC 0 0 0 0 none 0 0)) rfl (p.one _ _ _ _ _ _ _ _ _ _ _ _) rfl rfl b3 (szRI_ (by rfl)) ?_
  intro W10 h9 g9
  refine wpList_plain rfl (fun K hK => ?_); go_simp; with_reducible refine hK _ _ ?_; clear hK K
  go_wp2
  refine bodyPost_agg2 Try.results21 rfl rfl h9.range i1 i2 (szRI_ (by rfl)) rfl ?_
  have hCg : Chg (fun b => b = w.heap.size) W9 W10 := Chg.one g9 rfl
  exact RetPI.mk (p := p) (r1.chg hCg (fun a ha hb => by have h' : a.block = w.heap.size := hb; have := f1 a ha; omega)) (r2.chg hCg (fun a ha hb => by have h' : a.block = w.heap.size := hb; have := f2 a ha; omega)) (r3.chg hCg (fun a ha hb => by have h' : a.block = w.heap.size := hb; have := f3 a ha; omega)) (r4.chg hCg (fun a ha hb => by have h' : a.block = w.heap.size := hb; have := f4 a ha; omega)) (fun a ha => by have := f1 a ha; omega) (fun a ha => by have := f2 a ha; omega) (fun a ha => by have := f3 a ha; omega) (fun a ha => by have := f4 a ha; omega) (below_grown be g9 (by omega))
set_option maxHeartbeats 4000000 in
set_option maxRecDepth 100000 in
theorem refRead_go (A : Option Addr) (n c : Nat) (si st : Bool) (tl : Nat) (s6 : Bool) (sh sl dh dl pr : Nat) (load : List UInt8) (ht : decide ((tl : Int) ≤ 1) = false) (p : PI) (why : Int) (w : World) (HO : ∀ w', Below w.heap.size w w' → Calls Try.prog 59 #[.slice A n c] w' (RetOu w' (fhC si st tl s6 sh sl s6 dh dl 0 0 pr) load 0)) (HH : ∀ w', Below w.heap.size w w' → Calls Try.prog 23 #[.slice A n c] w' (RetPI w' p why)) : Calls Try.prog 21 #[.slice A n c] w (RetPI w p why) := by
  replace HO := Lib.hid HO
  replace HH := Lib.hid HH
  have ht2 : decide (tl ≤ 1) = false := by rw [decide_eq_false_iff_not] at ht ⊢; omega
  obtain ⟨di_, i1, i2⟩ := rowRI
  obtain ⟨dv_, v1, v2⟩ := rowAd
  have b3 : Bk (w.alloc (.cells #[.bool false, .bool false, .int .u8 0, .bool false, .int .u64 0, .int .u64 0, .bool false, .int .u64 0, .int .u64 0, .int .u16 0, .int .u16 0, .int .u8 0, .int .u16 0, .int .u16 0, .int .u32 0, .int .u32 0, .int .u8 0, .int .u16 0, .int .u16 0, .int .u16 0, .slice none 0 0, .slice none 0 0, .int .u16 0, .int .u16 0, .int .u16 0, .slice none 0 0, .int .u8 0, .int .u8 0, .int .u16 0, .int .u32 0, .slice none 0 0] 60)) w.heap.size 60 (inPk (fhC false false 0 false 0 0 false 0 0 0 0 0) (tcC 0 0 0 0 0 0 0 0 none 0 0 none 0 0) (dgX 0 0 0 none 0 0) (msgC 0 0 0 0 none 0 0)) := Bk.new w 60 #[.bool false, .bool false, .int .u8 0, .bool false, .int .u64 0, .int .u64 0, .bool false, .int .u64 0, .int .u64 0, .int .u16 0, .int .u16 0, .int .u8 0, .int .u16 0, .int .u16 0, .int .u32 0, .int .u32 0, .int .u8 0, .int .u16 0, .int .u16 0, .int .u16 0, .slice none 0 0, .slice none 0 0, .int .u16 0, .int .u16 0, .int .u16 0, .slice none 0 0, .int .u8 0, .int .u8 0, .int .u16 0, .int .u32 0, .slice none 0 0]
  have be : Below w.heap.size w (w.alloc (.cells #[.bool false, .bool false, .int .u8 0, .bool false, .int .u64 0, .int .u64 0, .bool false, .int .u64 0, .int .u64 0, .int .u16 0, .int .u16 0, .int .u8 0, .int .u16 0, .int .u16 0, .int .u32 0, .int .u32 0, .int .u8 0, .int .u16 0, .int .u16 0, .int .u16 0, .slice none 0 0, .slice none 0 0, .int .u16 0, .int .u16 0, .int .u16 0, .slice none 0 0, .int .u8 0, .int .u8 0, .int .u16 0, .int .u32 0, .slice none 0 0] 60)) := Below.allocS (Below.refl _ _) _
  have zV : w.heap.size + 1 ≤ (w.alloc (.cells #[.bool false, .bool false, .int .u8 0, .bool false, .int .u64 0, .int .u64 0, .bool false, .int .u64 0, .int .u64 0, .int .u16 0, .int .u16 0, .int .u8 0, .int .u16 0, .int .u16 0, .int .u32 0, .int .u32 0, .int .u8 0, .int .u16 0, .int .u16 0, .int .u16 0, .slice none 0 0, .slice none 0 0, .int .u16 0, .int .u16 0, .int .u16 0, .slice none 0 0, .int .u8 0, .int .u8 0, .int .u16 0, .int .u32 0, .slice none 0 0] 60)).heap.size := by simp
  go_enter Try.func21, Try.ntmps21
  go_upto_region 1 with (fail)
  generalize w.alloc (.cells #[.bool false, .bool false, .int .u8 0, .bool false, .int .u64 0, .int .u64 0, .bool false, .int .u64 0, .int .u64 0, .int .u16 0, .int .u16 0, .int .u8 0, .int .u16 0, .int .u16 0, .int .u32 0, .int .u32 0, .int .u8 0, .int .u16 0, .int .u16 0, .int .u16 0, .slice none 0 0, .slice none 0 0, .int .u16 0, .int .u16 0, .int .u16 0, .slice none 0 0, .int .u8 0, .int .u8 0, .int .u16 0, .int .u32 0, .slice none 0 0] 60) = V at *
  go_wp2_with fail
  refine (HO.out _ be).mono ?_
  rintro e w1 ⟨Ar, nr, kr, bs1, d1, rfl, rfl, hl, hf_⟩
  have hlow := hl.low
  rw [size_plus] at hlow
  go_upto_region 2 with (refine at_op (.store 60 (.tmp 4) (.tmp 10)) rfl ?_; refine wpList_stA (t := 60) 60 (.tmp 4) (.tmp 10) rfl rfl (inPk (fhC si st tl s6 sh sl s6 dh dl 0 0 pr) (tcC 0 0 0 0 0 0 0 0 none 0 0 none 0 0) (dgX 0 0 0 none 0 0) (msgC 0 0 0 0 none 0 0)) (inPk (fhC false false 0 false 0 0 false 0 0 0 0 0) (tcC 0 0 0 0 0 0 0 0 none 0 0 none 0 0) (dgX 0 0 0 none 0 0) (msgC 0 0 0 0 none 0 0)) rfl (inPk_one (fhC_one _ _ _ _ _ _ _ _ _ _ _ _ ) (tcC_one _ _ _ _ _ _ _ _ _ _ _ _ _ _ ) (dgX_one _ _ _ _ _ _) (msgC_one _ _ _ _ _ _ _)) rfl rfl ?_ (szRI_ (by rfl)) ?_; (· refine Bk.newK _ _ _ ?_ rfl; simp [size_plus]); intro W8 hX gr8)
  have z0 := be.size
  have b8 := below_grown (Below.allocS (below_plus V bs1 d1) _) gr8 (by omega)
  replace be := be.trans (b8.mono z0)
  replace b3 := b3.later b8
  replace hl := hl.later (below_grown (Below.allocS (Below.refl _ _) _) gr8 (by simp [size_plus]))
  have zx : w.heap.size < V.heap.size + bs1.length := by omega
  clear b8 gr8
  generalize V.heap.size + bs1.length = gx at *
  have zh := hX.lt
  go_upto_region 2 with (fail)
  refine wp_region_lit ?_
  iterate 3 (refine wpList_plain rfl (fun K hK => ?_); go_simp; with_reducible refine hK _ _ ?_; clear hK K)
  refine wpList_step (fun K hK => ?_); go_simp; with_reducible refine hK _ _ ?_; clear hK K
  refine wpList_ld1 (t := 60) (cs := inPk (fhC si st tl s6 sh sl s6 dh dl 0 0 pr) (tcC 0 0 0 0 0 0 0 0 none 0 0 none 0 0) (dgX 0 0 0 none 0 0) (msgC 0 0 0 0 none 0 0)) 5 (.tmp 16) rfl (by go_simp) rfl (hX) rfl Try.underlying5 rfl ?_
  refine wpList_step (fun K hK => ?_); go_simp; with_reducible refine hK _ _ ?_; clear hK K
  refine wpList_plain rfl (fun K hK => ?_); go_simp; with_reducible refine hK _ _ ?_; clear hK K
  clear hX hl hlow
  go_upto_region 4 with (fail)
  refine wp_region_lit ?_
  refine wpList_plain rfl (fun K hK => ?_); go_simp; with_reducible refine hK _ _ ?_; clear hK K
  refine wpList_plain rfl (fun K hK => ?_)
  go_simp
  refine (HH.out _ be).mono ?_
  rintro e w1 ⟨A1, n1, c1, A2, n2, c2, A3, n3, c3, A4, n4, c4, bs2, d2, rfl, rfl, r1, r2, r3, r4, f1, f2, f3, f4⟩
  with_reducible refine hK _ _ ?_
  clear hK K
  replace b3 := b3.later (below_plus W8 bs2 d2)
  replace be := belowP be bs2 d2
  generalize plus W8 bs2 d2 = W9 at *
  iterate 2 (refine wpList_plain rfl (fun K hK => ?_); go_simp; with_reducible refine hK _ _ ?_; clear hK K)
  refine wpList_stA 60 (.tmp 2) (.tmp 23) rfl rfl (p.cs A1 n1 c1 A2 n2 c2 A3 n3 c3 A4 n4 c4) (inPk (fhC false false 0 false 0 0 false 0 0 0 0 0) (tcC 0 0 0 0 0 0 0 0 none 0 0 none 0 0) (dgX 0 0 0 none 0 0) (msgC 0 0 0 0 none 0 0)) rfl (p.one _ _ _ _ _ _ _ _ _ _ _ _) rfl rfl b3 (szRI_ (by rfl)) ?_
  intro W10 h9 g9
  refine wpList_plain rfl (fun K hK => ?_); go_simp; with_reducible refine hK _ _ ?_; clear hK K
  go_wp2
  refine bodyPost_agg2 Try.results21 rfl rfl h9.range i1 i2 (szRI_ (by rfl)) rfl ?_
  have hCg : Chg (fun b => b = w.heap.size) W9 W10 := Chg.one g9 rfl
  exact RetPI.mk (p := p) (r1.chg hCg (fun a ha hb => by have h' : a.block = w.heap.size := hb; have := f1 a ha; omega)) (r2.chg hCg (fun a ha hb => by have h' : a.block = w.heap.size := hb; have := f2 a ha; omega)) (r3.chg hCg (fun a ha hb => by have h' : a.block = w.heap.size := hb; have := f3 a ha; omega)) (r4.chg hCg (fun a ha hb => by have h' : a.block = w.heap.size := hb; have := f4 a ha; omega)) (fun a ha => by have := f1 a ha; omega) (fun a ha => by have := f2 a ha; omega) (fun a ha => by have := f3 a ha; omega) (fun a ha => by have := f4 a ha; omega) (below_grown be g9 (by omega))
set_option maxHeartbeats 4000000 in
set_option maxRecDepth 100000 in
theorem refRead_exp (A : Option Addr) (n c : Nat) (si st : Bool) (tl : Nat) (s6 : Bool) (sh sl dh dl pr : Nat) (load : List UInt8) (ht : decide ((tl : Int) ≤ 1) = true) (w : World) (HO : ∀ w', Below w.heap.size w w' → Calls Try.prog 59 #[.slice A n c] w' (RetOu w' (fhC si st tl s6 sh sl s6 dh dl 0 0 pr) load 0)) : Calls Try.prog 21 #[.slice A n c] w (RetPI w PI.zero 5) := by
  replace HO := Lib.hid HO
  have ht2 : decide (tl ≤ 1) = true := by rw [decide_eq_true_eq] at ht ⊢; omega
  obtain ⟨di_, i1, i2⟩ := rowRI
  obtain ⟨dv_, v1, v2⟩ := rowAd
  have b3 : Bk (w.alloc (.cells #[.bool false, .bool false, .int .u8 0, .bool false, .int .u64 0, .int .u64 0, .bool false, .int .u64 0, .int .u64 0, .int .u16 0, .int .u16 0, .int .u8 0, .int .u16 0, .int .u16 0, .int .u32 0, .int .u32 0, .int .u8 0, .int .u16 0, .int .u16 0, .int .u16 0, .slice none 0 0, .slice none 0 0, .int .u16 0, .int .u16 0, .int .u16 0, .slice none 0 0, .int .u8 0, .int .u8 0, .int .u16 0, .int .u32 0, .slice none 0 0] 60)) w.heap.size 60 (inPk (fhC false false 0 false 0 0 false 0 0 0 0 0) (tcC 0 0 0 0 0 0 0 0 none 0 0 none 0 0) (dgX 0 0 0 none 0 0) (msgC 0 0 0 0 none 0 0)) := Bk.new w 60 #[.bool false, .bool false, .int .u8 0, .bool false, .int .u64 0, .int .u64 0, .bool false, .int .u64 0, .int .u64 0, .int .u16 0, .int .u16 0, .int .u8 0, .int .u16 0, .int .u16 0, .int .u32 0, .int .u32 0, .int .u8 0, .int .u16 0, .int .u16 0, .int .u16 0, .slice none 0 0, .slice none 0 0, .int .u16 0, .int .u16 0, .int .u16 0, .slice none 0 0, .int .u8 0, .int .u8 0, .int .u16 0, .int .u32 0, .slice none 0 0]
  have be : Below w.heap.size w (w.alloc (.cells #[.bool false, .bool false, .int .u8 0, .bool false, .int .u64 0, .int .u64 0, .bool false, .int .u64 0, .int .u64 0, .int .u16 0, .int .u16 0, .int .u8 0, .int .u16 0, .int .u16 0, .int .u32 0, .int .u32 0, .int .u8 0, .int .u16 0, .int .u16 0, .int .u16 0, .slice none 0 0, .slice none 0 0, .int .u16 0, .int .u16 0, .int .u16 0, .slice none 0 0, .int .u8 0, .int .u8 0, .int .u16 0, .int .u32 0, .slice none 0 0] 60)) := Below.allocS (Below.refl _ _) _
  have zV : w.heap.size + 1 ≤ (w.alloc (.cells #[.bool false, .bool false, .int .u8 0, .bool false, .int .u64 0, .int .u64 0, .bool false, .int .u64 0, .int .u64 0, .int .u16 0, .int .u16 0, .int .u8 0, .int .u16 0, .int .u16 0, .int .u32 0, .int .u32 0, .int .u8 0, .int .u16 0, .int .u16 0, .int .u16 0, .slice none 0 0, .slice none 0 0, .int .u16 0, .int .u16 0, .int .u16 0, .slice none 0 0, .int .u8 0, .int .u8 0, .int .u16 0, .int .u32 0, .slice none 0 0] 60)).heap.size := by simp
  go_enter Try.func21, Try.ntmps21
  go_upto_region 1 with (fail)
  generalize w.alloc (.cells #[.bool false, .bool false, .int .u8 0, .bool false, .int .u64 0, .int .u64 0, .bool false, .int .u64 0, .int .u64 0, .int .u16 0, .int .u16 0, .int .u8 0, .int .u16 0, .int .u16 0, .int .u32 0, .int .u32 0, .int .u8 0, .int .u16 0, .int .u16 0, .int .u16 0, .slice none 0 0, .slice none 0 0, .int .u16 0, .int .u16 0, .int .u16 0, .slice none 0 0, .int .u8 0, .int .u8 0, .int .u16 0, .int .u32 0, .slice none 0 0] 60) = V at *
  go_wp2_with fail
  refine (HO.out _ be).mono ?_
  rintro e w1 ⟨Ar, nr, kr, bs1, d1, rfl, rfl, hl, hf_⟩
  have hlow := hl.low
  rw [size_plus] at hlow
  go_upto_region 2 with (refine at_op (.store 60 (.tmp 4) (.tmp 10)) rfl ?_; refine wpList_stA (t := 60) 60 (.tmp 4) (.tmp 10) rfl rfl (inPk (fhC si st tl s6 sh sl s6 dh dl 0 0 pr) (tcC 0 0 0 0 0 0 0 0 none 0 0 none 0 0) (dgX 0 0 0 none 0 0) (msgC 0 0 0 0 none 0 0)) (inPk (fhC false false 0 false 0 0 false 0 0 0 0 0) (tcC 0 0 0 0 0 0 0 0 none 0 0 none 0 0) (dgX 0 0 0 none 0 0) (msgC 0 0 0 0 none 0 0)) rfl (inPk_one (fhC_one _ _ _ _ _ _ _ _ _ _ _ _ ) (tcC_one _ _ _ _ _ _ _ _ _ _ _ _ _ _ ) (dgX_one _ _ _ _ _ _) (msgC_one _ _ _ _ _ _ _)) rfl rfl ?_ (szRI_ (by rfl)) ?_; (· refine Bk.newK _ _ _ ?_ rfl; simp [size_plus]); intro W8 hX gr8)
  have z0 := be.size
  have b8 := below_grown (Below.allocS (below_plus V bs1 d1) _) gr8 (by omega)
  replace be := be.trans (b8.mono z0)
  replace b3 := b3.later b8
  replace hl := hl.later (below_grown (Below.allocS (Below.refl _ _) _) gr8 (by simp [size_plus]))
  have zx : w.heap.size < V.heap.size + bs1.length := by omega
  clear b8 gr8
  generalize V.heap.size + bs1.length = gx at *
  go_upto_region 2 with (fail)
  refine wp_region_lit ?_
  iterate 3 (refine wpList_plain rfl (fun K hK => ?_); go_simp; with_reducible refine hK _ _ ?_; clear hK K)
  refine wpList_step (fun K hK => ?_); go_simp; with_reducible refine hK _ _ ?_; clear hK K
  refine wpList_ld1 (t := 60) (cs := inPk (fhC si st tl s6 sh sl s6 dh dl 0 0 pr) (tcC 0 0 0 0 0 0 0 0 none 0 0 none 0 0) (dgX 0 0 0 none 0 0) (msgC 0 0 0 0 none 0 0)) 5 (.tmp 16) rfl (by go_simp) rfl (hX) rfl Try.underlying5 rfl ?_
  refine wpList_step (fun K hK => ?_); go_simp; with_reducible refine hK _ _ ?_; clear hK K
  refine wpList_plain rfl (fun K hK => ?_); go_simp; with_reducible refine hK _ _ ?_; clear hK K
  go_upto_region 3 with (fail)
  refine wp_region_lit ?_
  refine wpList_plain rfl (fun K hK => ?_); go_simp; with_reducible refine hK _ _ ?_; clear hK K
  refine wpList_stA 60 (.tmp 2) (.tmp 20) rfl rfl (inPk (fhC false false 0 false 0 0 false 0 0 0 0 0) (tcC 0 0 0 0 0 0 0 0 none 0 0 none 0 0) (dgX 0 0 0 none 0 0) (msgC 0 0 0 0 none 0 0)) (inPk (fhC false false 0 false 0 0 false 0 0 0 0 0) (tcC 0 0 0 0 0 0 0 0 none 0 0 none 0 0) (dgX 0 0 0 none 0 0) (msgC 0 0 0 0 none 0 0)) rfl (inPk_one (fhC_one _ _ _ _ _ _ _ _ _ _ _ _ ) (tcC_one _ _ _ _ _ _ _ _ _ _ _ _ _ _ ) (dgX_one _ _ _ _ _ _) (msgC_one _ _ _ _ _ _ _)) rfl rfl (b3) (szRI_ (by rfl)) ?_
  intro W9 h9 g9
  refine wpList_plain rfl (fun K hK => ?_); go_simp; with_reducible refine hK _ _ ?_; clear hK K
  go_wp2
  refine bodyPost_agg2 Try.results21 rfl rfl h9.range i1 i2 (szRI_ (by rfl)) rfl ?_
  exact RetPI.zero_ (below_grown be g9 (by omega))
theorem refRead_all (A : Option Addr) (n c : Nat) (si st : Bool) (tl : Nat) (s6 : Bool) (sh sl dh dl pr : Nat) (fr : Bool) (load : List UInt8) (E : Int) (w : World) (p : PI) (why : Int) (L : Lk si st tl s6 sh sl dh dl pr fr load 1 E p why) (hpr : pr < 256) (htl : tl < 256) (hll : load.length ≤ 5000) (k1 : sh < 18446744073709551616) (k2 : sl < 18446744073709551616) (k3 : dh < 18446744073709551616) (k4 : dl < 18446744073709551616) (HO : ∀ w', Below w.heap.size w w' → Calls Try.prog 59 #[.slice A n c] w' (OuR w' (fhC si st tl s6 sh sl s6 dh dl 0 0 pr) fr load E)) : Calls Try.prog 21 #[.slice A n c] w (RetPI w p why) := by
  unfold OuR at HO
  have up : ∀ w1, Below w.heap.size w w1 → ∀ w2, Below w1.heap.size w1 w2 → Below w.heap.size w w2 := fun w1 h1 w2 h2 => h1.trans (h2.mono h1.size)
  cases L with
  | err h =>
    simp only [if_neg h] at HO
    exact refRead_bad A n c _ (by rw [beq_eq_false_iff_ne]; exact ofN_ne h) _ _ w HO (fun w1 hb => refHost_bad A n c _ (bne_iff_ne.2 (ofN_ne h)) w1 (fun w2 hb2 => HO w2 (up w1 hb w2 hb2)))
  | frag h hf =>
    simp only [if_pos h, if_pos hf] at HO
    exact refRead_bad A n c 4 rfl _ _ w HO (fun w1 hb => refHost_bad A n c 4 rfl w1 (fun w2 hb2 => HO w2 (up w1 hb w2 hb2)))
  | exp h hf ht =>
    subst hf
    simp only [if_pos h, Bool.false_eq_true, if_false] at HO
    exact refRead_exp A n c si st tl s6 sh sl dh dl pr load ht w HO
  | go h hf ht p why cc =>
    subst hf
    simp only [if_pos h, Bool.false_eq_true, if_false] at HO
    exact refRead_go A n c si st tl s6 sh sl dh dl pr load ht p why w HO (fun w1 hb => refHost_go A n c si st tl s6 sh sl dh dl pr load w1 p why cc hpr htl hll k1 k2 k3 k4 (fun w2 hb2 => HO w2 (up w1 hb w2 hb2)))
end Go.Proofs.Ytfmkndemkpecpaa

/- What a packet is, on both sides alike; the law PacketReads (chapter 28). -/
namespace Go.Proofs.Ytfmkndemkpecpaa
open Go.RowKit
set_option linter.unusedVariables false
set_option linter.unusedSimpArgs false
attribute [local go_sem ↓] sliced_cut

attribute [local go_sem] cutA_zero

set_option maxRecDepth 100000 in
theorem eq_flC (w : World) (s6 : Bool) (sh sl : Nat) (d6 : Bool) (dh dl sp dp pr : Nat) : (binOp .eql 29 (.agg (flC s6 sh sl d6 dh dl sp dp pr).toArray) (.agg (flC s6 sh sl d6 dh dl sp dp pr).toArray)).run Try.prog w = .ok (.bool true) w := by
  unfold flC
  go_simp
attribute [local go_sem ↓] eq_flC

end Go.Proofs.Ytfmkndemkpecpaa

/- Read and Host of any bytes, both sides alike; the law PacketReads (chapter 28). -/
namespace Go.Proofs.Ytfmkndemkpecpaa
open Go.RowKit
set_option linter.unusedVariables false
set_option linter.unusedSimpArgs false
attribute [local go_sem ↓] sliced_cut

attribute [local go_sem] cutA_zero

set_option maxHeartbeats 4000000 in
set_option maxRecDepth 100000 in
theorem pkRead (A : Option Addr) (n c : Nat) (p : PI) (why : Int) (w : World) (HL : ∀ w', Below w.heap.size w w' → Calls Try.prog 58 #[.slice A n c, .int .i64 (1)] w' (RetPI w' p why)) : Calls Try.prog 20 #[.slice A n c] w (RetPI w p why) := by
  replace HL := Lib.hid HL
  obtain ⟨di_, i1, i2⟩ := rowIn
  have b3 : Bk (w.alloc (.cells #[.bool false, .bool false, .int .u8 0, .bool false, .int .u64 0, .int .u64 0, .bool false, .int .u64 0, .int .u64 0, .int .u16 0, .int .u16 0, .int .u8 0, .int .u16 0, .int .u16 0, .int .u32 0, .int .u32 0, .int .u8 0, .int .u16 0, .int .u16 0, .int .u16 0, .slice none 0 0, .slice none 0 0, .int .u16 0, .int .u16 0, .int .u16 0, .slice none 0 0, .int .u8 0, .int .u8 0, .int .u16 0, .int .u32 0, .slice none 0 0] 53)) w.heap.size 53 (inPk (fhC false false 0 false 0 0 false 0 0 0 0 0) (tcC 0 0 0 0 0 0 0 0 none 0 0 none 0 0) (dgX 0 0 0 none 0 0) (msgC 0 0 0 0 none 0 0)) := Bk.new w 53 #[.bool false, .bool false, .int .u8 0, .bool false, .int .u64 0, .int .u64 0, .bool false, .int .u64 0, .int .u64 0, .int .u16 0, .int .u16 0, .int .u8 0, .int .u16 0, .int .u16 0, .int .u32 0, .int .u32 0, .int .u8 0, .int .u16 0, .int .u16 0, .int .u16 0, .slice none 0 0, .slice none 0 0, .int .u16 0, .int .u16 0, .int .u16 0, .slice none 0 0, .int .u8 0, .int .u8 0, .int .u16 0, .int .u32 0, .slice none 0 0]
  have be : Below w.heap.size w (w.alloc (.cells #[.bool false, .bool false, .int .u8 0, .bool false, .int .u64 0, .int .u64 0, .bool false, .int .u64 0, .int .u64 0, .int .u16 0, .int .u16 0, .int .u8 0, .int .u16 0, .int .u16 0, .int .u32 0, .int .u32 0, .int .u8 0, .int .u16 0, .int .u16 0, .int .u16 0, .slice none 0 0, .slice none 0 0, .int .u16 0, .int .u16 0, .int .u16 0, .slice none 0 0, .int .u8 0, .int .u8 0, .int .u16 0, .int .u32 0, .slice none 0 0] 53)) := Below.allocS (Below.refl _ _) _
  have zV : w.heap.size + 1 ≤ (w.alloc (.cells #[.bool false, .bool false, .int .u8 0, .bool false, .int .u64 0, .int .u64 0, .bool false, .int .u64 0, .int .u64 0, .int .u16 0, .int .u16 0, .int .u8 0, .int .u16 0, .int .u16 0, .int .u32 0, .int .u32 0, .int .u8 0, .int .u16 0, .int .u16 0, .int .u16 0, .slice none 0 0, .slice none 0 0, .int .u16 0, .int .u16 0, .int .u16 0, .slice none 0 0, .int .u8 0, .int .u8 0, .int .u16 0, .int .u32 0, .slice none 0 0] 53)).heap.size := by simp
  go_enter Try.func20, Try.ntmps20
  go_upto_region 1 with (fail)
  generalize w.alloc (.cells #[.bool false, .bool false, .int .u8 0, .bool false, .int .u64 0, .int .u64 0, .bool false, .int .u64 0, .int .u64 0, .int .u16 0, .int .u16 0, .int .u8 0, .int .u16 0, .int .u16 0, .int .u32 0, .int .u32 0, .int .u8 0, .int .u16 0, .int .u16 0, .int .u16 0, .slice none 0 0, .slice none 0 0, .int .u16 0, .int .u16 0, .int .u16 0, .slice none 0 0, .int .u8 0, .int .u8 0, .int .u16 0, .int .u32 0, .slice none 0 0] 53) = V at *
  refine wp_region_lit ?_
  refine wpList_plain rfl (fun K hK => ?_); go_simp; with_reducible refine hK _ _ ?_; clear hK K
  refine wpList_plain rfl (fun K hK => ?_)
  go_simp
  refine (HL.out _ be).mono ?_
  rintro e w1 ⟨A1, n1, c1, A2, n2, c2, A3, n3, c3, A4, n4, c4, bs2, d2, rfl, rfl, r1, r2, r3, r4, f1, f2, f3, f4⟩
  with_reducible refine hK _ _ ?_
  clear hK K
  replace b3 := b3.later (below_plus V bs2 d2)
  replace be := belowP be bs2 d2
  generalize plus V bs2 d2 = W9 at *
  iterate 2 (refine wpList_plain rfl (fun K hK => ?_); go_simp; with_reducible refine hK _ _ ?_; clear hK K)
  refine wpList_stA 53 (.tmp 2) (.tmp 6) rfl rfl (p.cs A1 n1 c1 A2 n2 c2 A3 n3 c3 A4 n4 c4) (inPk (fhC false false 0 false 0 0 false 0 0 0 0 0) (tcC 0 0 0 0 0 0 0 0 none 0 0 none 0 0) (dgX 0 0 0 none 0 0) (msgC 0 0 0 0 none 0 0)) rfl (p.one _ _ _ _ _ _ _ _ _ _ _ _) rfl rfl b3 (szIN_ (by rfl)) ?_
  intro W10 h9 g9
  refine wpList_plain rfl (fun K hK => ?_); go_simp; with_reducible refine hK _ _ ?_; clear hK K
  go_wp2
  refine bodyPost_agg2 Try.results20 rfl rfl h9.range i1 i2 (szIN_ (by rfl)) rfl ?_
  have hCg : Chg (fun b => b = w.heap.size) W9 W10 := Chg.one g9 rfl
  exact RetPI.mk (p := p) (r1.chg hCg (fun a ha hb => by have h' : a.block = w.heap.size := hb; have := f1 a ha; omega)) (r2.chg hCg (fun a ha hb => by have h' : a.block = w.heap.size := hb; have := f2 a ha; omega)) (r3.chg hCg (fun a ha hb => by have h' : a.block = w.heap.size := hb; have := f3 a ha; omega)) (r4.chg hCg (fun a ha hb => by have h' : a.block = w.heap.size := hb; have := f4 a ha; omega)) (fun a ha => by have := f1 a ha; omega) (fun a ha => by have := f2 a ha; omega) (fun a ha => by have := f3 a ha; omega) (fun a ha => by have := f4 a ha; omega) (below_grown be g9 (by omega))
/-- how the head of a packet stands in its bytes -/
def PFacts (l : List UInt8) (si s6 : Bool) (sh sl dh dl pr : Nat) (load : List UInt8) : Prop :=
  (si = false ∧ s6 = false ∧ sh = 0 ∧ dh = 0 ∧ ∃ ln, 20 ≤ l.length ∧ num ((l.drop 0).take 1) / 16 = 4 ∧ 20 ≤ 4 * (num ((l.drop 0).take 1) % 16) ∧ 4 * (num ((l.drop 0).take 1) % 16) ≤ ln ∧ ln ≤ l.length ∧ num ((l.drop 6).take 2) % 16384 = 0 ∧ pr = num ((l.drop 9).take 1) ∧ sl = num ((l.drop 12).take 4) ∧ dl = num ((l.drop 16).take 4) ∧ load = (l.drop (4 * (num ((l.drop 0).take 1) % 16))).take (ln - 4 * (num ((l.drop 0).take 1) % 16))) ∨
  (si = true ∧ s6 = true ∧ ∃ ln, 40 + ln ≤ l.length ∧ num ((l.drop 0).take 1) / 16 = 6 ∧ pr = num ((l.drop 6).take 1) ∧ sh = num ((l.drop 8).take 8) ∧ sl = num ((l.drop 16).take 8) ∧ dh = num ((l.drop 24).take 8) ∧ dl = num ((l.drop 32).take 8) ∧ load = (l.drop 40).take ln)
theorem pf4 {l : List UInt8} {n ts ln id : Nat} {st mo : Bool} {fo tl pr sm sa da : Nat} {o load : List UInt8} {E : Int} (hl : l.length = n) (F : Facts4 l n ts ln id st mo fo tl pr sm sa da o load E) (hE : E = 0) (hfr : (mo || decide (0 < (fo : Int))) = false) : PFacts l false false 0 sa 0 da pr load := by
  obtain ⟨c1, c2, c3, c4, c5, c6, c7, c8, c9, c10, c11, -⟩ := F.c hE
  simp only [Bool.or_eq_false_iff, decide_eq_false_iff_not] at hfr
  refine .inl ⟨rfl, rfl, rfl, rfl, ln, by omega, c2, c3, c4, by omega, ?_, c6, c7, c8, c11⟩
  have h1 := hfr.1
  rw [c10, beq_eq_false_iff_ne] at h1
  have h2 := hfr.2
  omega
theorem pf6 {l : List UInt8} {n cl lb ln nx ht : Nat} {s6 : Bool} {sh sl dh dl : Nat} {load : List UInt8} {E : Int} (hl : l.length = n) (F : Facts6 l n cl lb ln nx ht s6 sh sl dh dl load E) (hE : E = 0) : PFacts l true s6 sh sl dh dl nx load := by
  obtain ⟨c1, c2, c3, c4, c5, c6, c7, c8, c9, c10, c11⟩ := F.c hE
  exact .inr ⟨rfl, c3, ln, by omega, c2, c4, c6, c7, c8, c9, c10⟩
/-- both sides open alike -/
theorem opensF (A : Option Addr) (n c : Nat) (l : List UInt8) (w : World) (h : Rb w A n c l) (hm : n ≤ 3000) : ∃ (si st : Bool) (tl : Nat) (s6 : Bool) (sh sl dh dl pr : Nat) (fr : Bool) (load : List UInt8) (E : Int), (pr < 256 ∧ tl < 256 ∧ load.length ≤ 5000 ∧ sh < 18446744073709551616 ∧ sl < 18446744073709551616 ∧ dh < 18446744073709551616 ∧ dl < 18446744073709551616) ∧ (E = 0 → fr = false → PFacts l si s6 sh sl dh dl pr load) ∧
    (∀ w', Below w.heap.size w w' → Calls Try.prog 114 #[.slice A n c] w' (OpR w' (fhC si st tl s6 sh sl s6 dh dl 0 0 pr) fr load E)) ∧ (∀ w', Below w.heap.size w w' → Calls Try.prog 59 #[.slice A n c] w' (OuR w' (fhC si st tl s6 sh sl s6 dh dl 0 0 pr) fr load E)) := by
  have up : ∀ w1, Below w.heap.size w w1 → ∀ w2, Below w1.heap.size w1 w2 → Below w.heap.size w w2 := fun w1 h1 w2 h2 => h1.trans (h2.mono h1.size)
  obtain ⟨N, B, E, s⟩ := sx_any l
  have HS : ∀ w1, Below w.heap.size w w1 → ∀ w', Below w1.heap.size w1 w' → Calls Try.prog 68 #[.slice A n c] w' fun e w2 => e = .returned (.tuple #[.bool B, .int .i64 E]) ∧ w' = w2 := fun w1 h1 w2 h2 => tunSix A n c l w2 (h.later (up w1 h1 w2 h2)) N B E s
  have HR : ∀ w1, Below w.heap.size w w1 → ∀ w', Below w1.heap.size w1 w' → Calls Try.prog 75 #[.slice A n c] w' fun e w2 => e = .returned (.int .i64 N) ∧ w' = w2 := fun w1 h1 w2 h2 => refSix A n c l w2 (h.later (up w1 h1 w2 h2)) N B E s
  have bz : (0 : Nat) < 256 ∧ (0 : Nat) < 256 ∧ ([] : List UInt8).length ≤ 5000 ∧ (0 : Nat) < 18446744073709551616 ∧ (0 : Nat) < 18446744073709551616 ∧ (0 : Nat) < 18446744073709551616 ∧ (0 : Nat) < 18446744073709551616 := by simp
  cases s
  case none_ => exact ⟨false, false, 0, false, 0, 0, 0, 0, 0, false, [], 20, bz, fun h => absurd h (by decide), fun w1 hb => open_err A n c w1 _ _ _ _ _ rfl (HS w1 hb), fun w1 hb => refOuter_s A n c w1 _ _ _ (HR w1 hb)⟩
  case other => exact ⟨false, false, 0, false, 0, 0, 0, 0, 0, false, [], 21, bz, fun h => absurd h (by decide), fun w1 hb => open_err A n c w1 _ _ _ _ _ rfl (HS w1 hb), fun w1 hb => refOuter_0 A n c w1 _ _ _ (HR w1 hb)⟩
  case four =>
    obtain ⟨ts, ln, id, st, mo, fo, tl, pr, sm, sa, da, o, load, E1, F, H1, H2⟩ := reads4F A n c _ w h (by omega)
    obtain ⟨b1, b2, b3, b4, b5, b6, b7, b8, b9, b10, b11⟩ := F.b
    exact ⟨false, st, tl, false, 0, sa, 0, da, pr, (mo || decide (0 < (fo : Int))), load, E1, ⟨b5, b4, by omega, by omega, by omega, by omega, by omega⟩, fun hE hfr => pf4 h.1 F hE hfr,
      fun w1 hb => open_4 A n c w1 ts ln id st mo fo tl pr sm sa da o load E1 (HS w1 hb) (fun w2 hb2 => H1 w2 (up w1 hb w2 hb2)), fun w1 hb => refOuter_4 A n c w1 ts ln id st mo fo tl pr sm sa da o load E1 _ rfl (HR w1 hb) (fun w2 hb2 => H2 w2 (up w1 hb w2 hb2))⟩
  case six =>
    obtain ⟨cl, lb, ln, nx, ht, s6, sh, sl, dh, dl, load, E1, F, ⟨b1, b2, b3, b4, b5, b6, b7⟩, H1, H2⟩ := reads6F A n c _ w h (by omega)
    exact ⟨true, true, ht, s6, sh, sl, dh, dl, nx, false, load, E1, ⟨b1, b2, by omega, b3, b4, b5, b6⟩, fun hE _ => pf6 h.1 F hE,
      fun w1 hb => open_6 A n c w1 cl lb ln nx ht s6 sh sl dh dl load E1 (HS w1 hb) (fun w2 hb2 => H1 w2 (up w1 hb w2 hb2)), fun w1 hb => refOuter_6 A n c w1 cl lb ln nx ht s6 sh sl dh dl load E1 (HR w1 hb) (fun w2 hb2 => H2 w2 (up w1 hb w2 hb2))⟩
end Go.Proofs.Ytfmkndemkpecpaa

/- What steer.Read tells, as a function of the bytes (chapter 29). -/
namespace Go.Proofs.Ytfmkndemkpecpaa
open Go.RowKit
set_option linter.unusedVariables false
set_option linter.unusedSimpArgs false

/-- the time stamp that options tell -/
def stO (o : List UInt8) : Nat × Bool := match stampsAt o with | none => (0, false) | some a => (num ((o.drop a).take 4), true)
/-- a segment's own header is there, whole -/
def HdT (L : List UInt8) : Prop := 20 ≤ L.length ∧ num ((L.drop 12).take 1) % 16 = 0 ∧ 5 ≤ num ((L.drop 12).take 1) / 16 ∧ 4 * (num ((L.drop 12).take 1) / 16) ≤ L.length
open Classical in
/-- the time stamp that a segment tells, or a part of it -/
noncomputable def stF (L : List UInt8) : Nat × Bool := if HdT L then stO ((L.drop 20).take (4 * (num ((L.drop 12).take 1) / 16) - 20)) else (0, false)
theorem stamp_F (L : List UInt8) (hm : L.length ≤ 1000000) (w : World) (A : Option Addr) (n c : Nat) (h : Rb w A n c L) : Calls Try.prog 53 #[.slice A n c] w (RetV w (.tuple #[.int .u32 ((stF L).1 : Int), .bool (stF L).2])) := by
  have hl := h.1
  by_cases g0 : n ≤ 12
  · rw [show stF L = (0, false) from if_neg (fun hh => by have := hh.1; omega)]
    exact stamp_0 A n c L w h (by omega) g0
  by_cases g1 : num ((L.drop 12).take 1) % 16 = 0
  case neg =>
    rw [show stF L = (0, false) from if_neg (fun hh => g1 hh.2.1)]
    exact stamp_1 A n c L w h (by omega) _ rfl (by omega) g1
  by_cases g2 : num ((L.drop 12).take 1) / 16 < 5 ∨ n < 4 * (num ((L.drop 12).take 1) / 16)
  · rw [show stF L = (0, false) from if_neg (fun hh => by have := hh.2.2; omega)]
    exact stamp_2 A n c L w h (by omega) _ rfl (by omega) g1 g2
  have hh : HdT L := ⟨by omega, g1, by omega, by omega⟩
  rw [show stF L = stO ((L.drop 20).take (4 * (num ((L.drop 12).take 1) / 16) - 20)) from if_pos hh]
  cases hS : stampsAt ((L.drop 20).take (4 * (num ((L.drop 12).take 1) / 16) - 20)) with
  | none =>
    rw [show stO ((L.drop 20).take (4 * (num ((L.drop 12).take 1) / 16) - 20)) = (0, false) from by unfold stO; rw [hS]]
    exact stamp_3 A n c L w h (by omega) _ rfl (by omega) g1 (by omega) (by omega) hS
  | some a =>
    rw [show stO ((L.drop 20).take (4 * (num ((L.drop 12).take 1) / 16) - 20)) = (num ((((L.drop 20).take (4 * (num ((L.drop 12).take 1) / 16) - 20)).drop a).take 4), true) from by unfold stO; rw [hS]]
    exact stamp_4 A n c L w h (by omega) _ a _ rfl (by omega) g1 (by omega) (by omega) hS rfl
def zF (l : List UInt8) (six : Bool) : Nat := if six then 40 else 4 * (num ((l.drop 0).take 1) % 16)
def shF (l : List UInt8) (six : Bool) : Nat := if six then num ((l.drop 8).take 8) else 0
def slF (l : List UInt8) (six : Bool) : Nat := if six then num ((l.drop 16).take 8) else num ((l.drop 12).take 4)
def dhF (l : List UInt8) (six : Bool) : Nat := if six then num ((l.drop 24).take 8) else 0
def dlF (l : List UInt8) (six : Bool) : Nat := if six then num ((l.drop 32).take 8) else num ((l.drop 16).take 4)
def prF (l : List UInt8) (six : Bool) : Nat := if six then num ((l.drop 6).take 1) else num ((l.drop 9).take 1)
def spF (l : List UInt8) (six : Bool) : Nat := num (((l.drop (zF l six)).drop 0).take 2)
def dpF (l : List UInt8) (six : Bool) : Nat := num (((l.drop (zF l six)).drop 2).take 2)
noncomputable def stV (l : List UInt8) (six : Bool) : Nat := if prF l six = 6 then (stF (l.drop (zF l six))).1 else 0
noncomputable def stH (l : List UInt8) (six : Bool) : Bool := if prF l six = 6 then (stF (l.drop (zF l six))).2 else false
/-- the beginning of a packet tells who sent it to whom -/
def SteOK (l : List UInt8) (six : Bool) : Prop := 20 ≤ l.length ∧ num ((l.drop 0).take 1) / 16 = (if six then 6 else 4) ∧ 20 ≤ zF l six ∧ zF l six + 8 ≤ l.length ∧ (six = false → num ((l.drop 6).take 2) % 16384 = 0) ∧ (prF l six = 6 ∨ prF l six = 17)
theorem sixteen (l : List UInt8) (k : Nat) (h : k + 16 ≤ l.length) : (l.drop k).take 16 = dig (num ((l.drop k).take 8)) 8 ++ dig (num ((l.drop (k + 8)).take 8)) 8 := by
  rw [digNum 8 _ (by rw [List.length_take, List.length_drop]; omega), digNum 8 _ (by rw [List.length_take, List.length_drop]; omega), show l.drop (k + 8) = (l.drop k).drop 8 from by rw [List.drop_drop], take_app 8 8 (l.drop k)]
theorem ste_ok (l : List UInt8) (six : Bool) (hm : l.length ≤ 1000000) (ok : SteOK l six) (w : World) (A : Option Addr) (n c : Nat) (h : Rb w A n c l) : Calls Try.prog 13 #[.slice A n c, .bool six] w (RetV w (.tuple #[.agg (qC six (shF l six) (slF l six) six (dhF l six) (dlF l six) (spF l six) (dpF l six) (prF l six) (stV l six) (stH l six)).toArray, .bool true])) := by
  obtain ⟨a1, a2, a3, a4, a5, a6⟩ := ok
  have hl := h.1
  have hL8 : 8 ≤ (l.drop (zF l six)).length := by rw [List.length_drop]; omega
  have hLm : (l.drop (zF l six)).length ≤ 1000000 := by rw [List.length_drop]; omega
  cases six
  case false =>
    have HO : ∀ w', Below w.heap.size w w' → Calls Try.prog 49 #[.slice A n c] w' (RetOp w' false 0 (num ((l.drop 12).take 4)) false 0 (num ((l.drop 16).take 4)) (prF l false) (l.drop (zF l false))) := fun w2 hb2 => open4_ok A n c l w2 (h.later hb2) (by omega) _ _ _ _ _ rfl rfl rfl rfl rfl (by omega) a2 a3 (by rw [← hl]; exact a4) (a5 rfl)
    rcases a6 with hp | hp
    · rw [show stV l false = (stF (l.drop (zF l false))).1 from if_pos hp, show stH l false = (stF (l.drop (zF l false))).2 from if_pos hp, hp]
      rw [hp] at HO
      exact steRead4_6 A n c _ _ _ _ _ _ _ _ _ w hL8 rfl rfl _ _ (fun w A n c h => stamp_F _ hLm w A n c h) HO
    · rw [show stV l false = 0 from if_neg (by rw [hp]; decide), show stH l false = false from if_neg (by rw [hp]; decide), hp]
      rw [hp] at HO
      exact steRead4_17 A n c _ _ _ _ _ _ _ _ _ w hL8 rfl rfl HO
  case true =>
    have a4' : 48 ≤ l.length := a4
    have HO : ∀ w', Below w.heap.size w w' → Calls Try.prog 50 #[.slice A n c] w' (RetOp w' true (num ((l.drop 8).take 8)) (num ((l.drop 16).take 8)) true (num ((l.drop 24).take 8)) (num ((l.drop 32).take 8)) (prF l true) (l.drop (zF l true))) := fun w2 hb2 => open6_ok A n c l w2 (h.later hb2) (by omega) _ _ _ _ _ _ rfl rfl (sixteen l 8 (by omega)) (sixteen l 24 (by omega)) (num_lt' l 8 8 18446744073709551616 (by decide)) (num_lt' l 16 8 18446744073709551616 (by decide)) (num_lt' l 24 8 18446744073709551616 (by decide)) (num_lt' l 32 8 18446744073709551616 (by decide)) (by omega) a2
    rcases a6 with hp | hp
    · rw [show stV l true = (stF (l.drop (zF l true))).1 from if_pos hp, show stH l true = (stF (l.drop (zF l true))).2 from if_pos hp, hp]
      rw [hp] at HO
      exact steRead6_6 A n c _ _ _ _ _ _ _ _ _ w hL8 rfl rfl _ _ (fun w A n c h => stamp_F _ hLm w A n c h) HO
    · rw [show stV l true = 0 from if_neg (by rw [hp]; decide), show stH l true = false from if_neg (by rw [hp]; decide), hp]
      rw [hp] at HO
      exact steRead6_17 A n c _ _ _ _ _ _ _ _ _ w hL8 rfl rfl HO
theorem ste_bad (l : List UInt8) (six : Bool) (hm : l.length ≤ 1000000) (no : ¬ SteOK l six) (w : World) (A : Option Addr) (n c : Nat) (h : Rb w A n c l) : Calls Try.prog 13 #[.slice A n c, .bool six] w (RetV w (.tuple #[.agg (qC false 0 0 false 0 0 0 0 0 0 false).toArray, .bool false])) := by
  have hl := h.1
  cases six
  case false =>
    by_cases g0 : n < 20
    · exact steRead4_bad A n c w (fun w2 hb2 => open4_0 A n c l w2 (h.later hb2) (by omega) g0)
    by_cases g1 : num ((l.drop 0).take 1) / 16 = 4
    case neg => exact steRead4_bad A n c w (fun w2 hb2 => open4_1 A n c l w2 (h.later hb2) (by omega) _ rfl (by omega) g1)
    by_cases g2 : 4 * (num ((l.drop 0).take 1) % 16) < 20 ∨ n < 4 * (num ((l.drop 0).take 1) % 16) + 8
    · exact steRead4_bad A n c w (fun w2 hb2 => open4_2 A n c l w2 (h.later hb2) (by omega) _ rfl (by omega) g1 g2)
    by_cases g3 : num ((l.drop 6).take 2) % 16384 = 0
    case neg => exact steRead4_bad A n c w (fun w2 hb2 => open4_3 A n c l w2 (h.later hb2) (by omega) _ _ rfl rfl (by omega) g1 (by omega) (by omega) g3)
    have np : prF l false ≠ 6 ∧ prF l false ≠ 17 := ⟨fun h6 => no ⟨by omega, g1, by show 20 ≤ 4 * (num ((l.drop 0).take 1) % 16); omega, by show 4 * (num ((l.drop 0).take 1) % 16) + 8 ≤ l.length; omega, fun _ => g3, .inl h6⟩, fun h17 => no ⟨by omega, g1, by show 20 ≤ 4 * (num ((l.drop 0).take 1) % 16); omega, by show 4 * (num ((l.drop 0).take 1) % 16) + 8 ≤ l.length; omega, fun _ => g3, .inr h17⟩⟩
    exact steRead4_np A n c _ _ _ _ _ _ _ _ w np.1 np.2 (fun w2 hb2 => open4_ok A n c l w2 (h.later hb2) (by omega) _ _ _ _ _ rfl rfl rfl rfl rfl (by omega) g1 (by omega) (by omega) g3)
  case true =>
    by_cases g0 : n < 48
    · exact steRead6_bad A n c w (fun w2 hb2 => open6_0 A n c l w2 (h.later hb2) (by omega) g0)
    by_cases g1 : num ((l.drop 0).take 1) / 16 = 6
    case neg => exact steRead6_bad A n c w (fun w2 hb2 => open6_1 A n c l w2 (h.later hb2) (by omega) _ rfl (by omega) g1)
    have np : prF l true ≠ 6 ∧ prF l true ≠ 17 := ⟨fun h6 => no ⟨by omega, g1, by show 20 ≤ 40; omega, by show 40 + 8 ≤ l.length; omega, fun h => (by cases h), .inl h6⟩, fun h17 => no ⟨by omega, g1, by show 20 ≤ 40; omega, by show 40 + 8 ≤ l.length; omega, fun h => (by cases h), .inr h17⟩⟩
    exact steRead6_np A n c _ _ _ _ _ _ _ _ w np.1 np.2 (fun w2 hb2 => open6_ok A n c l w2 (h.later hb2) (by omega) _ _ _ _ _ _ rfl rfl (sixteen l 8 (by omega)) (sixteen l 24 (by omega)) (num_lt' l 8 8 18446744073709551616 (by decide)) (num_lt' l 16 8 18446744073709551616 (by decide)) (num_lt' l 24 8 18446744073709551616 (by decide)) (num_lt' l 32 8 18446744073709551616 (by decide)) (by omega) g1)
/-- a part of a beginning -/
theorem cut_take (l : List UInt8) (k a s : Nat) (h : a + s ≤ k) : ((l.take k).drop a).take s = (l.drop a).take s := by
  rw [List.drop_take, List.take_take, Nat.min_eq_left (by omega)]
theorem stF_hd (L : List UInt8) (k : Nat) (hh : HdT (L.take k)) : stF L = stO (((L.take k).drop 20).take (4 * (num (((L.take k).drop 12).take 1) / 16) - 20)) := by
  obtain ⟨b1, b2, b3, b4⟩ := hh
  have hlk : (L.take k).length ≤ k := by rw [List.length_take]; omega
  have hlL : (L.take k).length ≤ L.length := by rw [List.length_take]; omega
  have e12 := cut_take L k 12 1 (by omega)
  rw [e12] at b2 b3 b4
  have hhL : HdT L := ⟨by omega, b2, b3, by omega⟩
  rw [show stF L = stO ((L.drop 20).take (4 * (num ((L.drop 12).take 1) / 16) - 20)) from if_pos hhL, e12, cut_take L k 20 _ (by omega)]
theorem stF_take (L : List UInt8) (k : Nat) (h : (stF (L.take k)).2 = true) : stF (L.take k) = stF L := by
  by_cases hh : HdT (L.take k)
  case neg => rw [show stF (L.take k) = (0, false) from if_neg hh] at h; cases h
  rw [stF_hd L k hh]
  exact if_pos hh
theorem zF_take (l : List UInt8) (six : Bool) (k : Nat) (hk : 1 ≤ k) : zF (l.take k) six = zF l six := by
  unfold zF
  rw [cut_take l k 0 1 (by omega)]
/-- what a beginning tells is what the whole tells -/
theorem ste_take (l : List UInt8) (six : Bool) (k : Nat) (ok : SteOK (l.take k) six) : SteOK l six ∧ shF (l.take k) six = shF l six ∧ slF (l.take k) six = slF l six ∧ dhF (l.take k) six = dhF l six ∧ dlF (l.take k) six = dlF l six ∧ spF (l.take k) six = spF l six ∧ dpF (l.take k) six = dpF l six ∧ prF (l.take k) six = prF l six ∧ (stH (l.take k) six = true → stH l six = true ∧ stV (l.take k) six = stV l six) := by
  obtain ⟨a1, a2, a3, a4, a5, a6⟩ := ok
  have hlk : (l.take k).length ≤ k := by rw [List.length_take]; omega
  have hll : (l.take k).length ≤ l.length := by rw [List.length_take]; omega
  have ez := zF_take l six k (by omega)
  have ep : prF (l.take k) six = prF l six := by
    unfold prF
    rw [cut_take l k 6 1 (by omega), cut_take l k 9 1 (by omega)]
  have h40 : six = true → 48 ≤ k := fun h => by
    subst h
    have : 40 + 8 ≤ (l.take k).length := a4
    omega
  rw [ez] at a3 a4
  have eL : (l.take k).drop (zF l six) = (l.drop (zF l six)).take (k - zF l six) := by rw [List.drop_take]
  refine ⟨⟨by omega, by rw [← cut_take l k 0 1 (by omega)]; exact a2, a3, by omega, fun h => by rw [← cut_take l k 6 2 (by omega)]; exact a5 h, by rw [← ep]; exact a6⟩, ?_, ?_, ?_, ?_, ?_, ?_, ep, ?_⟩
  · unfold shF; cases six with
    | false => rfl
    | true => have := h40 rfl; rw [cut_take l k 8 8 (by omega)]
  · unfold slF; cases six with
    | false => rw [cut_take l k 16 8 (by omega), cut_take l k 12 4 (by omega)] <;> rfl
    | true => have := h40 rfl; rw [cut_take l k 16 8 (by omega), cut_take l k 12 4 (by omega)]
  · unfold dhF; cases six with
    | false => rfl
    | true => have := h40 rfl; rw [cut_take l k 24 8 (by omega)]
  · unfold dlF; cases six with
    | false => rw [cut_take l k 16 4 (by omega)]; rfl
    | true => have := h40 rfl; rw [cut_take l k 32 8 (by omega), cut_take l k 16 4 (by omega)]
  · unfold spF; rw [ez, eL, cut_take _ _ 0 2 (by omega)]
  · unfold dpF; rw [ez, eL, cut_take _ _ 2 2 (by omega)]
  · intro hH
    unfold stH at hH ⊢
    unfold stV
    rw [ep, ez, eL] at hH ⊢
    by_cases h6 : prF l six = 6
    · rw [if_pos h6] at hH
      have e := stF_take _ _ hH
      rw [if_pos h6, if_pos h6, if_pos h6, e]
      rw [e] at hH
      exact ⟨hH, rfl⟩
    · rw [if_neg h6] at hH; cases hH
end Go.Proofs.Ytfmkndemkpecpaa

/- The beginning of a packet (chapter 29): what both sides tell, for any bytes. -/
namespace Go.Proofs.Ytfmkndemkpecpaa
open Go.RowKit
set_option linter.unusedVariables false
set_option linter.unusedSimpArgs false
attribute [local go_sem ↓] sliced_cut

attribute [local go_sem] cutA_zero

/-- what both sides tell, as one word -/
def Tells (A : Option Addr) (n c : Nat) (six : Bool) (w : World) : Prop :=
  ∃ (s1 : Bool) (h1 l1 : Nat) (s2 : Bool) (h2 l2 sp dp p st : Nat) (has ok : Bool),
    (∀ w', Below w.heap.size w w' → Calls Try.prog 13 #[.slice A n c, .bool six] w' (RetV w' (.tuple #[.agg (qC s1 h1 l1 s2 h2 l2 sp dp p st has).toArray, .bool ok]))) ∧
    (∀ w', Below w.heap.size w w' → Calls Try.prog 14 #[.slice A n c, .bool six] w' (RetV w' (.tuple #[.agg (qC s1 h1 l1 s2 h2 l2 sp dp p st has).toArray, .bool ok])))

theorem Tells.bad {A : Option Addr} {n c : Nat} {six : Bool} {w : World}
    (H1 : ∀ w', Below w.heap.size w w' → Calls Try.prog 13 #[.slice A n c, .bool six] w' (RetV w' (.tuple #[.agg (qC false 0 0 false 0 0 0 0 0 0 false).toArray, .bool false])))
    (H2 : ∀ w', Below w.heap.size w w' → Calls Try.prog 14 #[.slice A n c, .bool six] w' (RetV w' (.tuple #[.agg (qC false 0 0 false 0 0 0 0 0 0 false).toArray, .bool false]))) : Tells A n c six w :=
  ⟨false, 0, 0, false, 0, 0, 0, 0, 0, 0, false, false, H1, H2⟩

theorem drop_sub (l : List UInt8) (z k : Nat) (s : Nat) : ((l.drop z).drop k).take s = (l.drop (z + k)).take s := by rw [List.drop_drop]

end Go.Proofs.Ytfmkndemkpecpaa

/- Packets of IPv4: Packet. -/
namespace Go.Proofs.Ytfmkndemkpecpaa
open Go.RowKit
set_option linter.unusedVariables false
set_option linter.unusedSimpArgs false
attribute [local go_sem ↓] sliced_cut

attribute [local go_sem] cutA_zero

set_option maxHeartbeats 4000000 in
set_option maxRecDepth 100000 in
theorem packet4_ok (ts : Nat) (l0 : Int) (id : Nat) (st mo : Bool) (fo tl pr sm sl dl : Nat) (A : Option Addr) (n k : Nat) (o : List UInt8) (A2 : Option Addr) (m c2 : Nat) (load : List UInt8) (w : World) (hr : Rb w A n k o) (h2 : Rb w A2 m c2 load) (b1 : ts < 256) (b2 : id < 65536) (b3 : tl < 256) (b4 : pr < 256) (b5 : sl < 4294967296) (b6 : dl < 4294967296) (d1 : n ≤ 40) (d2 : n % 4 = 0) (c4 : 20 + n + m ≤ 65535) (c5 : fo ≤ 8191) : Calls Try.prog 48 #[.agg (h4C ts l0 id st mo (fo : Int) tl pr sm false 0 sl false 0 dl A n k).toArray, .slice A2 m c2] w (RetBE w (ip4B ts (20 + n + m) id (pl4 st mo fo) tl pr (ip4K ts (20 + n + m) id (pl4 st mo fo) tl pr sl dl o) sl dl o ++ load) 0) := by
  obtain ⟨du, u1, u2⟩ := rowH4
  obtain ⟨z, hz0⟩ : ∃ z : Nat, z = 20 + n := ⟨_, rfl⟩
  have HS := Lib.hid (fun w => size4 ts l0 id st mo (fo : Int) tl pr sm false 0 sl false 0 dl A n k w (by omega))
  rw [← hz0] at HS
  obtain ⟨L, hL⟩ : ∃ L : Nat, L = z + m := ⟨_, rfl⟩
  have a1 : IntKind.i64.wrap ((z : Int) + (m : Int)) = (L : Int) := by rw [IntWalk.i64_in _ (by omega)]; omega
  have a2 : IntKind.i64.wrap (20 + (n : Int)) = (z : Int) := by rw [IntWalk.i64_in _ (by omega)]; omega
  have a3 : decide (65535 < (L : Int)) = false := by simp only [decide_eq_false_iff_not]; omega
  have a4 : decide (65535 < L) = false := by simp only [decide_eq_false_iff_not]; omega
  have hb : Bk (w.alloc (.cells (h4C ts l0 id st mo (fo : Int) tl pr sm false 0 sl false 0 dl A n k).toArray 140)) w.heap.size 140 (h4C ts l0 id st mo (fo : Int) tl pr sm false 0 sl false 0 dl A n k) := Bk.new w 140 (h4C ts l0 id st mo (fo : Int) tl pr sm false 0 sl false 0 dl A n k).toArray
  have be : Below w.heap.size w (w.alloc (.cells (h4C ts l0 id st mo (fo : Int) tl pr sm false 0 sl false 0 dl A n k).toArray 140)) := Below.allocS (Below.refl _ _) _
  have HR := Lib.hid (fun w => right4 ts (L : Int) id st mo (fo : Int) tl pr sm false 0 sl false 0 dl A n k w (by omega) (by omega) (by omega) (by omega) (by omega) (by omega) (by omega))
  rw [r4_yes n L fo sl dl d1 d2 (by omega) (by omega) c5 b5 b6] at HR
  have HB := Lib.hid (fun w (hr : Rb w A n k o) => ip4Bytes_yes ts L id st mo fo tl pr sm sl dl A n k o w hr b1 b2 b3 b4 b5 b6 d1 d2 (by omega) (by omega) c5)
  have hlen := ip4B_length ts L id (pl4 st mo fo) tl pr (ip4K ts L id (pl4 st mo fo) tl pr sl dl o) sl dl o
  rw [hr.1] at hlen
  rw [show 20 + n + m = L from by omega]
  generalize ip4B ts L id (pl4 st mo fo) tl pr (ip4K ts L id (pl4 st mo fo) tl pr sl dl o) sl dl o = B at *
  clear hz0 hL
  go_enter Try.func48, Try.ntmps48
  go_upto_region 1 with (fail)
  generalize w.alloc (.cells (h4C ts l0 id st mo (fo : Int) tl pr sm false 0 sl false 0 dl A n k).toArray 140) = W at *
  have y15 : W.cell? ⟨w.heap.size, 15, none⟩ = some (.slice A n k) := hb.cell 15
  have y1 : W.cell? ⟨w.heap.size, 1, none⟩ = some (.int .i64 l0) := hb.cell 1
  have fr := hb.frozen 1
  have zb := hb.lt
  go_wp2_with (refine at_op (.load 140 (.tmp 2)) rfl ?_; refine wpList_ldA (t := 140) 140 (.tmp 2) rfl rfl (h4C ts l0 id st mo (fo : Int) tl pr sm false 0 sl false 0 dl A n k) rfl (by with_reducible repeat (first | exact hb | refine Bk.later ?_ (below_plus _ _ _) | refine Bk.alloc ?_ _)) (whole_ _) u1 u2 (szH4 _ _ _ _ _ _ _ _ _ _ _ _ _ _ _ _ _ _) ?_)
  refine (HS.out _).mono ?_
  rintro e w1 ⟨bs0, m0, rfl, rfl⟩
  replace hb := hb.later (below_plus _ bs0 m0)
  replace be := belowP be bs0 m0
  clear y15 y1 fr zb
  generalize plus W bs0 m0 = V at *
  have y1 : V.cell? ⟨w.heap.size, 1, none⟩ = some (.int .i64 l0) := hb.cell 1
  have fr := hb.frozen 1
  have zb := hb.lt
  go_upto_region 2 with (fail)
  replace hb : Bk (V.setCell ⟨w.heap.size, 1, none⟩ (.int .i64 (L : Int))) w.heap.size 140 (h4C ts (L : Int) id st mo (fo : Int) tl pr sm false 0 sl false 0 dl A n k) := hb.set_ 1 _
  replace be := be.setCell (p := ⟨w.heap.size, 1, none⟩) (Nat.le_refl _) (.int .i64 (L : Int))
  clear y1 fr zb 
  generalize V.setCell ⟨w.heap.size, 1, none⟩ (.int .i64 (L : Int)) = W2 at *
  have y1 : W2.cell? ⟨w.heap.size, 1, none⟩ = some (.int .i64 (L : Int)) := hb.cell 1
  have zb := hb.lt
  go_wp2_with (refine at_op (.load 140 (.tmp 2)) rfl ?_; refine wpList_ldA (t := 140) 140 (.tmp 2) rfl rfl (h4C ts (L : Int) id st mo (fo : Int) tl pr sm false 0 sl false 0 dl A n k) rfl (by with_reducible repeat (first | exact hb | refine Bk.later ?_ (below_plus _ _ _) | refine Bk.alloc ?_ _)) (whole_ _) u1 u2 (szH4 _ _ _ _ _ _ _ _ _ _ _ _ _ _ _ _ _ _) ?_)
  refine (HR.out _).mono ?_
  rintro e w1 ⟨bs1, m1, rfl, rfl⟩
  go_wp2_with (refine at_op (.load 140 (.tmp 2)) rfl ?_; refine wpList_ldA (t := 140) 140 (.tmp 2) rfl rfl (h4C ts (L : Int) id st mo (fo : Int) tl pr sm false 0 sl false 0 dl A n k) rfl (by with_reducible repeat (first | exact hb | refine Bk.later ?_ (below_plus _ _ _) | refine Bk.alloc ?_ _)) (whole_ _) u1 u2 (szH4 _ _ _ _ _ _ _ _ _ _ _ _ _ _ _ _ _ _) ?_)
  refine (HB.out _ (hr.later (by with_reducible repeat (first | exact be | refine belowP ?_ _ _)))).mono ?_
  rintro e w1 ⟨A3, n3, c3, bs2, m2, rfl, rfl, ho3⟩
  have l3 : n3 ≤ 100 := by rw [← ho3.1]; omega
  go_wp2_with (at_builtin; refine wpList_appP (l2 := load) _ bt rfl (.tmp 19) (.tmp 20) rfl (by exact below_plus _ bs2 m2) rfl ho3 rfl (h2.later (by with_reducible repeat (first | exact be | refine belowP ?_ _ _))) (by omega) ?_; intro A4 n4 k4 bs4 m4 ho4 hg4)
  go_ret2
  exact RetBE.mk ho4.rb (by with_reducible repeat (first | exact be | refine belowP ?_ _ _))
end Go.Proofs.Ytfmkndemkpecpaa

/- The law SteerReads (chapter 29). -/
namespace Go.Proofs.Ytfmkndemkpecpaa
open Go.RowKit
set_option linter.unusedVariables false
set_option linter.unusedSimpArgs false
attribute [local go_sem ↓] sliced_cut

attribute [local go_sem] cutA_zero

set_option maxRecDepth 100000 in
theorem bytes28 : num (((ip4B 0 28 0 (pl4 false false 0) 9 17 (ip4K 0 28 0 (pl4 false false 0) 9 17 0 0 []) 0 0 [] ++ [0, 7, 0, 9, 0, 8, 0, 0]).drop 0).take 1) = 69 ∧ num (((ip4B 0 28 0 (pl4 false false 0) 9 17 (ip4K 0 28 0 (pl4 false false 0) 9 17 0 0 []) 0 0 [] ++ [0, 7, 0, 9, 0, 8, 0, 0]).drop 6).take 2) = 0 ∧ num (((ip4B 0 28 0 (pl4 false false 0) 9 17 (ip4K 0 28 0 (pl4 false false 0) 9 17 0 0 []) 0 0 [] ++ [0, 7, 0, 9, 0, 8, 0, 0]).drop 9).take 1) = 17 ∧ num (((ip4B 0 28 0 (pl4 false false 0) 9 17 (ip4K 0 28 0 (pl4 false false 0) 9 17 0 0 []) 0 0 [] ++ [0, 7, 0, 9, 0, 8, 0, 0]).drop 20).take 2) = 7 ∧ num (((ip4B 0 28 0 (pl4 false false 0) 9 17 (ip4K 0 28 0 (pl4 false false 0) 9 17 0 0 []) 0 0 [] ++ [0, 7, 0, 9, 0, 8, 0, 0]).drop 22).take 2) = 9 ∧ (ip4B 0 28 0 (pl4 false false 0) 9 17 (ip4K 0 28 0 (pl4 false false 0) 9 17 0 0 []) 0 0 [] ++ [0, 7, 0, 9, 0, 8, 0, 0]).length = 28 := by
  refine ⟨?_, ?_, ?_, ?_, ?_, ?_⟩ <;> decide +kernel
set_option maxHeartbeats 4000000 in
set_option maxRecDepth 100000 in
theorem awake29 (w : World) : Calls Try.prog 12 #[] w (RetV w (.bool true)) := by
  have HP : ∀ A c w, Rb w A 8 c [0, 7, 0, 9, 0, 8, 0, 0] → Calls Try.prog 48 #[.agg #[.int .u8 0, .int .i64 0, .int .u16 0, .bool false, .bool false, .int .i64 0, .int .u8 9, .int .u8 17, .int .u16 0, .bool false, .int .u64 0, .int .u64 0, .bool false, .int .u64 0, .int .u64 0, .slice none 0 0], .slice A 8 c] w (RetBE w (ip4B 0 28 0 (pl4 false false 0) 9 17 (ip4K 0 28 0 (pl4 false false 0) 9 17 0 0 []) 0 0 [] ++ [0, 7, 0, 9, 0, 8, 0, 0]) 0) :=
    fun A c w h => packet4_ok 0 0 0 false false 0 9 17 0 0 0 none 0 0 [] A 8 c [0, 7, 0, 9, 0, 8, 0, 0] w Rb.nil_ h (by decide) (by decide) (by decide) (by decide) (by decide) (by decide) (by decide) (by decide) (by decide) (by decide)
  obtain ⟨e1, e2, e3, e4, e5, hl⟩ := bytes28
  generalize (ip4B 0 28 0 (pl4 false false 0) 9 17 (ip4K 0 28 0 (pl4 false false 0) 9 17 0 0 []) 0 0 [] ++ [0, 7, 0, 9, 0, 8, 0, 0]) = L at *
  have HR : ∀ A c w, Rb w A 28 c L → Calls Try.prog 13 #[.slice A 28 c, .bool false] w (RetV w (.tuple #[.agg (qC false 0 (num ((L.drop 12).take 4)) false 0 (num ((L.drop 16).take 4)) 7 9 17 0 false).toArray, .bool true])) := fun A c w h => by
    refine steRead4_17 A 28 c _ _ _ _ _ _ 7 9 (L.drop 20) w (by rw [List.length_drop]; omega) (by rw [drop_sub]; exact e4) (by rw [drop_sub]; exact e5) (fun w' hb => ?_)
    have := open4_ok A 28 c L w' (h.later hb) (by decide) _ _ _ _ _ e1 e2 e3 rfl rfl (by decide) (by decide) (by decide) (by decide) (by decide)
    exact this
  have HS : ∀ A c w, Rb w A 27 c (L.take 27) → Calls Try.prog 13 #[.slice A 27 c, .bool false] w (RetV w (.tuple #[.agg (qC false 0 0 false 0 0 0 0 0 0 false).toArray, .bool false])) := fun A c w h => by
    refine steRead4_bad A 27 c w (fun w' hb => open4_2 A 27 c (L.take 27) w' (h.later hb) (by decide) 69 ?_ (by decide) (by decide) (.inr (by decide)))
    rw [← e1]
    congr 1
    rw [List.drop_zero, List.drop_zero, List.take_take]
    rfl
  obtain ⟨dq, r1, r2⟩ := rowQ
  replace HP := Lib.hid HP
  replace HR := Lib.hid HR
  replace HS := Lib.hid HS
  replace hl := Lib.hid hl
  clear e1 e2 e3 e4 e5
  generalize num ((L.drop 12).take 4) = sa at *
  generalize num ((L.drop 16).take 4) = da at *
  go_enter Try.func12, Try.ntmps12
  go_wp2_with fail
  refine (HP.out _ _ _ (Rb.litW _ [0, 7, 0, 9, 0, 8, 0, 0] (by simp) rfl (by decide) rfl)).mono ?_
  rintro e w1 ⟨A1, n1, c1, bs1, d1, rfl, rfl, h1⟩
  obtain rfl : n1 = 28 := by rw [← h1.1, hl.out]
  go_wp2_with fail
  refine (HR.out _ _ _ h1).mono ?_
  rintro e w1 ⟨bs2, d2, rfl, rfl⟩
  replace h1 := h1.plus_ bs2 d2
  have zx : 28 ≤ c1 := h1.2.1
  have zi : (27 : Int) ≤ (c1 : Int) := by omega
  go_upto_region 3 with (refine at_op (.store 32 (.tmp 3) (.tmp 16)) rfl ?_; refine wpList_stA (t := 32) 32 (.tmp 3) (.tmp 16) rfl rfl (qC false 0 sa false 0 da 7 9 17 0 false) (qC false 0 0 false 0 0 0 0 0 0 false) rfl (qC_one _ _ _ _ _ _ _ _ _ _ _) rfl rfl ?_ (szQ _ _ _ _ _ _ _ _ _ _ _) ?_; (· refine Bk.newK _ _ _ ?_ rfl; simp [size_plus]); intro W1 hX g1)
  have b7 := below_grown (Below.allocS (Below.refl _ _) _) g1 (by simp [size_plus])
  have be := below_grown (Below.allocS (belowP (belowP (Below.allocS (Below.refl w.heap.size w) _) bs1 d1) bs2 d2) _) g1 (by omega)
  replace h1 := h1.later b7
  clear b7 g1
  generalize w.heap.size + 1 + bs1.length + bs2.length = g3 at *
  have zX := hX.lt
  go_wp2_with fail
  refine (HS.out _ _ _ (h1.take (k := 27) (by omega))).mono ?_
  rintro e w1 ⟨bs3, d3, rfl, rfl⟩
  have y6 := hX.cell 6
  have y7 := hX.cell 7
  replace be := belowP be bs3 d3
  have b8 := below_plus W1 bs3 d3
  replace hX := hX.later b8
  clear b8 y6 y7 h1
  go_upto_region 4 with (refine at_op (.store 32 (.tmp 5) (.tmp 25)) rfl ?_; refine wpList_stA (t := 32) 32 (.tmp 5) (.tmp 25) rfl rfl (qC false 0 0 false 0 0 0 0 0 0 false) (qC false 0 0 false 0 0 0 0 0 0 false) rfl (qC_one _ _ _ _ _ _ _ _ _ _ _) rfl rfl ?_ (szQ _ _ _ _ _ _ _ _ _ _ _) ?_; (· refine Bk.newK _ _ _ ?_ rfl; simp [size_plus]); intro W2 hY g5)
  replace hX := ((hX.alloc _).grown g5 (by simp [size_plus]; omega))
  replace be := below_grown (Below.allocS be _) g5 (by have := be.size; simpa [size_plus] using this)
  have y6 : W2.cell? ⟨g3, 6, none⟩ = some (.int .u16 7) := hX.cell 6
  have y7 : W2.cell? ⟨g3, 7, none⟩ = some (.int .u16 9) := hX.cell 7
  go_wp2
  go_ret
  exact RetV.is_ rfl be
theorem build_q (w : World) (s1 : Bool) (h1 l1 : Nat) (s2 : Bool) (h2 l2 sp dp p st : Nat) (has : Bool) : (Instr.build 32 #[(0, .agg (flC s1 h1 l1 s2 h2 l2 sp dp p).toArray), (1, .int .u32 (st : Int)), (2, .bool has)]).run Try.prog w = .ok (.agg (qC s1 h1 l1 s2 h2 l2 sp dp p st has).toArray) w := by
  unfold flC qC
  go_simp
theorem eq_q (w : World) (s1 : Bool) (h1 l1 : Nat) (s2 : Bool) (h2 l2 sp dp p st : Nat) (has : Bool) : (binOp .eql 32 (.agg (qC s1 h1 l1 s2 h2 l2 sp dp p st has).toArray) (.agg (qC s1 h1 l1 s2 h2 l2 sp dp p st has).toArray)).run Try.prog w = .ok (.bool true) w := by
  unfold qC
  go_simp
attribute [local go_sem ↓] eq_q build_q

end Go.Proofs.Ytfmkndemkpecpaa

