/- The law Ip6Writes (chapter 5). -/
import Derived.Test.YticlohlpccollaaIp6C
import Derived.Test.YticlohlpccollaaOpn
namespace Go.Proofs.Yticlohlpccollaa
open Go.RowKit
set_option linter.unusedVariables false
set_option linter.unusedSimpArgs false
attribute [local go_sem ↓] sliced_cut
attribute [local go_sem] cutA_zero

theorem szR6 (cl lb : Nat) (ln : Int) (nx ht : Nat) (s6 : Bool) (sh sl : Nat) (d6 : Bool) (dh dl : Nat) : (Try.prog.info? 66).map (·.size) = some (h6C cl lb ln nx ht s6 sh sl d6 dh dl).length := by kernel_rfl
theorem rowR6 : ∃ d, Try.prog.underlying 66 = some d ∧ d.isRow = true := ⟨_, Try.underlying66, rfl⟩
/-- what ip6.Older of a written packet gives: as many bytes, the eighth one less -/
def RetO (w : World) (n x : Nat) (e : Ending) (w' : World) : Prop := ∃ g c, e = .returned (.tuple #[.slice (some ⟨g, 0, none⟩) n c, .int .i64 0]) ∧ Below w.heap.size w w' ∧ w'.cell? ⟨g, 7, none⟩ = some (.int .u8 (x : Int))
set_option maxHeartbeats 2000000 in
set_option maxRecDepth 100000 in
theorem ip6Older (cl lb ln nx ht sh sl dh dl : Nat) (A : Option Addr) (n c : Nat) (load : List UInt8) (w : World) (h1 : cl < 256) (h2 : lb < 1048576) (h3 : ln < 65536) (h4 : nx < 256) (h5 : ht < 256) (k1 : sh < 18446744073709551616) (k2 : sl < 18446744073709551616) (k3 : dh < 18446744073709551616) (k4 : dl < 18446744073709551616) (h : Rb w A n c (ip6B cl lb ln nx ht sh sl dh dl ++ load)) (hn : ln ≤ load.length) (hm : n ≤ 1000000) (ht2 : 2 ≤ ht) :
    Calls Try.prog 111 #[.slice A n c] w (RetO w n (ht - 1)) := by
  obtain ⟨dk, u1, u2⟩ := rowH6
  have HH := Lib.hid (fun w (h : Rb w A n c (ip6B cl lb ln nx ht sh sl dh dl ++ load)) => ip6Header cl lb ln nx ht sh sl dh dl A n c load w h1 h2 h3 h4 h5 k1 k2 k3 k4 h hn hm)
  have HC := Lib.hid (fun w (h : Rb w A n c (ip6B cl lb ln nx ht sh sl dh dl ++ load)) => clone_any A n c _ w h (by omega))
  have hlen : n = 40 + load.length := by rw [← h.1, List.length_append, ip6B_length]
  have h7 : (bcs (ip6B cl lb ln nx ht sh sl dh dl ++ load))[7]? = some (.int .u8 (ht : Int)) := by
    have e7 : (ip6B cl lb ln nx ht sh sl dh dl ++ load)[7]? = some (UInt8.ofNat ht) := by
      unfold ip6B
      rw [show dig (1610612736 + cl * 1048576 + lb) 4 ++ dig ln 2 ++ dig nx 1 ++ dig ht 1 ++ (dig sh 8 ++ dig sl 8) ++ (dig dh 8 ++ dig dl 8) ++ load = (dig (1610612736 + cl * 1048576 + lb) 4 ++ dig ln 2 ++ dig nx 1) ++ (dig ht 1 ++ ((dig sh 8 ++ dig sl 8) ++ ((dig dh 8 ++ dig dl 8) ++ load))) from by simp [List.append_assoc]]
      rw [List.getElem?_append_right (by simp [dig_length]), dig1 ht h5]
      simp [dig_length]
    simp only [bcs, List.getElem?_map, e7, Option.map_some]
    congr 3
    simp
    omega
  have hnl : 40 ≤ n := by omega
  replace hlen := Lib.hid hlen
  have hs1 : (ht : Int) - 1 = ((ht - 1 : Nat) : Int) := by omega
  generalize ip6B cl lb ln nx ht sh sl dh dl ++ load = L at *
  have be : Below w.heap.size w w := Below.refl _ _
  go_enter Try.func111, Try.ntmps111
  go_wp2_with fail
  refine (HH.out _ h).mono ?_
  rintro e w1 ⟨bs1, d1, rfl, rfl⟩
  go_upto_region 2 with (refine at_op (.store 67 (.tmp 4) (.tmp 10)) rfl ?_; refine wpList_stA (t := 67) 67 (.tmp 4) (.tmp 10) rfl rfl (h6C cl lb (ln : Int) nx ht true sh sl true dh dl) (h6C 0 0 0 0 0 false 0 0 false 0 0) rfl (h6C_one _ _ _ _ _ _ _ _ _ _ _) rfl rfl ?_ (szH6 _ _ _ _ _ _ _ _ _ _ _) ?_; (· refine Bk.newK _ _ _ ?_ rfl; simp [size_plus]); intro W b4 hgr)
  have be4 := below_grown (Below.allocS (belowP be bs1 d1) _) hgr (by omega)
  replace h := h.later be4
  have z4 := b4.lt
  have q4 : W.cell? ⟨w.heap.size + bs1.length, 4, none⟩ = some (.int .u8 (ht : Int)) := b4.cell 4
  generalize w.heap.size + bs1.length = g4 at *
  clear hgr be b4
  go_wp2_with fail
  refine (HC.out _ h).mono ?_
  rintro e w1 ⟨A2, n2, c2, bs2, d2, rfl, rfl, ho2⟩
  obtain rfl : n2 = n := by rw [← ho2.1, h.1]
  obtain ⟨g, cap, cur, hv, hg, hh, hnc, hcm, hcs, htk⟩ : ∃ g cap cur, Value.slice A2 n2 c2 = .slice (some ⟨g, 0, none⟩) n2 cap ∧ W.heap.size ≤ g ∧ (plus W bs2 d2).heap[g]? = some (.cells cur 5 (0, 0)) ∧ n2 ≤ cap ∧ cap ≤ maxLen ∧ True ∧ True := by
    rcases ho2.2.2 with ⟨_, h0⟩ | ⟨g, cap, cur, hv, hg, hh, h1, h2, _⟩
    · omega
    · exact ⟨g, cap, cur, hv, hg, hh, h1, h2, trivial, trivial⟩
  injection hv with e1 _ e3
  subst e1 e3
  have hrd := ho2.rb.2.2
  have hc7 : (plus W bs2 d2).cell? ⟨g, 7, none⟩ = some (.int .u8 (ht : Int)) := by
    rcases hrd with h' | ⟨b, off, hA, _, hcell⟩
    · rw [h'] at h7; simp at h7
    · injection hA with hA
      injection hA with hb ho
      subst hb
      have := hcell 7 _ h7
      rw [← ho] at this
      simpa using this
  have hf7 : (plus W bs2 d2).frozen? ⟨g, 7, none⟩ = false := by simp [World.frozen?, hh]
  have be5 := belowP be4 bs2 d2
  have zg : g < (plus W bs2 d2).heap.size := lt_of_cell hc7
  generalize plus W bs2 d2 = W5 at *
  clear hrd ho2 h hh
  go_wp2
  go_ret2
  have bb := be5.setCell (p := ⟨g, 7, none⟩) (by have := be4.size; simp; omega) (.int .u8 ((ht - 1 : Nat) : Int))
  exact ⟨g, c2, rfl, bb, World.cell?_setCell_same _ _ _ hc7⟩
set_option maxHeartbeats 2000000 in
set_option maxRecDepth 100000 in
theorem ip6Awake (w : World) : Calls Try.prog 36 #[] w (RetV w (.bool true)) := by
  have HP : ∀ A c w, Rb w A 1 c [1] → Calls Try.prog 42 #[.agg #[.int .u8 0, .int .u32 0, .int .i64 0, .int .u8 0, .int .u8 5, .bool true, .int .u64 0, .int .u64 0, .bool true, .int .u64 0, .int .u64 0], .slice A 1 c] w (RetBE w (ip6B 0 0 1 0 5 0 0 0 0 ++ [1]) 0) :=
    fun A c w h => ip6Packet_yes 0 0 0 0 5 0 0 0 0 A 1 c [1] w (by decide) (by decide) (by decide) (by decide) (by decide) (by decide) (by decide) (by decide) (by decide) h
  have HO : ∀ A c w, Rb w A 41 c (ip6B 0 0 1 0 5 0 0 0 0 ++ [1]) → Calls Try.prog 111 #[.slice A 41 c] w (RetO w 41 4) :=
    fun A c w h => ip6Older 0 0 1 0 5 0 0 0 0 A 41 c [1] w (by decide) (by decide) (by decide) (by decide) (by decide) (by decide) (by decide) (by decide) (by decide) h (by decide) (by decide) (by decide)
  have hl : (ip6B 0 0 1 0 5 0 0 0 0 ++ [1]).length = 41 := by rw [List.length_append, ip6B_length]; rfl
  generalize ip6B 0 0 1 0 5 0 0 0 0 ++ [1] = L at *
  replace HP := Lib.hid HP
  replace HO := Lib.hid HO
  replace hl := Lib.hid hl
  go_enter Try.func36, Try.ntmps36
  go_wp2_with fail
  refine (HP.out _ _ _ (Rb.litW _ [1] (by simp) rfl (by decide) rfl)).mono ?_
  rintro e w1 ⟨A1, n1, c1, bs1, d1, rfl, rfl, h1⟩
  obtain rfl : n1 = 41 := by rw [← h1.1, hl.out]
  go_wp2_with fail
  refine (HO.out _ _ _ h1).mono ?_
  rintro e w2 ⟨g, c2, rfl, hb2, hc⟩
  replace hc : w2.cell? ⟨g, 7, none⟩ = some (.int .u8 4) := hc
  go_wp2
  go_ret
  refine RetV.is_ rfl (Below.trans ?_ (hb2.mono (show w.heap.size ≤ _ from by simp [size_plus]; omega)))
  repeat (first | exact Below.refl _ _ | refine belowP ?_ _ _ | refine Below.allocS ?_ _)
set_option maxRecDepth 100000 in
theorem ip6To (cl lb : Nat) (ln : Int) (nx ht : Nat) (s6 : Bool) (sh sl : Nat) (d6 : Bool) (dh dl : Nat) (w : World) : Calls Try.prog 37 #[.agg (h6C cl lb ln nx ht s6 sh sl d6 dh dl).toArray] w (RetV w (.agg (h6C cl lb ln nx ht s6 sh sl d6 dh dl).toArray)) := by
  unfold h6C
  go_enter Try.func37, Try.ntmps37
  go_wp2
  refine bodyPost_ret (v := .agg #[.int .u8 (cl : Int), .int .u32 (lb : Int), .int .i64 ln, .int .u8 (nx : Int), .int .u8 (ht : Int), .bool s6, .int .u64 (sh : Int), .int .u64 (sl : Int), .bool d6, .int .u64 (dh : Int), .int .u64 (dl : Int)]) (by simp [results, Try.results37, go_sem]) rfl (RetV.mk ?_)
  exact Below.allocS (Below.allocS (Below.refl _ _) _) _
set_option maxRecDepth 100000 in
theorem eq_h6 (w : World) (cl lb : Nat) (ln : Int) (nx ht : Nat) (s6 : Bool) (sh sl : Nat) (d6 : Bool) (dh dl : Nat) : (binOp .eql 67 (.agg (h6C cl lb ln nx ht s6 sh sl d6 dh dl).toArray) (.agg (h6C cl lb ln nx ht s6 sh sl d6 dh dl).toArray)).run Try.prog w = .ok (.bool true) w := by
  unfold h6C
  go_simp
attribute [local go_sem ↓] eq_h6
set_option maxHeartbeats 4000000 in
set_option maxRecDepth 100000 in
theorem ip6Writes_of (w : World) (cl lb : Nat) (ln : Int) (nx ht : Nat) (s6 : Bool) (sh sl : Nat) (d6 : Bool) (dh dl : Nat) (A : Option Addr) (m c : Nat) (load : List UInt8) (h : Rb w A m c load) (hm : m ≤ 3000) (h1 : cl < 256) (hlb : lb < 4294967296) (hi : -9223372036854775808 ≤ ln ∧ ln ≤ 9223372036854775807) (h4 : nx < 256) (h5 : ht < 256) (k1 : sh < 18446744073709551616) (k2 : sl < 18446744073709551616) (k3 : dh < 18446744073709551616) (k4 : dl < 18446744073709551616) :
    Calls Try.prog 7 #[.agg (h6C cl lb ln nx ht s6 sh sl d6 dh dl).toArray, .slice A m c] w fun e w' => e = .returned (.bool true) ∧ Below w.heap.size w w' := by
  obtain ⟨dx, u1, u2⟩ := rowH6
  obtain ⟨dr, r1, r2⟩ := rowR6
  have hS : Bk (w.alloc (.cells (h6C cl lb ln nx ht s6 sh sl d6 dh dl).toArray 66)) w.heap.size 66 (h6C cl lb ln nx ht s6 sh sl d6 dh dl) := Bk.new w 66 (h6C cl lb ln nx ht s6 sh sl d6 dh dl).toArray
  have be : Below w.heap.size w (w.alloc (.cells (h6C cl lb ln nx ht s6 sh sl d6 dh dl).toArray 66)) := Below.allocS (Below.refl _ _) _
  have h0 := h
  replace h := h.alloc (.cells (h6C cl lb ln nx ht s6 sh sl d6 dh dl).toArray 66)
  have HTO := Lib.hid (fun w => ip6To cl lb ln nx ht s6 sh sl d6 dh dl w)
  have HR1 := Lib.hid (fun w => ip6Right cl lb ln nx ht s6 sh sl d6 dh dl w hlb hi)
  have HR2 := Lib.hid (fun w => refIp6Right cl lb ln nx ht s6 sh sl d6 dh dl w hlb hi)
  have HAW := Lib.hid ip6Awake
  go_enter Try.func7, Try.ntmps7
  go_upto_region 3 with (fail)
  generalize w.alloc (.cells (h6C cl lb ln nx ht s6 sh sl d6 dh dl).toArray 66) = W at *
  go_upto_region 4 with (first
    | (refine at_op (.load 66 (.tmp 2)) rfl ?_; refine wpList_ldA (t := 66) 66 (.tmp 2) rfl rfl (h6C cl lb ln nx ht s6 sh sl d6 dh dl) rfl (by with_reducible repeat (first | exact hS | refine Bk.later ?_ (below_plus _ _ _))) (whole_ _) r1 r2 (szR6 _ _ _ _ _ _ _ _ _ _ _) ?_)
    | (go_at_call 37; refine (HTO.out _).mono ?_; rintro e w1 ⟨bs2, d2, rfl, rfl⟩)
    | (refine at_op (.store 67 (.tmp 5) (.tmp 18)) rfl ?_; refine wpList_stA (t := 67) 67 (.tmp 5) (.tmp 18) rfl rfl (h6C cl lb ln nx ht s6 sh sl d6 dh dl) (h6C 0 0 0 0 0 false 0 0 false 0 0) rfl (h6C_one _ _ _ _ _ _ _ _ _ _ _) rfl rfl ?_ (szH6 _ _ _ _ _ _ _ _ _ _ _) ?_; (· refine Bk.newK _ _ _ ?_ rfl; simp [size_plus]); intro W3 hX hgr))
  have zb := be.size
  have z0 := hS.lt
  replace hS := ((hS.later (below_plus _ bs2 d2)).alloc _).grown hgr (by simp; omega)
  replace h := h.later (below_grown (Below.allocS (below_plus _ bs2 d2) _) hgr (by omega))
  replace be := below_grown (Below.allocS (belowP be bs2 d2) _) hgr (by omega)
  have hg5 : w.heap.size < W.heap.size + bs2.length := by omega
  generalize W.heap.size + bs2.length = g5 at *
  clear hgr zb z0 W
  cases hr : r6 lb ln s6 d6
  · rw [hr] at HR1 HR2
    have HB0 := Lib.hid (fun w => ip6Bytes_no cl lb ln nx ht s6 sh sl d6 dh dl w hlb hi hr)
    go_wp2
    refine wp_rel 29 99 rfl (by kernel_rfl) (by kernel_rfl) (fun i => match i with | 0 => MP.eq (.agg (h6C cl lb ln nx ht s6 sh sl d6 dh dl).toArray) | 1 => MP.eq (.bool false) | 2 => MP.eq (.agg (h6C cl lb ln nx ht s6 sh sl d6 dh dl).toArray) | 3 => MP.eq (.bool false) | 4 => MP.eq (.bool false) | 5 => MP.eq (.bool false) | 6 => MP.eq (.agg (h6C cl lb ln nx ht s6 sh sl d6 dh dl).toArray) | 7 => MP.eq (.bool false) | 8 => MP.eq (.bool false) | 9 => MP.eq (undef) | 10 => MP.eq (undef) | 11 => MP.eq (undef) | 12 => MP.eq (undef) | 13 => MP.eq (undef) | 14 => MP.eq (undef) | 15 => MP.eq (undef) | 16 => MP.eq (.bool false) | 17 => MP.eq (.bool false) | 18 => MP.eq (.bool false) | 19 => MP.eq (.agg (h6C cl lb ln nx ht s6 sh sl d6 dh dl).toArray) | 20 => MP.eq (.bool false) | 21 => MP.eq (.bool true) | 22 => MP.eq (.bool true) | 23 => MP.eq (.agg (h6C cl lb ln nx ht s6 sh sl d6 dh dl).toArray) | 24 => MP.eq (.slice none 0 0) | 25 => MP.eq (.int .i64 0) | 26 => MP.eq (.bool false) | 27 => MP.eq (.bool false) | 28 => MP.eq (.bool false) | _ => MP.any) ?_ ?_
    · intro i hi o ho FA x hO hD K hK
      match i, hi, ho, hO, hD, hK with
      | 0, _, ho, hO, hD, hK => 
        obtain rfl := Option.some.inj ho.symm
        clear ho
        have ev5 : FA.eval (.tmp 5) = .pointer (some ⟨g5, 0, none⟩) := hO 5 (by kernel_rfl)
        have e5 : FA.tmps[5]?.getD undef = .pointer (some ⟨g5, 0, none⟩) := by simpa [Act.eval] using ev5
        replace ev5 := Lib.hid ev5
        clear hO hD
        refine wanted_ifG (by go_simp) ?_
        refine wp_load_mid 67 (.tmp 5) rfl g5 0 ev5.out (h6C cl lb ln nx ht s6 sh sl d6 dh dl) _ (Bk.range (hX.later (below_plus _ _ _))) u1 u2 (szH6 _ _ _ _ _ _ _ _ _ _ _) ?_
        exact hK.out _ _ (Ex.refl _) rfl
      | 1, _, ho, hO, hD, hK => 
        obtain rfl := Option.some.inj ho.symm
        clear ho
        have ev19 : FA.eval (.tmp 19) = .agg (h6C cl lb ln nx ht s6 sh sl d6 dh dl).toArray := hD 0 19 (by kernel_rfl)
        have e19 : FA.tmps[19]?.getD undef = .agg (h6C cl lb ln nx ht s6 sh sl d6 dh dl).toArray := by simpa [Act.eval] using ev19
        replace ev19 := Lib.hid ev19
        clear hO hD
        go_simp
        refine (HR1.out _).mono ?_
        rintro e w1 ⟨bs2, d2, rfl, rfl⟩
        exact hK.out _ _ (Ex.plus_ _ _ _) rfl
      | 2, _, ho, hO, hD, hK => 
        obtain rfl := Option.some.inj ho.symm
        clear ho
        have ev2 : FA.eval (.tmp 2) = .pointer (some ⟨w.heap.size, 0, none⟩) := hO 2 (by kernel_rfl)
        have e2 : FA.tmps[2]?.getD undef = .pointer (some ⟨w.heap.size, 0, none⟩) := by simpa [Act.eval] using ev2
        replace ev2 := Lib.hid ev2
        clear hO hD
        refine wanted_ifG (by go_simp) ?_
        refine wp_load_mid 66 (.tmp 2) rfl w.heap.size 0 ev2.out (h6C cl lb ln nx ht s6 sh sl d6 dh dl) _ (Bk.range (hS.later (below_plus _ _ _))) r1 r2 (szR6 _ _ _ _ _ _ _ _ _ _ _) ?_
        exact hK.out _ _ (Ex.refl _) rfl
      | 3, _, ho, hO, hD, hK => 
        obtain rfl := Option.some.inj ho.symm
        clear ho
        have ev21 : FA.eval (.tmp 21) = .agg (h6C cl lb ln nx ht s6 sh sl d6 dh dl).toArray := hD 2 21 (by kernel_rfl)
        have e21 : FA.tmps[21]?.getD undef = .agg (h6C cl lb ln nx ht s6 sh sl d6 dh dl).toArray := by simpa [Act.eval] using ev21
        replace ev21 := Lib.hid ev21
        clear hO hD
        go_simp
        refine (HR2.out _).mono ?_
        rintro e w1 ⟨bs2, d2, rfl, rfl⟩
        exact hK.out _ _ (Ex.plus_ _ _ _) rfl
      | 4, _, ho, hO, hD, hK => 
        obtain rfl := Option.some.inj ho.symm
        clear ho
        have ev20 : FA.eval (.tmp 20) = .bool false := hD 1 20 (by kernel_rfl)
        have e20 : FA.tmps[20]?.getD undef = .bool false := by simpa [Act.eval] using ev20
        replace ev20 := Lib.hid ev20
        have ev22 : FA.eval (.tmp 22) = .bool false := hD 3 22 (by kernel_rfl)
        have e22 : FA.tmps[22]?.getD undef = .bool false := by simpa [Act.eval] using ev22
        replace ev22 := Lib.hid ev22
        clear hO hD
        go_simp
        exact hK.out _ _ (Ex.refl _) rfl
      | 5, _, ho, hO, hD, hK => 
        obtain rfl := Option.some.inj ho.symm
        clear ho
        have ev23 : FA.eval (.tmp 23) = .bool false := hD 4 23 (by kernel_rfl)
        have e23 : FA.tmps[23]?.getD undef = .bool false := by simpa [Act.eval] using ev23
        replace ev23 := Lib.hid ev23
        clear hO hD
        go_simp
        exact hK.out _ _ (Ex.refl _) rfl
      | 6, _, ho, hO, hD, hK => 
        obtain rfl := Option.some.inj ho.symm
        clear ho
        have ev2 : FA.eval (.tmp 2) = .pointer (some ⟨w.heap.size, 0, none⟩) := hO 2 (by kernel_rfl)
        have e2 : FA.tmps[2]?.getD undef = .pointer (some ⟨w.heap.size, 0, none⟩) := by simpa [Act.eval] using ev2
        replace ev2 := Lib.hid ev2
        have ev24 : FA.eval (.tmp 24) = .bool false := hD 5 24 (by kernel_rfl)
        have e24 : FA.tmps[24]?.getD undef = .bool false := by simpa [Act.eval] using ev24
        replace ev24 := Lib.hid ev24
        have ge24 := slot_of e24
        clear hO hD
        refine wanted_ifG (by go_simp) ?_
        refine wp_load_mid 66 (.tmp 2) rfl w.heap.size 0 ev2.out (h6C cl lb ln nx ht s6 sh sl d6 dh dl) _ (Bk.range (hS.later (below_plus _ _ _))) r1 r2 (szR6 _ _ _ _ _ _ _ _ _ _ _) ?_
        exact hK.out _ _ (Ex.refl _) rfl
      | 7, _, ho, hO, hD, hK => 
        obtain rfl := Option.some.inj ho.symm
        clear ho
        have ev25 : FA.eval (.tmp 25) = .agg (h6C cl lb ln nx ht s6 sh sl d6 dh dl).toArray := hD 6 25 (by kernel_rfl)
        have e25 : FA.tmps[25]?.getD undef = .agg (h6C cl lb ln nx ht s6 sh sl d6 dh dl).toArray := by simpa [Act.eval] using ev25
        replace ev25 := Lib.hid ev25
        have ev24 : FA.eval (.tmp 24) = .bool false := hD 5 24 (by kernel_rfl)
        have e24 : FA.tmps[24]?.getD undef = .bool false := by simpa [Act.eval] using ev24
        replace ev24 := Lib.hid ev24
        have ge24 := slot_of e24
        clear hO hD
        go_simp
        refine (HR2.out _).mono ?_
        rintro e w1 ⟨bs2, d2, rfl, rfl⟩
        exact hK.out _ _ (Ex.plus_ _ _ _) rfl
      | 8, _, ho, hO, hD, hK => 
        obtain rfl := Option.some.inj ho.symm
        clear ho
        have ev26 : FA.eval (.tmp 26) = .bool false := hD 7 26 (by kernel_rfl)
        have e26 : FA.tmps[26]?.getD undef = .bool false := by simpa [Act.eval] using ev26
        replace ev26 := Lib.hid ev26
        have ev24 : FA.eval (.tmp 24) = .bool false := hD 5 24 (by kernel_rfl)
        have e24 : FA.tmps[24]?.getD undef = .bool false := by simpa [Act.eval] using ev24
        replace ev24 := Lib.hid ev24
        have ge24 := slot_of e24
        clear hO hD
        go_simp
        exact hK.out _ _ (Ex.refl _) rfl
      | 9, _, ho, hO, hD, hK => 
        obtain rfl := Option.some.inj ho.symm
        clear ho
        have ev5 : FA.eval (.tmp 5) = .pointer (some ⟨g5, 0, none⟩) := hO 5 (by kernel_rfl)
        have e5 : FA.tmps[5]?.getD undef = .pointer (some ⟨g5, 0, none⟩) := by simpa [Act.eval] using ev5
        replace ev5 := Lib.hid ev5
        have ev27 : FA.eval (.tmp 27) = .bool false := hD 8 27 (by kernel_rfl)
        have e27 : FA.tmps[27]?.getD undef = .bool false := by simpa [Act.eval] using ev27
        replace ev27 := Lib.hid ev27
        have ge27 := slot_of e27
        clear hO hD
        go_simp
        exact hK.out _ _ (Ex.refl _) rfl
      | 10, _, ho, hO, hD, hK => 
        obtain rfl := Option.some.inj ho.symm
        clear ho
        have ev28 : FA.eval (.tmp 28) = undef := hD 9 28 (by kernel_rfl)
        have e28 : FA.tmps[28]?.getD undef = undef := by simpa [Act.eval] using ev28
        replace ev28 := Lib.hid ev28
        have ev27 : FA.eval (.tmp 27) = .bool false := hD 8 27 (by kernel_rfl)
        have e27 : FA.tmps[27]?.getD undef = .bool false := by simpa [Act.eval] using ev27
        replace ev27 := Lib.hid ev27
        have ge27 := slot_of e27
        clear hO hD
        go_simp
        exact hK.out _ _ (Ex.refl _) rfl
      | 11, _, ho, hO, hD, hK => 
        obtain rfl := Option.some.inj ho.symm
        clear ho
        have ev29 : FA.eval (.tmp 29) = undef := hD 10 29 (by kernel_rfl)
        have e29 : FA.tmps[29]?.getD undef = undef := by simpa [Act.eval] using ev29
        replace ev29 := Lib.hid ev29
        have ev27 : FA.eval (.tmp 27) = .bool false := hD 8 27 (by kernel_rfl)
        have e27 : FA.tmps[27]?.getD undef = .bool false := by simpa [Act.eval] using ev27
        replace ev27 := Lib.hid ev27
        have ge27 := slot_of e27
        clear hO hD
        go_simp
        exact hK.out _ _ (Ex.refl _) rfl
      | 12, _, ho, hO, hD, hK => 
        obtain rfl := Option.some.inj ho.symm
        clear ho
        have ev2 : FA.eval (.tmp 2) = .pointer (some ⟨w.heap.size, 0, none⟩) := hO 2 (by kernel_rfl)
        have e2 : FA.tmps[2]?.getD undef = .pointer (some ⟨w.heap.size, 0, none⟩) := by simpa [Act.eval] using ev2
        replace ev2 := Lib.hid ev2
        have ev27 : FA.eval (.tmp 27) = .bool false := hD 8 27 (by kernel_rfl)
        have e27 : FA.tmps[27]?.getD undef = .bool false := by simpa [Act.eval] using ev27
        replace ev27 := Lib.hid ev27
        have ge27 := slot_of e27
        clear hO hD
        go_simp
        exact hK.out _ _ (Ex.refl _) rfl
      | 13, _, ho, hO, hD, hK => 
        obtain rfl := Option.some.inj ho.symm
        clear ho
        have ev31 : FA.eval (.tmp 31) = undef := hD 12 31 (by kernel_rfl)
        have e31 : FA.tmps[31]?.getD undef = undef := by simpa [Act.eval] using ev31
        replace ev31 := Lib.hid ev31
        have ev27 : FA.eval (.tmp 27) = .bool false := hD 8 27 (by kernel_rfl)
        have e27 : FA.tmps[27]?.getD undef = .bool false := by simpa [Act.eval] using ev27
        replace ev27 := Lib.hid ev27
        have ge27 := slot_of e27
        clear hO hD
        go_simp
        exact hK.out _ _ (Ex.refl _) rfl
      | 14, _, ho, hO, hD, hK => 
        obtain rfl := Option.some.inj ho.symm
        clear ho
        have ev32 : FA.eval (.tmp 32) = undef := hD 13 32 (by kernel_rfl)
        have e32 : FA.tmps[32]?.getD undef = undef := by simpa [Act.eval] using ev32
        replace ev32 := Lib.hid ev32
        have ev27 : FA.eval (.tmp 27) = .bool false := hD 8 27 (by kernel_rfl)
        have e27 : FA.tmps[27]?.getD undef = .bool false := by simpa [Act.eval] using ev27
        replace ev27 := Lib.hid ev27
        have ge27 := slot_of e27
        clear hO hD
        go_simp
        exact hK.out _ _ (Ex.refl _) rfl
      | 15, _, ho, hO, hD, hK => 
        obtain rfl := Option.some.inj ho.symm
        clear ho
        have ev30 : FA.eval (.tmp 30) = undef := hD 11 30 (by kernel_rfl)
        have e30 : FA.tmps[30]?.getD undef = undef := by simpa [Act.eval] using ev30
        replace ev30 := Lib.hid ev30
        have ev33 : FA.eval (.tmp 33) = undef := hD 14 33 (by kernel_rfl)
        have e33 : FA.tmps[33]?.getD undef = undef := by simpa [Act.eval] using ev33
        replace ev33 := Lib.hid ev33
        have ev27 : FA.eval (.tmp 27) = .bool false := hD 8 27 (by kernel_rfl)
        have e27 : FA.tmps[27]?.getD undef = .bool false := by simpa [Act.eval] using ev27
        replace ev27 := Lib.hid ev27
        have ge27 := slot_of e27
        clear hO hD
        go_simp
        exact hK.out _ _ (Ex.refl _) rfl
      | 16, _, ho, hO, hD, hK => 
        obtain rfl := Option.some.inj ho.symm
        clear ho
        have ev27 : FA.eval (.tmp 27) = .bool false := hD 8 27 (by kernel_rfl)
        have e27 : FA.tmps[27]?.getD undef = .bool false := by simpa [Act.eval] using ev27
        replace ev27 := Lib.hid ev27
        have ev34 : FA.eval (.tmp 34) = undef := hD 15 34 (by kernel_rfl)
        have e34 : FA.tmps[34]?.getD undef = undef := by simpa [Act.eval] using ev34
        replace ev34 := Lib.hid ev34
        have ev24 : FA.eval (.tmp 24) = .bool false := hD 5 24 (by kernel_rfl)
        have e24 : FA.tmps[24]?.getD undef = .bool false := by simpa [Act.eval] using ev24
        replace ev24 := Lib.hid ev24
        have ge24 := slot_of e24
        clear hO hD
        go_simp
        exact hK.out _ _ (Ex.refl _) rfl
      | 17, _, ho, hO, hD, hK => 
        obtain rfl := Option.some.inj ho.symm
        clear ho
        have ev24 : FA.eval (.tmp 24) = .bool false := hD 5 24 (by kernel_rfl)
        have e24 : FA.tmps[24]?.getD undef = .bool false := by simpa [Act.eval] using ev24
        replace ev24 := Lib.hid ev24
        have ev35 : FA.eval (.tmp 35) = .bool false := hD 16 35 (by kernel_rfl)
        have e35 : FA.tmps[35]?.getD undef = .bool false := by simpa [Act.eval] using ev35
        replace ev35 := Lib.hid ev35
        clear hO hD
        go_simp
        exact hK.out _ _ (Ex.refl _) rfl
      | 18, _, ho, hO, hD, hK => 
        obtain rfl := Option.some.inj ho.symm
        clear ho
        have ev36 : FA.eval (.tmp 36) = .bool false := hD 17 36 (by kernel_rfl)
        have e36 : FA.tmps[36]?.getD undef = .bool false := by simpa [Act.eval] using ev36
        replace ev36 := Lib.hid ev36
        clear hO hD
        go_simp
        exact hK.out _ _ (Ex.refl _) rfl
      | 19, _, ho, hO, hD, hK => 
        obtain rfl := Option.some.inj ho.symm
        clear ho
        have ev2 : FA.eval (.tmp 2) = .pointer (some ⟨w.heap.size, 0, none⟩) := hO 2 (by kernel_rfl)
        have e2 : FA.tmps[2]?.getD undef = .pointer (some ⟨w.heap.size, 0, none⟩) := by simpa [Act.eval] using ev2
        replace ev2 := Lib.hid ev2
        have ev37 : FA.eval (.tmp 37) = .bool false := hD 18 37 (by kernel_rfl)
        have e37 : FA.tmps[37]?.getD undef = .bool false := by simpa [Act.eval] using ev37
        replace ev37 := Lib.hid ev37
        have ge37 := slot_of e37
        clear hO hD
        refine wanted_ifG (by go_simp) ?_
        refine wp_load_mid 66 (.tmp 2) rfl w.heap.size 0 ev2.out (h6C cl lb ln nx ht s6 sh sl d6 dh dl) _ (Bk.range (hS.later (below_plus _ _ _))) r1 r2 (szR6 _ _ _ _ _ _ _ _ _ _ _) ?_
        exact hK.out _ _ (Ex.refl _) rfl
      | 20, _, ho, hO, hD, hK => 
        obtain rfl := Option.some.inj ho.symm
        clear ho
        have ev38 : FA.eval (.tmp 38) = .agg (h6C cl lb ln nx ht s6 sh sl d6 dh dl).toArray := hD 19 38 (by kernel_rfl)
        have e38 : FA.tmps[38]?.getD undef = .agg (h6C cl lb ln nx ht s6 sh sl d6 dh dl).toArray := by simpa [Act.eval] using ev38
        replace ev38 := Lib.hid ev38
        have ev37 : FA.eval (.tmp 37) = .bool false := hD 18 37 (by kernel_rfl)
        have e37 : FA.tmps[37]?.getD undef = .bool false := by simpa [Act.eval] using ev37
        replace ev37 := Lib.hid ev37
        have ge37 := slot_of e37
        clear hO hD
        go_simp
        refine (HR2.out _).mono ?_
        rintro e w1 ⟨bs2, d2, rfl, rfl⟩
        exact hK.out _ _ (Ex.plus_ _ _ _) rfl
      | 21, _, ho, hO, hD, hK => 
        obtain rfl := Option.some.inj ho.symm
        clear ho
        have ev39 : FA.eval (.tmp 39) = .bool false := hD 20 39 (by kernel_rfl)
        have e39 : FA.tmps[39]?.getD undef = .bool false := by simpa [Act.eval] using ev39
        replace ev39 := Lib.hid ev39
        have ev37 : FA.eval (.tmp 37) = .bool false := hD 18 37 (by kernel_rfl)
        have e37 : FA.tmps[37]?.getD undef = .bool false := by simpa [Act.eval] using ev37
        replace ev37 := Lib.hid ev37
        have ge37 := slot_of e37
        clear hO hD
        go_simp
        exact hK.out _ _ (Ex.refl _) rfl
      | 22, _, ho, hO, hD, hK => 
        obtain rfl := Option.some.inj ho.symm
        clear ho
        have ev40 : FA.eval (.tmp 40) = .bool true := hD 21 40 (by kernel_rfl)
        have e40 : FA.tmps[40]?.getD undef = .bool true := by simpa [Act.eval] using ev40
        replace ev40 := Lib.hid ev40
        have ev37 : FA.eval (.tmp 37) = .bool false := hD 18 37 (by kernel_rfl)
        have e37 : FA.tmps[37]?.getD undef = .bool false := by simpa [Act.eval] using ev37
        replace ev37 := Lib.hid ev37
        have ge37 := slot_of e37
        clear hO hD
        go_simp
        exact hK.out _ _ (Ex.refl _) rfl
      | 23, _, ho, hO, hD, hK => 
        obtain rfl := Option.some.inj ho.symm
        clear ho
        have ev5 : FA.eval (.tmp 5) = .pointer (some ⟨g5, 0, none⟩) := hO 5 (by kernel_rfl)
        have e5 : FA.tmps[5]?.getD undef = .pointer (some ⟨g5, 0, none⟩) := by simpa [Act.eval] using ev5
        replace ev5 := Lib.hid ev5
        have ev41 : FA.eval (.tmp 41) = .bool true := hD 22 41 (by kernel_rfl)
        have e41 : FA.tmps[41]?.getD undef = .bool true := by simpa [Act.eval] using ev41
        replace ev41 := Lib.hid ev41
        have ge41 := slot_of e41
        clear hO hD
        refine wanted_ifG (by go_simp) ?_
        refine wp_load_mid 67 (.tmp 5) rfl g5 0 ev5.out (h6C cl lb ln nx ht s6 sh sl d6 dh dl) _ (Bk.range (hX.later (below_plus _ _ _))) u1 u2 (szH6 _ _ _ _ _ _ _ _ _ _ _) ?_
        exact hK.out _ _ (Ex.refl _) rfl
      | 24, _, ho, hO, hD, hK => 
        obtain rfl := Option.some.inj ho.symm
        clear ho
        have ev42 : FA.eval (.tmp 42) = .agg (h6C cl lb ln nx ht s6 sh sl d6 dh dl).toArray := hD 23 42 (by kernel_rfl)
        have e42 : FA.tmps[42]?.getD undef = .agg (h6C cl lb ln nx ht s6 sh sl d6 dh dl).toArray := by simpa [Act.eval] using ev42
        replace ev42 := Lib.hid ev42
        have ev41 : FA.eval (.tmp 41) = .bool true := hD 22 41 (by kernel_rfl)
        have e41 : FA.tmps[41]?.getD undef = .bool true := by simpa [Act.eval] using ev41
        replace ev41 := Lib.hid ev41
        have ge41 := slot_of e41
        clear hO hD
        go_simp
        refine (HB0.out _).mono ?_
        rintro e w1 ⟨bs2, d2, rfl, rfl⟩
        exact hK.out _ _ (Ex.plus_ _ _ _) rfl
      | 25, _, ho, hO, hD, hK => 
        obtain rfl := Option.some.inj ho.symm
        clear ho
        have ev43 : FA.eval (.tmp 43) = .slice none 0 0 := hD 24 43 (by kernel_rfl)
        have e43 : FA.tmps[43]?.getD undef = .slice none 0 0 := by simpa [Act.eval] using ev43
        replace ev43 := Lib.hid ev43
        have ev41 : FA.eval (.tmp 41) = .bool true := hD 22 41 (by kernel_rfl)
        have e41 : FA.tmps[41]?.getD undef = .bool true := by simpa [Act.eval] using ev41
        replace ev41 := Lib.hid ev41
        have ge41 := slot_of e41
        clear hO hD
        go_simp
        exact hK.out _ _ (Ex.refl _) rfl
      | 26, _, ho, hO, hD, hK => 
        obtain rfl := Option.some.inj ho.symm
        clear ho
        have ev44 : FA.eval (.tmp 44) = .int .i64 0 := hD 25 44 (by kernel_rfl)
        have e44 : FA.tmps[44]?.getD undef = .int .i64 0 := by simpa [Act.eval] using ev44
        replace ev44 := Lib.hid ev44
        have ev41 : FA.eval (.tmp 41) = .bool true := hD 22 41 (by kernel_rfl)
        have e41 : FA.tmps[41]?.getD undef = .bool true := by simpa [Act.eval] using ev41
        replace ev41 := Lib.hid ev41
        have ge41 := slot_of e41
        clear hO hD
        go_simp
        exact hK.out _ _ (Ex.refl _) rfl
      | 27, _, ho, hO, hD, hK => 
        obtain rfl := Option.some.inj ho.symm
        clear ho
        have ev41 : FA.eval (.tmp 41) = .bool true := hD 22 41 (by kernel_rfl)
        have e41 : FA.tmps[41]?.getD undef = .bool true := by simpa [Act.eval] using ev41
        replace ev41 := Lib.hid ev41
        have ev45 : FA.eval (.tmp 45) = .bool false := hD 26 45 (by kernel_rfl)
        have e45 : FA.tmps[45]?.getD undef = .bool false := by simpa [Act.eval] using ev45
        replace ev45 := Lib.hid ev45
        have ev37 : FA.eval (.tmp 37) = .bool false := hD 18 37 (by kernel_rfl)
        have e37 : FA.tmps[37]?.getD undef = .bool false := by simpa [Act.eval] using ev37
        replace ev37 := Lib.hid ev37
        have ge37 := slot_of e37
        clear hO hD
        go_simp
        exact hK.out _ _ (Ex.refl _) rfl
      | 28, _, ho, hO, hD, hK => 
        obtain rfl := Option.some.inj ho.symm
        clear ho
        have ev37 : FA.eval (.tmp 37) = .bool false := hD 18 37 (by kernel_rfl)
        have e37 : FA.tmps[37]?.getD undef = .bool false := by simpa [Act.eval] using ev37
        replace ev37 := Lib.hid ev37
        have ev46 : FA.eval (.tmp 46) = .bool false := hD 27 46 (by kernel_rfl)
        have e46 : FA.tmps[46]?.getD undef = .bool false := by simpa [Act.eval] using ev46
        replace ev46 := Lib.hid ev46
        clear hO hD
        go_simp
        exact hK.out _ _ (Ex.refl _) rfl
      | (k + 29), hi, _, _, _, _ => exact absurd hi (by omega)
    intro vs x hp
    have p0 : vs 0 = .agg (h6C cl lb ln nx ht s6 sh sl d6 dh dl).toArray := hp 0 (by omega)
    have p1 : vs 1 = .bool false := hp 1 (by omega)
    have p2 : vs 2 = .agg (h6C cl lb ln nx ht s6 sh sl d6 dh dl).toArray := hp 2 (by omega)
    have p3 : vs 3 = .bool false := hp 3 (by omega)
    have p4 : vs 4 = .bool false := hp 4 (by omega)
    have p5 : vs 5 = .bool false := hp 5 (by omega)
    have p6 : vs 6 = .agg (h6C cl lb ln nx ht s6 sh sl d6 dh dl).toArray := hp 6 (by omega)
    have p7 : vs 7 = .bool false := hp 7 (by omega)
    have p8 : vs 8 = .bool false := hp 8 (by omega)
    have p9 : vs 9 = undef := hp 9 (by omega)
    have p10 : vs 10 = undef := hp 10 (by omega)
    have p11 : vs 11 = undef := hp 11 (by omega)
    have p12 : vs 12 = undef := hp 12 (by omega)
    have p13 : vs 13 = undef := hp 13 (by omega)
    have p14 : vs 14 = undef := hp 14 (by omega)
    have p15 : vs 15 = undef := hp 15 (by omega)
    have p16 : vs 16 = .bool false := hp 16 (by omega)
    have p17 : vs 17 = .bool false := hp 17 (by omega)
    have p18 : vs 18 = .bool false := hp 18 (by omega)
    have p19 : vs 19 = .agg (h6C cl lb ln nx ht s6 sh sl d6 dh dl).toArray := hp 19 (by omega)
    have p20 : vs 20 = .bool false := hp 20 (by omega)
    have p21 : vs 21 = .bool true := hp 21 (by omega)
    have p22 : vs 22 = .bool true := hp 22 (by omega)
    have p23 : vs 23 = .agg (h6C cl lb ln nx ht s6 sh sl d6 dh dl).toArray := hp 23 (by omega)
    have p24 : vs 24 = .slice none 0 0 := hp 24 (by omega)
    have p25 : vs 25 = .int .i64 0 := hp 25 (by omega)
    have p26 : vs 26 = .bool false := hp 26 (by omega)
    have p27 : vs 27 = .bool false := hp 27 (by omega)
    have p28 : vs 28 = .bool false := hp 28 (by omega)
    clear hp
    simp only [List.take_succ_cons, List.take_zero, List.drop_succ_cons, List.drop_zero, putAll, Nat.zero_add, Nat.reduceAdd, Act.put, List.setIfInBounds_toArray, List.set_cons_zero, List.set_cons_succ, p0, p1, p2, p3, p4, p5, p6, p7, p8, p9, p10, p11, p12, p13, p14, p15, p16, p17, p18, p19, p20, p21, p22, p23, p24, p25, p26, p27, p28]
    clear p0 p1 p2 p3 p4 p5 p6 p7 p8 p9 p10 p11 p12 p13 p14 p15 p16 p17 p18 p19 p20 p21 p22 p23 p24 p25 p26 p27 p28
    clear vs
    replace hS := hS.later (below_plus _ x.bs x.d)
    replace hX := hX.later (below_plus _ x.bs x.d)
    replace h := h.plus_ x.bs x.d
    replace be := belowP be x.bs x.d
    generalize plus W3 x.bs x.d = W4 at *
    clear HB0 HR1 HR2
    cases hr2 : r6 lb (m : Int) s6 d6
    · have HP := Lib.hid (fun w => ip6Packet_no cl lb ln nx ht s6 sh sl d6 dh dl A m c w hlb (by omega) hr2)
      have HQ := Lib.hid (fun w => refIp6Packet_no cl lb ln nx ht s6 sh sl d6 dh dl A m c w hlb (by omega) hr2)
      go_upto_region 8 with (first
        | (refine at_op (.load 67 (.tmp 5)) rfl ?_; refine wpList_ldA (t := 67) 67 (.tmp 5) rfl rfl (h6C cl lb ln nx ht s6 sh sl d6 dh dl) rfl (by with_reducible repeat (first | exact hX | refine Bk.later ?_ (below_plus _ _ _))) (whole_ _) u1 u2 (szH6 _ _ _ _ _ _ _ _ _ _ _) ?_)
        | (refine at_op (.load 66 (.tmp 2)) rfl ?_; refine wpList_ldA (t := 66) 66 (.tmp 2) rfl rfl (h6C cl lb ln nx ht s6 sh sl d6 dh dl) rfl (by with_reducible repeat (first | exact hS | refine Bk.later ?_ (below_plus _ _ _))) (whole_ _) r1 r2 (szR6 _ _ _ _ _ _ _ _ _ _ _) ?_)
        | (go_at_call 42; refine (HP.out _).mono ?_; rintro e w1 ⟨A6, n6, c6, bs6, d6', rfl, rfl, hb6⟩)
        | (go_at_call 43; refine (HQ.out _).mono ?_; rintro e w1 ⟨A7, n7, c7, bs7, d7, rfl, rfl, hb7⟩))
      have e61 := run_str bt Try.underlying9 (hb6.plus_ bs7 d7)
      have e63 := run_str bt Try.underlying9 hb7
      go_wp2_with (go_at_call 36; refine (HAW.out _).mono ?_; rintro e w1 ⟨bs8, d8, rfl, rfl⟩)
      go_ret
      exact ⟨rfl, belowP (belowP (belowP be _ _) _ _) _ _⟩
    · obtain ⟨h2, -, -, rfl, rfl⟩ := r6_true.1 hr2
      have HP := Lib.hid (fun w (h : Rb w A m c load) => ip6Packet_yes cl lb ln nx ht sh sl dh dl A m c load w h1 h2 (by omega) h4 h5 k1 k2 k3 k4 h)
      have HQ := Lib.hid (fun w (h : Rb w A m c load) => refIp6Packet_yes cl lb ln nx ht sh sl dh dl A m c load w h1 h2 (by omega) h4 h5 k1 k2 k3 k4 h)
      have hll := h.1
      have hBm := ip6B_length cl lb m nx ht sh sl dh dl
      have HPP := Lib.hid (fun A' n' c' w' (h' : Rb w' A' n' c' (ip6B cl lb m nx ht sh sl dh dl ++ load)) => ip6Parse cl lb m nx ht sh sl dh dl A' n' c' load w' h1 h2 (by omega) h4 h5 k1 k2 k3 k4 h' hll (by have := h'.1; rw [List.length_append, hBm, hll] at this; omega))
      clear hll hBm
      generalize ip6B cl lb m nx ht sh sl dh dl ++ load = L at *
      go_upto_region 8 with (first
        | (refine at_op (.load 67 (.tmp 5)) rfl ?_; refine wpList_ldA (t := 67) 67 (.tmp 5) rfl rfl (h6C cl lb ln nx ht true sh sl true dh dl) rfl (by with_reducible repeat (first | exact hX | refine Bk.later ?_ (below_plus _ _ _))) (whole_ _) u1 u2 (szH6 _ _ _ _ _ _ _ _ _ _ _) ?_)
        | (refine at_op (.load 66 (.tmp 2)) rfl ?_; refine wpList_ldA (t := 66) 66 (.tmp 2) rfl rfl (h6C cl lb ln nx ht true sh sl true dh dl) rfl (by with_reducible repeat (first | exact hS | refine Bk.later ?_ (below_plus _ _ _))) (whole_ _) r1 r2 (szR6 _ _ _ _ _ _ _ _ _ _ _) ?_)
        | (go_at_call 42; refine (HP.out _ h).mono ?_; rintro e w1 ⟨A6, n6, c6, bs6, d6', rfl, rfl, hb6⟩)
        | (go_at_call 43; refine (HQ.out _ (h.plus_ _ _)).mono ?_; rintro e w1 ⟨A7, n7, c7, bs7, d7, rfl, rfl, hb7⟩))
      have e61 := run_str bt Try.underlying9 (hb6.plus_ bs7 d7)
      have e63 := run_str bt Try.underlying9 hb7
      go_wp2_with fail
      clear e61 e63
      refine (HPP.out _ _ _ _ (hb6.plus_ bs7 d7)).mono ?_
      rintro e w1 ⟨A8, n8, c8, bs8, d8, rfl, rfl, hb8⟩
      replace hb8 := hb8.mono (base' := g5 + 1) (by have := ((hX.later (below_plus _ bs6 d6')).later (below_plus _ bs7 d7)).lt; omega)
      replace hX := ((hX.later (below_plus _ bs6 d6')).later (below_plus _ bs7 d7)).later (below_plus _ bs8 d8)
      replace be := belowP (belowP (belowP be bs6 d6') bs7 d7) bs8 d8
      clear hb6 hb7 hS HP HQ HPP
      generalize plus (plus (plus W4 bs6 d6') bs7 d7) bs8 d8 = W5 at *
      go_upto_region 13 with (refine at_op (.store 67 (.tmp 10) (.tmp 76)) rfl ?_; refine wpList_stA (t := 67) 67 (.tmp 10) (.tmp 76) rfl rfl (h6C cl lb (m : Int) nx ht true sh sl true dh dl) (h6C 0 0 0 0 0 false 0 0 false 0 0) rfl (h6C_one _ _ _ _ _ _ _ _ _ _ _) rfl rfl ?_ (szH6 _ _ _ _ _ _ _ _ _ _ _) ?_; (· refine Bk.newK _ _ _ ?_ rfl; simp [size_plus]); intro W6 hY hgr)
      have z5 := hX.lt
      have zb := be.size
      have b6 := below_grown (Below.allocS (Below.refl _ _) _) hgr (by simp)
      clear h
      replace hb8 := hb8.later b6
      replace hX := hX.later b6
      replace be := be.trans (b6.mono zb)
      generalize W5.heap.size = g10 at *
      clear hgr b6 zb
      have q2 := hX.cell 2
      have fr2 := hX.frozen 2
      have zx := hX.lt
      have zy := hY.lt
      replace q2 : W6.cell? ⟨g5, 2, none⟩ = some (.int .i64 ln) := q2
      go_upto_region 14 with (fail)
      have hX7 : Bk (W6.setCell ⟨g5, 2, none⟩ (.int .i64 (m : Int))) g5 67 (h6C cl lb (m : Int) nx ht true sh sl true dh dl) := hX.set_ 2 _
      have hY7 : Bk (W6.setCell ⟨g5, 2, none⟩ (.int .i64 (m : Int))) g10 67 (h6C cl lb (m : Int) nx ht true sh sl true dh dl) := hY.far (p := ⟨g5, 2, none⟩) (by simp; omega) _
      have be7 : Below w.heap.size w (W6.setCell ⟨g5, 2, none⟩ (.int .i64 (m : Int))) := be.setCell (p := ⟨g5, 2, none⟩) (by simp; omega) _
      have e91 := run_str bt Try.underlying9 (hb8.setCell (p := ⟨g5, 2, none⟩) (by simp) (.int .i64 (m : Int))).rb
      have e93 := run_str bt Try.underlying9 (h0.later be7)
      generalize W6.setCell ⟨g5, 2, none⟩ (.int .i64 (m : Int)) = W7 at *
      go_wp2_with (first
        | (refine at_op (.load 67 (.tmp 10)) rfl ?_; refine wpList_ldG (t := 67) 67 (.tmp 10) rfl rfl (h6C cl lb (m : Int) nx ht true sh sl true dh dl) rfl (hY7) (whole_ _) u1 u2 (szH6 _ _ _ _ _ _ _ _ _ _ _) ?_)
        | (refine at_op (.load 67 (.tmp 5)) rfl ?_; refine wpList_ldG (t := 67) 67 (.tmp 5) rfl rfl (h6C cl lb (m : Int) nx ht true sh sl true dh dl) rfl (hX7) (whole_ _) u1 u2 (szH6 _ _ _ _ _ _ _ _ _ _ _) ?_)
        | (go_at_call 36; refine (HAW.out _).mono ?_; rintro e w1 ⟨bs9, d9, rfl, rfl⟩))
      go_ret
      exact ⟨rfl, belowP be7 _ _⟩
  · obtain ⟨h2, g1, g2, rfl, rfl⟩ := r6_true.1 hr
    obtain ⟨ln, rfl⟩ := Int.eq_ofNat_of_zero_le g1
    rw [hr] at HR1 HR2
    have HB1 := Lib.hid (fun w => ip6Bytes_yes cl lb ln nx ht sh sl dh dl w h1 h2 (by omega) h4 h5 k1 k2 k3 k4)
    have HB2 := Lib.hid (fun w => refIp6Bytes cl lb ln nx ht true sh sl true dh dl w h1 h2 (by omega) h4 h5 k1 k2 k3 k4)
    rw [ip6R_B cl lb ln nx ht sh sl dh dl h1 h2 h4 h5] at HB2
    generalize ip6B cl lb ln nx ht sh sl dh dl = Bx at *
    go_wp2
    refine wp_rel 29 99 rfl (by kernel_rfl) (by kernel_rfl) (fun i => match i with | 0 => MP.eq (.agg (h6C cl lb (ln : Int) nx ht true sh sl true dh dl).toArray) | 1 => MP.eq (.bool true) | 2 => MP.eq (.agg (h6C cl lb (ln : Int) nx ht true sh sl true dh dl).toArray) | 3 => MP.eq (.bool true) | 4 => MP.eq (.bool false) | 5 => MP.eq (.bool false) | 6 => MP.eq (.agg (h6C cl lb (ln : Int) nx ht true sh sl true dh dl).toArray) | 7 => MP.eq (.bool true) | 8 => MP.eq (.bool true) | 9 => MP.eq (.agg (h6C cl lb (ln : Int) nx ht true sh sl true dh dl).toArray) | 10 => MP.rb Bx | 11 => MP.eq (.string ⟨Bx.toArray⟩) | 12 => MP.eq (.agg (h6C cl lb (ln : Int) nx ht true sh sl true dh dl).toArray) | 13 => MP.rb Bx | 14 => MP.eq (.string ⟨Bx.toArray⟩) | 15 => MP.eq (.bool false) | 16 => MP.eq (.bool false) | 17 => MP.eq (.bool false) | 18 => MP.eq (.bool false) | 19 => MP.eq (.agg (h6C cl lb (ln : Int) nx ht true sh sl true dh dl).toArray) | 20 => MP.eq (.bool true) | 21 => MP.eq (.bool false) | 22 => MP.eq (.bool false) | 23 => MP.eq (undef) | 24 => MP.eq (undef) | 25 => MP.eq (undef) | 26 => MP.eq (undef) | 27 => MP.eq (.bool false) | 28 => MP.eq (.bool false) | _ => MP.any) ?_ ?_
    · intro i hi o ho FA x hO hD K hK
      match i, hi, ho, hO, hD, hK with
      | 0, _, ho, hO, hD, hK => 
        obtain rfl := Option.some.inj ho.symm
        clear ho
        have ev5 : FA.eval (.tmp 5) = .pointer (some ⟨g5, 0, none⟩) := hO 5 (by kernel_rfl)
        have e5 : FA.tmps[5]?.getD undef = .pointer (some ⟨g5, 0, none⟩) := by simpa [Act.eval] using ev5
        replace ev5 := Lib.hid ev5
        clear hO hD
        refine wanted_ifG (by go_simp) ?_
        refine wp_load_mid 67 (.tmp 5) rfl g5 0 ev5.out (h6C cl lb (ln : Int) nx ht true sh sl true dh dl) _ (Bk.range (hX.later (below_plus _ _ _))) u1 u2 (szH6 _ _ _ _ _ _ _ _ _ _ _) ?_
        exact hK.out _ _ (Ex.refl _) rfl
      | 1, _, ho, hO, hD, hK => 
        obtain rfl := Option.some.inj ho.symm
        clear ho
        have ev19 : FA.eval (.tmp 19) = .agg (h6C cl lb (ln : Int) nx ht true sh sl true dh dl).toArray := hD 0 19 (by kernel_rfl)
        have e19 : FA.tmps[19]?.getD undef = .agg (h6C cl lb (ln : Int) nx ht true sh sl true dh dl).toArray := by simpa [Act.eval] using ev19
        replace ev19 := Lib.hid ev19
        clear hO hD
        go_simp
        refine (HR1.out _).mono ?_
        rintro e w1 ⟨bs2, d2, rfl, rfl⟩
        exact hK.out _ _ (Ex.plus_ _ _ _) rfl
      | 2, _, ho, hO, hD, hK => 
        obtain rfl := Option.some.inj ho.symm
        clear ho
        have ev2 : FA.eval (.tmp 2) = .pointer (some ⟨w.heap.size, 0, none⟩) := hO 2 (by kernel_rfl)
        have e2 : FA.tmps[2]?.getD undef = .pointer (some ⟨w.heap.size, 0, none⟩) := by simpa [Act.eval] using ev2
        replace ev2 := Lib.hid ev2
        clear hO hD
        refine wanted_ifG (by go_simp) ?_
        refine wp_load_mid 66 (.tmp 2) rfl w.heap.size 0 ev2.out (h6C cl lb (ln : Int) nx ht true sh sl true dh dl) _ (Bk.range (hS.later (below_plus _ _ _))) r1 r2 (szR6 _ _ _ _ _ _ _ _ _ _ _) ?_
        exact hK.out _ _ (Ex.refl _) rfl
      | 3, _, ho, hO, hD, hK => 
        obtain rfl := Option.some.inj ho.symm
        clear ho
        have ev21 : FA.eval (.tmp 21) = .agg (h6C cl lb (ln : Int) nx ht true sh sl true dh dl).toArray := hD 2 21 (by kernel_rfl)
        have e21 : FA.tmps[21]?.getD undef = .agg (h6C cl lb (ln : Int) nx ht true sh sl true dh dl).toArray := by simpa [Act.eval] using ev21
        replace ev21 := Lib.hid ev21
        clear hO hD
        go_simp
        refine (HR2.out _).mono ?_
        rintro e w1 ⟨bs2, d2, rfl, rfl⟩
        exact hK.out _ _ (Ex.plus_ _ _ _) rfl
      | 4, _, ho, hO, hD, hK => 
        obtain rfl := Option.some.inj ho.symm
        clear ho
        have ev20 : FA.eval (.tmp 20) = .bool true := hD 1 20 (by kernel_rfl)
        have e20 : FA.tmps[20]?.getD undef = .bool true := by simpa [Act.eval] using ev20
        replace ev20 := Lib.hid ev20
        have ev22 : FA.eval (.tmp 22) = .bool true := hD 3 22 (by kernel_rfl)
        have e22 : FA.tmps[22]?.getD undef = .bool true := by simpa [Act.eval] using ev22
        replace ev22 := Lib.hid ev22
        clear hO hD
        go_simp
        exact hK.out _ _ (Ex.refl _) rfl
      | 5, _, ho, hO, hD, hK => 
        obtain rfl := Option.some.inj ho.symm
        clear ho
        have ev23 : FA.eval (.tmp 23) = .bool false := hD 4 23 (by kernel_rfl)
        have e23 : FA.tmps[23]?.getD undef = .bool false := by simpa [Act.eval] using ev23
        replace ev23 := Lib.hid ev23
        clear hO hD
        go_simp
        exact hK.out _ _ (Ex.refl _) rfl
      | 6, _, ho, hO, hD, hK => 
        obtain rfl := Option.some.inj ho.symm
        clear ho
        have ev2 : FA.eval (.tmp 2) = .pointer (some ⟨w.heap.size, 0, none⟩) := hO 2 (by kernel_rfl)
        have e2 : FA.tmps[2]?.getD undef = .pointer (some ⟨w.heap.size, 0, none⟩) := by simpa [Act.eval] using ev2
        replace ev2 := Lib.hid ev2
        have ev24 : FA.eval (.tmp 24) = .bool false := hD 5 24 (by kernel_rfl)
        have e24 : FA.tmps[24]?.getD undef = .bool false := by simpa [Act.eval] using ev24
        replace ev24 := Lib.hid ev24
        have ge24 := slot_of e24
        clear hO hD
        refine wanted_ifG (by go_simp) ?_
        refine wp_load_mid 66 (.tmp 2) rfl w.heap.size 0 ev2.out (h6C cl lb (ln : Int) nx ht true sh sl true dh dl) _ (Bk.range (hS.later (below_plus _ _ _))) r1 r2 (szR6 _ _ _ _ _ _ _ _ _ _ _) ?_
        exact hK.out _ _ (Ex.refl _) rfl
      | 7, _, ho, hO, hD, hK => 
        obtain rfl := Option.some.inj ho.symm
        clear ho
        have ev25 : FA.eval (.tmp 25) = .agg (h6C cl lb (ln : Int) nx ht true sh sl true dh dl).toArray := hD 6 25 (by kernel_rfl)
        have e25 : FA.tmps[25]?.getD undef = .agg (h6C cl lb (ln : Int) nx ht true sh sl true dh dl).toArray := by simpa [Act.eval] using ev25
        replace ev25 := Lib.hid ev25
        have ev24 : FA.eval (.tmp 24) = .bool false := hD 5 24 (by kernel_rfl)
        have e24 : FA.tmps[24]?.getD undef = .bool false := by simpa [Act.eval] using ev24
        replace ev24 := Lib.hid ev24
        have ge24 := slot_of e24
        clear hO hD
        go_simp
        refine (HR2.out _).mono ?_
        rintro e w1 ⟨bs2, d2, rfl, rfl⟩
        exact hK.out _ _ (Ex.plus_ _ _ _) rfl
      | 8, _, ho, hO, hD, hK => 
        obtain rfl := Option.some.inj ho.symm
        clear ho
        have ev26 : FA.eval (.tmp 26) = .bool true := hD 7 26 (by kernel_rfl)
        have e26 : FA.tmps[26]?.getD undef = .bool true := by simpa [Act.eval] using ev26
        replace ev26 := Lib.hid ev26
        have ev24 : FA.eval (.tmp 24) = .bool false := hD 5 24 (by kernel_rfl)
        have e24 : FA.tmps[24]?.getD undef = .bool false := by simpa [Act.eval] using ev24
        replace ev24 := Lib.hid ev24
        have ge24 := slot_of e24
        clear hO hD
        go_simp
        exact hK.out _ _ (Ex.refl _) rfl
      | 9, _, ho, hO, hD, hK => 
        obtain rfl := Option.some.inj ho.symm
        clear ho
        have ev5 : FA.eval (.tmp 5) = .pointer (some ⟨g5, 0, none⟩) := hO 5 (by kernel_rfl)
        have e5 : FA.tmps[5]?.getD undef = .pointer (some ⟨g5, 0, none⟩) := by simpa [Act.eval] using ev5
        replace ev5 := Lib.hid ev5
        have ev27 : FA.eval (.tmp 27) = .bool true := hD 8 27 (by kernel_rfl)
        have e27 : FA.tmps[27]?.getD undef = .bool true := by simpa [Act.eval] using ev27
        replace ev27 := Lib.hid ev27
        have ge27 := slot_of e27
        clear hO hD
        refine wanted_ifG (by go_simp) ?_
        refine wp_load_mid 67 (.tmp 5) rfl g5 0 ev5.out (h6C cl lb (ln : Int) nx ht true sh sl true dh dl) _ (Bk.range (hX.later (below_plus _ _ _))) u1 u2 (szH6 _ _ _ _ _ _ _ _ _ _ _) ?_
        exact hK.out _ _ (Ex.refl _) rfl
      | 10, _, ho, hO, hD, hK => 
        obtain rfl := Option.some.inj ho.symm
        clear ho
        have ev28 : FA.eval (.tmp 28) = .agg (h6C cl lb (ln : Int) nx ht true sh sl true dh dl).toArray := hD 9 28 (by kernel_rfl)
        have e28 : FA.tmps[28]?.getD undef = .agg (h6C cl lb (ln : Int) nx ht true sh sl true dh dl).toArray := by simpa [Act.eval] using ev28
        replace ev28 := Lib.hid ev28
        have ev27 : FA.eval (.tmp 27) = .bool true := hD 8 27 (by kernel_rfl)
        have e27 : FA.tmps[27]?.getD undef = .bool true := by simpa [Act.eval] using ev27
        replace ev27 := Lib.hid ev27
        have ge27 := slot_of e27
        clear hO hD
        go_simp
        refine (HB1.out _).mono ?_
        rintro e w1 ⟨A3, n3, c3, bs2, d2, rfl, rfl, ho2⟩
        exact hK.out _ _ (Ex.plus_ _ _ _) ⟨_, _, _, rfl, ho2.rb⟩
      | 11, _, ho, hO, hD, hK => 
        obtain rfl := Option.some.inj ho.symm
        clear ho
        have f29 := hD 10 29 (by kernel_rfl)
        generalize eu29 : FA.eval (.tmp 29) = u29 at f29
        have e29 : FA.tmps[29]?.getD undef = u29 := by rw [← eu29]; simp [Act.eval]
        have ev29 := Lib.hid eu29
        clear eu29
        have ev27 : FA.eval (.tmp 27) = .bool true := hD 8 27 (by kernel_rfl)
        have e27 : FA.tmps[27]?.getD undef = .bool true := by simpa [Act.eval] using ev27
        replace ev27 := Lib.hid ev27
        have ge27 := slot_of e27
        clear hO hD
        obtain ⟨A1, n1, c1, rfl, hr1⟩ := f29
        have es := run_str bt Try.underlying9 hr1
        go_simp
        exact hK.out _ _ (Ex.refl _) rfl
      | 12, _, ho, hO, hD, hK => 
        obtain rfl := Option.some.inj ho.symm
        clear ho
        have ev2 : FA.eval (.tmp 2) = .pointer (some ⟨w.heap.size, 0, none⟩) := hO 2 (by kernel_rfl)
        have e2 : FA.tmps[2]?.getD undef = .pointer (some ⟨w.heap.size, 0, none⟩) := by simpa [Act.eval] using ev2
        replace ev2 := Lib.hid ev2
        have ev27 : FA.eval (.tmp 27) = .bool true := hD 8 27 (by kernel_rfl)
        have e27 : FA.tmps[27]?.getD undef = .bool true := by simpa [Act.eval] using ev27
        replace ev27 := Lib.hid ev27
        have ge27 := slot_of e27
        clear hO hD
        refine wanted_ifG (by go_simp) ?_
        refine wp_load_mid 66 (.tmp 2) rfl w.heap.size 0 ev2.out (h6C cl lb (ln : Int) nx ht true sh sl true dh dl) _ (Bk.range (hS.later (below_plus _ _ _))) r1 r2 (szR6 _ _ _ _ _ _ _ _ _ _ _) ?_
        exact hK.out _ _ (Ex.refl _) rfl
      | 13, _, ho, hO, hD, hK => 
        obtain rfl := Option.some.inj ho.symm
        clear ho
        have ev31 : FA.eval (.tmp 31) = .agg (h6C cl lb (ln : Int) nx ht true sh sl true dh dl).toArray := hD 12 31 (by kernel_rfl)
        have e31 : FA.tmps[31]?.getD undef = .agg (h6C cl lb (ln : Int) nx ht true sh sl true dh dl).toArray := by simpa [Act.eval] using ev31
        replace ev31 := Lib.hid ev31
        have ev27 : FA.eval (.tmp 27) = .bool true := hD 8 27 (by kernel_rfl)
        have e27 : FA.tmps[27]?.getD undef = .bool true := by simpa [Act.eval] using ev27
        replace ev27 := Lib.hid ev27
        have ge27 := slot_of e27
        clear hO hD
        go_simp
        refine (HB2.out _).mono ?_
        rintro e w1 ⟨A3, n3, c3, bs2, d2, rfl, rfl, ho2⟩
        exact hK.out _ _ (Ex.plus_ _ _ _) ⟨_, _, _, rfl, ho2.rb⟩
      | 14, _, ho, hO, hD, hK => 
        obtain rfl := Option.some.inj ho.symm
        clear ho
        have f32 := hD 13 32 (by kernel_rfl)
        generalize eu32 : FA.eval (.tmp 32) = u32 at f32
        have e32 : FA.tmps[32]?.getD undef = u32 := by rw [← eu32]; simp [Act.eval]
        have ev32 := Lib.hid eu32
        clear eu32
        have ev27 : FA.eval (.tmp 27) = .bool true := hD 8 27 (by kernel_rfl)
        have e27 : FA.tmps[27]?.getD undef = .bool true := by simpa [Act.eval] using ev27
        replace ev27 := Lib.hid ev27
        have ge27 := slot_of e27
        clear hO hD
        obtain ⟨A1, n1, c1, rfl, hr1⟩ := f32
        have es := run_str bt Try.underlying9 hr1
        go_simp
        exact hK.out _ _ (Ex.refl _) rfl
      | 15, _, ho, hO, hD, hK => 
        obtain rfl := Option.some.inj ho.symm
        clear ho
        have ev30 : FA.eval (.tmp 30) = .string ⟨Bx.toArray⟩ := hD 11 30 (by kernel_rfl)
        have e30 : FA.tmps[30]?.getD undef = .string ⟨Bx.toArray⟩ := by simpa [Act.eval] using ev30
        replace ev30 := Lib.hid ev30
        have ev33 : FA.eval (.tmp 33) = .string ⟨Bx.toArray⟩ := hD 14 33 (by kernel_rfl)
        have e33 : FA.tmps[33]?.getD undef = .string ⟨Bx.toArray⟩ := by simpa [Act.eval] using ev33
        replace ev33 := Lib.hid ev33
        have ev27 : FA.eval (.tmp 27) = .bool true := hD 8 27 (by kernel_rfl)
        have e27 : FA.tmps[27]?.getD undef = .bool true := by simpa [Act.eval] using ev27
        replace ev27 := Lib.hid ev27
        have ge27 := slot_of e27
        clear hO hD
        go_simp
        exact hK.out _ _ (Ex.refl _) rfl
      | 16, _, ho, hO, hD, hK => 
        obtain rfl := Option.some.inj ho.symm
        clear ho
        have ev27 : FA.eval (.tmp 27) = .bool true := hD 8 27 (by kernel_rfl)
        have e27 : FA.tmps[27]?.getD undef = .bool true := by simpa [Act.eval] using ev27
        replace ev27 := Lib.hid ev27
        have ev34 : FA.eval (.tmp 34) = .bool false := hD 15 34 (by kernel_rfl)
        have e34 : FA.tmps[34]?.getD undef = .bool false := by simpa [Act.eval] using ev34
        replace ev34 := Lib.hid ev34
        have ev24 : FA.eval (.tmp 24) = .bool false := hD 5 24 (by kernel_rfl)
        have e24 : FA.tmps[24]?.getD undef = .bool false := by simpa [Act.eval] using ev24
        replace ev24 := Lib.hid ev24
        have ge24 := slot_of e24
        clear hO hD
        go_simp
        exact hK.out _ _ (Ex.refl _) rfl
      | 17, _, ho, hO, hD, hK => 
        obtain rfl := Option.some.inj ho.symm
        clear ho
        have ev24 : FA.eval (.tmp 24) = .bool false := hD 5 24 (by kernel_rfl)
        have e24 : FA.tmps[24]?.getD undef = .bool false := by simpa [Act.eval] using ev24
        replace ev24 := Lib.hid ev24
        have ev35 : FA.eval (.tmp 35) = .bool false := hD 16 35 (by kernel_rfl)
        have e35 : FA.tmps[35]?.getD undef = .bool false := by simpa [Act.eval] using ev35
        replace ev35 := Lib.hid ev35
        clear hO hD
        go_simp
        exact hK.out _ _ (Ex.refl _) rfl
      | 18, _, ho, hO, hD, hK => 
        obtain rfl := Option.some.inj ho.symm
        clear ho
        have ev36 : FA.eval (.tmp 36) = .bool false := hD 17 36 (by kernel_rfl)
        have e36 : FA.tmps[36]?.getD undef = .bool false := by simpa [Act.eval] using ev36
        replace ev36 := Lib.hid ev36
        clear hO hD
        go_simp
        exact hK.out _ _ (Ex.refl _) rfl
      | 19, _, ho, hO, hD, hK => 
        obtain rfl := Option.some.inj ho.symm
        clear ho
        have ev2 : FA.eval (.tmp 2) = .pointer (some ⟨w.heap.size, 0, none⟩) := hO 2 (by kernel_rfl)
        have e2 : FA.tmps[2]?.getD undef = .pointer (some ⟨w.heap.size, 0, none⟩) := by simpa [Act.eval] using ev2
        replace ev2 := Lib.hid ev2
        have ev37 : FA.eval (.tmp 37) = .bool false := hD 18 37 (by kernel_rfl)
        have e37 : FA.tmps[37]?.getD undef = .bool false := by simpa [Act.eval] using ev37
        replace ev37 := Lib.hid ev37
        have ge37 := slot_of e37
        clear hO hD
        refine wanted_ifG (by go_simp) ?_
        refine wp_load_mid 66 (.tmp 2) rfl w.heap.size 0 ev2.out (h6C cl lb (ln : Int) nx ht true sh sl true dh dl) _ (Bk.range (hS.later (below_plus _ _ _))) r1 r2 (szR6 _ _ _ _ _ _ _ _ _ _ _) ?_
        exact hK.out _ _ (Ex.refl _) rfl
      | 20, _, ho, hO, hD, hK => 
        obtain rfl := Option.some.inj ho.symm
        clear ho
        have ev38 : FA.eval (.tmp 38) = .agg (h6C cl lb (ln : Int) nx ht true sh sl true dh dl).toArray := hD 19 38 (by kernel_rfl)
        have e38 : FA.tmps[38]?.getD undef = .agg (h6C cl lb (ln : Int) nx ht true sh sl true dh dl).toArray := by simpa [Act.eval] using ev38
        replace ev38 := Lib.hid ev38
        have ev37 : FA.eval (.tmp 37) = .bool false := hD 18 37 (by kernel_rfl)
        have e37 : FA.tmps[37]?.getD undef = .bool false := by simpa [Act.eval] using ev37
        replace ev37 := Lib.hid ev37
        have ge37 := slot_of e37
        clear hO hD
        go_simp
        refine (HR2.out _).mono ?_
        rintro e w1 ⟨bs2, d2, rfl, rfl⟩
        exact hK.out _ _ (Ex.plus_ _ _ _) rfl
      | 21, _, ho, hO, hD, hK => 
        obtain rfl := Option.some.inj ho.symm
        clear ho
        have ev39 : FA.eval (.tmp 39) = .bool true := hD 20 39 (by kernel_rfl)
        have e39 : FA.tmps[39]?.getD undef = .bool true := by simpa [Act.eval] using ev39
        replace ev39 := Lib.hid ev39
        have ev37 : FA.eval (.tmp 37) = .bool false := hD 18 37 (by kernel_rfl)
        have e37 : FA.tmps[37]?.getD undef = .bool false := by simpa [Act.eval] using ev37
        replace ev37 := Lib.hid ev37
        have ge37 := slot_of e37
        clear hO hD
        go_simp
        exact hK.out _ _ (Ex.refl _) rfl
      | 22, _, ho, hO, hD, hK => 
        obtain rfl := Option.some.inj ho.symm
        clear ho
        have ev40 : FA.eval (.tmp 40) = .bool false := hD 21 40 (by kernel_rfl)
        have e40 : FA.tmps[40]?.getD undef = .bool false := by simpa [Act.eval] using ev40
        replace ev40 := Lib.hid ev40
        have ev37 : FA.eval (.tmp 37) = .bool false := hD 18 37 (by kernel_rfl)
        have e37 : FA.tmps[37]?.getD undef = .bool false := by simpa [Act.eval] using ev37
        replace ev37 := Lib.hid ev37
        have ge37 := slot_of e37
        clear hO hD
        go_simp
        exact hK.out _ _ (Ex.refl _) rfl
      | 23, _, ho, hO, hD, hK => 
        obtain rfl := Option.some.inj ho.symm
        clear ho
        have ev5 : FA.eval (.tmp 5) = .pointer (some ⟨g5, 0, none⟩) := hO 5 (by kernel_rfl)
        have e5 : FA.tmps[5]?.getD undef = .pointer (some ⟨g5, 0, none⟩) := by simpa [Act.eval] using ev5
        replace ev5 := Lib.hid ev5
        have ev41 : FA.eval (.tmp 41) = .bool false := hD 22 41 (by kernel_rfl)
        have e41 : FA.tmps[41]?.getD undef = .bool false := by simpa [Act.eval] using ev41
        replace ev41 := Lib.hid ev41
        have ge41 := slot_of e41
        clear hO hD
        go_simp
        exact hK.out _ _ (Ex.refl _) rfl
      | 24, _, ho, hO, hD, hK => 
        obtain rfl := Option.some.inj ho.symm
        clear ho
        have ev42 : FA.eval (.tmp 42) = undef := hD 23 42 (by kernel_rfl)
        have e42 : FA.tmps[42]?.getD undef = undef := by simpa [Act.eval] using ev42
        replace ev42 := Lib.hid ev42
        have ev41 : FA.eval (.tmp 41) = .bool false := hD 22 41 (by kernel_rfl)
        have e41 : FA.tmps[41]?.getD undef = .bool false := by simpa [Act.eval] using ev41
        replace ev41 := Lib.hid ev41
        have ge41 := slot_of e41
        clear hO hD
        go_simp
        exact hK.out _ _ (Ex.refl _) rfl
      | 25, _, ho, hO, hD, hK => 
        obtain rfl := Option.some.inj ho.symm
        clear ho
        have ev43 : FA.eval (.tmp 43) = undef := hD 24 43 (by kernel_rfl)
        have e43 : FA.tmps[43]?.getD undef = undef := by simpa [Act.eval] using ev43
        replace ev43 := Lib.hid ev43
        have ev41 : FA.eval (.tmp 41) = .bool false := hD 22 41 (by kernel_rfl)
        have e41 : FA.tmps[41]?.getD undef = .bool false := by simpa [Act.eval] using ev41
        replace ev41 := Lib.hid ev41
        have ge41 := slot_of e41
        clear hO hD
        go_simp
        exact hK.out _ _ (Ex.refl _) rfl
      | 26, _, ho, hO, hD, hK => 
        obtain rfl := Option.some.inj ho.symm
        clear ho
        have ev44 : FA.eval (.tmp 44) = undef := hD 25 44 (by kernel_rfl)
        have e44 : FA.tmps[44]?.getD undef = undef := by simpa [Act.eval] using ev44
        replace ev44 := Lib.hid ev44
        have ev41 : FA.eval (.tmp 41) = .bool false := hD 22 41 (by kernel_rfl)
        have e41 : FA.tmps[41]?.getD undef = .bool false := by simpa [Act.eval] using ev41
        replace ev41 := Lib.hid ev41
        have ge41 := slot_of e41
        clear hO hD
        go_simp
        exact hK.out _ _ (Ex.refl _) rfl
      | 27, _, ho, hO, hD, hK => 
        obtain rfl := Option.some.inj ho.symm
        clear ho
        have ev41 : FA.eval (.tmp 41) = .bool false := hD 22 41 (by kernel_rfl)
        have e41 : FA.tmps[41]?.getD undef = .bool false := by simpa [Act.eval] using ev41
        replace ev41 := Lib.hid ev41
        have ev45 : FA.eval (.tmp 45) = undef := hD 26 45 (by kernel_rfl)
        have e45 : FA.tmps[45]?.getD undef = undef := by simpa [Act.eval] using ev45
        replace ev45 := Lib.hid ev45
        have ev37 : FA.eval (.tmp 37) = .bool false := hD 18 37 (by kernel_rfl)
        have e37 : FA.tmps[37]?.getD undef = .bool false := by simpa [Act.eval] using ev37
        replace ev37 := Lib.hid ev37
        have ge37 := slot_of e37
        clear hO hD
        go_simp
        exact hK.out _ _ (Ex.refl _) rfl
      | 28, _, ho, hO, hD, hK => 
        obtain rfl := Option.some.inj ho.symm
        clear ho
        have ev37 : FA.eval (.tmp 37) = .bool false := hD 18 37 (by kernel_rfl)
        have e37 : FA.tmps[37]?.getD undef = .bool false := by simpa [Act.eval] using ev37
        replace ev37 := Lib.hid ev37
        have ev46 : FA.eval (.tmp 46) = .bool false := hD 27 46 (by kernel_rfl)
        have e46 : FA.tmps[46]?.getD undef = .bool false := by simpa [Act.eval] using ev46
        replace ev46 := Lib.hid ev46
        clear hO hD
        go_simp
        exact hK.out _ _ (Ex.refl _) rfl
      | (k + 29), hi, _, _, _, _ => exact absurd hi (by omega)
    intro vs x hp
    have p0 : vs 0 = .agg (h6C cl lb (ln : Int) nx ht true sh sl true dh dl).toArray := hp 0 (by omega)
    have p1 : vs 1 = .bool true := hp 1 (by omega)
    have p2 : vs 2 = .agg (h6C cl lb (ln : Int) nx ht true sh sl true dh dl).toArray := hp 2 (by omega)
    have p3 : vs 3 = .bool true := hp 3 (by omega)
    have p4 : vs 4 = .bool false := hp 4 (by omega)
    have p5 : vs 5 = .bool false := hp 5 (by omega)
    have p6 : vs 6 = .agg (h6C cl lb (ln : Int) nx ht true sh sl true dh dl).toArray := hp 6 (by omega)
    have p7 : vs 7 = .bool true := hp 7 (by omega)
    have p8 : vs 8 = .bool true := hp 8 (by omega)
    have p9 : vs 9 = .agg (h6C cl lb (ln : Int) nx ht true sh sl true dh dl).toArray := hp 9 (by omega)
    have p10 := hp 10 (by omega)
    have p11 : vs 11 = .string ⟨Bx.toArray⟩ := hp 11 (by omega)
    have p12 : vs 12 = .agg (h6C cl lb (ln : Int) nx ht true sh sl true dh dl).toArray := hp 12 (by omega)
    have p13 := hp 13 (by omega)
    have p14 : vs 14 = .string ⟨Bx.toArray⟩ := hp 14 (by omega)
    have p15 : vs 15 = .bool false := hp 15 (by omega)
    have p16 : vs 16 = .bool false := hp 16 (by omega)
    have p17 : vs 17 = .bool false := hp 17 (by omega)
    have p18 : vs 18 = .bool false := hp 18 (by omega)
    have p19 : vs 19 = .agg (h6C cl lb (ln : Int) nx ht true sh sl true dh dl).toArray := hp 19 (by omega)
    have p20 : vs 20 = .bool true := hp 20 (by omega)
    have p21 : vs 21 = .bool false := hp 21 (by omega)
    have p22 : vs 22 = .bool false := hp 22 (by omega)
    have p23 : vs 23 = undef := hp 23 (by omega)
    have p24 : vs 24 = undef := hp 24 (by omega)
    have p25 : vs 25 = undef := hp 25 (by omega)
    have p26 : vs 26 = undef := hp 26 (by omega)
    have p27 : vs 27 = .bool false := hp 27 (by omega)
    have p28 : vs 28 = .bool false := hp 28 (by omega)
    clear hp
    simp only [List.take_succ_cons, List.take_zero, List.drop_succ_cons, List.drop_zero, putAll, Nat.zero_add, Nat.reduceAdd, Act.put, List.setIfInBounds_toArray, List.set_cons_zero, List.set_cons_succ, p0, p1, p2, p3, p4, p5, p6, p7, p8, p9, p11, p12, p14, p15, p16, p17, p18, p19, p20, p21, p22, p23, p24, p25, p26, p27, p28]
    clear p0 p1 p2 p3 p4 p5 p6 p7 p8 p9 p11 p12 p14 p15 p16 p17 p18 p19 p20 p21 p22 p23 p24 p25 p26 p27 p28
    generalize vs 10 = y10 at *
    generalize vs 13 = y13 at *
    clear vs
    replace hS := hS.later (below_plus _ x.bs x.d)
    replace hX := hX.later (below_plus _ x.bs x.d)
    replace h := h.plus_ x.bs x.d
    replace be := belowP be x.bs x.d
    generalize plus W3 x.bs x.d = W4 at *
    clear HB1 HB2 HR1 HR2
    have HP := Lib.hid (fun w (h : Rb w A m c load) => ip6Packet_yes cl lb (ln : Int) nx ht sh sl dh dl A m c load w h1 h2 (by omega) h4 h5 k1 k2 k3 k4 h)
    have HQ := Lib.hid (fun w (h : Rb w A m c load) => refIp6Packet_yes cl lb (ln : Int) nx ht sh sl dh dl A m c load w h1 h2 (by omega) h4 h5 k1 k2 k3 k4 h)
    have hll := h.1
    have hBm := ip6B_length cl lb m nx ht sh sl dh dl
    have HPP := Lib.hid (fun A' n' c' w' (h' : Rb w' A' n' c' (ip6B cl lb m nx ht sh sl dh dl ++ load)) => ip6Parse cl lb m nx ht sh sl dh dl A' n' c' load w' h1 h2 (by omega) h4 h5 k1 k2 k3 k4 h' hll (by have := h'.1; rw [List.length_append, hBm, hll] at this; omega))
    clear hll hBm
    generalize ip6B cl lb m nx ht sh sl dh dl ++ load = L at *
    go_upto_region 8 with (first
      | (refine at_op (.load 67 (.tmp 5)) rfl ?_; refine wpList_ldA (t := 67) 67 (.tmp 5) rfl rfl (h6C cl lb (ln : Int) nx ht true sh sl true dh dl) rfl (by with_reducible repeat (first | exact hX | refine Bk.later ?_ (below_plus _ _ _))) (whole_ _) u1 u2 (szH6 _ _ _ _ _ _ _ _ _ _ _) ?_)
      | (refine at_op (.load 66 (.tmp 2)) rfl ?_; refine wpList_ldA (t := 66) 66 (.tmp 2) rfl rfl (h6C cl lb (ln : Int) nx ht true sh sl true dh dl) rfl (by with_reducible repeat (first | exact hS | refine Bk.later ?_ (below_plus _ _ _))) (whole_ _) r1 r2 (szR6 _ _ _ _ _ _ _ _ _ _ _) ?_)
      | (go_at_call 42; refine (HP.out _ h).mono ?_; rintro e w1 ⟨A6, n6, c6, bs6, d6', rfl, rfl, hb6⟩)
      | (go_at_call 43; refine (HQ.out _ (h.plus_ _ _)).mono ?_; rintro e w1 ⟨A7, n7, c7, bs7, d7, rfl, rfl, hb7⟩))
    have e61 := run_str bt Try.underlying9 (hb6.plus_ bs7 d7)
    have e63 := run_str bt Try.underlying9 hb7
    go_wp2_with fail
    clear e61 e63
    refine (HPP.out _ _ _ _ (hb6.plus_ bs7 d7)).mono ?_
    rintro e w1 ⟨A8, n8, c8, bs8, d8, rfl, rfl, hb8⟩
    replace hb8 := hb8.mono (base' := g5 + 1) (by have := ((hX.later (below_plus _ bs6 d6')).later (below_plus _ bs7 d7)).lt; omega)
    replace hX := ((hX.later (below_plus _ bs6 d6')).later (below_plus _ bs7 d7)).later (below_plus _ bs8 d8)
    replace be := belowP (belowP (belowP be bs6 d6') bs7 d7) bs8 d8
    clear hb6 hb7 hS HP HQ HPP
    generalize plus (plus (plus W4 bs6 d6') bs7 d7) bs8 d8 = W5 at *
    go_upto_region 13 with (refine at_op (.store 67 (.tmp 10) (.tmp 76)) rfl ?_; refine wpList_stA (t := 67) 67 (.tmp 10) (.tmp 76) rfl rfl (h6C cl lb (m : Int) nx ht true sh sl true dh dl) (h6C 0 0 0 0 0 false 0 0 false 0 0) rfl (h6C_one _ _ _ _ _ _ _ _ _ _ _) rfl rfl ?_ (szH6 _ _ _ _ _ _ _ _ _ _ _) ?_; (· refine Bk.newK _ _ _ ?_ rfl; simp [size_plus]); intro W6 hY hgr)
    have z5 := hX.lt
    have zb := be.size
    have b6 := below_grown (Below.allocS (Below.refl _ _) _) hgr (by simp)
    clear h
    replace hb8 := hb8.later b6
    replace hX := hX.later b6
    replace be := be.trans (b6.mono zb)
    generalize W5.heap.size = g10 at *
    clear hgr b6 zb
    have q2 := hX.cell 2
    have fr2 := hX.frozen 2
    have zx := hX.lt
    have zy := hY.lt
    replace q2 : W6.cell? ⟨g5, 2, none⟩ = some (.int .i64 (ln : Int)) := q2
    go_upto_region 14 with (fail)
    have hX7 : Bk (W6.setCell ⟨g5, 2, none⟩ (.int .i64 (m : Int))) g5 67 (h6C cl lb (m : Int) nx ht true sh sl true dh dl) := hX.set_ 2 _
    have hY7 : Bk (W6.setCell ⟨g5, 2, none⟩ (.int .i64 (m : Int))) g10 67 (h6C cl lb (m : Int) nx ht true sh sl true dh dl) := hY.far (p := ⟨g5, 2, none⟩) (by simp; omega) _
    have be7 : Below w.heap.size w (W6.setCell ⟨g5, 2, none⟩ (.int .i64 (m : Int))) := be.setCell (p := ⟨g5, 2, none⟩) (by simp; omega) _
    have e91 := run_str bt Try.underlying9 (hb8.setCell (p := ⟨g5, 2, none⟩) (by simp) (.int .i64 (m : Int))).rb
    have e93 := run_str bt Try.underlying9 (h0.later be7)
    generalize W6.setCell ⟨g5, 2, none⟩ (.int .i64 (m : Int)) = W7 at *
    go_wp2_with (first
      | (refine at_op (.load 67 (.tmp 10)) rfl ?_; refine wpList_ldG (t := 67) 67 (.tmp 10) rfl rfl (h6C cl lb (m : Int) nx ht true sh sl true dh dl) rfl (hY7) (whole_ _) u1 u2 (szH6 _ _ _ _ _ _ _ _ _ _ _) ?_)
      | (refine at_op (.load 67 (.tmp 5)) rfl ?_; refine wpList_ldG (t := 67) 67 (.tmp 5) rfl rfl (h6C cl lb (m : Int) nx ht true sh sl true dh dl) rfl (hX7) (whole_ _) u1 u2 (szH6 _ _ _ _ _ _ _ _ _ _ _) ?_)
      | (go_at_call 36; refine (HAW.out _).mono ?_; rintro e w1 ⟨bs9, d9, rfl, rfl⟩))
    go_ret
    exact ⟨rfl, belowP be7 _ _⟩
end Go.Proofs.Yticlohlpccollaa
