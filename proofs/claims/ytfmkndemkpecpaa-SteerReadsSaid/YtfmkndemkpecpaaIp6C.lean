/- Packets of IPv6: Parse, Packet, Older. -/
import Derived.Test.YtfmkndemkpecpaaRet
import Derived.Test.YtfmkndemkpecpaaIp6B
namespace Go.Proofs.Ytfmkndemkpecpaa
open Go.RowKit
set_option linter.unusedVariables false
set_option linter.unusedSimpArgs false
attribute [local go_sem ↓] sliced_cut
attribute [local go_sem] cutA_zero

/-- a header and bytes, and an error -/
def RetH (w : World) (cs : List Value) (l : List UInt8) (e : Ending) (w' : World) : Prop := ∃ A n c bs d, e = .returned (.tuple #[.agg cs.toArray, .slice A n c, .int .i64 0]) ∧ w' = plus w bs d ∧ Ob (plus w bs d) w.heap.size A n c l
theorem RetH.mk {w w' : World} {cs : List Value} {l : List UInt8} {A : Option Addr} {n c : Nat} (h : Ob w' w.heap.size A n c l) (hb : Below w.heap.size w w') : RetH w cs l (.returned (.tuple #[.agg cs.toArray, .slice A n c, .int .i64 0])) w' := by
  obtain ⟨bs, d, rfl⟩ := plus_of hb
  exact ⟨A, n, c, bs, d, rfl, rfl, h⟩
set_option maxHeartbeats 4000000 in
set_option maxRecDepth 100000 in
theorem ip6Parse (cl lb ln nx ht sh sl dh dl : Nat) (A : Option Addr) (n c : Nat) (load : List UInt8) (w : World) (h1 : cl < 256) (h2 : lb < 1048576) (h3 : ln < 65536) (h4 : nx < 256) (h5 : ht < 256) (k1 : sh < 18446744073709551616) (k2 : sl < 18446744073709551616) (k3 : dh < 18446744073709551616) (k4 : dl < 18446744073709551616) (h : Rb w A n c (ip6B cl lb ln nx ht sh sl dh dl ++ load)) (hn : load.length = ln) (hm : n ≤ 1000000) :
    Calls Try.prog 69 #[.slice A n c] w (RetH w (h6C cl lb (ln : Int) nx ht true sh sl true dh dl) load) := by
  obtain ⟨dk, u1, u2⟩ := rowH6
  have hlen : n = 40 + ln := by rw [← h.1, List.length_append, ip6B_length, hn]
  obtain ⟨b, off, rfl, hbl, hcell⟩ := h.2.2.at_ (by rw [bcs_length, h.1]; omega)
  have hc := h.2.1
  have HH := Lib.hid (fun w (h : Rb w (some ⟨b, off, none⟩) n c (ip6B cl lb ln nx ht sh sl dh dl ++ load)) => ip6Header cl lb ln nx ht sh sl dh dl (some ⟨b, off, none⟩) n c load w h1 h2 h3 h4 h5 k1 k2 k3 k4 h (by omega) hm)
  have hr0 : Rb w (cutA (some ⟨b, off, none⟩) c 40 1) ln (c - 40) load := by
    have h40 := (h.cut (k := 40) (by omega)).take (k := ln) (by omega)
    rwa [List.drop_left' (ip6B_length _ _ _ _ _ _ _ _ _), List.take_of_length_le (by omega)] at h40
  have e1 : IntKind.i64.wrap (40 + (ln : Int)) = (n : Int) := by rw [IntWalk.i64_in _ (by omega)]; omega
  have j0 : (0 : Int) ≤ 40 := by omega
  have j1 : (40 : Int) ≤ (n : Int) := by omega
  have j2 : (n : Int) ≤ (c : Int) := by omega
  have j3 : n - 40 = ln := by omega
  clear hcell
  have b2 : Bk (w.alloc (.cells #[.int .u8 0, .int .u32 0, .int .i64 0, .int .u8 0, .int .u8 0, .bool false, .int .u64 0, .int .u64 0, .bool false, .int .u64 0, .int .u64 0] 171)) w.heap.size 171 (h6C 0 0 0 0 0 false 0 0 false 0 0) := Bk.new w 171 #[.int .u8 0, .int .u32 0, .int .i64 0, .int .u8 0, .int .u8 0, .bool false, .int .u64 0, .int .u64 0, .bool false, .int .u64 0, .int .u64 0]
  have be : Below w.heap.size w (w.alloc (.cells #[.int .u8 0, .int .u32 0, .int .i64 0, .int .u8 0, .int .u8 0, .bool false, .int .u64 0, .int .u64 0, .bool false, .int .u64 0, .int .u64 0] 171)) := Below.allocS (Below.refl _ _) _
  replace hlen := Lib.hid hlen
  go_enter Try.func69, Try.ntmps69
  go_wp2_with fail
  refine (HH.out _ (h.alloc _)).mono ?_
  rintro e w1 ⟨bs1, d1, rfl, rfl⟩
  go_upto_region 2 with (refine at_op (.store 171 (.tmp 5) (.tmp 10)) rfl ?_; refine wpList_stA (t := 171) 171 (.tmp 5) (.tmp 10) rfl rfl (h6C cl lb (ln : Int) nx ht true sh sl true dh dl) (h6C 0 0 0 0 0 false 0 0 false 0 0) rfl (h6C_one _ _ _ _ _ _ _ _ _ _ _) rfl rfl ?_ (szH6 _ _ _ _ _ _ _ _ _ _ _) ?_; (· refine Bk.newK _ _ _ ?_ rfl; simp [size_plus]); intro W b5 hgr)
  have zb := be.size
  replace b2 := ((b2.later (below_plus _ bs1 d1)).alloc _).grown hgr (by simp; omega)
  replace be := below_grown (Below.allocS (belowP be bs1 d1) _) hgr (by omega)
  have hr := hr0.later be
  have hg5 : w.heap.size < w.heap.size + 1 + bs1.length := by omega
  generalize w.heap.size + 1 + bs1.length = g5 at *
  have hDb : ∀ b, (fun b => b = w.heap.size) b → b < W.heap.size := fun b hb => by subst hb; exact b2.lt
  have hrd : ∀ a, cutA (some ⟨b, off, none⟩) c 40 1 = some a → ¬ (fun b => b = w.heap.size) a.block := fun a ha hb => by
    have : a.block = b := by
      unfold cutA at ha
      split at ha
      · injection ha with ha; subst ha; rfl
      · simp [add_plain] at ha; subst ha; rfl
    have hb' : a.block = w.heap.size := hb
    omega
  clear hgr zb h
  go_wp2
  refine wp_su (fun b => b = w.heap.size) 10 23 2 [7] rfl (by kernel_rfl) (by kernel_rfl) (fun i => match i with | 0 => MC.eq (.agg (h6C cl lb (ln : Int) nx ht true sh sl true dh dl).toArray) | 1 => MC.eq (.slice (some ⟨b, off, none⟩) n c) | 2 => MC.eq (.pointer (some ⟨g5, 2, none⟩)) | 3 => MC.eq (.int .i64 (ln : Int)) | 4 => MC.eq (.int .i64 (n : Int)) | 5 => MC.eq (.slice (cutA (some ⟨b, off, none⟩) c 40 1) ln (c - 40)) | 6 => MC.ob W.heap.size hDb load | 7 => MC.any | 8 => MC.ob W.heap.size hDb load | 9 => MC.eq (.int .i64 0) | _ => MC.any) (fun k w' => Bk w' w.heap.size 171 (if k = 0 then h6C 0 0 0 0 0 false 0 0 false 0 0 else h6C cl lb (ln : Int) nx ht true sh sl true dh dl)) ?_ ?_ ?_ ?_ ?_
  · exact fun k w w' h h' => h.later h'.below
  · exact b2
  · intro i hi o ho hq FA w' hC hO hD K hK
    match i, hi, ho, hq, hO, hD, hK with
    | 0, _, ho, hq, hO, hD, hK => 
      obtain rfl := Option.some.inj ho.symm
      clear ho hq
      have ev5 : FA.eval (.tmp 5) = .pointer (some ⟨g5, 0, none⟩) := hO 5 (by kernel_rfl)
      have e5 : FA.tmps[5]?.getD undef = .pointer (some ⟨g5, 0, none⟩) := by simpa [Act.eval] using ev5
      replace ev5 := Lib.hid ev5
      clear hO hD
      refine wanted_if rfl ?_
      refine wp_load_mid 171 (.tmp 5) rfl g5 0 ev5.out (h6C cl lb (ln : Int) nx ht true sh sl true dh dl) _ (Bk.range (b5.chg hC (by omega))) u1 u2 (szH6 _ _ _ _ _ _ _ _ _ _ _) ?_
      exact hK.out _ _ (Ex.refl _) rfl
    | 1, _, ho, hq, hO, hD, hK => 
      obtain rfl := Option.some.inj ho.symm
      clear ho hq
      have ev0 : FA.eval (.tmp 0) = .slice (some ⟨b, off, none⟩) n c := hO 0 (by kernel_rfl)
      have e0 : FA.tmps[0]?.getD undef = .slice (some ⟨b, off, none⟩) n c := by simpa [Act.eval] using ev0
      replace ev0 := Lib.hid ev0
      clear hO hD
      go_simp
      exact hK.out _ _ (Ex.refl _) rfl
    | 2, _, ho, hq, hO, hD, hK => 
      obtain rfl := Option.some.inj ho.symm
      clear ho hq
      have ev5 : FA.eval (.tmp 5) = .pointer (some ⟨g5, 0, none⟩) := hO 5 (by kernel_rfl)
      have e5 : FA.tmps[5]?.getD undef = .pointer (some ⟨g5, 0, none⟩) := by simpa [Act.eval] using ev5
      replace ev5 := Lib.hid ev5
      clear hO hD
      go_simp
      exact hK.out _ _ (Ex.refl _) rfl
    | 3, _, ho, hq, hO, hD, hK => 
      obtain rfl := Option.some.inj ho.symm
      clear ho hq
      have ev18 : FA.eval (.tmp 18) = .pointer (some ⟨g5, 2, none⟩) := hD 2 18 (by kernel_rfl)
      have e18 : FA.tmps[18]?.getD undef = .pointer (some ⟨g5, 2, none⟩) := by simpa [Act.eval] using ev18
      replace ev18 := Lib.hid ev18
      clear hO hD
      have cc : w'.cell? ⟨g5, 2, none⟩ = some (.int .i64 (ln : Int)) := (b5.chg hC (by omega)).cell 2
      go_simp
      exact hK.out _ _ (Ex.refl _) rfl
    | 4, _, ho, hq, hO, hD, hK => 
      obtain rfl := Option.some.inj ho.symm
      clear ho hq
      have ev19 : FA.eval (.tmp 19) = .int .i64 (ln : Int) := hD 3 19 (by kernel_rfl)
      have e19 : FA.tmps[19]?.getD undef = .int .i64 (ln : Int) := by simpa [Act.eval] using ev19
      replace ev19 := Lib.hid ev19
      clear hO hD
      go_simp
      exact hK.out _ _ (Ex.refl _) rfl
    | 5, _, ho, hq, hO, hD, hK => 
      obtain rfl := Option.some.inj ho.symm
      clear ho hq
      have ev17 : FA.eval (.tmp 17) = .slice (some ⟨b, off, none⟩) n c := hD 1 17 (by kernel_rfl)
      have e17 : FA.tmps[17]?.getD undef = .slice (some ⟨b, off, none⟩) n c := by simpa [Act.eval] using ev17
      replace ev17 := Lib.hid ev17
      have ev20 : FA.eval (.tmp 20) = .int .i64 (n : Int) := hD 4 20 (by kernel_rfl)
      have e20 : FA.tmps[20]?.getD undef = .int .i64 (n : Int) := by simpa [Act.eval] using ev20
      replace ev20 := Lib.hid ev20
      clear hO hD
      go_simp
      exact hK.out _ _ (Ex.refl _) rfl
    | 6, _, ho, hq, hO, hD, hK => 
      obtain rfl := Option.some.inj ho.symm
      clear ho hq
      have ev21 : FA.eval (.tmp 21) = .slice (cutA (some ⟨b, off, none⟩) c 40 1) ln (c - 40) := hD 5 21 (by kernel_rfl)
      have e21 : FA.tmps[21]?.getD undef = .slice (cutA (some ⟨b, off, none⟩) c 40 1) ln (c - 40) := by simpa [Act.eval] using ev21
      replace ev21 := Lib.hid ev21
      clear hO hD
      go_simp
      refine (clone_any _ _ _ load _ (hr.chg hC hrd) (by omega)).mono ?_
      rintro e w1 ⟨A2, n2, c2, bs2, d2, rfl, rfl, ho2⟩
      exact hK.out _ _ (Ex.plus_ _ _ _) ⟨_, _, _, rfl, ho2.mono hC.size⟩
    | 7, _, _, hq, _, _, _ => exact absurd hq (by decide)
    | 8, _, ho, hq, hO, hD, hK => 
      obtain rfl := Option.some.inj ho.symm
      clear ho hq
      have f22 := hD 6 22 (by kernel_rfl)
      generalize eu22 : FA.eval (.tmp 22) = u22 at f22
      have e22 : FA.tmps[22]?.getD undef = u22 := by rw [← eu22]; simp [Act.eval]
      have ev22 := Lib.hid eu22
      clear eu22
      clear hO hD
      go_simp
      exact hK.out _ _ (Ex.refl _) f22
    | 9, _, ho, hq, hO, hD, hK => 
      obtain rfl := Option.some.inj ho.symm
      clear ho hq
      clear hO hD
      go_simp
      exact hK.out _ _ (Ex.refl _) rfl
    | (k + 10), hi, _, _, _, _, _ => exact absurd hi (by omega)
  · intro k i hk o ho FA w' hC hS hO hD K hK
    match k, hk, hS, hK with
    | 0, hk, hS, hK => 
      obtain rfl : 7 = i := Option.some.inj hk
      obtain rfl := Option.some.inj ho.symm
      clear ho hk
      have ev2 : FA.eval (.tmp 2) = .pointer (some ⟨w.heap.size, 0, none⟩) := hO 2 (by kernel_rfl)
      have e2 : FA.tmps[2]?.getD undef = .pointer (some ⟨w.heap.size, 0, none⟩) := by simpa [Act.eval] using ev2
      replace ev2 := Lib.hid ev2
      have ev16 : FA.eval (.tmp 16) = .agg (h6C cl lb (ln : Int) nx ht true sh sl true dh dl).toArray := hD 0 16 (by kernel_rfl)
      have e16 : FA.tmps[16]?.getD undef = .agg (h6C cl lb (ln : Int) nx ht true sh sl true dh dl).toArray := by simpa [Act.eval] using ev16
      replace ev16 := Lib.hid ev16
      clear hO hD
      refine wanted_if rfl ?_
      refine wp_stA 171 (.tmp 2) (.tmp 16) rfl (h6C cl lb (ln : Int) nx ht true sh sl true dh dl) (h6C 0 0 0 0 0 false 0 0 false 0 0) rfl (h6C_one _ _ _ _ _ _ _ _ _ _ _) ev2.out ev16.out hS (szH6 _ _ _ _ _ _ _ _ _ _ _) ?_
      intro w'' hn hg
      exact hK.out _ _ (Chg.one hg rfl) hn trivial
    | (k + 1), hk, _, _ => simp at hk
  intro vs w' hC hS hp
  have p0 : vs 0 = .agg (h6C cl lb (ln : Int) nx ht true sh sl true dh dl).toArray := hp 0 (by omega) rfl
  have p1 : vs 1 = .slice (some ⟨b, off, none⟩) n c := hp 1 (by omega) rfl
  have p2 : vs 2 = .pointer (some ⟨g5, 2, none⟩) := hp 2 (by omega) rfl
  have p3 : vs 3 = .int .i64 (ln : Int) := hp 3 (by omega) rfl
  have p4 : vs 4 = .int .i64 (n : Int) := hp 4 (by omega) rfl
  have p5 : vs 5 = .slice (cutA (some ⟨b, off, none⟩) c 40 1) ln (c - 40) := hp 5 (by omega) rfl
  have p6 := hp 6 (by omega) rfl
  have p8 := hp 8 (by omega) rfl
  have p9 : vs 9 = .int .i64 0 := hp 9 (by omega) rfl
  clear hp
  simp only [List.take_succ_cons, List.take_zero, List.drop_succ_cons, List.drop_zero, putAll, Nat.zero_add, Nat.reduceAdd, Act.put, List.setIfInBounds_toArray, List.set_cons_zero, List.set_cons_succ, p0, p1, p2, p3, p4, p5, p9]
  clear p0 p1 p2 p3 p4 p5 p9
  generalize vs 6 = y6 at *
  generalize vs 8 = y8 at *
  clear vs
  obtain ⟨A8, n8, c8, rfl, h8⟩ := p8
  go_wp2
  refine bodyPost_agg3 Try.results69 rfl rfl rfl (Bk.range hS) u1 u2 (szH6 _ _ _ _ _ _ _ _ _ _ _) rfl (RetH.mk (h8.mono be.size) ?_)
  exact be.trans (hC.below (B := w.heap.size) (fun b hb => by have : b = w.heap.size := hb; omega) be.size)
set_option maxHeartbeats 2000000 in
set_option maxRecDepth 100000 in
theorem ip6Packet_yes (cl lb : Nat) (l0 : Int) (nx ht sh sl dh dl : Nat) (A : Option Addr) (ln c : Nat) (load : List UInt8) (w : World) (h1 : cl < 256) (h2 : lb < 1048576) (h3 : ln < 65536) (h4 : nx < 256) (h5 : ht < 256) (k1 : sh < 18446744073709551616) (k2 : sl < 18446744073709551616) (k3 : dh < 18446744073709551616) (k4 : dl < 18446744073709551616) (h : Rb w A ln c load) :
    Calls Try.prog 70 #[.agg (h6C cl lb l0 nx ht true sh sl true dh dl).toArray, .slice A ln c] w (RetBE w (ip6B cl lb ln nx ht sh sl dh dl ++ load) 0) := by
  have HR := Lib.hid (fun w => ip6Right cl lb (ln : Int) nx ht true sh sl true dh dl w (by omega) (by omega))
  rw [show r6 lb (ln : Int) true true = true from r6_true.2 ⟨h2, by omega, by omega, rfl, rfl⟩] at HR
  have HB := Lib.hid (fun w => ip6Bytes_yes cl lb ln nx ht sh sl dh dl w h1 h2 h3 h4 h5 k1 k2 k3 k4)
  unfold h6C
  go_enter Try.func70, Try.ntmps70
  go_wp2_with fail
  refine (HR.out _).mono ?_
  rintro e w1 ⟨bs1, d1, rfl, rfl⟩
  go_wp2_with fail
  refine (HB.out _).mono ?_
  rintro e w1 ⟨A2, n2, c2, bs2, d2, rfl, rfl, ho2⟩
  obtain rfl : n2 = 40 := by rw [← ho2.1, ip6B_length]
  go_wp2_with (at_builtin; refine wpList_appP _ bt rfl (.tmp 16) (.tmp 17) rfl (by exact below_plus _ bs2 d2) rfl ho2 rfl (by exact ((h.alloc _).plus_ _ _).plus_ _ _) (by omega) ?_; intro A3 n3 k3 bs3 m3 ho3 hg3)
  go_ret2
  exact RetBE.mk ho3.rb (belowP (belowP (Below.allocS (Below.refl _ _) _) _ _) _ _)
set_option maxHeartbeats 2000000 in
set_option maxRecDepth 100000 in
theorem ip6Packet_no (cl lb : Nat) (l0 : Int) (nx ht : Nat) (s6 : Bool) (sh sl : Nat) (d6 : Bool) (dh dl : Nat) (A : Option Addr) (ln c : Nat) (w : World) (hl : lb < 4294967296) (h3 : ln < 65536) (hr : r6 lb (ln : Int) s6 d6 = false) :
    Calls Try.prog 70 #[.agg (h6C cl lb l0 nx ht s6 sh sl d6 dh dl).toArray, .slice A ln c] w (RetBE w [] 1) := by
  have HR := Lib.hid (fun w => ip6Right cl lb (ln : Int) nx ht s6 sh sl d6 dh dl w hl (by omega))
  rw [hr] at HR
  unfold h6C
  go_enter Try.func70, Try.ntmps70
  go_wp2_with fail
  refine (HR.out _).mono ?_
  rintro e w1 ⟨bs1, d1, rfl, rfl⟩
  go_wp2
  go_ret2
  exact RetBE.mk Rb.nil_ (belowP (Below.allocS (Below.refl _ _) _) _ _)
set_option maxHeartbeats 2000000 in
set_option maxRecDepth 100000 in
theorem refIp6Packet_yes (cl lb : Nat) (l0 : Int) (nx ht sh sl dh dl : Nat) (A : Option Addr) (ln c : Nat) (load : List UInt8) (w : World) (h1 : cl < 256) (h2 : lb < 1048576) (h3 : ln < 65536) (h4 : nx < 256) (h5 : ht < 256) (k1 : sh < 18446744073709551616) (k2 : sl < 18446744073709551616) (k3 : dh < 18446744073709551616) (k4 : dl < 18446744073709551616) (h : Rb w A ln c load) :
    Calls Try.prog 77 #[.agg (h6C cl lb l0 nx ht true sh sl true dh dl).toArray, .slice A ln c] w (RetBE w (ip6B cl lb ln nx ht sh sl dh dl ++ load) 0) := by
  have HR := Lib.hid (fun w => refIp6Right cl lb (ln : Int) nx ht true sh sl true dh dl w (by omega) (by omega))
  rw [show r6 lb (ln : Int) true true = true from r6_true.2 ⟨h2, by omega, by omega, rfl, rfl⟩] at HR
  have HB := Lib.hid (fun w => refIp6Bytes cl lb ln nx ht true sh sl true dh dl w h1 h2 h3 h4 h5 k1 k2 k3 k4)
  rw [ip6R_B cl lb ln nx ht sh sl dh dl h1 h2 h4 h5] at HB
  unfold h6C
  go_enter Try.func77, Try.ntmps77
  go_wp2_with fail
  refine (HR.out _).mono ?_
  rintro e w1 ⟨bs1, d1, rfl, rfl⟩
  go_wp2_with fail
  refine (HB.out _).mono ?_
  rintro e w1 ⟨A2, n2, c2, bs2, d2, rfl, rfl, ho2⟩
  obtain rfl : n2 = 40 := by rw [← ho2.1, ip6B_length]
  go_wp2_with (at_builtin; refine wpList_appP _ bt rfl (.tmp 16) (.tmp 17) rfl (by exact below_plus _ bs2 d2) rfl ho2 rfl (by exact ((h.alloc _).plus_ _ _).plus_ _ _) (by omega) ?_; intro A3 n3 k3 bs3 m3 ho3 hg3)
  go_ret2
  exact RetBE.mk ho3.rb (belowP (belowP (Below.allocS (Below.refl _ _) _) _ _) _ _)
set_option maxHeartbeats 2000000 in
set_option maxRecDepth 100000 in
theorem refIp6Packet_no (cl lb : Nat) (l0 : Int) (nx ht : Nat) (s6 : Bool) (sh sl : Nat) (d6 : Bool) (dh dl : Nat) (A : Option Addr) (ln c : Nat) (w : World) (hl : lb < 4294967296) (h3 : ln < 65536) (hr : r6 lb (ln : Int) s6 d6 = false) :
    Calls Try.prog 77 #[.agg (h6C cl lb l0 nx ht s6 sh sl d6 dh dl).toArray, .slice A ln c] w (RetBE w [] 1) := by
  have HR := Lib.hid (fun w => refIp6Right cl lb (ln : Int) nx ht s6 sh sl d6 dh dl w hl (by omega))
  rw [hr] at HR
  unfold h6C
  go_enter Try.func77, Try.ntmps77
  go_wp2_with fail
  refine (HR.out _).mono ?_
  rintro e w1 ⟨bs1, d1, rfl, rfl⟩
  go_wp2
  go_ret2
  exact RetBE.mk Rb.nil_ (belowP (Below.allocS (Below.refl _ _) _) _ _)
end Go.Proofs.Ytfmkndemkpecpaa
