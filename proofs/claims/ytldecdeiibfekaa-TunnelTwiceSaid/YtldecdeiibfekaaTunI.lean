/- What Wrap gives is opened again. -/
import Derived.Test.YtldecdeiibfekaaTunH
namespace Go.Proofs.Ytldecdeiibfekaa
open Go.RowKit
set_option linter.unusedVariables false
set_option linter.unusedSimpArgs false
attribute [local go_sem ↓] sliced_cut
attribute [local go_sem] cutA_zero

def MP.beT (l : List UInt8) : MP := ⟨fun v w => ∃ A n c, v = .tuple #[.slice A n c, .int .i64 0] ∧ Rb w A n c l, fun _ _ _ ⟨A, n, c, h1, h2⟩ h => ⟨A, n, c, h1, h2.later h.below⟩⟩
set_option maxHeartbeats 4000000 in
set_option maxRecDepth 100000 in
theorem wrap6 (A : Option Addr) (n c : Nat) (l : List UInt8) (w : World) (h : Rb w A n c l) (B : Bool) (sh sl dh dl tl : Nat) (hn : n ≤ 65515) (k1 : sh < 18446744073709551616) (k2 : sl < 18446744073709551616) (k3 : dh < 18446744073709551616) (k4 : dl < 18446744073709551616) (ht0 : 0 < tl) (htl : tl < 256) (N : Int) (s : Sx l N B 0) :
    Calls Try.prog 79 #[.agg (wyC true sh sl true dh dl tl).toArray, .slice A n c] w (RetBE w (ip6B 0 0 n (pro B) tl sh sl dh dl ++ l) 0) := by
  obtain ⟨dy, y1, y2⟩ := rowWy
  obtain ⟨dv, v1, v2⟩ : ∃ d, Try.prog.underlying 29 = some d ∧ d.isRow = true := ⟨_, Try.underlying29, rfl⟩
  have HS := Lib.hid (fun w (h : Rb w A n c l) => tunSix A n c l w h _ _ _ s)
  have HPR := Lib.hid (tunProto B)
  have HR := Lib.hid (wayRight true sh sl dh dl tl ht0)
  have hpb : pro B < 256 := by cases B <;> decide
  have HPK0 := fun w (h : Rb w A n c l) => ip6Packet_yes 0 0 0 (pro B) tl sh sl dh dl A n c l w (by decide) (by decide) (by omega) hpb htl k1 k2 k3 k4 h
  generalize pro B = pb at *
  generalize ip6B 0 0 n pb tl sh sl dh dl ++ l = L at *
  have HPK := Lib.hid HPK0
  clear HPK0 s
  have b2 : Bk (w.alloc (.cells (wyC true sh sl true dh dl tl).toArray 126)) w.heap.size 126 (wyC true sh sl true dh dl tl) := Bk.new w 126 (wyC true sh sl true dh dl tl).toArray
  have be : Below w.heap.size w (w.alloc (.cells (wyC true sh sl true dh dl tl).toArray 126)) := Below.allocS (Below.refl _ _) _
  replace h := h.alloc (.cells (wyC true sh sl true dh dl tl).toArray 126)
  go_enter Try.func79, Try.ntmps79
  go_upto_region 1 with (fail)
  generalize w.alloc (.cells (wyC true sh sl true dh dl tl).toArray 126) = V at *
  have zb2 := b2.lt
  go_wp2_with fail
  refine (HS.out _ h).mono ?_
  rintro e w1 ⟨rfl, rfl⟩
  go_upto_region 6 with (first
    | (refine at_op (.load 126 (.tmp 2)) rfl ?_; refine wpList_ldA (t := 126) 126 (.tmp 2) rfl rfl (wyC true sh sl true dh dl tl) rfl (by with_reducible repeat (first | exact b2 | refine Bk.later ?_ (below_plus _ _ _) | refine Bk.alloc ?_ _)) (whole_ _) y1 y2 (szWy _ _ _ _ _ _ _) ?_)
    | (go_at_call 140; (with_reducible refine (HR.out _).mono ?_); rintro e w1 ⟨bs1, d1, rfl, rfl⟩))
  replace b2 := b2.later (below_plus _ bs1 d1)
  replace h := h.plus_ bs1 d1
  replace be := belowP be bs1 d1
  generalize plus V bs1 d1 = V1 at *
  have zb3 := b2.lt
  have q3 : V1.cell? ⟨w.heap.size, 3, none⟩ = some (.bool true) := b2.cell 3
  go_upto_region 7 with (fail)
  go_wp2
  refine wp_relS 15 67 rfl (by kernel_rfl) (by kernel_rfl) ?_
  apply Steps.one (MP.eq _) 1 rfl
  · intro o ho FA x hO hD K hK
    obtain rfl := Option.some.inj ho.symm
    clear ho
    have e6 := hO 6 (by kernel_rfl)
    simp only [eval_tmp, List.getElem?_toArray, List.getElem?_cons_succ, List.getElem?_cons_zero, Option.getD_some] at e6
    have ev6 := Lib.hid ((eval_tmp FA 6).trans e6)
    clear hO hD
    go_simp
    exact hK.out _ _ (Ex.refl _) rfl
  apply Steps.one (MP.eq _) 2 rfl
  · intro o ho FA x hO hD K hK
    obtain rfl := Option.some.inj ho.symm
    clear ho
    have ev26 : FA.eval (.tmp 26) = _ := hD 0 26 (by kernel_rfl)
    have e26 := (eval_tmp FA 26).symm.trans ev26
    replace ev26 := Lib.hid ev26
    clear hO hD
    go_simp
    refine (HPR.out _).mono ?_
    rintro e w1 ⟨rfl, rfl⟩
    exact hK.out _ _ (Ex.refl _) rfl
  apply Steps.one (MP.eq _) 3 rfl
  · intro o ho FA x hO hD K hK
    obtain rfl := Option.some.inj ho.symm
    clear ho
    have e2 := hO 2 (by kernel_rfl)
    simp only [eval_tmp, List.getElem?_toArray, List.getElem?_cons_succ, List.getElem?_cons_zero, Option.getD_some] at e2
    have ev2 := Lib.hid ((eval_tmp FA 2).trans e2)
    clear hO hD
    go_simp
    exact hK.out _ _ (Ex.refl _) rfl
  apply Steps.one (MP.eq _) 4 rfl
  · intro o ho FA x hO hD K hK
    obtain rfl := Option.some.inj ho.symm
    clear ho
    have ev28 : FA.eval (.tmp 28) = _ := hD 2 28 (by kernel_rfl)
    have e28 := (eval_tmp FA 28).symm.trans ev28
    replace ev28 := Lib.hid ev28
    clear hO hD
    refine wanted_if rfl ?_
    refine wp_ld1 5 (.tmp 28) rfl ev28.out (b2.later (below_plus _ _ _)) rfl Try.underlying5 rfl ?_
    exact hK.out _ _ (Ex.refl _) rfl
  apply Steps.one (MP.eq _) 5 rfl
  · intro o ho FA x hO hD K hK
    obtain rfl := Option.some.inj ho.symm
    clear ho
    have e2 := hO 2 (by kernel_rfl)
    simp only [eval_tmp, List.getElem?_toArray, List.getElem?_cons_succ, List.getElem?_cons_zero, Option.getD_some] at e2
    have ev2 := Lib.hid ((eval_tmp FA 2).trans e2)
    clear hO hD
    go_simp
    exact hK.out _ _ (Ex.refl _) rfl
  apply Steps.one (MP.eq _) 6 rfl
  · intro o ho FA x hO hD K hK
    obtain rfl := Option.some.inj ho.symm
    clear ho
    have ev30 : FA.eval (.tmp 30) = _ := hD 4 30 (by kernel_rfl)
    have e30 := (eval_tmp FA 30).symm.trans ev30
    replace ev30 := Lib.hid ev30
    clear hO hD
    refine wanted_if rfl ?_
    refine wp_ldA 29 (.tmp 30) rfl ([.bool true, .int .u64 (sh : Int), .int .u64 (sl : Int)]) ev30.out (b2.later (below_plus _ _ _)) rfl v1 v2 (szAd _ _ _) ?_
    exact hK.out _ _ (Ex.refl _) rfl
  apply Steps.one (MP.eq _) 7 rfl
  · intro o ho FA x hO hD K hK
    obtain rfl := Option.some.inj ho.symm
    clear ho
    have e2 := hO 2 (by kernel_rfl)
    simp only [eval_tmp, List.getElem?_toArray, List.getElem?_cons_succ, List.getElem?_cons_zero, Option.getD_some] at e2
    have ev2 := Lib.hid ((eval_tmp FA 2).trans e2)
    clear hO hD
    go_simp
    exact hK.out _ _ (Ex.refl _) rfl
  apply Steps.one (MP.eq _) 8 rfl
  · intro o ho FA x hO hD K hK
    obtain rfl := Option.some.inj ho.symm
    clear ho
    have ev32 : FA.eval (.tmp 32) = _ := hD 6 32 (by kernel_rfl)
    have e32 := (eval_tmp FA 32).symm.trans ev32
    replace ev32 := Lib.hid ev32
    clear hO hD
    refine wanted_if rfl ?_
    refine wp_ldA 29 (.tmp 32) rfl ([.bool true, .int .u64 (dh : Int), .int .u64 (dl : Int)]) ev32.out (b2.later (below_plus _ _ _)) rfl v1 v2 (szAd _ _ _) ?_
    exact hK.out _ _ (Ex.refl _) rfl
  apply Steps.one (MP.eq _) 9 rfl
  · intro o ho FA x hO hD K hK
    obtain rfl := Option.some.inj ho.symm
    clear ho
    have ev27 : FA.eval (.tmp 27) = _ := hD 1 27 (by kernel_rfl)
    have e27 := (eval_tmp FA 27).symm.trans ev27
    replace ev27 := Lib.hid ev27
    have ev29 : FA.eval (.tmp 29) = _ := hD 3 29 (by kernel_rfl)
    have e29 := (eval_tmp FA 29).symm.trans ev29
    replace ev29 := Lib.hid ev29
    have ev31 : FA.eval (.tmp 31) = _ := hD 5 31 (by kernel_rfl)
    have e31 := (eval_tmp FA 31).symm.trans ev31
    replace ev31 := Lib.hid ev31
    have ev33 : FA.eval (.tmp 33) = _ := hD 7 33 (by kernel_rfl)
    have e33 := (eval_tmp FA 33).symm.trans ev33
    replace ev33 := Lib.hid ev33
    clear hO hD
    go_simp
    exact hK.out _ _ (Ex.refl _) rfl
  apply Steps.one (MP.eq _) 10 rfl
  · intro o ho FA x hO hD K hK
    obtain rfl := Option.some.inj ho.symm
    clear ho
    have e1 := hO 1 (by kernel_rfl)
    simp only [eval_tmp, List.getElem?_toArray, List.getElem?_cons_succ, List.getElem?_cons_zero, Option.getD_some] at e1
    have ev1 := Lib.hid ((eval_tmp FA 1).trans e1)
    clear hO hD
    go_simp
    exact hK.out _ _ (Ex.refl _) rfl
  apply Steps.one (MP.beT L) 11 rfl
  · intro o ho FA x hO hD K hK
    obtain rfl := Option.some.inj ho.symm
    clear ho
    have ev34 : FA.eval (.tmp 34) = _ := hD 8 34 (by kernel_rfl)
    have e34 := (eval_tmp FA 34).symm.trans ev34
    replace ev34 := Lib.hid ev34
    have ev35 : FA.eval (.tmp 35) = _ := hD 9 35 (by kernel_rfl)
    have e35 := (eval_tmp FA 35).symm.trans ev35
    replace ev35 := Lib.hid ev35
    clear hO hD
    go_simp
    refine (HPK.out _ (h.plus_ _ _)).mono ?_
    rintro e w1 ⟨A3, n3, c3, bs2, d2, rfl, rfl, ho2⟩
    exact hK.out _ _ (Ex.plus_ _ _ _) ⟨_, _, _, rfl, ho2⟩
  apply Steps.one (MP.rb L) 12 rfl
  · intro o ho FA x hO hD K hK
    obtain rfl := Option.some.inj ho.symm
    clear ho
    have f36 := hD 10 36 (by kernel_rfl)
    generalize eu36 : FA.eval (.tmp 36) = u36 at f36
    have e36 := (eval_tmp FA 36).symm.trans eu36
    have ev36 := Lib.hid eu36
    clear eu36
    clear hO hD
    obtain ⟨A1, n1, c1, rfl, hr1⟩ := f36
    go_simp
    exact hK.out _ _ (Ex.refl _) ⟨_, _, _, rfl, hr1⟩
  apply Steps.one (MP.eq _) 13 rfl
  · intro o ho FA x hO hD K hK
    obtain rfl := Option.some.inj ho.symm
    clear ho
    have f36 := hD 10 36 (by kernel_rfl)
    generalize eu36 : FA.eval (.tmp 36) = u36 at f36
    have e36 := (eval_tmp FA 36).symm.trans eu36
    have ev36 := Lib.hid eu36
    clear eu36
    clear hO hD
    obtain ⟨A1, n1, c1, rfl, hr1⟩ := f36
    go_simp
    exact hK.out _ _ (Ex.refl _) rfl
  apply Steps.one (MP.rb L) 14 rfl
  · intro o ho FA x hO hD K hK
    obtain rfl := Option.some.inj ho.symm
    clear ho
    have f37 := hD 11 37 (by kernel_rfl)
    generalize eu37 : FA.eval (.tmp 37) = u37 at f37
    have e37 := (eval_tmp FA 37).symm.trans eu37
    have ev37 := Lib.hid eu37
    clear eu37
    clear hO hD
    go_simp
    exact hK.out _ _ (Ex.refl _) f37
  apply Steps.one (MP.eq _) 15 rfl
  · intro o ho FA x hO hD K hK
    obtain rfl := Option.some.inj ho.symm
    clear ho
    have ev38 : FA.eval (.tmp 38) = _ := hD 12 38 (by kernel_rfl)
    have e38 := (eval_tmp FA 38).symm.trans ev38
    replace ev38 := Lib.hid ev38
    clear hO hD
    go_simp
    exact hK.out _ _ (Ex.refl _) rfl
  refine Steps.fin_ (fun vs x hp => ?_)
  have p0 : vs 0 = _ := hp 0 (by omega)
  have p1 : vs 1 = _ := hp 1 (by omega)
  have p2 : vs 2 = _ := hp 2 (by omega)
  have p3 : vs 3 = _ := hp 3 (by omega)
  have p4 : vs 4 = _ := hp 4 (by omega)
  have p5 : vs 5 = _ := hp 5 (by omega)
  have p6 : vs 6 = _ := hp 6 (by omega)
  have p7 : vs 7 = _ := hp 7 (by omega)
  have p8 : vs 8 = _ := hp 8 (by omega)
  have p9 : vs 9 = _ := hp 9 (by omega)
  have p10 := hp 10 (by omega)
  have p11 := hp 11 (by omega)
  have p12 : vs 12 = _ := hp 12 (by omega)
  have p13 := hp 13 (by omega)
  have p14 : vs 14 = _ := hp 14 (by omega)
  clear hp
  simp only [List.take_succ_cons, List.take_zero, List.drop_succ_cons, List.drop_zero, putAll, Nat.zero_add, Nat.reduceAdd, Act.put, List.setIfInBounds_toArray, List.set_cons_zero, List.set_cons_succ, p0, p1, p2, p3, p4, p5, p6, p7, p8, p9, p12, p14]
  clear p0 p1 p2 p3 p4 p5 p6 p7 p8 p9 p12 p14
  generalize vs 10 = y10 at *
  generalize vs 11 = y11 at *
  generalize vs 13 = y13 at *
  clear vs
  obtain ⟨A7, n7, c7, rfl, h7⟩ := p13
  clear p10 p11
  go_wp2
  go_ret2
  exact RetBE.mk h7 (belowP be _ _)
/-- a packet that a tunnel takes -/
def Pkt (l : List UInt8) (B : Bool) : Prop := Sx l (if B then 6 else 4) B 0 ∧ (B = false → ∃ (ts ln id : Nat) (st mo : Bool) (fo tl pr sm sa da : Nat) (o load : List UInt8), ∀ A n c w, Rb w A n c l → Calls Try.prog 44 #[.slice A n c] w (RetPE w ts ln id st mo fo tl pr sm sa da o load 0))
theorem pkt4 (ts ln id : Nat) (st : Bool) (mo : Bool) (fo tl pr sl dl : Nat) (o load : List UInt8) (b1 : ts < 256) (b2 : id < 65536) (b3 : tl < 256) (b4 : pr < 256) (b5 : sl < 4294967296) (b6 : dl < 4294967296) (c1 : o.length ≤ 40) (c2 : o.length % 4 = 0) (c3 : ln = 20 + o.length + load.length) (c4 : ln ≤ 65535) (c5 : fo ≤ 8191) :
    Pkt (ip4B ts ln id (pl4 st mo fo) tl pr (ip4K ts ln id (pl4 st mo fo) tl pr sl dl o) sl dl o ++ load) false :=
  ⟨sx_ip4 _ _ _ _ _ _ _ _ _ _ _ c1, fun _ => ⟨ts, ln, id, st, mo, fo, tl, pr, _, sl, dl, o, load, fun A n c w h => (parse4_w ts ln id st mo fo tl pr sl dl A n c o load w h b1 b2 b3 b4 b5 b6 c1 c2 c3 c4 c5).mono fun _ _ => RetPE.ok⟩⟩
theorem wrap_pkt4 (l : List UInt8) (B : Bool) (hp : Pkt l B) (hn : l.length ≤ 3000) (sl dl tl : Nat) (k1 : sl < 4294967296) (k2 : dl < 4294967296) (ht0 : 0 < tl) (htl : tl < 256) : ∃ L, L.length = 20 + l.length ∧ Pkt L false ∧ (∀ A n c w, Rb w A n c l → Calls Try.prog 79 #[.agg (wyC false 0 sl false 0 dl tl).toArray, .slice A n c] w (RetBE w L 0)) ∧ (∀ A n c w, Rb w A n c L → Calls Try.prog 72 #[.slice A n c] w (RetTW w l false 0 sl false 0 dl tl 0)) := by
  have un : ∀ (st : Bool) (pr : Nat) (N : Int) (B' : Bool), Sx l N B' 0 → (N = 4 ∧ B' = false ∧ pr = 4 ∨ N = 6 ∧ B' = true ∧ pr = 41) → ∀ A n c w, Rb w A n c (ip4B 0 (20 + 0 + l.length) 0 (pl4 st false 0) tl pr (ip4K 0 (20 + 0 + l.length) 0 (pl4 st false 0) tl pr sl dl []) sl dl [] ++ l) → Calls Try.prog 72 #[.slice A n c] w (RetTW w l false 0 sl false 0 dl tl 0) := fun st pr N B' s hN A n c w h => by
    have hpr : pr < 256 := by omega
    exact unwrap_all A n c l false 0 sl false 0 dl tl pr 0 w true 0 (.ok N B' s rfl hN) (fun w' hb => outer_4 A n c w' 0 (20 + 0 + l.length) 0 st false 0 tl pr _ sl dl [] l 0 rfl (by simp) (fun w2 hb2 => tunSix A n c _ w2 ((h.later hb).later hb2) _ _ _ (sx_ip4 _ _ _ _ _ _ _ _ _ _ _ (by decide))) (fun w2 hb2 => (parse4_w 0 (20 + 0 + l.length) 0 st false 0 tl pr sl dl A n c [] l w2 ((h.later hb).later hb2) (by decide) (by decide) htl hpr k1 k2 (by decide) (by decide) rfl (by omega) (by decide)).mono fun _ _ => RetPE.ok))
  cases B
  · obtain ⟨s, hp2⟩ := hp
    obtain ⟨ts, ln, id, st, mo, fo, tl0, pr, sm, sa, da, o, load, HP⟩ := hp2 rfl
    refine ⟨_, ?_, pkt4 0 (20 + 0 + l.length) 0 st false 0 tl 4 sl dl [] l (by decide) (by decide) htl (by decide) k1 k2 (by decide) (by decide) rfl (by omega) (by decide), fun A n c w h => ?_, un st 4 4 false s (.inl ⟨rfl, rfl, rfl⟩)⟩
    · rw [List.length_append, ip4B_length]; rfl
    · obtain rfl : l.length = n := h.1
      exact wrap44 A l.length c l w h ts ln id st mo fo tl0 pr sm sa da o load sl dl tl (by omega) k1 k2 ht0 htl s (fun w' hb => HP A _ c w' (h.later hb))
  · obtain ⟨s, -⟩ := hp
    refine ⟨_, ?_, pkt4 0 (20 + 0 + l.length) 0 true false 0 tl 41 sl dl [] l (by decide) (by decide) htl (by decide) k1 k2 (by decide) (by decide) rfl (by omega) (by decide), fun A n c w h => ?_, un true 41 6 true s (.inr ⟨rfl, rfl, rfl⟩)⟩
    · rw [List.length_append, ip4B_length]; rfl
    · obtain rfl : l.length = n := h.1
      exact wrap46 A l.length c l w h sl dl tl (by omega) k1 k2 ht0 htl s
theorem wrap_pkt6 (l : List UInt8) (B : Bool) (hp : Pkt l B) (hn : l.length ≤ 3000) (sh sl dh dl tl : Nat) (k1 : sh < 18446744073709551616) (k2 : sl < 18446744073709551616) (k3 : dh < 18446744073709551616) (k4 : dl < 18446744073709551616) (ht0 : 0 < tl) (htl : tl < 256) : ∃ L, L.length = 40 + l.length ∧ Pkt L true ∧ (∀ A n c w, Rb w A n c l → Calls Try.prog 79 #[.agg (wyC true sh sl true dh dl tl).toArray, .slice A n c] w (RetBE w L 0)) ∧ (∀ A n c w, Rb w A n c L → Calls Try.prog 72 #[.slice A n c] w (RetTW w l true sh sl true dh dl tl 0)) := by
  have hpb : pro B < 256 := by cases B <;> decide
  have hs : Sx (ip6B 0 0 l.length (pro B) tl sh sl dh dl ++ l) 6 true 0 := sx_ip6 _ _ _ _ _ _ _ _ _ _ (by decide) (by decide)
  refine ⟨ip6B 0 0 l.length (pro B) tl sh sl dh dl ++ l, ?_, ⟨hs, fun h => by cases h⟩, fun A n c w h => ?_, fun A n c w h => ?_⟩
  · rw [List.length_append, ip6B_length]
  · obtain rfl : l.length = n := h.1
    exact wrap6 A l.length c l w h B sh sl dh dl tl (by omega) k1 k2 k3 k4 ht0 htl _ hp.1
  · have hn2 : n = 40 + l.length := by rw [← h.1, List.length_append, ip6B_length]
    refine unwrap_all A n c l true sh sl true dh dl tl (pro B) 0 w true 0 (.ok (if B then 6 else 4) B hp.1 rfl (by cases B <;> simp [pro])) (fun w' hb => outer_6 A n c w' 0 0 l.length (pro B) tl true sh sl dh dl l 0 (fun w2 hb2 => tunSix A n c _ w2 ((h.later hb).later hb2) _ _ _ hs) (fun w2 hb2 => ?_))
    have := parse6_ok 0 0 l.length (pro B) tl sh sl dh dl A n c l w2 (by decide) (by decide) (by omega) hpb htl k1 k2 k3 k4 ((h.later hb).later hb2) (Nat.le_refl _) (by omega)
    rwa [List.take_of_length_le (Nat.le_refl _)] at this
set_option maxRecDepth 100000 in
theorem refRight4_big (ts : Nat) (ln : Int) (id : Nat) (st mo : Bool) (fo : Int) (tt pr sm : Nat) (i6 : Bool) (ih il : Nat) (j6 : Bool) (jh jl : Nat) (A : Option Addr) (n k : Nat) (w : World) (hn : 40 < n) : Calls Try.prog 50 #[.agg (h4C ts ln id st mo fo tt pr sm i6 ih il j6 jh jl A n k).toArray] w (RetV w (.bool false)) := by
  have t1 : decide (40 < (n : Int)) = true := by simp only [decide_eq_true_eq]; omega
  have t2 : decide (40 < n) = true := by simp only [decide_eq_true_eq]; omega
  unfold h4C
  clear hn
  go_enter Try.func50, Try.ntmps50
  go_wp2
  go_ret
  exact RetV.is_ rfl (Below.allocS (Below.refl _ _) _)
set_option maxHeartbeats 4000000 in
set_option maxRecDepth 100000 in
theorem refPacket4_big (ts : Nat) (ln : Int) (id : Nat) (st mo : Bool) (fo : Int) (tt pr sm : Nat) (i6 : Bool) (ih il : Nat) (j6 : Bool) (jh jl : Nat) (A : Option Addr) (n k : Nat) (m : Nat) (hn : 40 < n) : ∃ E : Int, E ≠ 0 ∧ ∀ A2 c2 w, Calls Try.prog 54 #[.agg (h4C ts ln id st mo fo tt pr sm i6 ih il j6 jh jl A n k).toArray, .slice A2 m c2] w (RetBE w [] E) := by
  obtain ⟨z, hz⟩ : ∃ z : Int, IntKind.i64.wrap (20 + (n : Int)) = z := ⟨_, rfl⟩
  obtain ⟨L, hL⟩ : ∃ L : Int, IntKind.i64.wrap (z + (m : Int)) = L := ⟨_, rfl⟩
  have HR := Lib.hid (fun w => refRight4_big ts L id st mo fo tt pr sm i6 ih il j6 jh jl A n k w hn)
  clear hn
  obtain ⟨du, u1, u2⟩ := rowR4
  by_cases hb0 : decide (65535 < L) = true
  · refine ⟨30, by decide, fun A2 c2 w => ?_⟩
    have hb : Bk (w.alloc (.cells (h4C ts ln id st mo fo tt pr sm i6 ih il j6 jh jl A n k).toArray 83)) w.heap.size 83 (h4C ts ln id st mo fo tt pr sm i6 ih il j6 jh jl A n k) := Bk.new w 83 (h4C ts ln id st mo fo tt pr sm i6 ih il j6 jh jl A n k).toArray
    have be : Below w.heap.size w (w.alloc (.cells (h4C ts ln id st mo fo tt pr sm i6 ih il j6 jh jl A n k).toArray 83)) := Below.allocS (Below.refl _ _) _
    go_enter Try.func54, Try.ntmps54
    go_upto_region 1 with (fail)
    generalize w.alloc (.cells (h4C ts ln id st mo fo tt pr sm i6 ih il j6 jh jl A n k).toArray 83) = W at *
    have y15 : W.cell? ⟨w.heap.size, 15, none⟩ = some (.slice A n k) := hb.cell 15
    have y1 : W.cell? ⟨w.heap.size, 1, none⟩ = some (.int .i64 ln) := hb.cell 1
    have fr := hb.frozen 1
    have zb := hb.lt
    go_upto_region 2 with (fail)
    replace hb : Bk (W.setCell ⟨w.heap.size, 1, none⟩ (.int .i64 L)) w.heap.size 83 (h4C ts L id st mo fo tt pr sm i6 ih il j6 jh jl A n k) := hb.set_ 1 _
    replace be := be.setCell (p := ⟨w.heap.size, 1, none⟩) (Nat.le_refl _) (.int .i64 L)
    clear y1 fr zb y15
    generalize W.setCell ⟨w.heap.size, 1, none⟩ (.int .i64 L) = W2 at *
    have y1 : W2.cell? ⟨w.heap.size, 1, none⟩ = some (.int .i64 L) := hb.cell 1
    go_wp2
    go_ret2
    exact RetBE.mk Rb.nil_ be
  · have hb0' : decide (65535 < L) = false := by simpa using hb0
    clear hb0
    refine ⟨1, by decide, fun A2 c2 w => ?_⟩
    have hb : Bk (w.alloc (.cells (h4C ts ln id st mo fo tt pr sm i6 ih il j6 jh jl A n k).toArray 83)) w.heap.size 83 (h4C ts ln id st mo fo tt pr sm i6 ih il j6 jh jl A n k) := Bk.new w 83 (h4C ts ln id st mo fo tt pr sm i6 ih il j6 jh jl A n k).toArray
    have be : Below w.heap.size w (w.alloc (.cells (h4C ts ln id st mo fo tt pr sm i6 ih il j6 jh jl A n k).toArray 83)) := Below.allocS (Below.refl _ _) _
    go_enter Try.func54, Try.ntmps54
    go_upto_region 1 with (fail)
    generalize w.alloc (.cells (h4C ts ln id st mo fo tt pr sm i6 ih il j6 jh jl A n k).toArray 83) = W at *
    have y15 : W.cell? ⟨w.heap.size, 15, none⟩ = some (.slice A n k) := hb.cell 15
    have y1 : W.cell? ⟨w.heap.size, 1, none⟩ = some (.int .i64 ln) := hb.cell 1
    have fr := hb.frozen 1
    have zb := hb.lt
    go_upto_region 2 with (fail)
    replace hb : Bk (W.setCell ⟨w.heap.size, 1, none⟩ (.int .i64 L)) w.heap.size 83 (h4C ts L id st mo fo tt pr sm i6 ih il j6 jh jl A n k) := hb.set_ 1 _
    replace be := be.setCell (p := ⟨w.heap.size, 1, none⟩) (Nat.le_refl _) (.int .i64 L)
    clear y1 fr zb y15
    generalize W.setCell ⟨w.heap.size, 1, none⟩ (.int .i64 L) = W2 at *
    have y1 : W2.cell? ⟨w.heap.size, 1, none⟩ = some (.int .i64 L) := hb.cell 1
    go_wp2_with (first
      | (refine at_op (.load 83 (.tmp 2)) rfl ?_; refine wpList_ldA (t := 83) 83 (.tmp 2) rfl rfl (h4C ts L id st mo fo tt pr sm i6 ih il j6 jh jl A n k) rfl (by with_reducible repeat (first | exact hb | refine Bk.later ?_ (below_plus _ _ _) | refine Bk.alloc ?_ _)) (whole_ _) u1 u2 (szR4 _ _ _ _ _ _ _ _ _ _ _ _ _ _ _ _ _ _) ?_)
      | (go_at_call 50; (with_reducible refine (HR.out _).mono ?_); rintro e w1 ⟨bs1, d1, rfl, rfl⟩))
    go_ret2
    exact RetBE.mk Rb.nil_ (belowP be _ _)
theorem r4_good {n : Nat} {ln fo : Int} {s6 : Bool} {sh sl : Nat} {d6 : Bool} {dh dl : Nat} (h : r4 n ln fo s6 sh sl d6 dh dl = true) : n ≤ 40 ∧ n % 4 = 0 ∧ ln ≤ 65535 ∧ 0 ≤ fo ∧ fo ≤ 8191 ∧ s6 = false ∧ sh = 0 ∧ sl < 4294967296 ∧ d6 = false ∧ dh = 0 ∧ dl < 4294967296 := by
  unfold r4 ad4 at h
  simp only [Bool.and_eq_true, decide_eq_true_eq, Bool.not_eq_true'] at h
  obtain ⟨a, b, c, d, e, f, ⟨g, i, j⟩, p, q, r⟩ := h
  exact ⟨a, b, d, e, f, g, i, j, p, q, r⟩
/-- the reference's Packet of anything -/
theorem refPacket4_any (ts : Nat) (ln : Int) (id : Nat) (st mo : Bool) (fo : Int) (tt pr sm : Nat) (i6 : Bool) (ih il : Nat) (j6 : Bool) (jh jl : Nat) (A : Option Addr) (n k : Nat) (o load : List UInt8) (m : Nat) (ho : o.length = n) (hl : load.length = m) (hm : m ≤ 2000) (b1 : ts < 256) (b2 : id < 65536) (b3 : tt < 256) (b4 : pr < 256) (hf : -9223372036854775808 ≤ fo ∧ fo ≤ 9223372036854775807) (k1 : ih < 18446744073709551616) (k2 : il < 18446744073709551616) (k3 : jh < 18446744073709551616) (k4 : jl < 18446744073709551616) :
    ∃ (E : Int) (L : List UInt8), (∀ A2 c2 w, Rb w A n k o → Rb w A2 m c2 load → Calls Try.prog 54 #[.agg (h4C ts ln id st mo fo tt pr sm i6 ih il j6 jh jl A n k).toArray, .slice A2 m c2] w (RetBE w L E)) ∧ (E = 0 → Pkt L false ∧ L.length ≤ 2060) := by
  by_cases hbig : 40 < n
  · obtain ⟨E, hE, H⟩ := refPacket4_big ts ln id st mo fo tt pr sm i6 ih il j6 jh jl A n k m hbig
    exact ⟨E, [], fun A2 c2 w _ _ => H A2 c2 w, fun h => absurd h hE⟩
  cases hr : r4 n ((20 + n + m : Nat) : Int) fo i6 ih il j6 jh jl
  · exact ⟨1, [], fun A2 c2 w _ _ => refPacket4_arg ts ln id st mo fo tt pr sm i6 ih il j6 jh jl A n k A2 m c2 w (by omega) hf k1 k2 k3 k4 (by omega) hr, fun h => by cases h⟩
  · obtain ⟨q1, q2, q4, q5, q6, rfl, rfl, q7, rfl, rfl, q8⟩ := r4_good hr
    obtain ⟨fo, rfl⟩ := Int.eq_ofNat_of_zero_le q5
    refine ⟨0, _, fun A2 c2 w h h2 => refPacket4_ok ts ln id st mo fo tt pr sm il jl A n k o A2 m c2 load w h h2 b1 b2 b3 b4 q7 q8 q1 q2 (by omega) (by omega), fun _ => ⟨pkt4 ts (20 + n + m) id st mo fo tt pr il jl o load b1 b2 b3 b4 q7 q8 (by omega) (by omega) (by omega) (by omega) (by omega), ?_⟩⟩
    rw [List.length_append, ip4B_length]
    omega
end Go.Proofs.Ytldecdeiibfekaa
