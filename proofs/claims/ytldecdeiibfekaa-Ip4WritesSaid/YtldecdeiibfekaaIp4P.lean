/- sum.Update; ip4.Older of a written packet. -/
import Derived.Test.YtldecdeiibfekaaIp4N
namespace Go.Proofs.Ytldecdeiibfekaa
open Go.RowKit
set_option linter.unusedVariables false
set_option linter.unusedSimpArgs false
attribute [local go_sem ↓] sliced_cut
attribute [local go_sem] cutA_zero

set_option maxRecDepth 100000 in
theorem sumUpdate (s a b : Nat) (w : World) (hs : s < 65536) (ha : a < 65536) (hb : b < 65536) : Calls Try.prog 130 #[.int .u16 (s : Int), .int .u16 (a : Int), .int .u16 (b : Int)] w fun e w' => e = .returned (.int .u16 ((65535 - fd ((65535 - s) + (65535 - a) + b) : Nat) : Int)) ∧ w = w' := by
  have f1 := not16 s (by omega)
  have f2 := not16 a (by omega)
  obtain ⟨s', hs'⟩ : ∃ x : Nat, x = 65535 - s := ⟨_, rfl⟩
  obtain ⟨a', ha'⟩ : ∃ x : Nat, x = 65535 - a := ⟨_, rfl⟩
  rw [← hs'] at f1
  rw [← ha'] at f2
  rw [← hs', ← ha']
  have g1 : IntKind.u64.wrap (s' : Int) = (s' : Int) := IntWalk.u64_in _ (by omega)
  have g2 : IntKind.u64.wrap (a' : Int) = (a' : Int) := IntWalk.u64_in _ (by omega)
  have g3 : IntKind.u64.wrap (b : Int) = (b : Int) := IntWalk.u64_in _ (by omega)
  obtain ⟨p, hp⟩ : ∃ x : Nat, x = s' + a' := ⟨_, rfl⟩
  have g4 : IntKind.u64.wrap ((s' : Int) + (a' : Int)) = (p : Int) := by rw [IntWalk.u64_in _ (by omega)]; omega
  obtain ⟨q, hq⟩ : ∃ x : Nat, x = p + b := ⟨_, rfl⟩
  have g5 : IntKind.u64.wrap ((p : Int) + (b : Int)) = (q : Int) := by rw [IntWalk.u64_in _ (by omega)]; omega
  rw [← hp, ← hq]
  have hq2 : q < 18446744073709551616 := by omega
  have hf := fd_le q
  have f3 := not16 (fd q) hf
  have HF := Lib.hid (fun w => fold_sum q w hq2)
  generalize fd q = z at *
  clear hs' ha' hp hq
  go_enter Try.func130, Try.ntmps130
  go_wp2_with fail
  refine (HF.out _).mono ?_
  rintro e w1 ⟨rfl, rfl⟩
  go_wp2
  go_ret
  exact ⟨rfl, rfl⟩
theorem splice_at (cs : List Value) (x : Value) (ys : List Value) (h : 12 ≤ cs.length) : (splice (splice cs 8 [x]) 10 ys)[8]? = some x := by
  have h8 : (cs.take 8).length = 8 := by rw [List.length_take]; omega
  simp [splice, List.getElem?_append, List.getElem?_take, h8]
  omega
def RetO4 (w : World) (n x : Nat) (e : Ending) (w' : World) : Prop := ∃ g c, e = .returned (.tuple #[.slice (some ⟨g, 0, none⟩) n c, .int .i64 0]) ∧ Below w.heap.size w w' ∧ w'.cell? ⟨g, 8, none⟩ = some (.int .u8 (x : Int)) ∧ 21 ≤ n ∧ n ≤ c
set_option maxHeartbeats 4000000 in
set_option maxRecDepth 100000 in
theorem older4 (ts ln id : Nat) (st mo : Bool) (fo tl pr sl dl : Nat) (A : Option Addr) (n c : Nat) (o load : List UInt8) (w : World) (h : Rb w A n c (ip4B ts ln id (pl4 st mo fo) tl pr (ip4K ts ln id (pl4 st mo fo) tl pr sl dl o) sl dl o ++ load)) (b1 : ts < 256) (b2 : id < 65536) (b3 : tl < 256) (b4 : pr < 256) (b5 : sl < 4294967296) (b6 : dl < 4294967296) (c1 : o.length ≤ 40) (c2 : o.length % 4 = 0) (c3 : ln = 20 + o.length + load.length) (c4 : ln ≤ 65535) (c5 : fo ≤ 8191) (ht : 2 ≤ tl) (h21 : 21 ≤ n) : Calls Try.prog 118 #[.slice A n c] w (RetO4 w n (tl - 1)) := by
  obtain ⟨du, u1, u2⟩ := rowH4
  have HH := Lib.hid (fun w (h : Rb w A n c (ip4B ts ln id (pl4 st mo fo) tl pr (ip4K ts ln id (pl4 st mo fo) tl pr sl dl o) sl dl o ++ load)) => hdr4_w ts ln id st mo fo tl pr sl dl A n c o load w h b1 b2 b3 b4 b5 b6 c1 c2 c3 c4 c5)
  have hn : n = 20 + o.length + load.length := by rw [← h.1, List.length_append, ip4B_length]
  have hk : ip4K ts ln id (pl4 st mo fo) tl pr sl dl o < 65536 := by unfold ip4K; omega
  generalize ip4B ts ln id (pl4 st mo fo) tl pr (ip4K ts ln id (pl4 st mo fo) tl pr sl dl o) sl dl o ++ load = L at *
  generalize (ip4K ts ln id (pl4 st mo fo) tl pr sl dl o) = kk at *
  have HC := Lib.hid (fun w (h : Rb w A n c L) => clone_any A n c L w h (by omega))
  have a1 : decide ((tl : Int) ≤ 1) = false := by simp only [decide_eq_false_iff_not]; omega
  have a2 : decide (tl ≤ 1) = false := by simp only [decide_eq_false_iff_not]; omega
  obtain ⟨s8, h8⟩ : ∃ x : Nat, x = tl * 256 := ⟨_, rfl⟩
  have a3 : IntKind.u16.wrap ((tl : Int) * 256) = (s8 : Int) := by rw [IntWalk.u16_in _ (by omega)]; omega
  have a4 : IntKind.u16.wrap (tl : Int) = (tl : Int) := IntWalk.u16_in _ (by omega)
  have a5 : IntKind.u16.wrap (pr : Int) = (pr : Int) := IntWalk.u16_in _ (by omega)
  obtain ⟨v, hv⟩ : ∃ x : Nat, x = s8 + pr := ⟨_, rfl⟩
  have a6 : bits .or .u16 (s8 : Int) (pr : Int) = (v : Int) := by rw [u16_or_nat _ _ (by omega) (by omega), nat_join 8 s8 pr (by omega) (by omega), hv]
  obtain ⟨v2, hv2⟩ : ∃ x : Nat, x = v - 256 := ⟨_, rfl⟩
  have a7 : IntKind.u16.wrap ((v : Int) - 256) = (v2 : Int) := by rw [IntWalk.u16_in _ (by omega)]; omega
  obtain ⟨t1, ht1⟩ : ∃ x : Nat, x = tl - 1 := ⟨_, rfl⟩
  have a8 : IntKind.u8.wrap ((tl : Int) - 1) = (t1 : Int) := by rw [IntWalk.u8_in _ (by omega)]; omega
  have a9 : IntKind.u64.wrap (t1 : Int) = (t1 : Int) := IntWalk.u64_in _ (by omega)
  have hvl : v < 65536 := by omega
  have hv2l : v2 < 65536 := by omega
  have ht1l : t1 < 256 := by omega
  have HU0 := fun w => sumUpdate kk v v2 w (by omega) hvl hv2l
  obtain ⟨u, hu⟩ : ∃ x : Nat, x = 65535 - fd ((65535 - kk) + (65535 - v) + v2) := ⟨_, rfl⟩
  rw [← hu] at HU0
  have HU := Lib.hid HU0
  have hul : u < 65536 := by omega
  have aa : IntKind.u64.wrap (u : Int) = (u : Int) := IntWalk.u64_in _ (by omega)
  have hb81 : (8 : Int) ≤ (n : Int) := by omega
  have hb10 : (10 : Int) ≤ (n : Int) := by omega
  rw [← ht1]
  have hnn : n ≤ 65535 := by omega
  clear h8 hv hv2 ht1 hu HU0 hn c3
  have be : Below w.heap.size w w := Below.refl _ _
  go_enter Try.func118, Try.ntmps118
  go_wp2_with fail
  refine (HH.out _ h).mono ?_
  rintro e w1 ⟨Ao, no, ko, bs1, d1, rfl, rfl, hoo⟩
  go_upto_region 2 with (refine at_op (.store 77 (.tmp 4) (.tmp 12)) rfl ?_; refine wpList_stA (t := 77) 77 (.tmp 4) (.tmp 12) rfl rfl (h4C ts (ln : Int) id st mo (fo : Int) tl pr kk false 0 sl false 0 dl Ao no ko) (h4C 0 0 0 false false 0 0 0 0 false 0 0 false 0 0 none 0 0) rfl (h4C_one _ _ _ _ _ _ _ _ _ _ _ _ _ _ _ _ _ _) rfl rfl ?_ (szH4 _ _ _ _ _ _ _ _ _ _ _ _ _ _ _ _ _ _) ?_; (· refine Bk.newK _ _ _ ?_ rfl; simp [size_plus]); intro W b4' hgr)
  replace be := below_grown (Below.allocS (belowP be bs1 d1) _) hgr (by omega)
  replace h := h.later be
  have b4 := b4'
  clear b4' hgr hoo
  have hg4 : w.heap.size ≤ w.heap.size + bs1.length := by omega
  generalize w.heap.size + bs1.length = g4 at *
  have y6 : W.cell? ⟨g4, 6, none⟩ = some (.int .u8 (tl : Int)) := b4.cell 6
  have y7 : W.cell? ⟨g4, 7, none⟩ = some (.int .u8 (pr : Int)) := b4.cell 7
  have z4 := b4.lt
  go_wp2_with fail
  refine (HC.out _ h).mono ?_
  rintro e w1 ⟨A2, n2, c2, bs2, d2, rfl, rfl, ho2⟩
  obtain rfl : n = n2 := by rw [← ho2.1, h.1]
  clear y6 y7 z4
  go_upto_region 8 with (fail)
  obtain ⟨g, cur, rfl, hgW, hh, hnc, hcs⟩ : ∃ g cur, A2 = some ⟨g, 0, none⟩ ∧ W.heap.size ≤ g ∧ (plus W bs2 d2).heap[g]? = some (.cells cur 5 (0, 0)) ∧ n ≤ c2 ∧ cur.size = c2 := by
    rcases ho2.2.2 with ⟨_, h0⟩ | ⟨g, cap, cur, hv, hg, hh, h1, h2, h3, _⟩
    · omega
    · injection hv with e1 e2 e3
      subst e1 e3
      exact ⟨g, cur, rfl, hg, hh, h1, by omega⟩
  have hB : Bk (plus W bs2 d2) g 5 cur.toList := by unfold Bk; simpa using hh
  have hcl : cur.toList.length = c2 := by simpa using hcs
  have zb := be.size
  have hgw : w.heap.size ≤ g := by omega
  have zg4 : g4 < g := by have := b4.lt; omega
  replace b4 := b4.later (below_plus _ bs2 d2)
  replace be := belowP be bs2 d2
  generalize cur.toList = cs at *
  clear hh ho2 zb h hcs hgW
  generalize plus W bs2 d2 = V at *
  have hc12 : 12 ≤ cs.length := by omega
  have hn8 : 8 ≤ n := by omega
  have hn10 : 10 ≤ n := by omega
  have hcc : (n : Int) ≤ (c2 : Int) := by omega
  go_wp2
  refine wp_rel 7 51 rfl (by kernel_rfl) (by kernel_rfl) (fun i => match i with | 0 => MP.eq (.slice (some ⟨g, 0, none⟩) n c2) | 1 => MP.eq (.slice (cutA (some ⟨g, 0, none⟩) c2 8 1) (n - 8) (c2 - 8)) | 2 => MP.eq (.pointer (some ⟨g4, 6, none⟩)) | 3 => MP.eq (.int .u8 (tl : Int)) | 4 => MP.eq (.int .u8 (t1 : Int)) | 5 => MP.eq (.int .u64 (t1 : Int)) | 6 => MP.rb (dig t1 1) | _ => MP.any) ?_ ?_
  · intro i hi o ho FA x hO hD K hK
    match i, hi, ho, hO, hD, hK with
    | 0, _, ho, hO, hD, hK => 
      obtain rfl := Option.some.inj ho.symm
      clear ho
      have ev8 : FA.eval (.tmp 8) = .slice (some ⟨g, 0, none⟩) n c2 := hO 8 (by kernel_rfl)
      have e8 : FA.tmps[8]?.getD undef = .slice (some ⟨g, 0, none⟩) n c2 := by simpa [Act.eval] using ev8
      replace ev8 := Lib.hid ev8
      clear hO hD
      go_simp
      exact hK.out _ _ (Ex.refl _) rfl
    | 1, _, ho, hO, hD, hK => 
      obtain rfl := Option.some.inj ho.symm
      clear ho
      have ev31 : FA.eval (.tmp 31) = .slice (some ⟨g, 0, none⟩) n c2 := hD 0 31 (by kernel_rfl)
      have e31 : FA.tmps[31]?.getD undef = .slice (some ⟨g, 0, none⟩) n c2 := by simpa [Act.eval] using ev31
      replace ev31 := Lib.hid ev31
      clear hO hD
      go_simp
      exact hK.out _ _ (Ex.refl _) rfl
    | 2, _, ho, hO, hD, hK => 
      obtain rfl := Option.some.inj ho.symm
      clear ho
      have ev4 : FA.eval (.tmp 4) = .pointer (some ⟨g4, 0, none⟩) := hO 4 (by kernel_rfl)
      have e4 : FA.tmps[4]?.getD undef = .pointer (some ⟨g4, 0, none⟩) := by simpa [Act.eval] using ev4
      replace ev4 := Lib.hid ev4
      clear hO hD
      go_simp
      exact hK.out _ _ (Ex.refl _) rfl
    | 3, _, ho, hO, hD, hK => 
      obtain rfl := Option.some.inj ho.symm
      clear ho
      have ev33 : FA.eval (.tmp 33) = .pointer (some ⟨g4, 6, none⟩) := hD 2 33 (by kernel_rfl)
      have e33 : FA.tmps[33]?.getD undef = .pointer (some ⟨g4, 6, none⟩) := by simpa [Act.eval] using ev33
      replace ev33 := Lib.hid ev33
      clear hO hD
      have cc : (plus V x.bs x.d).cell? ⟨g4, 6, none⟩ = some (.int .u8 (tl : Int)) := (b4.later (below_plus _ _ _)).cell 6
      go_simp
      exact hK.out _ _ (Ex.refl _) rfl
    | 4, _, ho, hO, hD, hK => 
      obtain rfl := Option.some.inj ho.symm
      clear ho
      have ev34 : FA.eval (.tmp 34) = .int .u8 (tl : Int) := hD 3 34 (by kernel_rfl)
      have e34 : FA.tmps[34]?.getD undef = .int .u8 (tl : Int) := by simpa [Act.eval] using ev34
      replace ev34 := Lib.hid ev34
      clear hO hD
      go_simp
      exact hK.out _ _ (Ex.refl _) rfl
    | 5, _, ho, hO, hD, hK => 
      obtain rfl := Option.some.inj ho.symm
      clear ho
      have ev35 : FA.eval (.tmp 35) = .int .u8 (t1 : Int) := hD 4 35 (by kernel_rfl)
      have e35 : FA.tmps[35]?.getD undef = .int .u8 (t1 : Int) := by simpa [Act.eval] using ev35
      replace ev35 := Lib.hid ev35
      clear hO hD
      go_simp
      exact hK.out _ _ (Ex.refl _) rfl
    | 6, _, ho, hO, hD, hK => 
      obtain rfl := Option.some.inj ho.symm
      clear ho
      have ev36 : FA.eval (.tmp 36) = .int .u64 (t1 : Int) := hD 5 36 (by kernel_rfl)
      have e36 : FA.tmps[36]?.getD undef = .int .u64 (t1 : Int) := by simpa [Act.eval] using ev36
      replace ev36 := Lib.hid ev36
      clear hO hD
      go_simp
      refine (put_any none 0 0 [] t1 1 _ Rb.nil_ (by omega) (by omega) (by decide) (by decide)).mono ?_
      rintro e w3 ⟨A3, n3, c3, bs3, d3, rfl, rfl, ho3⟩
      exact hK.out _ _ (Ex.plus_ _ _ _) ⟨_, _, _, rfl, ho3.rb⟩
    | (k + 7), hi, _, _, _, _ => exact absurd hi (by omega)
  intro vs x hp
  have p0 : vs 0 = .slice (some ⟨g, 0, none⟩) n c2 := hp 0 (by omega)
  have p1 : vs 1 = .slice (cutA (some ⟨g, 0, none⟩) c2 8 1) (n - 8) (c2 - 8) := hp 1 (by omega)
  have p2 : vs 2 = .pointer (some ⟨g4, 6, none⟩) := hp 2 (by omega)
  have p3 : vs 3 = .int .u8 (tl : Int) := hp 3 (by omega)
  have p4 : vs 4 = .int .u8 (t1 : Int) := hp 4 (by omega)
  have p5 : vs 5 = .int .u64 (t1 : Int) := hp 5 (by omega)
  have p6 := hp 6 (by omega)
  clear hp
  simp only [List.take_succ_cons, List.take_zero, List.drop_succ_cons, List.drop_zero, putAll, Nat.zero_add, Nat.reduceAdd, Act.put, List.setIfInBounds_toArray, List.set_cons_zero, List.set_cons_succ, p0, p1, p2, p3, p4, p5]
  clear p0 p1 p2 p3 p4 p5
  generalize vs 6 = y6 at *
  clear vs
  obtain ⟨A3, n3, c3, rfl, h3⟩ := p6
  obtain rfl : n3 = 1 := by rw [← h3.1, dig_length]
  replace hB := hB.later (below_plus _ x.bs x.d)
  replace b4 := b4.later (below_plus _ x.bs x.d)
  replace be := belowP be x.bs x.d
  generalize plus V x.bs x.d = V1 at *
  go_upto_region 9 with (refine at_op (.call { callee := .builtin .copy, args := #[.tmp 32, .tmp 37], argTypes := #[24, 24] }) rfl ?_; refine wpList_cpy 38 rfl bt rfl (.tmp 32) (.tmp 37) rfl rfl rfl g 8 _ hB (.inr (by rw [cutA_some _ _ _ _ (by omega)])) (dig t1 1) h3 (by omega) (by omega) g V1 (Below.refl _ _) (Nat.le_refl _) ?_; intro W4 hB4 hbe)
  replace b4 := b4.below hbe zg4
  replace be := be.trans (hbe.mono hgw)
  have hc13 : 12 ≤ (splice cs 8 (bcs (dig t1 1))).length := by rw [length_splice _ _ _ (by simp [bcs_length, dig_length]; omega)]; exact hc12
  clear hB hbe h3
  have y8 := splice_at cs (.int .u8 (t1 : Int))
  have hd1 : bcs (dig t1 1) = [.int .u8 (t1 : Int)] := by rw [dig1 t1 ht1l]; simp [bcs]; omega
  rw [hd1] at hB4 hc13
  generalize hcs2 : splice cs 8 [.int .u8 (t1 : Int)] = cs2 at *
  replace hcs2 := Lib.hid hcs2
  generalize W4 = V2 at *
  go_wp2
  refine wp_rel 10 51 rfl (by kernel_rfl) (by kernel_rfl) (fun i => match i with | 0 => MP.eq (.slice (some ⟨g, 0, none⟩) n c2) | 1 => MP.eq (.slice (cutA (some ⟨g, 0, none⟩) c2 10 1) (n - 10) (c2 - 10)) | 2 => MP.eq (.pointer (some ⟨g4, 8, none⟩)) | 3 => MP.eq (.int .u16 (kk : Int)) | 4 => MP.eq (.int .u16 (v : Int)) | 5 => MP.eq (.int .u16 (v : Int)) | 6 => MP.eq (.int .u16 (v2 : Int)) | 7 => MP.eq (.int .u16 (u : Int)) | 8 => MP.eq (.int .u64 (u : Int)) | 9 => MP.rb (dig u 2) | _ => MP.any) ?_ ?_
  · intro i hi o ho FA x hO hD K hK
    match i, hi, ho, hO, hD, hK with
    | 0, _, ho, hO, hD, hK => 
      obtain rfl := Option.some.inj ho.symm
      clear ho
      have ev8 : FA.eval (.tmp 8) = .slice (some ⟨g, 0, none⟩) n c2 := hO 8 (by kernel_rfl)
      have e8 : FA.tmps[8]?.getD undef = .slice (some ⟨g, 0, none⟩) n c2 := by simpa [Act.eval] using ev8
      replace ev8 := Lib.hid ev8
      clear hO hD
      go_simp
      exact hK.out _ _ (Ex.refl _) rfl
    | 1, _, ho, hO, hD, hK => 
      obtain rfl := Option.some.inj ho.symm
      clear ho
      have ev39 : FA.eval (.tmp 39) = .slice (some ⟨g, 0, none⟩) n c2 := hD 0 39 (by kernel_rfl)
      have e39 : FA.tmps[39]?.getD undef = .slice (some ⟨g, 0, none⟩) n c2 := by simpa [Act.eval] using ev39
      replace ev39 := Lib.hid ev39
      clear hO hD
      go_simp
      exact hK.out _ _ (Ex.refl _) rfl
    | 2, _, ho, hO, hD, hK => 
      obtain rfl := Option.some.inj ho.symm
      clear ho
      have ev4 : FA.eval (.tmp 4) = .pointer (some ⟨g4, 0, none⟩) := hO 4 (by kernel_rfl)
      have e4 : FA.tmps[4]?.getD undef = .pointer (some ⟨g4, 0, none⟩) := by simpa [Act.eval] using ev4
      replace ev4 := Lib.hid ev4
      clear hO hD
      go_simp
      exact hK.out _ _ (Ex.refl _) rfl
    | 3, _, ho, hO, hD, hK => 
      obtain rfl := Option.some.inj ho.symm
      clear ho
      have ev41 : FA.eval (.tmp 41) = .pointer (some ⟨g4, 8, none⟩) := hD 2 41 (by kernel_rfl)
      have e41 : FA.tmps[41]?.getD undef = .pointer (some ⟨g4, 8, none⟩) := by simpa [Act.eval] using ev41
      replace ev41 := Lib.hid ev41
      clear hO hD
      have cc : (plus V2 x.bs x.d).cell? ⟨g4, 8, none⟩ = some (.int .u16 (kk : Int)) := (b4.later (below_plus _ _ _)).cell 8
      go_simp
      exact hK.out _ _ (Ex.refl _) rfl
    | 4, _, ho, hO, hD, hK => 
      obtain rfl := Option.some.inj ho.symm
      clear ho
      have ev7 : FA.eval (.tmp 7) = .int .u16 (v : Int) := hO 7 (by kernel_rfl)
      have e7 : FA.tmps[7]?.getD undef = .int .u16 (v : Int) := by simpa [Act.eval] using ev7
      replace ev7 := Lib.hid ev7
      clear hO hD
      go_simp
      exact hK.out _ _ (Ex.refl _) rfl
    | 5, _, ho, hO, hD, hK => 
      obtain rfl := Option.some.inj ho.symm
      clear ho
      have ev7 : FA.eval (.tmp 7) = .int .u16 (v : Int) := hO 7 (by kernel_rfl)
      have e7 : FA.tmps[7]?.getD undef = .int .u16 (v : Int) := by simpa [Act.eval] using ev7
      replace ev7 := Lib.hid ev7
      clear hO hD
      go_simp
      exact hK.out _ _ (Ex.refl _) rfl
    | 6, _, ho, hO, hD, hK => 
      obtain rfl := Option.some.inj ho.symm
      clear ho
      have ev44 : FA.eval (.tmp 44) = .int .u16 (v : Int) := hD 5 44 (by kernel_rfl)
      have e44 : FA.tmps[44]?.getD undef = .int .u16 (v : Int) := by simpa [Act.eval] using ev44
      replace ev44 := Lib.hid ev44
      clear hO hD
      go_simp
      exact hK.out _ _ (Ex.refl _) rfl
    | 7, _, ho, hO, hD, hK => 
      obtain rfl := Option.some.inj ho.symm
      clear ho
      have ev42 : FA.eval (.tmp 42) = .int .u16 (kk : Int) := hD 3 42 (by kernel_rfl)
      have e42 : FA.tmps[42]?.getD undef = .int .u16 (kk : Int) := by simpa [Act.eval] using ev42
      replace ev42 := Lib.hid ev42
      have ev43 : FA.eval (.tmp 43) = .int .u16 (v : Int) := hD 4 43 (by kernel_rfl)
      have e43 : FA.tmps[43]?.getD undef = .int .u16 (v : Int) := by simpa [Act.eval] using ev43
      replace ev43 := Lib.hid ev43
      have ev45 : FA.eval (.tmp 45) = .int .u16 (v2 : Int) := hD 6 45 (by kernel_rfl)
      have e45 : FA.tmps[45]?.getD undef = .int .u16 (v2 : Int) := by simpa [Act.eval] using ev45
      replace ev45 := Lib.hid ev45
      clear hO hD
      go_simp
      refine (HU.out _).mono ?_
      rintro e w1 ⟨rfl, rfl⟩
      exact hK.out _ _ (Ex.refl _) rfl
    | 8, _, ho, hO, hD, hK => 
      obtain rfl := Option.some.inj ho.symm
      clear ho
      have ev46 : FA.eval (.tmp 46) = .int .u16 (u : Int) := hD 7 46 (by kernel_rfl)
      have e46 : FA.tmps[46]?.getD undef = .int .u16 (u : Int) := by simpa [Act.eval] using ev46
      replace ev46 := Lib.hid ev46
      clear hO hD
      go_simp
      exact hK.out _ _ (Ex.refl _) rfl
    | 9, _, ho, hO, hD, hK => 
      obtain rfl := Option.some.inj ho.symm
      clear ho
      have ev47 : FA.eval (.tmp 47) = .int .u64 (u : Int) := hD 8 47 (by kernel_rfl)
      have e47 : FA.tmps[47]?.getD undef = .int .u64 (u : Int) := by simpa [Act.eval] using ev47
      replace ev47 := Lib.hid ev47
      clear hO hD
      go_simp
      refine (put_any none 0 0 [] u 2 _ Rb.nil_ (by omega) (by omega) (by decide) (by decide)).mono ?_
      rintro e w3 ⟨A3, n3, c3, bs3, d3, rfl, rfl, ho3⟩
      exact hK.out _ _ (Ex.plus_ _ _ _) ⟨_, _, _, rfl, ho3.rb⟩
    | (k + 10), hi, _, _, _, _ => exact absurd hi (by omega)
  intro vs x hp
  have p0 : vs 0 = .slice (some ⟨g, 0, none⟩) n c2 := hp 0 (by omega)
  have p1 : vs 1 = .slice (cutA (some ⟨g, 0, none⟩) c2 10 1) (n - 10) (c2 - 10) := hp 1 (by omega)
  have p2 : vs 2 = .pointer (some ⟨g4, 8, none⟩) := hp 2 (by omega)
  have p3 : vs 3 = .int .u16 (kk : Int) := hp 3 (by omega)
  have p4 : vs 4 = .int .u16 (v : Int) := hp 4 (by omega)
  have p5 : vs 5 = .int .u16 (v : Int) := hp 5 (by omega)
  have p6 : vs 6 = .int .u16 (v2 : Int) := hp 6 (by omega)
  have p7 : vs 7 = .int .u16 (u : Int) := hp 7 (by omega)
  have p8 : vs 8 = .int .u64 (u : Int) := hp 8 (by omega)
  have p9 := hp 9 (by omega)
  clear hp
  simp only [List.take_succ_cons, List.take_zero, List.drop_succ_cons, List.drop_zero, putAll, Nat.zero_add, Nat.reduceAdd, Act.put, List.setIfInBounds_toArray, List.set_cons_zero, List.set_cons_succ, p0, p1, p2, p3, p4, p5, p6, p7, p8]
  clear p0 p1 p2 p3 p4 p5 p6 p7 p8
  generalize vs 9 = y9 at *
  clear vs
  obtain ⟨A5, n5, c5', rfl, h5⟩ := p9
  obtain rfl : n5 = 2 := by rw [← h5.1, dig_length]
  replace hB4 := hB4.later (below_plus _ x.bs x.d)
  replace be := belowP be x.bs x.d
  generalize plus V2 x.bs x.d = V3 at *
  go_wp2_with (refine at_op (.call { callee := .builtin .copy, args := #[.tmp 40, .tmp 48], argTypes := #[24, 24] }) rfl ?_; refine wpList_cpy 49 rfl bt rfl (.tmp 40) (.tmp 48) rfl rfl rfl g 10 _ hB4 (.inr (by rw [cutA_some _ _ _ _ (by omega)])) (dig u 2) h5 (by omega) (by omega) g V3 (Below.refl _ _) (Nat.le_refl _) ?_; intro W5 hB5 hbe)
  replace be := be.trans (hbe.mono hgw)
  go_ret2
  refine ⟨g, c2, rfl, be, ?_, h21, hnc⟩
  rw [hB5.cell]
  exact y8 _ hc12
end Go.Proofs.Ytldecdeiibfekaa
