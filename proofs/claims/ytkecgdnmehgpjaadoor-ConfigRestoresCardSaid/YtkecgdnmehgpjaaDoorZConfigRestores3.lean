/- Texts of the law ConfigRestores, part 3. -/
import Derived.Test.YtkecgdnmehgpjaaDoorZConfigRestores2
set_option linter.unusedVariables false
set_option linter.unusedSimpArgs false
namespace Go.Proofs.YtkecgdnmehgpjaaDoor
section
open Go.RowKit
attribute [local go_sem ↓] sliced_cut
attribute [local go_sem] cutA_zero
def ringC (key : List UInt8) (n : Nat) : List Value := bcs key ++ [.int .u64 (n : Int)]
theorem ringC_length (key : List UInt8) (hk : K16 key) (n : Nat) : (ringC key n).length = 17 := by
 simp [ringC, bcs_length, show key.length = 16 from hk]
theorem ringC_16 (key : List UInt8) (hk : K16 key) (n : Nat) : (ringC key n)[16]? = some (.int .u64 (n : Int)) := by
 unfold ringC
 rw [List.getElem?_append_right (by rw [bcs_length, show key.length = 16 from hk]; omega), bcs_length, show key.length = 16 from hk]
 rfl
theorem ringC_one (key : List UInt8) (n : Nat) : ∀ u ∈ ringC key n, u.oneCell' = true := by
 intro u hu
 rcases List.mem_append.1 hu with h | h
 ·exact bcs_one key u h
 ·simp at h; subst h; rfl
set_option maxRecDepth 100000 in
theorem run_buildRing (key : List UInt8) (hk : K16 key) (n : Nat) (w : World) : (Instr.build 79 #[(0, .agg (bcs key).toArray), (1, .int .u64 (n : Int))]).run Tryd.prog w = .ok (.agg (ringC key n).toArray) w := by
 obtain ⟨k0, k1, k2, k3, k4, k5, k6, k7, k8, k9, k10, k11, k12, k13, k14, k15, rfl⟩ := list16 hk
 kernel_rfl
theorem rowRing : ∃ d, Tryd.prog.underlying 79 = some d ∧ d.isRow = true ∧ (Tryd.prog.info? 79).map (·.size) = some 17 := ⟨_, Tryd.underlying79, rfl, by kernel_rfl⟩
def ring0 : List Value := [.int .u8 0, .int .u8 0, .int .u8 0, .int .u8 0, .int .u8 0, .int .u8 0, .int .u8 0, .int .u8 0, .int .u8 0, .int .u8 0, .int .u8 0, .int .u8 0, .int .u8 0, .int .u8 0, .int .u8 0, .int .u8 0, .int .u64 0]
set_option maxHeartbeats 1000000 in
set_option maxRecDepth 100000 in
theorem ringNew_any (key : List UInt8) (hk : K16 key) (n : Nat) (w : World) : Calls Tryd.prog 25 #[.agg (bcs key).toArray, .int .u64 n] w (RetV w (.agg (ringC key n).toArray)) := by
 obtain ⟨dk, u1, u2, u3⟩ := rowKey
 obtain ⟨dr, v1, v2, v3⟩ := rowRing
 have hl := ringC_length key hk n
 have hb0 := (Bk.new w 77 (bcs key).toArray).alloc (.cells #[.int .u8 0, .int .u8 0, .int .u8 0, .int .u8 0, .int .u8 0, .int .u8 0, .int .u8 0, .int .u8 0, .int .u8 0, .int .u8 0, .int .u8 0, .int .u8 0, .int .u8 0, .int .u8 0, .int .u8 0, .int .u8 0, .int .u64 0] 79)
 have hb1 := Bk.new (w.alloc (.cells (bcs key).toArray 77)) 79 #[.int .u8 0, .int .u8 0, .int .u8 0, .int .u8 0, .int .u8 0, .int .u8 0, .int .u8 0, .int .u8 0, .int .u8 0, .int .u8 0, .int .u8 0, .int .u8 0, .int .u8 0, .int .u8 0, .int .u8 0, .int .u8 0, .int .u64 0]
 rw [World.size_alloc] at hb1
 go_enter Tryd.func25, Tryd.ntmps25
 go_wp2_with (first
  | (refine at_op (.load 77 (.tmp 2)) rfl ?_; refine wpList_ldA 77 (.tmp 2) rfl rfl (bcs key) rfl hb0 (by rw [List.drop_zero]; exact List.take_of_length_le (Nat.le_refl _)) u1 u2 (by rw [bcs_length, show key.length = 16 from hk]; exact u3) ?_)
  | (refine at_op (.build 79 #[(0, .tmp 5), (1, .tmp 6)]) rfl ?_; refine wpList_build 79 [(0, .tmp 5), (1, .tmp 6)] rfl rfl (.agg (ringC key n).toArray) ?_ ?_; exact run_buildRing key hk n _)
  | (refine at_op (.store 79 (.tmp 4) (.tmp 7)) rfl ?_; refine wpList_stA 79 (.tmp 4) (.tmp 7) rfl rfl (ringC key n) ring0 (by rw [hl]; rfl) (ringC_one key n) rfl rfl hb1 (by rw [hl]; exact v3) ?_; intro w2 hb2 hg2))
 refine bodyPost_agg Tryd.results25 rfl hb2.range v1 v2 (by rw [hl]; exact v3) rfl (RetV.mk ?_)
 exact (((Below.refl _ _).alloc (Nat.le_refl _) _).alloc (by simp) _).trans (below_of_grown hg2 (by simp; omega) (fun k hk => by injection hk with hk; omega))
theorem bcs_whole (key : List UInt8) : ((bcs key).drop 0).take (bcs key).length = bcs key := by rw [List.drop_zero]; exact List.take_of_length_le (Nat.le_refl _)
theorem ringC_key (key : List UInt8) (n : Nat) : ((ringC key n).drop 0).take (bcs key).length = bcs key := by rw [List.drop_zero, ringC]; exact List.take_left
theorem szKey (key : List UInt8) (hk : K16 key) : (Tryd.prog.info? 77).map (·.size) = some (bcs key).length := by rw [bcs_length, show key.length = 16 from hk]; kernel_rfl
theorem szRing (key : List UInt8) (hk : K16 key) (n : Nat) : (Tryd.prog.info? 79).map (·.size) = some (ringC key n).length := by rw [ringC_length key hk n]; kernel_rfl
set_option maxHeartbeats 1000000 in
set_option maxRecDepth 100000 in
theorem ringNext_any (key : List UInt8) (hk : K16 key) (n : Nat) (w : World) (hn : n < 18446744073709551616) : Calls Tryd.prog 33 #[.agg (ringC key n).toArray] w (RetV w (.agg (ringC key ((n + 1) % 18446744073709551616)).toArray)) := by
 have q := ringC_16 key hk n
 obtain ⟨dk, u1, u2, u3⟩ := rowKey
 obtain ⟨dr, v1, v2, v3⟩ := rowRing
 have e : IntKind.u64.wrap ((n : Int) + 1) = (((n + 1) % 18446744073709551616 : Nat) : Int) := by rw [IntKind.wrap_u64]; omega
 generalize (n + 1) % 18446744073709551616 = n2 at *
 have hb0 := (Bk.new w 79 (ringC key n).toArray).alloc (.cells #[.int .u8 0, .int .u8 0, .int .u8 0, .int .u8 0, .int .u8 0, .int .u8 0, .int .u8 0, .int .u8 0, .int .u8 0, .int .u8 0, .int .u8 0, .int .u8 0, .int .u8 0, .int .u8 0, .int .u8 0, .int .u8 0, .int .u64 0] 79)
 have hb1 := Bk.new (w.alloc (.cells (ringC key n).toArray 79)) 79 #[.int .u8 0, .int .u8 0, .int .u8 0, .int .u8 0, .int .u8 0, .int .u8 0, .int .u8 0, .int .u8 0, .int .u8 0, .int .u8 0, .int .u8 0, .int .u8 0, .int .u8 0, .int .u8 0, .int .u8 0, .int .u8 0, .int .u64 0]
 rw [World.size_alloc] at hb1
 go_enter Tryd.func33, Tryd.ntmps33
 go_wp2_with (first
  | (refine at_op (.load 77 (.tmp 3)) rfl ?_; refine wpList_ldA 77 (.tmp 3) rfl rfl (bcs key) rfl hb0 (ringC_key key n) u1 u2 (szKey key hk) ?_)
  | (go_at_call 25; refine (ringNew_any key hk n2 _).mono ?_; rintro e w1 ⟨bs1, d1, rfl, rfl⟩)
  | (refine at_op (.store 79 (.tmp 2) (.tmp 8)) rfl ?_; refine wpList_stA 79 (.tmp 2) (.tmp 8) rfl rfl (ringC key n2) ring0 (by rw [ringC_length key hk]; rfl) (ringC_one key n2) rfl rfl (hb1.later (below_plus _ _ _)) (szRing key hk n2) ?_; intro w2 hb2 hg2))
 refine bodyPost_agg Tryd.results33 rfl hb2.range v1 v2 (szRing key hk n2) rfl (RetV.mk ?_)
 exact (belowP (((Below.refl _ _).alloc (Nat.le_refl _) _).alloc (by simp) _) bs1 d1).trans (below_of_grown hg2 (by simp [size_plus]; omega) (fun k hk => by injection hk with hk; omega))
end

section
open Go.RowKit
theorem Bk.apart {w : World} {a b : Nat} {t u : TypeId} {cs ds : List Value} (h : Bk w a t cs) (k : Bk w b u ds) (hn : t ≠ u) : a ≠ b := by
 rintro rfl
 unfold Bk at h k
 rw [h] at k
 injection k with k
 injection k with _ k _
 exact hn k
theorem Bk.same {w : World} {a : Nat} {t u : TypeId} {cs ds : List Value} (h : Bk w a t cs) (k : Bk w a u ds) : cs = ds := by
 unfold Bk at h k
 rw [h] at k
 injection k with k
 injection k with k _ _
 simpa using k
structure VE where
 A : Option Addr
 n : Nat
 c : Nat
 T : Nat
abbrev Ve := Vp × VE
def veC (x : Ve) : List Value := [.bool x.1.ad.1, .int .u64 (x.1.ad.2.1 : Int), .int .u64 (x.1.ad.2.2 : Int), .int .u16 (x.1.pt : Int), .int .u8 (x.1.pr : Int), .int .i64 x.1.wy, .slice x.2.A x.2.n x.2.c, .pointer (some ⟨x.2.T, 0, none⟩)]
theorem veC_len (x : Ve) : (veC x).length = 8 := rfl
theorem veC_one (x : Ve) : ∀ u ∈ veC x, u.oneCell' = true := by simp [veC, Value.oneCell']
theorem szVe (x : Ve) : (Tryd.prog.info? 53).map (·.size) = some (veC x).length := by kernel_rfl
theorem rowVe : ∃ d, Tryd.prog.underlying 53 = some d ∧ d.isRow = true := ⟨_, Tryd.underlying53, rfl⟩
theorem etVe : ET Tryd.prog 83 53 (.agg #[.bool false, .int .u64 0, .int .u64 0, .int .u16 0, .int .u8 0, .int .i64 0, .slice none 0 0, .pointer none]) 8 72 := ⟨Tryd.underlying83, by kernel_rfl, rfl, by decide, by decide⟩
def z0 : Adr := (false, 0, 0)
def bkC (x : Option Adr) : List Value := [.bool (x.getD z0).1, .int .u64 ((x.getD z0).2.1 : Int), .int .u64 ((x.getD z0).2.2 : Int), .bool x.isSome]
theorem bkC_len (x : Option Adr) : (bkC x).length = 4 := rfl
theorem bkC_one (x : Option Adr) : ∀ u ∈ bkC x, u.oneCell' = true := by simp [bkC, Value.oneCell']
def stC (C : Cf) (A : Option Addr) (n c : Nat) : List Value := .int .u64 (C.num : Int) :: (ringC C.key C.now ++ (C.bk.flatMap bkC ++ [.slice A n c]))
theorem stC_len (C : Cf) (hk : C.key.length = 16) (hb : C.bk.length = 65) (A : Option Addr) (n c : Nat) : (stC C A n c).length = 279 := by
 simp [stC, ringC, bcs_length, hk, flat_len bkC 4 bkC_len, hb]
theorem rowSt : ∃ d, Tryd.prog.underlying 85 = some d ∧ d.isRow = true := ⟨_, Tryd.underlying85, rfl⟩
theorem stC_vips (C : Cf) (hk : C.key.length = 16) (hb : C.bk.length = 65) (A : Option Addr) (n c : Nat) : (stC C A n c)[278]? = some (.slice A n c) := by
 unfold stC
 rw [List.getElem?_cons_succ, List.getElem?_append_right (by simp [ringC, bcs_length, hk]), List.getElem?_append_right (by simp [ringC, bcs_length, hk, flat_len bkC 4 bkC_len, hb])]
 simp [ringC, bcs_length, hk, flat_len bkC 4 bkC_len, hb]
theorem stC_setVips (C : Cf) (hk : C.key.length = 16) (hb : C.bk.length = 65) (A : Option Addr) (n c : Nat) (A' : Option Addr) (n' c' : Nat) (L : List Vp) : (stC C A n c).set 278 (.slice A' n' c') = stC { C with vs := L } A' n' c' := by
 unfold stC
 rw [List.set_cons_succ, List.set_append_right _ _ (by simp [ringC, bcs_length, hk]), List.set_append_right _ _ (by simp [ringC, bcs_length, hk, flat_len bkC 4 bkC_len, hb])]
 simp [ringC, bcs_length, hk, flat_len bkC 4 bkC_len, hb]
theorem stC_ring (C : Cf) (hk : C.key.length = 16) (A : Option Addr) (n c : Nat) : ((stC C A n c).drop 1).take (ringC C.key C.now).length = ringC C.key C.now := by
 unfold stC
 rw [List.drop_succ_cons, List.drop_zero, List.take_left]
theorem stC_setRing (C : Cf) (hk : C.key.length = 16) (A : Option Addr) (n c m : Nat) : splice (stC C A n c) 1 (ringC C.key m) = stC { C with now := m } A n c := by
 unfold stC
 have e := splice_cons (.int .u64 (C.num : Int)) (ringC C.key C.now ++ (C.bk.flatMap bkC ++ [.slice A n c])) (ringC C.key m) 0
 rw [Nat.add_zero] at e
 rw [e]
 congr 1
 have h1 : (ringC C.key C.now).length = (ringC C.key m).length := by simp [ringC]
 unfold splice
 rw [List.take_zero, List.nil_append, Nat.zero_add, ← h1, List.drop_left]
theorem stC_bkAt (C : Cf) (hk : C.key.length = 16) (hb : C.bk.length = 65) (A : Option Addr) (n c : Nat) (i : Nat) (hi : i < 65) (k : Nat) (u : Value) (h : (bkC (C.bk.getD i none))[k]? = some u) : (stC C A n c)[18 + i * 4 + k]? = some u := by
 have hib : i < C.bk.length := by omega
 have e : C.bk.getD i none = C.bk[i] := by simp [List.getD_eq_getElem?_getD, hib]
 rw [e] at h
 have h4 := flat_at bkC 4 bkC_len C.bk i hib k u h
 have hlt := (List.getElem?_eq_some_iff.1 h4).1
 unfold stC
 rw [show 18 + i * 4 + k = (17 + (i * 4 + k)) + 1 by omega, List.getElem?_cons_succ, List.getElem?_append_right (by simp [ringC, bcs_length, hk]),
  show 17 + (i * 4 + k) - (ringC C.key C.now).length = i * 4 + k by simp [ringC, bcs_length, hk], List.getElem?_append_left hlt]
 exact h4
theorem stC_setBk (C : Cf) (hk : C.key.length = 16) (hb : C.bk.length = 65) (A : Option Addr) (n c : Nat) (i : Nat) (hi : i < 65) (x : Option Adr) : splice (stC C A n c) (18 + i * 4) (bkC x) = stC { C with bk := C.bk.set i x } A n c := by
 unfold stC
 rw [show 18 + i * 4 = 1 + (17 + i * 4) by omega, splice_cons]
 congr 1
 have hr : (ringC C.key C.now).length = 17 := by simp [ringC, bcs_length, hk]
 have hf := flat_len bkC 4 bkC_len C.bk
 have e : splice (ringC C.key C.now ++ (C.bk.flatMap bkC ++ [.slice A n c])) (17 + i * 4) (bkC x) = ringC C.key C.now ++ splice (C.bk.flatMap bkC ++ [.slice A n c]) (i * 4) (bkC x) := by
  unfold splice
  rw [← hr, List.take_length_add_append, List.append_assoc]
  congr 3
  rw [Nat.add_assoc, List.drop_length_add_append]
 rw [e, splice_app _ _ _ _ (by rw [bkC_len, hf]; omega), flat_splice bkC 4 bkC_len _ _ (by omega)]
structure CfX (G D : Nat → Prop) (w : World) (g : Nat) (C : Cf) (A : Option Addr) (n c : Nat) (E : List Ve) : Prop where
 vs : E.map (·.1) = C.vs
 st : Bk w g 85 (stC C A n c)
 row : Os 53 8 w 0 A n c (E.flatMap veC)
 dr : ∀ k, (Value.slice A n c).ownBlock = some k → D k
 dg : D g
 tb : ∀ x ∈ E, Bk w x.2.T 102 (stkC x.1.S)
 dt : ∀ x ∈ E, D x.2.T
 mm : ∀ x ∈ E, Rs 2 w x.2.A x.2.n x.2.c (prs .i64 x.1.ms)
 mo : ∀ x ∈ E, Off G w x.2.A
 nd : (E.map (·.2.T)).Nodup
 sub : ∀ b, D b → G b
 lt : ∀ b, G b → b < w.heap.size
def CfM (G D : Nat → Prop) (w : World) (g : Nat) (C : Cf) : Prop := ∃ A n c E, CfX G D w g C A n c E
section
variable {G D : Nat → Prop} {w w' : World} {g : Nat} {C : Cf} {A : Option Addr} {n c : Nat} {E : List Ve}
theorem CfX.len (h : CfX G D w g C A n c E) : E.length = C.vs.length := by rw [← h.vs]; simp
theorem CfX.n_ (h : CfX G D w g C A n c E) : n = C.vs.length := by
 have := h.row.rs.1
 rw [flat_len veC 8 veC_len] at this
 have := h.len
 omega
theorem CfX.later (h : CfX G D w g C A n c E) (hb : Below w.heap.size w w') : CfX G D w' g C A n c E :=
 ⟨h.vs, h.st.later hb, h.row.later hb, h.dr, h.dg, fun x hx => (h.tb x hx).later hb, h.dt, fun x hx => (h.mm x hx).later hb, fun x hx => (h.mo x hx).size hb.size, h.nd, h.sub, fun b hG => Nat.lt_of_lt_of_le (h.lt b hG) hb.size⟩
theorem CfX.chg {D' : Nat → Prop} (h : CfX G D w g C A n c E) (hc : Chg D' w w') (hd : ∀ b, D' b → G b) (hn : ∀ b, D' b → ¬ D b) : CfX G D w' g C A n c E :=
 ⟨h.vs, h.st.chg hc (fun k => hn _ k h.dg), h.row.chg hc (fun k hk hD => hn k hD (h.dr k hk)), h.dr, h.dg, fun x hx => (h.tb x hx).chg hc (fun k => hn _ k (h.dt x hx)), h.dt,
  fun x hx => (h.mm x hx).chg hc (fun a ha hD => (h.mo x hx a ha).2 (hd _ hD)), fun x hx => (h.mo x hx).size hc.size, h.nd, h.sub, fun b hG => Nat.lt_of_lt_of_le (h.lt b hG) hc.size⟩
theorem CfX.more {G' : Nat → Prop} (h : CfX G D w g C A n c E) (h1 : ∀ b, G b → G' b) (h2 : ∀ b, G' b → b < w.heap.size) (h3 : ∀ x ∈ E, Off G' w x.2.A) : CfX G' D w g C A n c E :=
 ⟨h.vs, h.st, h.row, h.dr, h.dg, h.tb, h.dt, h.mm, h3, h.nd, fun b hb => h1 b (h.sub b hb), h2⟩
theorem CfX.ne_st (h : CfX G D w g C A n c E) {x : Ve} (hx : x ∈ E) : x.2.T ≠ g := (h.tb x hx).apart h.st (by decide)
theorem Os.bk {e : TypeId} {s : Nat} {w : World} {base : Nat} {A : Option Addr} {n c : Nat} {cs : List Value} (h : Os e s w base A n c cs) (hn : 0 < n) : ∃ b cur, A = some ⟨b, 0, none⟩ ∧ (Value.slice A n c).ownBlock = some b ∧ Bk w b e cur ∧ cur.length = c * s ∧ cur.take (n * s) = cs ∧ n ≤ c ∧ c ≤ maxLen := by
 rcases h.2 with ⟨hv, h0⟩ | ⟨b, cap, cur, hv, _, hr, hnc, hm, hs, ht⟩
 ·omega
 ·injection hv with h1 h2 h3
  subst h1 h3
  exact ⟨b, cur.toList, rfl, rfl, hr, by simpa using hs, ht, hnc, hm⟩
theorem Os.of_bk {e : TypeId} {s : Nat} {w : World} {b n c : Nat} {cur cs : List Value} (h : Bk w b e cur) (hl : cur.length = c * s) (ht : cur.take (n * s) = cs) (hn : n ≤ c) (hc : c ≤ maxLen) (hcs : cs.length = n * s) : Os e s w 0 (some ⟨b, 0, none⟩) n c cs :=
 ⟨hcs, .inr ⟨b, c, cur.toArray, rfl, Nat.zero_le _, h, hn, hc, by simpa using hl, by simpa using ht⟩⟩
theorem CfX.ne_row (h : CfX G D w g C A n c E) {x : Ve} (hx : x ∈ E) : ∀ k, (Value.slice A n c).ownBlock = some k → k ≠ x.2.T := by
 intro k hk
 have hn : 0 < n := by
  have := h.len
  have := h.n_
  have := List.length_pos_of_mem hx
  omega
 obtain ⟨b, cur, _, hb, hB, _⟩ := h.row.bk hn
 rw [hb] at hk
 injection hk with hk
 subst hk
 exact hB.apart (h.tb x hx) (by decide)
theorem nodup_at {l : List Ve} (h : (l.map (·.2.T)).Nodup) {i j : Nat} (hi : i < l.length) (hj : j < l.length) (he : l[i].2.T = l[j].2.T) : i = j :=
 (List.getElem_inj (h₀ := by simpa using hi) (h₁ := by simpa using hj) h).1 (by simpa using he)
theorem E_at (h : CfX G D w g C A n c E) {i : Nat} {v : Vp} (hi : C.vs[i]? = some v) : ∃ x : Ve, E[i]? = some x ∧ x.1 = v := by
 rw [← h.vs, List.getElem?_map] at hi
 cases hx : E[i]? with
 | none => rw [hx] at hi; cases hi
 | some x => rw [hx] at hi; exact ⟨x, rfl, by simpa using hi⟩
theorem CfX.setStk (h : CfX G D w g C A n c E) {i : Nat} {x : Ve} (hi : E[i]? = some x) {S' : Stk} (hb : Bk w' x.2.T 102 (stkC S')) (hc : Chg (fun b => b = x.2.T) w w') : CfX G D w' g { C with vs := C.vs.set i { x.1 with S := S' } } A n c (E.set i ({ x.1 with S := S' }, x.2)) := by
 have hx := List.mem_of_getElem? hi
 have hT := h.dt x hx
 have hil := (List.getElem?_eq_some_iff.1 hi).1
 have hxi : E[i] = x := (List.getElem?_eq_some_iff.1 hi).2
 have hG := h.sub _ hT
 have hfl : (E.set i ({ x.1 with S := S' }, x.2)).flatMap veC = E.flatMap veC := by
  rw [← flat_set veC 8 veC_len E i hil ({ x.1 with S := S' }, x.2) 0 (.bool x.1.ad.1) (by decide) (by rw [hxi]; rfl)]
  apply List.ext_getElem?
  intro j
  by_cases hj : i * 8 + 0 = j
  ·subst hj
   have := flat_at veC 8 veC_len E i hil 0 (.bool x.1.ad.1) (by rw [hxi]; rfl)
   rw [this, List.getElem?_set_self (List.getElem?_eq_some_iff.1 this).1]
  ·rw [List.getElem?_set_ne hj]
 have mem : ∀ y ∈ E.set i ({ x.1 with S := S' }, x.2), (y = ({ x.1 with S := S' }, x.2)) ∨ (∃ j, ∃ hj : j < E.length, j ≠ i ∧ y = E[j]) := by
  intro y hy
  obtain ⟨j, hj, rfl⟩ := List.mem_iff_getElem.1 hy
  rw [List.length_set] at hj
  rw [List.getElem_set]
  split
  ·exact .inl rfl
  ·rename_i hne
   exact .inr ⟨j, hj, fun e => hne e.symm, rfl⟩
 refine ⟨?_, ?_, ?_, h.dr, h.dg, ?_, ?_, ?_, ?_, ?_, h.sub, fun b hb' => Nat.lt_of_lt_of_le (h.lt b hb') hc.size⟩
 ·show _ = C.vs.set i _
  rw [List.map_set, h.vs]
 ·exact h.st.chg hc (fun e => h.ne_st hx e.symm)
 ·rw [hfl]
  exact h.row.chg hc (fun k hk e => h.ne_row hx k hk e)
 ·intro y hy
  rcases mem y hy with rfl | ⟨j, hj, hne, rfl⟩
  ·exact hb
  ·exact (h.tb _ (List.getElem_mem hj)).chg hc (fun e => hne (nodup_at h.nd hj hil (by rw [hxi]; exact e)))
 ·intro y hy
  rcases mem y hy with rfl | ⟨j, hj, _, rfl⟩
  ·exact hT
  ·exact h.dt _ (List.getElem_mem hj)
 ·intro y hy
  have hk : ∀ z ∈ E, Rs 2 w' z.2.A z.2.n z.2.c (prs .i64 z.1.ms) := fun z hz => (h.mm z hz).chg hc (fun a ha e => (h.mo z hz a ha).2 (by rw [e]; exact hG))
  rcases mem y hy with rfl | ⟨j, hj, _, rfl⟩
  ·exact hk x hx
  ·exact hk _ (List.getElem_mem hj)
 ·intro y hy
  rcases mem y hy with rfl | ⟨j, hj, _, rfl⟩
  ·exact (h.mo x hx).size hc.size
  ·exact (h.mo _ (List.getElem_mem hj)).size hc.size
 ·rw [List.map_set]
  have : (E.map (·.2.T)).set i x.2.T = E.map (·.2.T) := by
   apply List.ext_getElem
   ·simp
   ·intro j h1 h2
    rw [List.getElem_set]
    split
    ·rename_i e; subst e; simp [hxi]
    ·rfl
  rw [this]
  exact h.nd
theorem CfX.setSt (h : CfX G D w g C A n c E) {C' : Cf} (hv : C'.vs = C.vs) (hb : Bk w' g 85 (stC C' A n c)) (hg : w.grownBy w' (some g)) : CfX G D w' g C' A n c E := by
 have hc : Chg (fun b => b = g) w w' := Chg.one hg rfl
 refine ⟨h.vs.trans hv.symm, hb, ?_, h.dr, h.dg, fun x hx => (h.tb x hx).chg hc (fun e => h.ne_st hx e), h.dt, fun x hx => (h.mm x hx).chg hc (fun a ha e => (h.mo x hx a ha).2 (by rw [e]; exact h.sub _ h.dg)), fun x hx => (h.mo x hx).size hc.size, h.nd, h.sub, fun b hb' => Nat.lt_of_lt_of_le (h.lt b hb') hc.size⟩
 refine h.row.chg hc (fun k hk e => ?_)
 have e : k = g := e
 subst e
 rcases Nat.eq_zero_or_pos n with h0 | h0
 ·rcases h.row.2 with ⟨hv, _⟩ | ⟨b, cap, cur, hv, _, hr, _⟩
  ·injection hv with h1 _ _; subst h1; cases hk
  ·injection hv with h1 _ _
   subst h1
   injection hk with hk
   subst hk
   have := h.st
   unfold Bk at this
   rw [hr] at this
   injection this with this
   injection this with _ this _
   revert this
   decide
 ·obtain ⟨b, cur, _, hb', hB, _⟩ := h.row.bk h0
  rw [hb'] at hk
  injection hk with hk
  subst hk
  exact hB.apart h.st (by decide) rfl
end
end

section
open Go.RowKit
attribute [local go_sem ↓] sliced_cut
attribute [local go_sem] cutA_zero
theorem rowAdC : ∃ d, Tryd.prog.underlying 32 = some d ∧ d.isRow = true := ⟨_, Tryd.underlying32, rfl⟩
def bkA (C : Cf) (m : Int) : Adr := if 1 ≤ m ∧ m ≤ 64 then (C.bk.getD m.toNat none).getD z0 else z0
theorem polRight_any (n : Int) (w : World) : Calls Tryd.prog 51 #[.int .i64 n] w fun e w' => e = .returned (.bool (wyB n)) ∧ w = w' := by
 by_cases h1 : 1 ≤ n
 ·by_cases h2 : n ≤ 64 - 60
  ·have h2 : n ≤ 4 := by omega
   have hh := Lib.hid (show wyB n = true by simp [wyB, h1, h2])
   go_enter Tryd.func51, Tryd.ntmps51
   go_wp2
   go_ret
   exact ⟨by rw [hh.out]; rfl, rfl⟩
  ·have h2 : ¬ n ≤ 4 := by omega
   have hh := Lib.hid (show wyB n = false by simp [wyB, h2])
   go_enter Tryd.func51, Tryd.ntmps51
   go_wp2
   go_ret
   exact ⟨by rw [hh.out]; rfl, rfl⟩
 ·have hh := Lib.hid (show wyB n = false by simp [wyB, h1])
  go_enter Tryd.func51, Tryd.ntmps51
  go_wp2
  go_ret
  exact ⟨by rw [hh.out]; rfl, rfl⟩
theorem cfgLen_any (C : Cf) (hk : C.key.length = 16) (hb : C.bk.length = 65) (A : Option Addr) (n c : Nat) (g : Nat) (w : World) (hS : Bk w g 85 (stC C A n c)) : Calls Tryd.prog 19 #[.pointer (some ⟨g, 0, none⟩)] w fun e w' => e = .returned (.int .i64 (n : Nat)) ∧ w = w' := by
 have q0 : w.cell? ⟨g, 278, none⟩ = some (.slice A n c) := (hS.cell _).trans (stC_vips C hk hb A n c)
 go_enter Tryd.func19, Tryd.ntmps19
 go_wp2
 go_ret
 exact ⟨rfl, rfl⟩
theorem cfgLenNil_any (w : World) : Calls Tryd.prog 19 #[.pointer none] w fun e w' => e = .returned (.int .i64 0) ∧ w = w' := by
 go_enter Tryd.func19, Tryd.ntmps19
 go_wp2
 go_ret
 exact ⟨rfl, rfl⟩
set_option maxHeartbeats 4000000 in
set_option maxRecDepth 100000 in
theorem backend_any (C : Cf) (hk : C.key.length = 16) (hb : C.bk.length = 65) (A : Option Addr) (n c : Nat) (g : Nat) (m : Int) (w : World) (hS : Bk w g 85 (stC C A n c)) : Calls Tryd.prog 26 #[.pointer (some ⟨g, 0, none⟩), .int .i64 m] w (RetV w (.tuple #[.agg (adC (bkA C m).1 (bkA C m).2.1 (bkA C m).2.2).toArray, .bool (knC C m)])) := by
 obtain ⟨da1, va1, va2⟩ := rowAdC
 have be : Below w.heap.size w (w.alloc (.cells #[.bool false, .int .u64 0, .int .u64 0] 32)) := Below.allocS (Below.refl _ _) _
 have b2 : Bk (w.alloc (.cells #[.bool false, .int .u64 0, .int .u64 0] 32)) w.heap.size 32 (adC false 0 0) := Bk.new w 32 #[.bool false, .int .u64 0, .int .u64 0]
 replace hS := hS.later be
 have zV : w.heap.size + 1 ≤ (w.alloc (.cells #[.bool false, .int .u64 0, .int .u64 0] 32)).heap.size := by simp
 by_cases h1 : m < 1
 ·have e1 : bkA C m = z0 := if_neg (by omega)
  have e2 : knC C m = false := by unfold knC; rw [decide_eq_false (by omega)]; rfl
  rw [e1, e2]
  clear e1 e2
  go_enter Tryd.func26, Tryd.ntmps26
  go_upto_region 2 with (fail)
  generalize w.alloc (.cells #[.bool false, .int .u64 0, .int .u64 0] 32) = V at *
  refine wp_region_lit ?_
  refine wpList_plain rfl (fun K hK => ?_); go_simp; with_reducible refine hK _ _ ?_; clear hK K
  refine wpList_stA (t := 32) 32 (.tmp 4) (.tmp 16) rfl rfl (adC false 0 0) (adC false 0 0) rfl (by simp [adC, Value.oneCell']) rfl rfl b2 (szAd _ _ _) ?_
  intro W4 h4 g4
  refine wpList_plain rfl (fun K hK => ?_); go_simp; with_reducible refine hK _ _ ?_; clear hK K
  go_wp2
  refine bodyPost_agg2 Tryd.results26 rfl rfl h4.range va1 va2 (szAd _ _ _) rfl (RetV.is_ (by first | rfl | (simp only [*]; rfl)) (below_grown be g4 (by omega)))
 ·by_cases h2 : 64 < m
  ·have e1 : bkA C m = z0 := if_neg (by omega)
   have e2 : knC C m = false := by unfold knC; rw [decide_eq_false (show ¬ m ≤ 64 by omega)]; simp
   rw [e1, e2]
   clear e1 e2
   go_enter Tryd.func26, Tryd.ntmps26
   go_upto_region 2 with (fail)
   generalize w.alloc (.cells #[.bool false, .int .u64 0, .int .u64 0] 32) = V at *
   refine wp_region_lit ?_
   refine wpList_plain rfl (fun K hK => ?_); go_simp; with_reducible refine hK _ _ ?_; clear hK K
   refine wpList_stA (t := 32) 32 (.tmp 4) (.tmp 16) rfl rfl (adC false 0 0) (adC false 0 0) rfl (by simp [adC, Value.oneCell']) rfl rfl b2 (szAd _ _ _) ?_
   intro W4 h4 g4
   refine wpList_plain rfl (fun K hK => ?_); go_simp; with_reducible refine hK _ _ ?_; clear hK K
   go_wp2
   refine bodyPost_agg2 Tryd.results26 rfl rfl h4.range va1 va2 (szAd _ _ _) rfl (RetV.is_ (by first | rfl | (simp only [*]; rfl)) (below_grown be g4 (by omega)))
  ·obtain ⟨i, rfl⟩ : ∃ i : Nat, m = i := ⟨m.toNat, by omega⟩
   have i65 : (i : Int) < 65 := by omega
   have e1 : bkA C i = (C.bk.getD i none).getD z0 := if_pos ⟨by omega, by omega⟩
   have e2 : knC C i = (C.bk.getD i none).isSome := by unfold knC; rw [decide_eq_true (by omega), decide_eq_true (by omega)]; rfl
   have hpa : ((stC C A n c).drop (18 + i * 4)).take (adC (bkA C i).1 (bkA C i).2.1 (bkA C i).2.2).length = adC (bkA C i).1 (bkA C i).2.1 (bkA C i).2.2 := part_ofS (fun k u h => stC_bkAt C hk hb A n c i (by omega) k u (by
    rw [e1] at h
    have hk3 := (List.getElem?_eq_some_iff.1 h).1
    rw [← h]
    match k, hk3 with
    | 0, _ => rfl
    | 1, _ => rfl
    | 2, _ => rfl))
   have hpb : (stC C A n c)[18 + i * 4 + 3]? = some (.bool (knC C i)) := stC_bkAt C hk hb A n c i (by omega) 3 _ (by rw [e2]; rfl)
   clear e1 e2
   go_enter Tryd.func26, Tryd.ntmps26
   go_upto_region 3 with (fail)
   generalize w.alloc (.cells #[.bool false, .int .u64 0, .int .u64 0] 32) = V at *
   have zg : ¬ g = w.heap.size := by have := b2.apart hS (by decide); omega
   refine wp_suS (fun b => b = w.heap.size) 16 31 2 [14] rfl (by kernel_rfl) (by kernel_rfl) (fun k w' => Bk w' w.heap.size 32 (if k = 0 then adC false 0 0 else (adC (bkA C i).1 (bkA C i).2.1 (bkA C i).2.2))) (fun k _ _ h hx => h.later hx.below) (b2) ?_
   apply StepsC.one (MC.eq _) 1 rfl (by decide)
   ·intro o ho FA w' hC hO hD K hK
    obtain rfl := qoi ho
    have e0 := hO 0 (by kernel_rfl)
    simp only [eval_tmp, qgT, qgS, qgZ, qoS] at e0
    have ev0 := Lib.hid ((eval_tmp FA 0).trans e0)
    clear hO hD ho
    go_simp
    exact hK.out _ _ (Ex.refl _) rfl
   apply StepsC.one (MC.eq _) 2 rfl (by decide)
   ·intro o ho FA w' hC hO hD K hK
    obtain rfl := qoi ho
    have e1 := hO 1 (by kernel_rfl)
    simp only [eval_tmp, qgT, qgS, qgZ, qoS] at e1
    have ev1 := Lib.hid ((eval_tmp FA 1).trans e1)
    clear hO hD ho
    go_simp
    exact hK.out _ _ (Ex.refl _) rfl
   apply StepsC.one (MC.eq _) 3 rfl (by decide)
   ·intro o ho FA w' hC hO hD K hK
    obtain rfl := qoi ho
    obtain ⟨e17, ev17⟩ := qE (hD 0 17 (by kernel_rfl))
    clear hO hD ho
    go_simp
    exact hK.out _ _ (Ex.refl _) rfl
   apply StepsC.one (MC.eq _) 4 rfl (by decide)
   ·intro o ho FA w' hC hO hD K hK
    obtain rfl := qoi ho
    obtain ⟨e19, ev19⟩ := qE (hD 2 19 (by kernel_rfl))
    clear hO hD ho
    go_simp
    exact hK.out _ _ (Ex.refl _) rfl
   apply StepsC.one (MC.eq _) 5 rfl (by decide)
   ·intro o ho FA w' hC hO hD K hK
    obtain rfl := qoi ho
    obtain ⟨e20, ev20⟩ := qE (hD 3 20 (by kernel_rfl))
    obtain ⟨e18, ev18⟩ := qE (hD 1 18 (by kernel_rfl))
    clear hO hD ho
    go_simp
    exact hK.out _ _ (Ex.refl _) rfl
   apply StepsC.one (MC.eq _) 6 rfl (by decide)
   ·intro o ho FA w' hC hO hD K hK
    obtain rfl := qoi ho
    obtain ⟨e21, ev21⟩ := qE (hD 4 21 (by kernel_rfl))
    clear hO hD ho
    go_simp
    exact hK.out _ _ (Ex.refl _) rfl
   apply StepsC.one (MC.eq _) 7 rfl (by decide)
   ·intro o ho FA w' hC hO hD K hK
    obtain rfl := qoi ho
    obtain ⟨e22, ev22⟩ := qE (hD 5 22 (by kernel_rfl))
    clear hO hD ho
    refine wanted_if rfl ?_
    refine wp_ldA 32 (.tmp 22) rfl (adC (bkA C i).1 (bkA C i).2.1 (bkA C i).2.2) ev22.out (hS.chg hC zg) hpa va1 va2 (szAd _ _ _) ?_
    exact hK.out _ _ (Ex.refl _) rfl
   apply StepsC.one (MC.eq _) 8 rfl (by decide)
   ·intro o ho FA w' hC hO hD K hK
    obtain rfl := qoi ho
    have e0 := hO 0 (by kernel_rfl)
    simp only [eval_tmp, qgT, qgS, qgZ, qoS] at e0
    have ev0 := Lib.hid ((eval_tmp FA 0).trans e0)
    clear hO hD ho
    go_simp
    exact hK.out _ _ (Ex.refl _) rfl
   apply StepsC.one (MC.eq _) 9 rfl (by decide)
   ·intro o ho FA w' hC hO hD K hK
    obtain rfl := qoi ho
    have e1 := hO 1 (by kernel_rfl)
    simp only [eval_tmp, qgT, qgS, qgZ, qoS] at e1
    have ev1 := Lib.hid ((eval_tmp FA 1).trans e1)
    clear hO hD ho
    go_simp
    exact hK.out _ _ (Ex.refl _) rfl
   apply StepsC.one (MC.eq _) 10 rfl (by decide)
   ·intro o ho FA w' hC hO hD K hK
    obtain rfl := qoi ho
    obtain ⟨e24, ev24⟩ := qE (hD 7 24 (by kernel_rfl))
    clear hO hD ho
    go_simp
    exact hK.out _ _ (Ex.refl _) rfl
   apply StepsC.one (MC.eq _) 11 rfl (by decide)
   ·intro o ho FA w' hC hO hD K hK
    obtain rfl := qoi ho
    obtain ⟨e26, ev26⟩ := qE (hD 9 26 (by kernel_rfl))
    clear hO hD ho
    go_simp
    exact hK.out _ _ (Ex.refl _) rfl
   apply StepsC.one (MC.eq _) 12 rfl (by decide)
   ·intro o ho FA w' hC hO hD K hK
    obtain rfl := qoi ho
    obtain ⟨e27, ev27⟩ := qE (hD 10 27 (by kernel_rfl))
    obtain ⟨e25, ev25⟩ := qE (hD 8 25 (by kernel_rfl))
    clear hO hD ho
    go_simp
    exact hK.out _ _ (Ex.refl _) rfl
   apply StepsC.one (MC.eq _) 13 rfl (by decide)
   ·intro o ho FA w' hC hO hD K hK
    obtain rfl := qoi ho
    obtain ⟨e28, ev28⟩ := qE (hD 11 28 (by kernel_rfl))
    clear hO hD ho
    go_simp
    exact hK.out _ _ (Ex.refl _) rfl
   apply StepsC.one (MC.eq _) 14 rfl (by decide)
   ·intro o ho FA w' hC hO hD K hK
    obtain rfl := qoi ho
    obtain ⟨e29, ev29⟩ := qE (hD 12 29 (by kernel_rfl))
    clear hO hD ho
    refine wanted_if rfl ?_
    refine wp_ld1 4 (.tmp 29) rfl ev29.out (hS.chg hC zg) hpb Tryd.underlying4 rfl ?_
    exact hK.out _ _ (Ex.refl _) rfl
   apply StepsC.mov (MC.any) 15 0 rfl rfl rfl
   ·intro o ho FA w' hC hO hD hS K hK
    obtain rfl := qoi ho
    have e4 := hO 4 (by kernel_rfl)
    simp only [eval_tmp, qgT, qgS, qgZ, qoS] at e4
    have ev4 := Lib.hid ((eval_tmp FA 4).trans e4)
    obtain ⟨e23, ev23⟩ := qE (hD 6 23 (by kernel_rfl))
    clear hO hD ho
    refine wanted_if rfl ?_
    refine wp_stA 32 (.tmp 4) (.tmp 23) rfl (adC (bkA C i).1 (bkA C i).2.1 (bkA C i).2.2) (adC false 0 0) rfl (by simp [adC, Value.oneCell']) ev4.out ev23.out hS (szAd _ _ _) ?_
    intro w'' hn hg
    exact hK.out undef _ (Chg.one hg rfl) hn trivial
   apply StepsC.one (MC.eq _) 16 rfl (by decide)
   ·intro o ho FA w' hC hO hD K hK
    obtain rfl := qoi ho
    obtain ⟨e30, ev30⟩ := qE (hD 13 30 (by kernel_rfl))
    clear hO hD ho
    go_simp
    exact hK.out _ _ (Ex.refl _) rfl
   refine StepsC.fin_ (fun vs w' hC hS hp => ?_)
   have p0 : vs 0 = _ := hp 0 (by omega) rfl
   have p1 : vs 1 = _ := hp 1 (by omega) rfl
   have p2 : vs 2 = _ := hp 2 (by omega) rfl
   have p3 : vs 3 = _ := hp 3 (by omega) rfl
   have p4 : vs 4 = _ := hp 4 (by omega) rfl
   have p5 : vs 5 = _ := hp 5 (by omega) rfl
   have p6 : vs 6 = _ := hp 6 (by omega) rfl
   have p7 : vs 7 = _ := hp 7 (by omega) rfl
   have p8 : vs 8 = _ := hp 8 (by omega) rfl
   have p9 : vs 9 = _ := hp 9 (by omega) rfl
   have p10 : vs 10 = _ := hp 10 (by omega) rfl
   have p11 : vs 11 = _ := hp 11 (by omega) rfl
   have p12 : vs 12 = _ := hp 12 (by omega) rfl
   have p13 : vs 13 = _ := hp 13 (by omega) rfl
   have p15 : vs 15 = _ := hp 15 (by omega) rfl
   clear hp
   simp only [List.take_succ_cons, List.take_zero, List.drop_succ_cons, List.drop_zero, putAll, Nat.zero_add, Nat.reduceAdd, Act.put, qsT, qsZ, qsS, p0, p1, p2, p3, p4, p5, p6, p7, p8, p9, p10, p11, p12, p13, p15]
   clear p0 p1 p2 p3 p4 p5 p6 p7 p8 p9 p10 p11 p12 p13 p15
   clear vs
   go_wp2
   refine bodyPost_agg2 Tryd.results26 rfl rfl (Bk.range hS) va1 va2 (szAd _ _ _) rfl (RetV.is_ rfl ((be.trans (hC.below (fun b hb => by have hb : b = w.heap.size := hb; omega) (by omega)))))
theorem eqI_ad (w : World) (a b : Adr) : (Op.equalIn 10000 32 (.agg #[.bool a.1, .int .u64 (a.2.1 : Int), .int .u64 (a.2.2 : Int)]) (.agg #[.bool b.1, .int .u64 (b.2.1 : Int), .int .u64 (b.2.2 : Int)])).run Tryd.prog w = .ok (decide (a = b)) w := by
 have hS : Tryd.prog.underlying 32 = some (.struct (Tryd.prog.fieldsOf 32)) := by kernel_rfl
 have hp : Tryd.prog.stoodInHeld 32 = false := by kernel_rfl
 obtain ⟨a1, a2, a3⟩ := a
 obtain ⟨b1, b2, b3⟩ := b
 rw [run_equalIn_agg w _ 32 _ _ hS hp]
 simp only [Program.fieldsOf, Tryd.underlying32]
 go_simp
 repeat' split
 all_goals (simp_all <;> omega)
def eqAd (a : Bool) (b c : Nat) (d : Bool) (e f : Nat) : Bool := decide ((a, b, c) = (d, e, f))
theorem eqC_ad (w : World) (a : Bool) (b c : Nat) (d : Bool) (e f : Nat) : (Op.equalIn 10000 32 (.agg (adC a b c).toArray) (.agg (adC d e f).toArray)).run Tryd.prog w = .ok (eqAd a b c d e f) w := eqI_ad w (a, b, c) (d, e, f)
theorem neq_ad (w : World) (a b : Adr) : (binOp .neq 32 (.agg (adC a.1 a.2.1 a.2.2).toArray) (.agg (adC b.1 b.2.1 b.2.2).toArray)).run Tryd.prog w = .ok (.bool (!decide (a = b))) w := by
 have h := eqI_ad w a b
 simp only [adC]
 rw [run_neq_struct, h]
 rfl
theorem rng_ad {w : World} {b o : Nat} {x : Ve} (h : w.rangeAt b o (veC x)) : w.rangeAt b o (adC x.1.ad.1 x.1.ad.2.1 x.1.ad.2.2) ∧ w.cell? ⟨b, o + 3, none⟩ = some (.int .u16 (x.1.pt : Int)) ∧ w.cell? ⟨b, o + 4, none⟩ = some (.int .u8 (x.1.pr : Int)) :=
 ⟨fun i u hu => h i u (by
  have hk3 := (List.getElem?_eq_some_iff.1 hu).1
  rw [← hu]
  match i, hk3 with
  | 0, _ => rfl
  | 1, _ => rfl
  | 2, _ => rfl), h 3 _ rfl, h 4 _ rfl⟩
def fdI (C : Cf) (a : Adr) (pt pr : Nat) : Int := if fdC C a pt pr < C.vs.length then (fdC C a pt pr : Int) else -1
theorem fdC_step (C : Cf) (a : Adr) (pt pr : Nat) (i : Nat) (hi : i ≤ fdC C a pt pr) (h : i < C.vs.length) : (eqV a pt pr C.vs[i] = true → fdC C a pt pr = i) ∧ (eqV a pt pr C.vs[i] = false → i + 1 ≤ fdC C a pt pr) := by
 unfold fdC at *
 constructor
 ·intro he
  rcases Nat.lt_or_ge i (C.vs.findIdx (eqV a pt pr)) with h' | h'
  ·have := List.not_of_lt_findIdx h'
   rw [he] at this
   cases this
  ·omega
 ·intro he
  rcases Nat.lt_or_ge i (C.vs.findIdx (eqV a pt pr)) with h' | h'
  ·exact h'
  ·exfalso
   have e : i = C.vs.findIdx (eqV a pt pr) := by omega
   have := List.findIdx_getElem (p := eqV a pt pr) (xs := C.vs) (w := by rw [← e]; exact h)
   simp only [← e] at this
   rw [he] at this
   cases this
section
attribute [local go_sem ↓] eqC_ad
set_option maxHeartbeats 4000000 in
set_option maxRecDepth 100000 in
theorem cfgFind_any (C : Cf) (hk : C.key.length = 16) (hb : C.bk.length = 65) (A : Option Addr) (n c : Nat) (E : List Ve) (hE0 : E.map (·.1) = C.vs) (g : Nat) (a : Adr) (pt pr : Nat) (w : World) (hS : Bk w g 85 (stC C A n c)) (hr : Os 53 8 w 0 A n c (E.flatMap veC)) (hn : n ≤ 1000) : Calls Tryd.prog 52 #[.pointer (some ⟨g, 0, none⟩), .agg (adC a.1 a.2.1 a.2.2).toArray, .int .u16 (pt : Int), .int .u8 (pr : Int)] w (RetV w (.int .i64 (fdI C a pt pr))) := by
 obtain ⟨da1, va1, va2⟩ := rowAdC
 obtain ⟨six, ah, al⟩ := a
 have hlE : E.length = C.vs.length := by rw [← hE0]; simp
 have hln : E.length = n := by have := hr.rs.1; rw [flat_len veC 8 veC_len] at this; omega
 have ba : Bk (w.alloc (.cells (adC six ah al).toArray 32)) w.heap.size 32 (adC six ah al) := Bk.new w 32 (adC six ah al).toArray
 have be : Below w.heap.size w (w.alloc (.cells (adC six ah al).toArray 32)) := Below.allocS (Below.refl _ _) _
 have q0 : (w.alloc (.cells (adC six ah al).toArray 32)).cell? ⟨g, 278, none⟩ = some (.slice A n c) := ((hS.later be).cell _).trans (stC_vips C hk hb A n c)
 have HS := Lib.hid (hS.later be)
 have zV : w.heap.size + 1 ≤ (w.alloc (.cells (adC six ah al).toArray 32)).heap.size := by simp
 go_enter Tryd.func52, Tryd.ntmps52
 go_upto_region 1 with (fail)
 generalize w.alloc (.cells (adC six ah al).toArray 32) = V at *
 have HL := Lib.hid (fun w h => cfgLen_any C hk hb A n c g w h)
 go_upto_region 2 with (go_at_call 19; refine (HL.out _ HS.out).mono ?_; rintro e w1 ⟨rfl, rfl⟩)
 clear q0
 have HF := Lib.hid ba
 have HB := Lib.hid be
 have hlt0 : fdC C (six, ah, al) pt pr ≤ C.vs.length := List.findIdx_le_length
 clear ba be
 go_loopw [13] (fun I wr => ∃ i : Nat, i ≤ n ∧ i ≤ fdC C (six, ah, al) pt pr ∧ I = .int .i64 (i : Int) ∧ Below w.heap.size w wr ∧ Bk wr w.heap.size 32 (adC six ah al)) (fun I _ => n - (intOf I).toNat)
 case atStart => exact ⟨0, Nat.zero_le _, Nat.zero_le _, rfl, HB.out, HF.out⟩
 case round =>
  clear HF HB
  obtain ⟨i, hi, hif, rfl, hE, ba⟩ := hrel
  by_cases hlt : i < n
  ·have ii : (i : Int) < (n : Int) := by omega
   obtain ⟨b, cur, rfl, -, hB, -⟩ := hr.bk (by omega)
   have hst := fdC_step C (six, ah, al) pt pr i hif (by omega)
   have hrg : ∀ W, Below w.heap.size w W → W.rangeAt b (i * 8) (veC E[i]) := fun W h => by
    have := (hr.rs.later h).rangeE veC_len i (by omega)
    rwa [Nat.zero_add] at this
   have hCi : C.vs[i]'(by omega) = E[i].1 := by simp [← hE0]
   rw [hCi] at hst
   have q0 : wr.cell? ⟨g, 278, none⟩ = some (.slice (some ⟨b, 0, none⟩) n c) := ((hS.later hE).cell _).trans (stC_vips C hk hb _ n c)
   have HQ := Lib.hid (fun W h => rng_ad (hrg W h))
   clear hrg hCi
   generalize E[i].1 = v at *
   have hcase : (eqAd v.ad.1 v.ad.2.1 v.ad.2.2 six ah al = true ∧ decide (v.ad = (six, ah, al)) = true ∧ ((v.pt : Int) == (pt : Int)) = true ∧ ((v.pr : Int) == (pr : Int)) = true ∧ Hid (fdI C (six, ah, al) pt pr = (i : Int))) ∨
     (eqAd v.ad.1 v.ad.2.1 v.ad.2.2 six ah al = true ∧ decide (v.ad = (six, ah, al)) = true ∧ ((v.pt : Int) == (pt : Int)) = true ∧ ((v.pr : Int) == (pr : Int)) = false ∧ i + 1 ≤ fdC C (six, ah, al) pt pr) ∨
     (eqAd v.ad.1 v.ad.2.1 v.ad.2.2 six ah al = true ∧ decide (v.ad = (six, ah, al)) = true ∧ ((v.pt : Int) == (pt : Int)) = false ∧ i + 1 ≤ fdC C (six, ah, al) pt pr) ∨
     (eqAd v.ad.1 v.ad.2.1 v.ad.2.2 six ah al = false ∧ decide (v.ad = (six, ah, al)) = false ∧ i + 1 ≤ fdC C (six, ah, al) pt pr) := by
    by_cases h1 : v.ad = (six, ah, al)
    ·by_cases h2 : v.pt = pt
     ·by_cases h3 : v.pr = pr
      ·have he := hst.1 (decide_eq_true ⟨h1, h2, h3⟩)
       exact .inl ⟨decide_eq_true h1, decide_eq_true h1, by simp [h2], by simp [h3], Lib.hid (by unfold fdI; rw [he, if_pos (by omega)])⟩
      ·exact .inr (.inl ⟨decide_eq_true h1, decide_eq_true h1, by simp [h2], by simp; omega, hst.2 (decide_eq_false (fun h => h3 h.2.2))⟩)
     ·exact .inr (.inr (.inl ⟨decide_eq_true h1, decide_eq_true h1, by simp; omega, hst.2 (decide_eq_false (fun h => h2 h.2.1))⟩))
    ·exact .inr (.inr (.inr ⟨decide_eq_false h1, decide_eq_false h1, hst.2 (decide_eq_false (fun h => h1 h.1))⟩))
   clear hst
   rcases hcase with ⟨hc1, hc1', hc2, hc3, HV⟩ | ⟨hc1, hc1', hc2, hc3, he⟩ | ⟨hc1, hc1', hc2, he⟩ | ⟨hc1, hc1', he⟩
   all_goals
    go_upto_region 5 with (fail)
    refine wp_relS 22 46 rfl (by kernel_rfl) (by kernel_rfl) ?_
    apply Steps.o1 (MP.eq _) 1 rfl rfl
    ·intro FA x hO hD K hK
     have e10 := hO 10 (by kernel_rfl)
     simp only [eval_tmp, qgT, qgS, qgZ, qoS] at e10
     have ev10 := Lib.hid ((eval_tmp FA 10).trans e10)
     clear hO hD
     go_simp
     exact hK.out _ _ (Ex.refl _) rfl
    apply Steps.o1 (MP.eq _) 2 rfl rfl
    ·intro FA x hO hD K hK
     obtain ⟨e22, ev22⟩ := qE (hD 0 22 (by kernel_rfl))
     clear hO hD
     go_simp
     exact hK.out _ _ (Ex.refl _) rfl
    apply Steps.o1 (MP.eq _) 3 rfl rfl
    ·intro FA x hO hD K hK
     obtain ⟨e23, ev23⟩ := qE (hD 1 23 (by kernel_rfl))
     clear hO hD
     go_simp
     exact hK.out _ _ (Ex.refl _) rfl
    apply Steps.o1 (MP.eq _) 4 rfl rfl
    ·intro FA x hO hD K hK
     obtain ⟨e24, ev24⟩ := qE (hD 2 24 (by kernel_rfl))
     clear hO hD
     refine wanted_if rfl ?_
     refine wp_load_mid 32 (.tmp 24) rfl b (i * 8) ev24.out (adC v.ad.1 v.ad.2.1 v.ad.2.2) _ (HQ.out _ (belowP hE x.bs x.d)).1 va1 va2 (szAd _ _ _) ?_
     exact hK.out _ _ (Ex.refl _) rfl
    apply Steps.o1 (MP.eq _) 5 rfl rfl
    ·intro FA x hO hD K hK
     have e5 := hO 5 (by kernel_rfl)
     simp only [eval_tmp, qgT, qgS, qgZ, qoS] at e5
     have ev5 := Lib.hid ((eval_tmp FA 5).trans e5)
     clear hO hD
     refine wanted_if rfl ?_
     refine wp_ldA 32 (.tmp 5) rfl (adC six ah al) ev5.out (ba.later (below_plus _ _ _)) rfl va1 va2 (szAd _ _ _) ?_
     exact hK.out _ _ (Ex.refl _) rfl
    apply Steps.o1 (MP.eq _) 6 rfl rfl
    ·intro FA x hO hD K hK
     obtain ⟨e25, ev25⟩ := qE (hD 3 25 (by kernel_rfl))
     obtain ⟨e26, ev26⟩ := qE (hD 4 26 (by kernel_rfl))
     clear hO hD
     go_simp
     exact hK.out _ _ (Ex.refl _) rfl
    apply Steps.o1 (MP.eq _) 7 rfl rfl
    ·intro FA x hO hD K hK
     obtain ⟨e27, ev27⟩ := qE (hD 5 27 (by kernel_rfl))
     clear hO hD
     go_simp
     exact hK.out _ _ (Ex.refl _) rfl
    apply Steps.o1 (MP.eq _) 8 rfl rfl
    ·intro FA x hO hD K hK
     have e10 := hO 10 (by kernel_rfl)
     simp only [eval_tmp, qgT, qgS, qgZ, qoS] at e10
     have ev10 := Lib.hid ((eval_tmp FA 10).trans e10)
     obtain ⟨e28, ev28⟩ := qE (hD 6 28 (by kernel_rfl))
     first | have ge28 := slot_of e28 | have ge28 := slot_un e28
     clear hO hD
     first | (go_simp; exact hK.out _ _ (Ex.refl _) rfl) | (rcases ge28 with ge28 | ge28 <;> (go_simp; exact hK.out _ _ (Ex.refl _) rfl))
    apply Steps.o1 (MP.eq _) 9 rfl rfl
    ·intro FA x hO hD K hK
     obtain ⟨e29, ev29⟩ := qE (hD 7 29 (by kernel_rfl))
     obtain ⟨e28, ev28⟩ := qE (hD 6 28 (by kernel_rfl))
     first | have ge28 := slot_of e28 | have ge28 := slot_un e28
     clear hO hD
     first | (go_simp; exact hK.out _ _ (Ex.refl _) rfl) | (rcases ge28 with ge28 | ge28 <;> (go_simp; exact hK.out _ _ (Ex.refl _) rfl))
    apply Steps.o1 (MP.eq _) 10 rfl rfl
    ·intro FA x hO hD K hK
     obtain ⟨e30, ev30⟩ := qE (hD 8 30 (by kernel_rfl))
     obtain ⟨e28, ev28⟩ := qE (hD 6 28 (by kernel_rfl))
     first | have ge28 := slot_of e28 | have ge28 := slot_un e28
     clear hO hD
     first | (go_simp; exact hK.out _ _ (Ex.refl _) rfl) | (rcases ge28 with ge28 | ge28 <;> (go_simp; exact hK.out _ _ (Ex.refl _) rfl))
    apply Steps.o1 (MP.eq _) 11 rfl rfl
    ·intro FA x hO hD K hK
     obtain ⟨e31, ev31⟩ := qE (hD 9 31 (by kernel_rfl))
     obtain ⟨e28, ev28⟩ := qE (hD 6 28 (by kernel_rfl))
     first | have ge28 := slot_of e28 | have ge28 := slot_un e28
     clear hO hD
     first | (have hq := (HQ.out (plus wr x.bs x.d) (belowP hE x.bs x.d)).2; go_simp; exact hK.out _ _ (Ex.refl _) rfl) | (go_simp; exact hK.out _ _ (Ex.refl _) rfl) | (rcases ge28 with ge28 | ge28 <;> (go_simp; exact hK.out _ _ (Ex.refl _) rfl))
    apply Steps.o1 (MP.eq _) 12 rfl rfl
    ·intro FA x hO hD K hK
     have e2 := hO 2 (by kernel_rfl)
     simp only [eval_tmp, qgT, qgS, qgZ, qoS] at e2
     have ev2 := Lib.hid ((eval_tmp FA 2).trans e2)
     obtain ⟨e28, ev28⟩ := qE (hD 6 28 (by kernel_rfl))
     first | have ge28 := slot_of e28 | have ge28 := slot_un e28
     clear hO hD
     first | (go_simp; exact hK.out _ _ (Ex.refl _) rfl) | (rcases ge28 with ge28 | ge28 <;> (go_simp; exact hK.out _ _ (Ex.refl _) rfl))
    apply Steps.o1 (MP.eq _) 13 rfl rfl
    ·intro FA x hO hD K hK
     obtain ⟨e32, ev32⟩ := qE (hD 10 32 (by kernel_rfl))
     obtain ⟨e33, ev33⟩ := qE (hD 11 33 (by kernel_rfl))
     obtain ⟨e28, ev28⟩ := qE (hD 6 28 (by kernel_rfl))
     first | have ge28 := slot_of e28 | have ge28 := slot_un e28
     clear hO hD
     first | (go_simp; exact hK.out _ _ (Ex.refl _) rfl) | (rcases ge28 with ge28 | ge28 <;> (go_simp; exact hK.out _ _ (Ex.refl _) rfl))
    apply Steps.o1 (MP.eq _) 14 rfl rfl
    ·intro FA x hO hD K hK
     obtain ⟨e28, ev28⟩ := qE (hD 6 28 (by kernel_rfl))
     obtain ⟨e34, ev34⟩ := qE (hD 12 34 (by kernel_rfl))
     clear hO hD
     go_simp
     exact hK.out _ _ (Ex.refl _) rfl
    apply Steps.o1 (MP.eq _) 15 rfl rfl
    ·intro FA x hO hD K hK
     obtain ⟨e35, ev35⟩ := qE (hD 13 35 (by kernel_rfl))
     clear hO hD
     go_simp
     exact hK.out _ _ (Ex.refl _) rfl
    apply Steps.o1 (MP.eq _) 16 rfl rfl
    ·intro FA x hO hD K hK
     have e10 := hO 10 (by kernel_rfl)
     simp only [eval_tmp, qgT, qgS, qgZ, qoS] at e10
     have ev10 := Lib.hid ((eval_tmp FA 10).trans e10)
     obtain ⟨e36, ev36⟩ := qE (hD 14 36 (by kernel_rfl))
     first | have ge36 := slot_of e36 | have ge36 := slot_un e36
     clear hO hD
     first | (go_simp; exact hK.out _ _ (Ex.refl _) rfl) | (rcases ge36 with ge36 | ge36 <;> (go_simp; exact hK.out _ _ (Ex.refl _) rfl))
    apply Steps.o1 (MP.eq _) 17 rfl rfl
    ·intro FA x hO hD K hK
     obtain ⟨e37, ev37⟩ := qE (hD 15 37 (by kernel_rfl))
     obtain ⟨e36, ev36⟩ := qE (hD 14 36 (by kernel_rfl))
     first | have ge36 := slot_of e36 | have ge36 := slot_un e36
     clear hO hD
     first | (go_simp; exact hK.out _ _ (Ex.refl _) rfl) | (rcases ge36 with ge36 | ge36 <;> (go_simp; exact hK.out _ _ (Ex.refl _) rfl))
    apply Steps.o1 (MP.eq _) 18 rfl rfl
    ·intro FA x hO hD K hK
     obtain ⟨e38, ev38⟩ := qE (hD 16 38 (by kernel_rfl))
     obtain ⟨e36, ev36⟩ := qE (hD 14 36 (by kernel_rfl))
     first | have ge36 := slot_of e36 | have ge36 := slot_un e36
     clear hO hD
     first | (go_simp; exact hK.out _ _ (Ex.refl _) rfl) | (rcases ge36 with ge36 | ge36 <;> (go_simp; exact hK.out _ _ (Ex.refl _) rfl))
    apply Steps.o1 (MP.eq _) 19 rfl rfl
    ·intro FA x hO hD K hK
     obtain ⟨e39, ev39⟩ := qE (hD 17 39 (by kernel_rfl))
     obtain ⟨e36, ev36⟩ := qE (hD 14 36 (by kernel_rfl))
     first | have ge36 := slot_of e36 | have ge36 := slot_un e36
     clear hO hD
     first | (have hq := (HQ.out (plus wr x.bs x.d) (belowP hE x.bs x.d)).2; go_simp; exact hK.out _ _ (Ex.refl _) rfl) | (go_simp; exact hK.out _ _ (Ex.refl _) rfl) | (rcases ge36 with ge36 | ge36 <;> (go_simp; exact hK.out _ _ (Ex.refl _) rfl))
    apply Steps.o1 (MP.eq _) 20 rfl rfl
    ·intro FA x hO hD K hK
     have e3 := hO 3 (by kernel_rfl)
     simp only [eval_tmp, qgT, qgS, qgZ, qoS] at e3
     have ev3 := Lib.hid ((eval_tmp FA 3).trans e3)
     obtain ⟨e36, ev36⟩ := qE (hD 14 36 (by kernel_rfl))
     first | have ge36 := slot_of e36 | have ge36 := slot_un e36
     clear hO hD
     first | (go_simp; exact hK.out _ _ (Ex.refl _) rfl) | (rcases ge36 with ge36 | ge36 <;> (go_simp; exact hK.out _ _ (Ex.refl _) rfl))
    apply Steps.o1 (MP.eq _) 21 rfl rfl
    ·intro FA x hO hD K hK
     obtain ⟨e40, ev40⟩ := qE (hD 18 40 (by kernel_rfl))
     obtain ⟨e41, ev41⟩ := qE (hD 19 41 (by kernel_rfl))
     obtain ⟨e36, ev36⟩ := qE (hD 14 36 (by kernel_rfl))
     first | have ge36 := slot_of e36 | have ge36 := slot_un e36
     clear hO hD
     first | (go_simp; exact hK.out _ _ (Ex.refl _) rfl) | (rcases ge36 with ge36 | ge36 <;> (go_simp; exact hK.out _ _ (Ex.refl _) rfl))
    apply Steps.o1 (MP.eq _) 22 rfl rfl
    ·intro FA x hO hD K hK
     obtain ⟨e36, ev36⟩ := qE (hD 14 36 (by kernel_rfl))
     obtain ⟨e42, ev42⟩ := qE (hD 20 42 (by kernel_rfl))
     clear hO hD
     go_simp
     exact hK.out _ _ (Ex.refl _) rfl
    refine Steps.fin_ (fun vs x hp => ?_)
    have p0 : vs 0 = _ := hp 0 (by omega)
    have p1 : vs 1 = _ := hp 1 (by omega)
    have p2 : vs 2 = _ := hp 2 (by omega)
    have p3 : vs 3 = _ := hp 3 (by omega)
    have p4 : vs 4 = _ := hp 4 (by omega)
    have p5 : vs 5 = _ := hp 5 (by omega)
    have p6 : vs 6 = _ := hp 6 (by omega)
    have p7 : vs 7 = _ := hp 7 (by omega)
    have p8 : vs 8 = _ := hp 8 (by omega)
    have p9 : vs 9 = _ := hp 9 (by omega)
    have p10 : vs 10 = _ := hp 10 (by omega)
    have p11 : vs 11 = _ := hp 11 (by omega)
    have p12 : vs 12 = _ := hp 12 (by omega)
    have p13 : vs 13 = _ := hp 13 (by omega)
    have p14 : vs 14 = _ := hp 14 (by omega)
    have p15 : vs 15 = _ := hp 15 (by omega)
    have p16 : vs 16 = _ := hp 16 (by omega)
    have p17 : vs 17 = _ := hp 17 (by omega)
    have p18 : vs 18 = _ := hp 18 (by omega)
    have p19 : vs 19 = _ := hp 19 (by omega)
    have p20 : vs 20 = _ := hp 20 (by omega)
    have p21 : vs 21 = _ := hp 21 (by omega)
    clear hp
    simp only [List.take_succ_cons, List.take_zero, List.drop_succ_cons, List.drop_zero, putAll, Nat.zero_add, Nat.reduceAdd, Act.put, qsT, qsZ, qsS, p0, p1, p2, p3, p4, p5, p6, p7, p8, p9, p10, p11, p12, p13, p14, p15, p16, p17, p18, p19, p20, p21]
    clear p0 p1 p2 p3 p4 p5 p6 p7 p8 p9 p10 p11 p12 p13 p14 p15 p16 p17 p18 p19 p20 p21
    clear vs
    go_wp2
   ·go_ret
    rw [HV.out]
    exact RetV.is_ rfl (belowP hE _ _)
   ·exact ⟨⟨i + 1, by omega, by omega, by go_num, belowP hE _ _, ba.later (below_plus _ _ _)⟩, by simp [intOf]; omega⟩
   ·exact ⟨⟨i + 1, by omega, by omega, by go_num, belowP hE _ _, ba.later (below_plus _ _ _)⟩, by simp [intOf]; omega⟩
   ·exact ⟨⟨i + 1, by omega, by omega, by go_num, belowP hE _ _, ba.later (below_plus _ _ _)⟩, by simp [intOf]; omega⟩
  ·have HV := Lib.hid (show fdI C (six, ah, al) pt pr = -1 from if_neg (by omega))
   have ii : ¬ (i : Int) < (n : Int) := by omega
   clear hif hlt0
   go_wp2
   go_ret
   rw [HV.out]
   exact RetV.is_ rfl hE
end
end

section
open Go.RowKit
attribute [local go_sem ↓] sliced_cut
attribute [local go_sem] cutA_zero
structure Grow (G D G' D' : Nat → Prop) (w : World) : Prop where
 gg : ∀ b, G b → G' b
 gn : ∀ b, G' b → G b ∨ w.heap.size ≤ b
 dn : ∀ b, D' b → D b ∨ w.heap.size ≤ b
theorem Grow.refl (G D : Nat → Prop) (w : World) : Grow G D G D w := ⟨fun _ h => h, fun _ h => .inl h, fun _ h => .inl h⟩
theorem Grow.trans {G D G1 D1 G2 D2 : Nat → Prop} {w w1 : World} (h : Grow G D G1 D1 w) (k : Grow G1 D1 G2 D2 w1) (hs : w.heap.size ≤ w1.heap.size) : Grow G D G2 D2 w :=
 ⟨fun b hb => k.gg b (h.gg b hb), fun b hb => (k.gn b hb).elim (h.gn b) (fun h' => .inr (Nat.le_trans hs h')), fun b hb => (k.dn b hb).elim (h.dn b) (fun h' => .inr (Nat.le_trans hs h'))⟩
theorem Grow.early {G D G1 D1 : Nat → Prop} {w w1 : World} (k : Grow G D G1 D1 w1) (hs : w.heap.size ≤ w1.heap.size) : Grow G D G1 D1 w := (Grow.refl G D w).trans k hs
def RetCf (G D : Nat → Prop) (w : World) (g : Nat) (C' : Cf) (v : Value) (e : Ending) (w' : World) : Prop := e = .returned v ∧ ∃ G' D', CfM G' D' w' g C' ∧ Grow G D G' D' w ∧ Chg D w w'
theorem run_buildKn (six : Bool) (ah al : Nat) (w : World) : (Instr.build 81 #[(0, .agg (adC six ah al).toArray), (1, .bool true)]).run Tryd.prog w = .ok (.agg (bkC (some (six, ah, al))).toArray) w := by kernel_rfl
set_option maxHeartbeats 4000000
set_option maxRecDepth 100000
theorem addBackend_any {G D : Nat → Prop} (k v b e : Int) (six : Bool) (ah al pt pr : Nat) (wy : Int) (ms : List (Int × Int)) (B : Option Addr) (m d : Nat) (C : Cf) (hC : CfOk C) (g : Nat) (A : Option Addr) (n c : Nat) (E : List Ve) (w : World) (hX : CfX G D w g C A n c E) (hal : al < 18446744073709551616) : Calls Tryd.prog 30 #[.pointer (some ⟨g, 0, none⟩), .agg (opC k v b e six ah al pt pr wy B m d).toArray] w (RetCf G D w g (bif (numB b && adG six ah al) then { C with bk := C.bk.set b.toNat (some (six, ah, al)) } else C) (.int .i64 (bif (numB b && adG six ah al) then 0 else 1))) := by
 obtain ⟨da1, va1, va2⟩ := rowAdC
 obtain ⟨do1, vo1, vo2⟩ := rowOpC
 have hk := hC.key
 have hb := hC.bl
 have HA := Lib.hid (fun w => adrRightC six ah al w hal)
 by_cases h1 : b < 1
 ·have hq : (numB b && adG six ah al) = false := by unfold numB; rw [decide_eq_false (by omega)]; rfl
  rw [hq]
  obtain ⟨bo, be, zV⟩ := box1 w 45 (opC k v b e six ah al pt pr wy B m d)
  go_enter Tryd.func30, Tryd.ntmps30
  go_upto_region 1 with (fail)
  generalize w.alloc (.cells (opC k v b e six ah al pt pr wy B m d).toArray 45) = V at *
  replace hX := hX.later be
  refine wp_region_lit ?_
  refine wpList_plain rfl (fun K hK => ?_); go_simp; with_reducible refine hK _ _ ?_; clear hK K
  refine wpList_ld1 (t := 45) (cs := opC k v b e six ah al pt pr wy B m d) 3 (.tmp 5) rfl (by rfl) rfl (bo) rfl Tryd.underlying3 rfl ?_
  iterate 2 (refine wpList_plain rfl (fun K hK => ?_); go_simp; with_reducible refine hK _ _ ?_; clear hK K)
  iterate 3 ((with_reducible refine wpList_skip ?_ ?_); (· first | (go_simp; done) | (go_simp; intro h; cases h)); simp only [Act.put, qsT, qsZ, qsS])
  iterate 2 (refine wpList_plain rfl (fun K hK => ?_); go_simp; with_reducible refine hK _ _ ?_; clear hK K)
  iterate 4 ((with_reducible refine wpList_skip ?_ ?_); (· first | (go_simp; done) | (go_simp; intro h; cases h)); simp only [Act.put, qsT, qsZ, qsS])
  refine wpList_plain rfl (fun K hK => ?_); go_simp; with_reducible refine hK _ _ ?_; clear hK K
  go_wp2
  go_ret
  exact ⟨rfl, G, D, ⟨A, n, c, E, hX⟩, Grow.refl _ _ _, Chg.of_below be⟩
 ·by_cases h2 : 64 < b
  ·have hq : (numB b && adG six ah al) = false := by unfold numB; rw [decide_eq_false (show ¬ b ≤ 64 by omega)]; simp
   rw [hq]
   obtain ⟨bo, be, zV⟩ := box1 w 45 (opC k v b e six ah al pt pr wy B m d)
   go_enter Tryd.func30, Tryd.ntmps30
   go_upto_region 1 with (fail)
   generalize w.alloc (.cells (opC k v b e six ah al pt pr wy B m d).toArray 45) = V at *
   replace hX := hX.later be
   refine wp_region_lit ?_
   refine wpList_plain rfl (fun K hK => ?_); go_simp; with_reducible refine hK _ _ ?_; clear hK K
   refine wpList_ld1 (t := 45) (cs := opC k v b e six ah al pt pr wy B m d) 3 (.tmp 5) rfl (by rfl) rfl (bo) rfl Tryd.underlying3 rfl ?_
   iterate 2 (refine wpList_plain rfl (fun K hK => ?_); go_simp; with_reducible refine hK _ _ ?_; clear hK K)
   refine wpList_step (fun K hK => ?_); go_simp; with_reducible refine hK _ _ ?_; clear hK K
   refine wpList_ld1 (t := 45) (cs := opC k v b e six ah al pt pr wy B m d) 3 (.tmp 9) rfl (by go_simp) rfl (bo) rfl Tryd.underlying3 rfl ?_
   refine wpList_step (fun K hK => ?_); go_simp; with_reducible refine hK _ _ ?_; clear hK K
   iterate 2 (refine wpList_plain rfl (fun K hK => ?_); go_simp; with_reducible refine hK _ _ ?_; clear hK K)
   iterate 4 ((with_reducible refine wpList_skip ?_ ?_); (· first | (go_simp; done) | (go_simp; intro h; cases h)); simp only [Act.put, qsT, qsZ, qsS])
   refine wpList_plain rfl (fun K hK => ?_); go_simp; with_reducible refine hK _ _ ?_; clear hK K
   go_wp2
   go_ret
   exact ⟨rfl, G, D, ⟨A, n, c, E, hX⟩, Grow.refl _ _ _, Chg.of_below be⟩
  ·have hnb : numB b = true := by unfold numB; rw [decide_eq_true (by omega), decide_eq_true (by omega)]; rfl
   rw [hnb, Bool.true_and]
   obtain ⟨i, rfl⟩ : ∃ i : Nat, b = i := ⟨b.toNat, by omega⟩
   have i65 : (i : Int) < 65 := by omega
   clear hnb
   cases hg : adG six ah al
   ·rw [hg] at HA
    clear hg
    obtain ⟨bo, be, zV⟩ := box1 w 45 (opC k v (i : Int) e six ah al pt pr wy B m d)
    go_enter Tryd.func30, Tryd.ntmps30
    go_upto_region 1 with (fail)
    generalize w.alloc (.cells (opC k v (i : Int) e six ah al pt pr wy B m d).toArray 45) = V at *
    replace hX := hX.later be
    refine wp_region_lit ?_
    refine wpList_plain rfl (fun K hK => ?_); go_simp; with_reducible refine hK _ _ ?_; clear hK K
    refine wpList_ld1 (t := 45) (cs := opC k v (i : Int) e six ah al pt pr wy B m d) 3 (.tmp 5) rfl (by rfl) rfl (bo) rfl Tryd.underlying3 rfl ?_
    iterate 2 (refine wpList_plain rfl (fun K hK => ?_); go_simp; with_reducible refine hK _ _ ?_; clear hK K)
    refine wpList_step (fun K hK => ?_); go_simp; with_reducible refine hK _ _ ?_; clear hK K
    refine wpList_ld1 (t := 45) (cs := opC k v (i : Int) e six ah al pt pr wy B m d) 3 (.tmp 9) rfl (by go_simp) rfl (bo) rfl Tryd.underlying3 rfl ?_
    refine wpList_step (fun K hK => ?_); go_simp; with_reducible refine hK _ _ ?_; clear hK K
    iterate 2 (refine wpList_plain rfl (fun K hK => ?_); go_simp; with_reducible refine hK _ _ ?_; clear hK K)
    refine wpList_step (fun K hK => ?_); go_simp; with_reducible refine hK _ _ ?_; clear hK K
    refine wpList_ldG (t := 45) (cs := opC k v (i : Int) e six ah al pt pr wy B m d) 32 (.tmp 14) rfl (by go_simp) (adC six ah al) rfl (bo) rfl va1 va2 (szAd _ _ _) ?_
    refine wpList_step (fun K hK => ?_)
    go_simp
    refine (HA.out _).mono ?_
    rintro e w1 ⟨bs1, d1, rfl, rfl⟩
    with_reducible refine hK _ _ ?_
    clear hK K
    have hb1 := below_plus V bs1 d1
    replace hX := hX.later hb1
    replace bo := bo.later hb1
    replace be := be.trans (hb1.mono be.size)
    clear hb1
    generalize plus V bs1 d1 = V1 at *
    refine wpList_step (fun K hK => ?_); go_simp; with_reducible refine hK _ _ ?_; clear hK K
    refine wpList_plain rfl (fun K hK => ?_); go_simp; with_reducible refine hK _ _ ?_; clear hK K
    go_wp2
    go_ret
    exact ⟨rfl, G, D, ⟨A, n, c, E, hX⟩, Grow.refl _ _ _, Chg.of_below be⟩
   ·rw [hg] at HA
    clear hg
    obtain ⟨bo, be, zV⟩ := box1 w 45 (opC k v (i : Int) e six ah al pt pr wy B m d)
    go_enter Tryd.func30, Tryd.ntmps30
    go_upto_region 1 with (fail)
    generalize w.alloc (.cells (opC k v (i : Int) e six ah al pt pr wy B m d).toArray 45) = V at *
    replace hX := hX.later be
    refine wp_region_lit ?_
    refine wpList_plain rfl (fun K hK => ?_); go_simp; with_reducible refine hK _ _ ?_; clear hK K
    refine wpList_ld1 (t := 45) (cs := opC k v (i : Int) e six ah al pt pr wy B m d) 3 (.tmp 5) rfl (by rfl) rfl (bo) rfl Tryd.underlying3 rfl ?_
    iterate 2 (refine wpList_plain rfl (fun K hK => ?_); go_simp; with_reducible refine hK _ _ ?_; clear hK K)
    refine wpList_step (fun K hK => ?_); go_simp; with_reducible refine hK _ _ ?_; clear hK K
    refine wpList_ld1 (t := 45) (cs := opC k v (i : Int) e six ah al pt pr wy B m d) 3 (.tmp 9) rfl (by go_simp) rfl (bo) rfl Tryd.underlying3 rfl ?_
    refine wpList_step (fun K hK => ?_); go_simp; with_reducible refine hK _ _ ?_; clear hK K
    iterate 2 (refine wpList_plain rfl (fun K hK => ?_); go_simp; with_reducible refine hK _ _ ?_; clear hK K)
    refine wpList_step (fun K hK => ?_); go_simp; with_reducible refine hK _ _ ?_; clear hK K
    refine wpList_ldG (t := 45) (cs := opC k v (i : Int) e six ah al pt pr wy B m d) 32 (.tmp 14) rfl (by go_simp) (adC six ah al) rfl (bo) rfl va1 va2 (szAd _ _ _) ?_
    refine wpList_step (fun K hK => ?_)
    go_simp
    refine (HA.out _).mono ?_
    rintro e w1 ⟨bs1, d1, rfl, rfl⟩
    with_reducible refine hK _ _ ?_
    clear hK K
    have hb1 := below_plus V bs1 d1
    replace hX := hX.later hb1
    replace bo := bo.later hb1
    replace be := be.trans (hb1.mono be.size)
    clear hb1
    generalize plus V bs1 d1 = V1 at *
    refine wpList_step (fun K hK => ?_); go_simp; with_reducible refine hK _ _ ?_; clear hK K
    refine wpList_plain rfl (fun K hK => ?_); go_simp; with_reducible refine hK _ _ ?_; clear hK K
    go_upto_region 3 with (fail)
    refine wp_relS 9 28 rfl (by kernel_rfl) (by kernel_rfl) ?_
    apply Steps.o1 (MP.eq _) 1 rfl rfl
    ·intro FA x hO hD K hK
     have e0 := hO 0 (by kernel_rfl)
     simp only [eval_tmp, qgT, qgS, qgZ, qoS] at e0
     have ev0 := Lib.hid ((eval_tmp FA 0).trans e0)
     clear hO hD
     go_simp
     exact hK.out _ _ (Ex.refl _) rfl
    apply Steps.o1 (MP.eq _) 2 rfl rfl
    ·intro FA x hO hD K hK
     have e3 := hO 3 (by kernel_rfl)
     simp only [eval_tmp, qgT, qgS, qgZ, qoS] at e3
     have ev3 := Lib.hid ((eval_tmp FA 3).trans e3)
     clear hO hD
     go_simp
     exact hK.out _ _ (Ex.refl _) rfl
    apply Steps.o1 (MP.eq _) 3 rfl rfl
    ·intro FA x hO hD K hK
     obtain ⟨e20, ev20⟩ := qE (hD 1 20 (by kernel_rfl))
     clear hO hD
     refine wanted_if rfl ?_
     refine wp_ld1 3 (.tmp 20) rfl ev20.out (bo.later (below_plus _ _ _)) rfl Tryd.underlying3 rfl ?_
     exact hK.out _ _ (Ex.refl _) rfl
    apply Steps.o1 (MP.eq _) 4 rfl rfl
    ·intro FA x hO hD K hK
     have e3 := hO 3 (by kernel_rfl)
     simp only [eval_tmp, qgT, qgS, qgZ, qoS] at e3
     have ev3 := Lib.hid ((eval_tmp FA 3).trans e3)
     clear hO hD
     go_simp
     exact hK.out _ _ (Ex.refl _) rfl
    apply Steps.o1 (MP.eq _) 5 rfl rfl
    ·intro FA x hO hD K hK
     obtain ⟨e22, ev22⟩ := qE (hD 3 22 (by kernel_rfl))
     clear hO hD
     refine wanted_if rfl ?_
     refine wp_ldA 32 (.tmp 22) rfl (adC six ah al) ev22.out (bo.later (below_plus _ _ _)) rfl va1 va2 (szAd _ _ _) ?_
     exact hK.out _ _ (Ex.refl _) rfl
    apply Steps.o1 (MP.eq _) 6 rfl rfl
    ·intro FA x hO hD K hK
     obtain ⟨e23, ev23⟩ := qE (hD 4 23 (by kernel_rfl))
     clear hO hD
     refine wanted_if rfl ?_
     refine wp_buildV 81 [(0, .tmp 23), (1, .const (.bool true))] rfl (.agg (bkC (some (six, ah, al))).toArray) (by simp only [List.map_cons, List.map_nil, ev23.out]; exact run_buildKn six ah al _) ?_
     exact hK.out _ _ (Ex.refl _) rfl
    apply Steps.o1 (MP.eq _) 7 rfl rfl
    ·intro FA x hO hD K hK
     obtain ⟨e19, ev19⟩ := qE (hD 0 19 (by kernel_rfl))
     clear hO hD
     go_simp
     exact hK.out _ _ (Ex.refl _) rfl
    apply Steps.o1 (MP.eq _) 8 rfl rfl
    ·intro FA x hO hD K hK
     obtain ⟨e25, ev25⟩ := qE (hD 6 25 (by kernel_rfl))
     clear hO hD
     go_simp
     exact hK.out _ _ (Ex.refl _) rfl
    apply Steps.o1 (MP.eq _) 9 rfl rfl
    ·intro FA x hO hD K hK
     obtain ⟨e26, ev26⟩ := qE (hD 7 26 (by kernel_rfl))
     obtain ⟨e21, ev21⟩ := qE (hD 2 21 (by kernel_rfl))
     clear hO hD
     go_simp
     exact hK.out _ _ (Ex.refl _) rfl
    refine Steps.fin_ (fun vs x hp => ?_)
    have p0 : vs 0 = _ := hp 0 (by omega)
    have p1 : vs 1 = _ := hp 1 (by omega)
    have p2 : vs 2 = _ := hp 2 (by omega)
    have p3 : vs 3 = _ := hp 3 (by omega)
    have p4 : vs 4 = _ := hp 4 (by omega)
    have p5 : vs 5 = _ := hp 5 (by omega)
    have p6 : vs 6 = _ := hp 6 (by omega)
    have p7 : vs 7 = _ := hp 7 (by omega)
    have p8 : vs 8 = _ := hp 8 (by omega)
    clear hp
    simp only [List.take_succ_cons, List.take_zero, List.drop_succ_cons, List.drop_zero, putAll, Nat.zero_add, Nat.reduceAdd, Act.put, qsT, qsZ, qsS, p0, p1, p2, p3, p4, p5, p6, p7, p8]
    clear p0 p1 p2 p3 p4 p5 p6 p7 p8
    clear vs
    have hb3 := below_plus V1 x.bs x.d
    replace hX := hX.later hb3
    replace be := be.trans (hb3.mono be.size)
    clear hb3
    generalize plus V1 x.bs x.d = V2 at *
    refine wpList_stM (t := 85) (off := 18 + i * 4) 81 (.tmp 27) (.tmp 24) rfl rfl (bkC (some (six, ah, al))) (stC C A n c) (by rw [stC_len C hk hb, bkC_len]; omega) (bkC_one _) rfl rfl hX.st (by kernel_rfl) ?_
    intro W4 h4 g4
    simp only [Act.put, qsT, qsZ, qsS]
    replace hX := hX.setSt (C' := { C with bk := C.bk.set i (some (six, ah, al)) }) rfl (by rw [← stC_setBk C hk hb A n c i (by omega)]; exact h4) g4
    go_wp2
    go_ret
    exact ⟨rfl, G, D, ⟨A, n, c, E, hX⟩, Grow.refl _ _ _, (Chg.of_below be).trans (Chg.one g4 hX.dg)⟩
def senC (q : List Int) : List Value := (List.range 65).map fun k : Nat => .bool (decide ((k : Int) ∈ q))
theorem senC_len (q : List Int) : (senC q).length = 65 := by simp [senC]
theorem senC_at (q : List Int) (k : Nat) (h : k < 65) : (senC q)[k]? = some (.bool (decide ((k : Int) ∈ q))) := by simp [senC, h]
theorem senC_set (q : List Int) (k : Nat) (h : k < 65) : (senC q).set k (.bool true) = senC (q ++ [(k : Int)]) := by
 apply List.ext_getElem?
 intro i
 by_cases hi : i < 65
 ·rw [senC_at _ _ hi, List.getElem?_set]
  split
  ·next e => subst e; rw [if_pos (by rw [senC_len]; exact hi)]; simp
  ·next e =>
   rw [senC_at _ _ hi]
   have : (i : Int) ≠ (k : Int) := by omega
   simp [this]
 ·rw [List.getElem?_eq_none (by rw [List.length_set, senC_len]; omega), List.getElem?_eq_none (by rw [senC_len]; omega)]
theorem okM_snoc (C : Cf) (l : List (Int × Int)) (p : Int × Int) : okM C (l ++ [p]) = (okM C l && (knC C p.1 && (!decide (p.1 ∈ l.map (·.1)) && wtB p.2))) := by
 rw [Bool.eq_iff_iff]
 simp only [okM, Bool.and_eq_true, decide_eq_true_eq, List.all_append, List.all_cons, List.all_nil, List.map_append, List.map_cons, List.map_nil, List.nodup_append, Bool.not_eq_true', decide_eq_false_iff_not]
 constructor
 ·rintro ⟨⟨h1, h2, _⟩, h3, h4, h5⟩
  exact ⟨⟨h1, h3⟩, h2.1, fun hm => h5 _ hm _ (by simp) rfl, h2.2⟩
 ·rintro ⟨⟨h1, h3⟩, h2, h5, h6⟩
  refine ⟨⟨h1, ⟨h2, h6⟩, trivial⟩, h3, by simp, fun a ha b hb e => ?_⟩
  simp at hb
  subst hb e
  exact h5 ha
theorem okM_take {C : Cf} {l : List (Int × Int)} (h : okM C l = true) (j : Nat) : okM C (l.take j) = true := by
 simp only [okM, Bool.and_eq_true, List.all_eq_true, decide_eq_true_eq] at h ⊢
 refine ⟨fun p hp => h.1 p (List.mem_of_mem_take hp), ?_⟩
 rw [List.map_take]
 exact h.2.sublist (List.take_sublist _ _)
theorem okM_bad {C : Cf} {l : List (Int × Int)} {j : Nat} (h : okM C (l.take j) = false) : okM C l = false := by
 cases hl : okM C l
 ·rfl
 ·rw [okM_take hl] at h; cases h
theorem szMb (x y : Int) : (Tryd.prog.info? 68).map (·.size) = some ([Value.int .i64 x, .int .i64 y]).length := by kernel_rfl
theorem rowMb : ∃ d, Tryd.prog.underlying 68 = some d ∧ d.isRow = true := ⟨_, Tryd.underlying68, rfl⟩
theorem fit_any (ms : List (Int × Int)) (B : Option Addr) (m d : Nat) (C : Cf) (hC : CfOk C) (g : Nat) (A : Option Addr) (n c : Nat) (w : World) (hS : Bk w g 85 (stC C A n c)) (hr : Rs 2 w B m d (prs .i64 ms)) (hm : m ≤ 1000000) : Calls Tryd.prog 21 #[.pointer (some ⟨g, 0, none⟩), .slice B m d] w (RetV w (.bool (okM C ms))) := by
 obtain ⟨dm, m1, m2⟩ := rowMb
 have hml : ms.length = m := by have := hr.1; rw [prs_length] at this; omega
 have HB := Lib.hid (fun x w h => backend_any C hC.key hC.bl A n c g x w h)
 by_cases h64 : 64 < m
 ·have i64 : (64 : Int) < (m : Int) := by omega
  have HBAD := Lib.hid (show okM C ms = false by
   cases hl : okM C ms
   ·rfl
   ·have := okM_len hl; omega)
  go_enter Tryd.func21, Tryd.ntmps21
  go_wp2
  go_ret
  exact RetV.is_ (by rw [HBAD.out]; rfl) (Below.refl _ _)
 ·have i64 : ¬ (64 : Int) < (m : Int) := by omega
  have hzv : ∀ w, (zeroValue 34).run Tryd.prog w = .ok (.agg (senC []).toArray) w := fun _ => by kernel_rfl
  go_enter Tryd.func21, Tryd.ntmps21
  go_upto_region 4 with (fail)
  have hk : Bk (w.alloc (.cells (senC []).toArray 34)) w.heap.size 34 (senC []) := Bk.new _ _ _
  have be : Below w.heap.size w (w.alloc (.cells (senC []).toArray 34)) := Below.allocS (Below.refl _ _) _
  generalize w.alloc (.cells (senC []).toArray 34) = V at *
  clear hzv
  go_upto_region 5 with (fail)
  have HK := Lib.hid hk
  have HE := Lib.hid be
  clear hk be
  go_loopw [15] (fun I wr => ∃ j : Nat, I = .int .i64 (j : Int) ∧ j ≤ m ∧ okM C (ms.take j) = true ∧ Bk wr w.heap.size 34 (senC ((ms.take j).map (·.1))) ∧ Below w.heap.size w wr) (fun I _ => m - (intOf I).toNat)
  case atStart => exact ⟨0, rfl, Nat.zero_le _, rfl, HK.out, HE.out⟩
  case round =>
   clear HE HK
   obtain ⟨j, rfl, hj, hok, hk, hE⟩ := hrel
   have HOK := Lib.hid hok
   clear hok
   by_cases hlt : j < m
   ·have ij : (j : Int) < (m : Int) := by omega
    have hjL : j < ms.length := by omega
    obtain ⟨bl, ol, rfl, hbl, -⟩ := (hr.later hE).at_ (by omega) (by decide)
    have hg7 := rng_pr ((hr.later hE).range2 j hjL)
    have hsn : ms.take (j + 1) = ms.take j ++ [ms[j]] := by simp
    generalize ms[j] = p at *
    obtain ⟨x, y⟩ := p
    have HSN := Lib.hid hsn
    have HO2 := Lib.hid ((congrArg (okM C) hsn).trans (okM_snoc C (ms.take j) (x, y)))
    clear hsn
    go_upto_region 7 with (first
     | (refine at_op (.load 68 (.tmp 17)) rfl ?_; refine wpList_load_mid rfl 68 (.tmp 17) rfl bl (ol + j * 2) rfl [.int .i64 x, .int .i64 y] _ hg7 m1 m2 (szMb _ _) ?_)
     | (refine at_op (.store 68 (.tmp 7) (.tmp 18)) rfl ?_; refine wpList_stA (t := 68) 68 (.tmp 7) (.tmp 18) rfl rfl [.int .i64 x, .int .i64 y] [.int .i64 0, .int .i64 0] rfl (by simp [Value.oneCell']) rfl rfl (Bk.new _ _ _) (szMb _ _) ?_; intro W4 h4 g4))
    have be4 : Below wr.heap.size wr W4 := below_grown (Below.allocS (Below.refl _ _) _) g4 (Nat.le_refl _)
    have q0 : W4.cell? ⟨wr.heap.size, 0, none⟩ = some (.int .i64 x) := h4.cell 0
    have q1 : W4.cell? ⟨wr.heap.size, 1, none⟩ = some (.int .i64 y) := h4.cell 1
    have hgm : wr.heap.size < W4.heap.size := h4.lt
    have hwg : w.heap.size ≤ wr.heap.size := hE.size
    replace hE := hE.trans (be4.mono hE.size)
    replace hk := hk.later be4
    have hS4 := hS.later hE
    clear be4 h4 g4 hg7
    generalize wr.heap.size = gm at *
    refine wp_region_lit ?_
    iterate 3 (refine wpList_plain rfl (fun K hK => ?_); go_simp; with_reducible refine hK _ _ ?_; clear hK K)
    refine wpList_plain rfl (fun K hK => ?_)
    go_simp
    refine (HB.out x _ hS4).mono ?_
    rintro e w1 ⟨bs1, d1, rfl, rfl⟩
    with_reducible refine hK _ _ ?_
    clear hK K
    have hb1 := below_plus W4 bs1 d1
    replace hk := hk.later hb1
    replace hE := hE.trans (hb1.mono hE.size)
    have q0 := (hb1.cell (p := ⟨gm, 0, none⟩) hgm).trans q0
    have q1 := (hb1.cell (p := ⟨gm, 1, none⟩) hgm).trans q1
    have zgm := Nat.lt_of_lt_of_le hgm hb1.size
    clear hb1
    generalize plus W4 bs1 d1 = W5 at *
    iterate 4 (refine wpList_plain rfl (fun K hK => ?_); go_simp; with_reducible refine hK _ _ ?_; clear hK K)
    refine wpList_stA (t := 32) 32 (.tmp 8) (.tmp 24) rfl rfl (adC (bkA C x).1 (bkA C x).2.1 (bkA C x).2.2) (adC false 0 0) rfl (by simp [adC, Value.oneCell']) rfl rfl (Bk.new _ _ _) (szAd _ _ _) ?_
    intro W6 h6 g6
    refine wpList_plain rfl (fun K hK => ?_); go_simp; with_reducible refine hK _ _ ?_; clear hK K
    have be6 : Below W5.heap.size W5 W6 := below_grown (Below.allocS (Below.refl _ _) _) g6 (Nat.le_refl _)
    replace q0 := (be6.cell (p := ⟨gm, 0, none⟩) zgm).trans q0
    replace q1 := (be6.cell (p := ⟨gm, 1, none⟩) zgm).trans q1
    replace hE := hE.trans (be6.mono hE.size)
    replace hk := hk.later be6
    have hW := Lib.hid hE
    clear be6 h6 g6 hS4
    cases hkn : knC C x with
    | false =>
     have HBAD := Lib.hid (okM_bad (j := j + 1) (by rw [HO2.out]; simp [hkn]))
     replace hW := hW.out
     clear HOK hkn
     go_wp2
     go_ret
     exact RetV.is_ (by rw [HBAD.out]; rfl) hW
    | true =>
     have hrg := knC_rg hkn
     obtain ⟨i, rfl⟩ : ∃ i : Nat, x = i := ⟨x.toNat, by omega⟩
     have i65 : (i : Int) < 65 := by omega
     have hseen := (hk.cell i).trans (senC_at _ i (by omega))
     have hfz := hk.frozen i
     cases hq : decide ((i : Int) ∈ (ms.take j).map (·.1)) with
     | true =>
      rw [hq] at hseen
      have HBAD := Lib.hid (okM_bad (j := j + 1) (by rw [HO2.out]; simp only [hq]; simp))
      replace hW := hW.out
      clear HOK hkn hq
      go_wp2
      go_ret
      exact RetV.is_ (by rw [HBAD.out]; rfl) hW
     | false =>
      rw [hq] at hseen
      by_cases h0 : y < 0
      ·have HBAD := Lib.hid (okM_bad (j := j + 1) (by rw [HO2.out]; unfold wtB; simp only [decide_eq_false (show ¬ 0 ≤ y by omega)]; simp))
       replace hW := hW.out
       clear HOK hkn hq
       go_wp2
       go_ret
       exact RetV.is_ (by rw [HBAD.out]; rfl) hW
      ·by_cases h100 : 100 < y
       ·have HBAD := Lib.hid (okM_bad (j := j + 1) (by rw [HO2.out]; unfold wtB; simp only [decide_eq_false (show ¬ y ≤ 100 by omega)]; simp))
        replace hW := hW.out
        clear HOK hkn hq
        go_wp2
        go_ret
        exact RetV.is_ (by rw [HBAD.out]; rfl) hW
       ·have HK2 := Lib.hid (show okM C (ms.take (j + 1)) = true by rw [HO2.out, HOK.out, hkn]; simp only [hq]; unfold wtB; simp only [decide_eq_true (show 0 ≤ y by omega), decide_eq_true (show y ≤ 100 by omega)]; rfl)
        have e := hk.set_ i (.bool true)
        rw [senC_set _ i (by omega)] at e
        have HS2 := Lib.hid (show Bk (W6.setCell ⟨w.heap.size, i, none⟩ (.bool true)) w.heap.size 34 (senC ((ms.take (j + 1)).map (·.1))) by rw [HSN.out, List.map_append]; exact e)
        have hb2 : w.heap.size ≤ w.heap.size := Nat.le_refl _
        have hne : gm ≠ w.heap.size ∨ True := Or.inr trivial
        replace hW := hW.out
        clear e hkn hq
        go_wp2
        exact ⟨⟨j + 1, by go_num, by omega, HK2.out, HS2.out, hW.setCell hb2 _⟩, by simp [intOf]; omega⟩
   ·obtain rfl : j = m := by omega
    have ij : ¬ (j : Int) < (j : Int) := by omega
    have HGOOD := Lib.hid (show okM C ms = true by have := HOK.out; rwa [List.take_of_length_le (by omega)] at this)
    clear HOK
    go_wp2
    go_ret
    exact RetV.is_ (by rw [HGOOD.out]; rfl) hE
end

section
open Go.RowKit Go.Lib
def adF (a : Adr) : List Value := adC a.1 a.2.1 a.2.2
theorem adF_len (a : Adr) : (adF a).length = 3 := rfl
def adZ (o : Option Adr) : Adr := o.getD (false, 0, 0)
def rcL (num : Nat) (key : List UInt8) (now : Nat) (al : List Adr) (bs : List Bool) (A : Option Addr) (n c : Nat) : List Value := .int .u64 (num : Int) :: (ringC key now ++ (al.flatMap adF ++ (bs.map Value.bool ++ [.slice A n c])))
def rcC (C : Cf) (A : Option Addr) (n c : Nat) : List Value := rcL C.num C.key C.now (C.bk.map adZ) (C.bk.map Option.isSome) A n c
section
variable (num : Nat) (key : List UInt8) (now : Nat) (al : List Adr) (bs : List Bool) (A : Option Addr) (n c : Nat)
theorem rcL_len (hk : key.length = 16) (ha : al.length = 65) (hb : bs.length = 65) : (rcL num key now al bs A n c).length = 279 := by
 simp [rcL, ringC, bcs_length, hk, flat_len adF 3 adF_len, ha, hb]
theorem rcL_one : ∀ u ∈ rcL num key now al bs A n c, u.oneCell' = true := by
 intro u hu
 unfold rcL at hu
 rcases List.mem_cons.1 hu with rfl | hu
 ·rfl
 rcases List.mem_append.1 hu with hu | hu
 ·exact ringC_one _ _ u hu
 rcases List.mem_append.1 hu with hu | hu
 ·obtain ⟨a, _, ha⟩ := List.mem_flatMap.1 hu
  simp [adF, adC] at ha
  rcases ha with rfl | rfl | rfl <;> rfl
 rcases List.mem_append.1 hu with hu | hu
 ·obtain ⟨b, _, rfl⟩ := List.mem_map.1 hu
  rfl
 ·simp at hu
  subst hu
  rfl
theorem rcL_now (hk : key.length = 16) : (rcL num key now al bs A n c)[17]? = some (.int .u64 (now : Int)) := by
 unfold rcL
 rw [List.getElem?_cons_succ, List.getElem?_append_left (by simp [ringC, bcs_length, hk])]
 exact ringC_16 key hk now
theorem rcL_setNow (hk : key.length = 16) (m : Nat) : (rcL num key now al bs A n c).set 17 (.int .u64 (m : Int)) = rcL num key m al bs A n c := by
 unfold rcL
 rw [List.set_cons_succ, List.set_append_left _ _ (by simp [ringC, bcs_length, hk])]
 congr 2
 unfold ringC
 rw [List.set_append_right _ _ (by simp [bcs_length, hk])]
 simp [bcs_length, hk]
theorem rcL_vips (hk : key.length = 16) (ha : al.length = 65) (hb : bs.length = 65) : (rcL num key now al bs A n c)[278]? = some (.slice A n c) := by
 unfold rcL
 rw [List.getElem?_cons_succ, List.getElem?_append_right (by simp [ringC, bcs_length, hk]), List.getElem?_append_right (by simp [ringC, bcs_length, hk, flat_len adF 3 adF_len, ha]), List.getElem?_append_right (by simp [ringC, bcs_length, hk, flat_len adF 3 adF_len, ha, hb])]
 simp [ringC, bcs_length, hk, flat_len adF 3 adF_len, ha, hb]
theorem rcL_setVips (hk : key.length = 16) (ha : al.length = 65) (hb : bs.length = 65) (A' : Option Addr) (n' c' : Nat) : (rcL num key now al bs A n c).set 278 (.slice A' n' c') = rcL num key now al bs A' n' c' := by
 unfold rcL
 rw [List.set_cons_succ, List.set_append_right _ _ (by simp [ringC, bcs_length, hk]), List.set_append_right _ _ (by simp [ringC, bcs_length, hk, flat_len adF 3 adF_len, ha]), List.set_append_right _ _ (by simp [ringC, bcs_length, hk, flat_len adF 3 adF_len, ha, hb])]
 simp [ringC, bcs_length, hk, flat_len adF 3 adF_len, ha, hb]
theorem rcL_bool (hk : key.length = 16) (ha : al.length = 65) (hb : bs.length = 65) (i : Nat) (hi : i < 65) : (rcL num key now al bs A n c)[213 + i]? = some (.bool (bs.getD i false)) := by
 unfold rcL
 rw [show 213 + i = (212 + i) + 1 by omega, List.getElem?_cons_succ, List.getElem?_append_right (by simp [ringC, bcs_length, hk]; omega), List.getElem?_append_right (by simp [ringC, bcs_length, hk, flat_len adF 3 adF_len, ha]; omega), List.getElem?_append_left (by simp [ringC, bcs_length, hk, flat_len adF 3 adF_len, ha, hb]; omega)]
 have e : 212 + i - (ringC key now).length - (al.flatMap adF).length = i := by simp [ringC, bcs_length, hk, flat_len adF 3 adF_len, ha]; omega
 rw [e, List.getElem?_map, List.getElem?_eq_getElem (by omega), List.getD_eq_getElem?_getD, List.getElem?_eq_getElem (by omega)]
 rfl
theorem rcL_setBool (hk : key.length = 16) (ha : al.length = 65) (hb : bs.length = 65) (i : Nat) (hi : i < 65) (b : Bool) : (rcL num key now al bs A n c).set (213 + i) (.bool b) = rcL num key now al (bs.set i b) A n c := by
 unfold rcL
 rw [show 213 + i = (212 + i) + 1 by omega, List.set_cons_succ, List.set_append_right _ _ (by simp [ringC, bcs_length, hk]; omega), List.set_append_right _ _ (by simp [ringC, bcs_length, hk, flat_len adF 3 adF_len, ha]; omega), List.set_append_left _ _ (by simp [ringC, bcs_length, hk, flat_len adF 3 adF_len, ha, hb]; omega)]
 have e : 212 + i - (ringC key now).length - (al.flatMap adF).length = i := by simp [ringC, bcs_length, hk, flat_len adF 3 adF_len, ha]; omega
 rw [e, List.map_set]
theorem rcL_setAd (hk : key.length = 16) (ha : al.length = 65) (i : Nat) (hi : i < 65) (a : Adr) : splice (rcL num key now al bs A n c) (18 + i * 3) (adF a) = rcL num key now (al.set i a) bs A n c := by
 unfold rcL
 rw [show 18 + i * 3 = 1 + (17 + i * 3) by omega, splice_cons]
 congr 1
 have hr : (ringC key now).length = 17 := by simp [ringC, bcs_length, hk]
 have hf := flat_len adF 3 adF_len al
 have e : splice (ringC key now ++ (al.flatMap adF ++ (bs.map Value.bool ++ [.slice A n c]))) (17 + i * 3) (adF a) = ringC key now ++ splice (al.flatMap adF ++ (bs.map Value.bool ++ [.slice A n c])) (i * 3) (adF a) := by
  unfold splice
  rw [← hr, List.take_length_add_append, List.append_assoc]
  congr 3
  rw [Nat.add_assoc, List.drop_length_add_append]
 rw [e, splice_app _ _ _ _ (by rw [adF_len, hf]; omega), flat_splice adF 3 adF_len _ _ (by omega)]
end
structure Rx where
 A : Option Addr
 n : Nat
 c : Nat
 B : Option Addr
 m : Nat
 d : Nat
abbrev Re := Vp × Rx
def rvC (x : Re) : List Value := adF x.1.ad ++ ([.int .u16 (x.1.pt : Int), .int .u8 (x.1.pr : Int), .int .i64 x.1.wy, .slice x.2.A x.2.n x.2.c] ++ rstC x.2.B x.2.m x.2.d x.1.S)
theorem rvC_len (x : Re) : (rvC x).length = 81 := by simp [rvC, adF_len, rstC_len]
theorem rvC_one (x : Re) : ∀ u ∈ rvC x, u.oneCell' = true := by
 intro u hu
 unfold rvC at hu
 rcases List.mem_append.1 hu with hu | hu
 ·simp [adF, adC] at hu
  rcases hu with rfl | rfl | rfl <;> rfl
 rcases List.mem_append.1 hu with hu | hu
 ·simp at hu
  rcases hu with rfl | rfl | rfl | rfl <;> rfl
 ·exact rstC_one _ _ _ _ u hu
structure RcX (G : Nat → Prop) (w : World) (C : Cf) (A : Option Addr) (n c : Nat) (E : List Re) : Prop where
 vs : E.map (·.1) = C.vs
 row : Rs 81 w A n c (E.flatMap rvC)
 off : Off G w A
 mm : ∀ x ∈ E, Rs 2 w x.2.A x.2.n x.2.c (prs .i64 x.1.ms)
 mo : ∀ x ∈ E, Off G w x.2.A
 ss : ∀ x ∈ E, RSt G w x.1.S.lv x.2.B x.2.m x.2.d
section
variable {G : Nat → Prop} {w w' : World} {C : Cf} {A : Option Addr} {n c : Nat} {E : List Re}
theorem RcX.len (h : RcX G w C A n c E) : E.length = C.vs.length := by rw [← h.vs]; simp
theorem RcX.n_ (h : RcX G w C A n c E) : n = C.vs.length := by
 have := h.row.1
 rw [flat_len rvC 81 rvC_len] at this
 have := h.len
 omega
theorem RcX.later (h : RcX G w C A n c E) (hb : Below w.heap.size w w') : RcX G w' C A n c E :=
 ⟨h.vs, h.row.later hb, h.off.size hb.size, fun x hx => (h.mm x hx).later hb, fun x hx => (h.mo x hx).size hb.size, fun x hx => (h.ss x hx).later hb⟩
theorem RcX.chg {D : Nat → Prop} (h : RcX G w C A n c E) (hc : Chg D w w') (hd : ∀ b, D b → G b) : RcX G w' C A n c E :=
 ⟨h.vs, h.row.chg hc (fun a ha hD => (h.off a ha).2 (hd _ hD)), h.off.size hc.size, fun x hx => (h.mm x hx).chg hc (fun a ha hD => (h.mo x hx a ha).2 (hd _ hD)), fun x hx => (h.mo x hx).size hc.size, fun x hx => (h.ss x hx).chg ⟨hc.os, hc.tape, hc.output, hc.size, fun b hb hn => hc.block b hb (fun hD => hn (hd b hD))⟩⟩
theorem RcX.more {G' : Nat → Prop} (h : RcX G w C A n c E) (hd : ∀ b, G' b → G b ∨ w.heap.size ≤ b) : RcX G' w C A n c E :=
 ⟨h.vs, h.row, h.off.more hd, h.mm, fun x hx => (h.mo x hx).more hd, fun x hx => (h.ss x hx).more hd⟩
end
end

section
open Go.Lib
open Go.RowKit
attribute [local go_sem ↓] sliced_cut
attribute [local go_sem] cutA_zero
theorem rowRcS : ∃ d, Tryd.prog.underlying 37 = some d ∧ d.isRow = true := ⟨_, Tryd.underlying37, rfl⟩
theorem szRcS (C : Cf) (hk : C.key.length = 16) (hb : C.bk.length = 65) (A : Option Addr) (n c : Nat) : (Tryd.prog.info? 37).map (·.size) = some (rcC C A n c).length := by rw [show (rcC C A n c).length = 279 from rcL_len _ _ _ _ _ _ _ _ hk (by simp [hb]) (by simp [hb])]; kernel_rfl
theorem rowRv : ∃ d, Tryd.prog.underlying 62 = some d ∧ d.isRow = true := ⟨_, Tryd.underlying62, rfl⟩
theorem szRv (x : Re) : (Tryd.prog.info? 62).map (·.size) = some (rvC x).length := by rw [rvC_len]; kernel_rfl
theorem rcC_vips (C : Cf) (hk : C.key.length = 16) (hb : C.bk.length = 65) (A : Option Addr) (n c : Nat) : (rcC C A n c)[278]? = some (.slice A n c) := rcL_vips _ _ _ _ _ _ _ _ hk (by simp [hb]) (by simp [hb])
theorem rcC_bool (C : Cf) (hk : C.key.length = 16) (hb : C.bk.length = 65) (A : Option Addr) (n c i : Nat) (h0 : 1 ≤ i) (h64 : i ≤ 64) : (rcC C A n c)[213 + i]? = some (.bool (knC C (i : Int))) := by
 have h := rcL_bool C.num C.key C.now (C.bk.map adZ) (C.bk.map Option.isSome) A n c hk (by simp [hb]) (by simp [hb]) i (by omega)
 have e : (C.bk.map Option.isSome).getD i false = knC C (i : Int) := by
  unfold knC
  rw [decide_eq_true (by omega), decide_eq_true (by omega), List.getD_eq_getElem?_getD, List.getElem?_map, Int.toNat_natCast, List.getD_eq_getElem?_getD]
  cases C.bk[i]? <;> rfl
 rw [← e]
 exact h
set_option maxHeartbeats 4000000 in
set_option maxRecDepth 100000 in
theorem refKnown_any (C : Cf) (hk : C.key.length = 16) (hb : C.bk.length = 65) (A : Option Addr) (n c : Nat) (v : Int) (w : World) : Calls Tryd.prog 12 #[.agg (rcC C A n c).toArray, .int .i64 v] w (RetV w (.bool (knC C v))) := by
 by_cases h1 : 1 ≤ v
 ·by_cases h2 : v ≤ 64
  ·obtain ⟨i, rfl⟩ : ∃ i : Nat, v = i := ⟨v.toNat, by omega⟩
   have i65 : (i : Int) < 65 := by omega
   obtain ⟨dvs1, vs1, vs2⟩ := rowRcS
   obtain ⟨bs, be, zV⟩ := box1 w 37 (rcC C A n c)
   go_enter Tryd.func12, Tryd.ntmps12
   go_upto_region 1 with (fail)
   generalize w.alloc (.cells (rcC C A n c).toArray 37) = V at *
   have q0 : V.cell? ⟨w.heap.size, 213 + i, none⟩ = some (.bool (knC C (i : Int))) := (bs.cell _).trans (rcC_bool C hk hb A n c i (by omega) (by omega))
   generalize knC C (i : Int) = kb at *
   clear bs
   go_wp2
   go_ret
   exact RetV.is_ rfl be
  ·have hh := Lib.hid (show knC C v = false by unfold knC; rw [decide_eq_false h2]; simp)
   obtain ⟨dvs1, vs1, vs2⟩ := rowRcS
   obtain ⟨bs, be, zV⟩ := box1 w 37 (rcC C A n c)
   go_enter Tryd.func12, Tryd.ntmps12
   go_upto_region 1 with (fail)
   generalize w.alloc (.cells (rcC C A n c).toArray 37) = V at *
   clear bs
   go_wp2
   go_ret
   rw [hh.out]
   exact RetV.is_ rfl be
 ·have hh := Lib.hid (show knC C v = false by unfold knC; rw [decide_eq_false h1]; rfl)
  obtain ⟨dvs1, vs1, vs2⟩ := rowRcS
  obtain ⟨bs, be, zV⟩ := box1 w 37 (rcC C A n c)
  go_enter Tryd.func12, Tryd.ntmps12
  go_upto_region 1 with (fail)
  generalize w.alloc (.cells (rcC C A n c).toArray 37) = V at *
  clear bs
  go_wp2
  go_ret
  rw [hh.out]
  exact RetV.is_ rfl be
theorem rng_rv {w : World} {b o : Nat} {x : Re} (h : w.rangeAt b o (rvC x)) : w.rangeAt b o (adC x.1.ad.1 x.1.ad.2.1 x.1.ad.2.2) ∧ w.cell? ⟨b, o + 3, none⟩ = some (.int .u16 (x.1.pt : Int)) ∧ w.cell? ⟨b, o + 4, none⟩ = some (.int .u8 (x.1.pr : Int)) :=
 ⟨fun i u hu => h i u (by
  have hk3 := (List.getElem?_eq_some_iff.1 hu).1
  rw [← hu]
  match i, hk3 with
  | 0, _ => rfl
  | 1, _ => rfl
  | 2, _ => rfl), h 3 _ rfl, h 4 _ rfl⟩
section
attribute [local go_sem ↓] eqC_ad
set_option maxHeartbeats 4000000 in
set_option maxRecDepth 100000 in
theorem rcFind_any (C : Cf) (hk : C.key.length = 16) (hb : C.bk.length = 65) (A : Option Addr) (n c : Nat) (E : List Re) (hE0 : E.map (·.1) = C.vs) (six : Bool) (ah al : Nat) (pt pr : Nat) (w : World) (hr : Rs 81 w A n c (E.flatMap rvC)) (hn : n ≤ 1000) : Calls Tryd.prog 59 #[.agg (rcC C A n c).toArray, .agg (adC six ah al).toArray, .int .u16 (pt : Int), .int .u8 (pr : Int)] w (RetV w (.int .i64 (fdI C (six, ah, al) pt pr))) := by
 have hlE : E.length = C.vs.length := by rw [← hE0]; simp
 have hln : E.length = n := by have := hr.1; rw [flat_len rvC 81 rvC_len] at this; omega
 obtain ⟨dvs1, vs1, vs2⟩ := rowRcS
 obtain ⟨dva1, va1, va2⟩ := rowAdC
 obtain ⟨bs, ba, be, zV⟩ := box2 w 37 32 (rcC C A n c) (adC six ah al)
 go_enter Tryd.func59, Tryd.ntmps59
 go_upto_region 1 with (fail)
 generalize (w.alloc (.cells (rcC C A n c).toArray 37)).alloc (.cells (adC six ah al).toArray 32) = V at *
 have HS := Lib.hid bs
 have HF := Lib.hid ba
 have HB := Lib.hid be
 have hlt0 : fdC C (six, ah, al) pt pr ≤ C.vs.length := List.findIdx_le_length
 clear ba be bs
 go_upto_region 2 with (fail)
 go_loopw [9] (fun I wr => ∃ i : Nat, i ≤ n ∧ i ≤ fdC C (six, ah, al) pt pr ∧ I = .int .i64 (i : Int) ∧ Below w.heap.size w wr ∧ Bk wr w.heap.size 37 (rcC C A n c) ∧ Bk wr (w.heap.size + 1) 32 (adC six ah al)) (fun I _ => n - (intOf I).toNat)
 case atStart => exact ⟨0, Nat.zero_le _, Nat.zero_le _, rfl, HB.out, HS.out, HF.out⟩
 case round =>
  clear HF HB HS
  obtain ⟨i, hi, hif, rfl, hE, bs, ba⟩ := hrel
  have q0 : wr.cell? ⟨w.heap.size, 278, none⟩ = some (.slice A n c) := (bs.cell _).trans (rcC_vips C hk hb _ n c)
  by_cases hlt : i < n
  ·have ii : (i : Int) < (n : Int) := by omega
   obtain ⟨b, off, rfl, hbl, -⟩ := hr.at_ (by omega) (by decide)
   have hst := fdC_step C (six, ah, al) pt pr i hif (by omega)
   have hrg : ∀ W, Below w.heap.size w W → W.rangeAt b (off + i * 81) (rvC E[i]) := fun W h => (hr.later h).rangeE rvC_len i (by omega)
   have hCi : C.vs[i]'(by omega) = E[i].1 := by simp [← hE0]
   rw [hCi] at hst
   have HQ := Lib.hid (fun W h => rng_rv (hrg W h))
   have H8 := Lib.hid (fun W (h : Below wr.heap.size wr W) => show W.cell? ⟨w.heap.size, 278, none⟩ = some (.slice (some ⟨b, off, none⟩) n c) from ((bs.later h).cell _).trans (rcC_vips C hk hb _ n c))
   clear hrg hCi
   generalize E[i].1 = v at *
   have hcase : (eqAd v.ad.1 v.ad.2.1 v.ad.2.2 six ah al = true ∧ decide (v.ad = (six, ah, al)) = true ∧ ((v.pt : Int) == (pt : Int)) = true ∧ ((v.pr : Int) == (pr : Int)) = true ∧ Hid (fdI C (six, ah, al) pt pr = (i : Int))) ∨
     (eqAd v.ad.1 v.ad.2.1 v.ad.2.2 six ah al = true ∧ decide (v.ad = (six, ah, al)) = true ∧ ((v.pt : Int) == (pt : Int)) = true ∧ ((v.pr : Int) == (pr : Int)) = false ∧ i + 1 ≤ fdC C (six, ah, al) pt pr) ∨
     (eqAd v.ad.1 v.ad.2.1 v.ad.2.2 six ah al = true ∧ decide (v.ad = (six, ah, al)) = true ∧ ((v.pt : Int) == (pt : Int)) = false ∧ i + 1 ≤ fdC C (six, ah, al) pt pr) ∨
     (eqAd v.ad.1 v.ad.2.1 v.ad.2.2 six ah al = false ∧ decide (v.ad = (six, ah, al)) = false ∧ i + 1 ≤ fdC C (six, ah, al) pt pr) := by
    by_cases h1 : v.ad = (six, ah, al)
    ·by_cases h2 : v.pt = pt
     ·by_cases h3 : v.pr = pr
      ·have he := hst.1 (decide_eq_true ⟨h1, h2, h3⟩)
       exact .inl ⟨decide_eq_true h1, decide_eq_true h1, by simp [h2], by simp [h3], Lib.hid (by unfold fdI; rw [he, if_pos (by omega)])⟩
      ·exact .inr (.inl ⟨decide_eq_true h1, decide_eq_true h1, by simp [h2], by simp; omega, hst.2 (decide_eq_false (fun h => h3 h.2.2))⟩)
     ·exact .inr (.inr (.inl ⟨decide_eq_true h1, decide_eq_true h1, by simp; omega, hst.2 (decide_eq_false (fun h => h2 h.2.1))⟩))
    ·exact .inr (.inr (.inr ⟨decide_eq_false h1, decide_eq_false h1, hst.2 (decide_eq_false (fun h => h1 h.1))⟩))
   clear hst
   rcases hcase with ⟨hc1, hc1', hc2, hc3, HV⟩ | ⟨hc1, hc1', hc2, hc3, he⟩ | ⟨hc1, hc1', hc2, he⟩ | ⟨hc1, hc1', he⟩
   all_goals
    go_upto_region 4 with (fail)
    refine wp_relS 28 46 rfl (by kernel_rfl) (by kernel_rfl) ?_
    apply Steps.o1 (MP.eq _) 1 rfl rfl
    ·intro FA x hO hD K hK
     have e4 := hO 4 (by kernel_rfl)
     simp only [eval_tmp, qgT, qgS, qgZ, qoS] at e4
     have ev4 := Lib.hid ((eval_tmp FA 4).trans e4)
     clear hO hD
     go_simp
     exact hK.out _ _ (Ex.refl _) rfl
    apply Steps.o1 (MP.eq _) 2 rfl rfl
    ·intro FA x hO hD K hK
     obtain ⟨e17, ev17⟩ := qE (hD 0 17 (by kernel_rfl))
     clear hO hD
     have q1 := H8.out (plus wr x.bs x.d) (below_plus _ _ _)
     go_simp
     exact hK.out _ _ (Ex.refl _) rfl
    apply Steps.o1 (MP.eq _) 3 rfl rfl
    ·intro FA x hO hD K hK
     have e9 := hO 9 (by kernel_rfl)
     simp only [eval_tmp, qgT, qgS, qgZ, qoS] at e9
     have ev9 := Lib.hid ((eval_tmp FA 9).trans e9)
     clear hO hD
     go_simp
     exact hK.out _ _ (Ex.refl _) rfl
    apply Steps.o1 (MP.eq _) 4 rfl rfl
    ·intro FA x hO hD K hK
     obtain ⟨e18, ev18⟩ := qE (hD 1 18 (by kernel_rfl))
     obtain ⟨e19, ev19⟩ := qE (hD 2 19 (by kernel_rfl))
     clear hO hD
     go_simp
     exact hK.out _ _ (Ex.refl _) rfl
    apply Steps.o1 (MP.eq _) 5 rfl rfl
    ·intro FA x hO hD K hK
     obtain ⟨e20, ev20⟩ := qE (hD 3 20 (by kernel_rfl))
     clear hO hD
     go_simp
     exact hK.out _ _ (Ex.refl _) rfl
    apply Steps.o1 (MP.eq _) 6 rfl rfl
    ·intro FA x hO hD K hK
     obtain ⟨e21, ev21⟩ := qE (hD 4 21 (by kernel_rfl))
     clear hO hD
     refine wanted_if rfl ?_
     refine wp_load_mid 32 (.tmp 21) rfl b (off + i * 81) ev21.out (adC v.ad.1 v.ad.2.1 v.ad.2.2) _ (HQ.out _ (belowP hE x.bs x.d)).1 va1 va2 (szAd _ _ _) ?_
     exact hK.out _ _ (Ex.refl _) rfl
    apply Steps.o1 (MP.eq _) 7 rfl rfl
    ·intro FA x hO hD K hK
     have e5 := hO 5 (by kernel_rfl)
     simp only [eval_tmp, qgT, qgS, qgZ, qoS] at e5
     have ev5 := Lib.hid ((eval_tmp FA 5).trans e5)
     clear hO hD
     refine wanted_if rfl ?_
     refine wp_ldA 32 (.tmp 5) rfl (adC six ah al) ev5.out (ba.later (below_plus _ _ _)) rfl va1 va2 (szAd _ _ _) ?_
     exact hK.out _ _ (Ex.refl _) rfl
    apply Steps.o1 (MP.eq _) 8 rfl rfl
    ·intro FA x hO hD K hK
     obtain ⟨e22, ev22⟩ := qE (hD 5 22 (by kernel_rfl))
     obtain ⟨e23, ev23⟩ := qE (hD 6 23 (by kernel_rfl))
     clear hO hD
     go_simp
     exact hK.out _ _ (Ex.refl _) rfl
    apply Steps.o1 (MP.eq _) 9 rfl rfl
    ·intro FA x hO hD K hK
     obtain ⟨e24, ev24⟩ := qE (hD 7 24 (by kernel_rfl))
     clear hO hD
     go_simp
     exact hK.out _ _ (Ex.refl _) rfl
    apply Steps.o1 (MP.eq _) 10 rfl rfl
    ·intro FA x hO hD K hK
     have e4 := hO 4 (by kernel_rfl)
     simp only [eval_tmp, qgT, qgS, qgZ, qoS] at e4
     have ev4 := Lib.hid ((eval_tmp FA 4).trans e4)
     obtain ⟨e25, ev25⟩ := qE (hD 8 25 (by kernel_rfl))
     first | have ge25 := slot_of e25 | have ge25 := slot_un e25
     clear hO hD
     first | (go_simp; exact hK.out _ _ (Ex.refl _) rfl) | (rcases ge25 with ge25 | ge25 <;> (go_simp; exact hK.out _ _ (Ex.refl _) rfl))
    apply Steps.o1 (MP.eq _) 11 rfl rfl
    ·intro FA x hO hD K hK
     obtain ⟨e26, ev26⟩ := qE (hD 9 26 (by kernel_rfl))
     obtain ⟨e25, ev25⟩ := qE (hD 8 25 (by kernel_rfl))
     first | have ge25 := slot_of e25 | have ge25 := slot_un e25
     clear hO hD
     have q1 := H8.out (plus wr x.bs x.d) (below_plus _ _ _)
     go_simp
     exact hK.out _ _ (Ex.refl _) rfl
    apply Steps.o1 (MP.eq _) 12 rfl rfl
    ·intro FA x hO hD K hK
     have e9 := hO 9 (by kernel_rfl)
     simp only [eval_tmp, qgT, qgS, qgZ, qoS] at e9
     have ev9 := Lib.hid ((eval_tmp FA 9).trans e9)
     obtain ⟨e25, ev25⟩ := qE (hD 8 25 (by kernel_rfl))
     first | have ge25 := slot_of e25 | have ge25 := slot_un e25
     clear hO hD
     first | (go_simp; exact hK.out _ _ (Ex.refl _) rfl) | (rcases ge25 with ge25 | ge25 <;> (go_simp; exact hK.out _ _ (Ex.refl _) rfl))
    apply Steps.o1 (MP.eq _) 13 rfl rfl
    ·intro FA x hO hD K hK
     obtain ⟨e27, ev27⟩ := qE (hD 10 27 (by kernel_rfl))
     obtain ⟨e28, ev28⟩ := qE (hD 11 28 (by kernel_rfl))
     obtain ⟨e25, ev25⟩ := qE (hD 8 25 (by kernel_rfl))
     first | have ge25 := slot_of e25 | have ge25 := slot_un e25
     clear hO hD
     first | (go_simp; exact hK.out _ _ (Ex.refl _) rfl) | (rcases ge25 with ge25 | ge25 <;> (go_simp; exact hK.out _ _ (Ex.refl _) rfl))
    apply Steps.o1 (MP.eq _) 14 rfl rfl
    ·intro FA x hO hD K hK
     obtain ⟨e29, ev29⟩ := qE (hD 12 29 (by kernel_rfl))
     obtain ⟨e25, ev25⟩ := qE (hD 8 25 (by kernel_rfl))
     first | have ge25 := slot_of e25 | have ge25 := slot_un e25
     clear hO hD
     first | (go_simp; exact hK.out _ _ (Ex.refl _) rfl) | (rcases ge25 with ge25 | ge25 <;> (go_simp; exact hK.out _ _ (Ex.refl _) rfl))
    apply Steps.o1 (MP.eq _) 15 rfl rfl
    ·intro FA x hO hD K hK
     obtain ⟨e30, ev30⟩ := qE (hD 13 30 (by kernel_rfl))
     obtain ⟨e25, ev25⟩ := qE (hD 8 25 (by kernel_rfl))
     first | have ge25 := slot_of e25 | have ge25 := slot_un e25
     clear hO hD
     first | (have hq := (HQ.out (plus wr x.bs x.d) (belowP hE x.bs x.d)).2; go_simp; exact hK.out _ _ (Ex.refl _) rfl) | (go_simp; exact hK.out _ _ (Ex.refl _) rfl) | (rcases ge25 with ge25 | ge25 <;> (go_simp; exact hK.out _ _ (Ex.refl _) rfl))
    apply Steps.o1 (MP.eq _) 16 rfl rfl
    ·intro FA x hO hD K hK
     have e2 := hO 2 (by kernel_rfl)
     simp only [eval_tmp, qgT, qgS, qgZ, qoS] at e2
     have ev2 := Lib.hid ((eval_tmp FA 2).trans e2)
     obtain ⟨e25, ev25⟩ := qE (hD 8 25 (by kernel_rfl))
     first | have ge25 := slot_of e25 | have ge25 := slot_un e25
     clear hO hD
     first | (go_simp; exact hK.out _ _ (Ex.refl _) rfl) | (rcases ge25 with ge25 | ge25 <;> (go_simp; exact hK.out _ _ (Ex.refl _) rfl))
    apply Steps.o1 (MP.eq _) 17 rfl rfl
    ·intro FA x hO hD K hK
     obtain ⟨e31, ev31⟩ := qE (hD 14 31 (by kernel_rfl))
     obtain ⟨e32, ev32⟩ := qE (hD 15 32 (by kernel_rfl))
     obtain ⟨e25, ev25⟩ := qE (hD 8 25 (by kernel_rfl))
     first | have ge25 := slot_of e25 | have ge25 := slot_un e25
     clear hO hD
     first | (go_simp; exact hK.out _ _ (Ex.refl _) rfl) | (rcases ge25 with ge25 | ge25 <;> (go_simp; exact hK.out _ _ (Ex.refl _) rfl))
    apply Steps.o1 (MP.eq _) 18 rfl rfl
    ·intro FA x hO hD K hK
     obtain ⟨e25, ev25⟩ := qE (hD 8 25 (by kernel_rfl))
     obtain ⟨e33, ev33⟩ := qE (hD 16 33 (by kernel_rfl))
     clear hO hD
     go_simp
     exact hK.out _ _ (Ex.refl _) rfl
    apply Steps.o1 (MP.eq _) 19 rfl rfl
    ·intro FA x hO hD K hK
     obtain ⟨e34, ev34⟩ := qE (hD 17 34 (by kernel_rfl))
     clear hO hD
     go_simp
     exact hK.out _ _ (Ex.refl _) rfl
    apply Steps.o1 (MP.eq _) 20 rfl rfl
    ·intro FA x hO hD K hK
     have e4 := hO 4 (by kernel_rfl)
     simp only [eval_tmp, qgT, qgS, qgZ, qoS] at e4
     have ev4 := Lib.hid ((eval_tmp FA 4).trans e4)
     obtain ⟨e35, ev35⟩ := qE (hD 18 35 (by kernel_rfl))
     first | have ge35 := slot_of e35 | have ge35 := slot_un e35
     clear hO hD
     first | (go_simp; exact hK.out _ _ (Ex.refl _) rfl) | (rcases ge35 with ge35 | ge35 <;> (go_simp; exact hK.out _ _ (Ex.refl _) rfl))
    apply Steps.o1 (MP.eq _) 21 rfl rfl
    ·intro FA x hO hD K hK
     obtain ⟨e36, ev36⟩ := qE (hD 19 36 (by kernel_rfl))
     obtain ⟨e35, ev35⟩ := qE (hD 18 35 (by kernel_rfl))
     first | have ge35 := slot_of e35 | have ge35 := slot_un e35
     clear hO hD
     have q1 := H8.out (plus wr x.bs x.d) (below_plus _ _ _)
     go_simp
     exact hK.out _ _ (Ex.refl _) rfl
    apply Steps.o1 (MP.eq _) 22 rfl rfl
    ·intro FA x hO hD K hK
     have e9 := hO 9 (by kernel_rfl)
     simp only [eval_tmp, qgT, qgS, qgZ, qoS] at e9
     have ev9 := Lib.hid ((eval_tmp FA 9).trans e9)
     obtain ⟨e35, ev35⟩ := qE (hD 18 35 (by kernel_rfl))
     first | have ge35 := slot_of e35 | have ge35 := slot_un e35
     clear hO hD
     first | (go_simp; exact hK.out _ _ (Ex.refl _) rfl) | (rcases ge35 with ge35 | ge35 <;> (go_simp; exact hK.out _ _ (Ex.refl _) rfl))
    apply Steps.o1 (MP.eq _) 23 rfl rfl
    ·intro FA x hO hD K hK
     obtain ⟨e37, ev37⟩ := qE (hD 20 37 (by kernel_rfl))
     obtain ⟨e38, ev38⟩ := qE (hD 21 38 (by kernel_rfl))
     obtain ⟨e35, ev35⟩ := qE (hD 18 35 (by kernel_rfl))
     first | have ge35 := slot_of e35 | have ge35 := slot_un e35
     clear hO hD
     first | (go_simp; exact hK.out _ _ (Ex.refl _) rfl) | (rcases ge35 with ge35 | ge35 <;> (go_simp; exact hK.out _ _ (Ex.refl _) rfl))
    apply Steps.o1 (MP.eq _) 24 rfl rfl
    ·intro FA x hO hD K hK
     obtain ⟨e39, ev39⟩ := qE (hD 22 39 (by kernel_rfl))
     obtain ⟨e35, ev35⟩ := qE (hD 18 35 (by kernel_rfl))
     first | have ge35 := slot_of e35 | have ge35 := slot_un e35
     clear hO hD
     first | (go_simp; exact hK.out _ _ (Ex.refl _) rfl) | (rcases ge35 with ge35 | ge35 <;> (go_simp; exact hK.out _ _ (Ex.refl _) rfl))
    apply Steps.o1 (MP.eq _) 25 rfl rfl
    ·intro FA x hO hD K hK
     obtain ⟨e40, ev40⟩ := qE (hD 23 40 (by kernel_rfl))
     obtain ⟨e35, ev35⟩ := qE (hD 18 35 (by kernel_rfl))
     first | have ge35 := slot_of e35 | have ge35 := slot_un e35
     clear hO hD
     first | (have hq := (HQ.out (plus wr x.bs x.d) (belowP hE x.bs x.d)).2; go_simp; exact hK.out _ _ (Ex.refl _) rfl) | (go_simp; exact hK.out _ _ (Ex.refl _) rfl) | (rcases ge35 with ge35 | ge35 <;> (go_simp; exact hK.out _ _ (Ex.refl _) rfl))
    apply Steps.o1 (MP.eq _) 26 rfl rfl
    ·intro FA x hO hD K hK
     have e3 := hO 3 (by kernel_rfl)
     simp only [eval_tmp, qgT, qgS, qgZ, qoS] at e3
     have ev3 := Lib.hid ((eval_tmp FA 3).trans e3)
     obtain ⟨e35, ev35⟩ := qE (hD 18 35 (by kernel_rfl))
     first | have ge35 := slot_of e35 | have ge35 := slot_un e35
     clear hO hD
     first | (go_simp; exact hK.out _ _ (Ex.refl _) rfl) | (rcases ge35 with ge35 | ge35 <;> (go_simp; exact hK.out _ _ (Ex.refl _) rfl))
    apply Steps.o1 (MP.eq _) 27 rfl rfl
    ·intro FA x hO hD K hK
     obtain ⟨e41, ev41⟩ := qE (hD 24 41 (by kernel_rfl))
     obtain ⟨e42, ev42⟩ := qE (hD 25 42 (by kernel_rfl))
     obtain ⟨e35, ev35⟩ := qE (hD 18 35 (by kernel_rfl))
     first | have ge35 := slot_of e35 | have ge35 := slot_un e35
     clear hO hD
     first | (go_simp; exact hK.out _ _ (Ex.refl _) rfl) | (rcases ge35 with ge35 | ge35 <;> (go_simp; exact hK.out _ _ (Ex.refl _) rfl))
    apply Steps.o1 (MP.eq _) 28 rfl rfl
    ·intro FA x hO hD K hK
     obtain ⟨e35, ev35⟩ := qE (hD 18 35 (by kernel_rfl))
     obtain ⟨e43, ev43⟩ := qE (hD 26 43 (by kernel_rfl))
     clear hO hD
     go_simp
     exact hK.out _ _ (Ex.refl _) rfl
    refine Steps.fin_ (fun vs x hp => ?_)
    have p0 : vs 0 = _ := hp 0 (by omega)
    have p1 : vs 1 = _ := hp 1 (by omega)
    have p2 : vs 2 = _ := hp 2 (by omega)
    have p3 : vs 3 = _ := hp 3 (by omega)
    have p4 : vs 4 = _ := hp 4 (by omega)
    have p5 : vs 5 = _ := hp 5 (by omega)
    have p6 : vs 6 = _ := hp 6 (by omega)
    have p7 : vs 7 = _ := hp 7 (by omega)
    have p8 : vs 8 = _ := hp 8 (by omega)
    have p9 : vs 9 = _ := hp 9 (by omega)
    have p10 : vs 10 = _ := hp 10 (by omega)
    have p11 : vs 11 = _ := hp 11 (by omega)
    have p12 : vs 12 = _ := hp 12 (by omega)
    have p13 : vs 13 = _ := hp 13 (by omega)
    have p14 : vs 14 = _ := hp 14 (by omega)
    have p15 : vs 15 = _ := hp 15 (by omega)
    have p16 : vs 16 = _ := hp 16 (by omega)
    have p17 : vs 17 = _ := hp 17 (by omega)
    have p18 : vs 18 = _ := hp 18 (by omega)
    have p19 : vs 19 = _ := hp 19 (by omega)
    have p20 : vs 20 = _ := hp 20 (by omega)
    have p21 : vs 21 = _ := hp 21 (by omega)
    have p22 : vs 22 = _ := hp 22 (by omega)
    have p23 : vs 23 = _ := hp 23 (by omega)
    have p24 : vs 24 = _ := hp 24 (by omega)
    have p25 : vs 25 = _ := hp 25 (by omega)
    have p26 : vs 26 = _ := hp 26 (by omega)
    have p27 : vs 27 = _ := hp 27 (by omega)
    clear hp
    simp only [List.take_succ_cons, List.take_zero, List.drop_succ_cons, List.drop_zero, putAll, Nat.zero_add, Nat.reduceAdd, Act.put, qsT, qsZ, qsS, p0, p1, p2, p3, p4, p5, p6, p7, p8, p9, p10, p11, p12, p13, p14, p15, p16, p17, p18, p19, p20, p21, p22, p23, p24, p25, p26, p27]
    clear p0 p1 p2 p3 p4 p5 p6 p7 p8 p9 p10 p11 p12 p13 p14 p15 p16 p17 p18 p19 p20 p21 p22 p23 p24 p25 p26 p27
    clear vs
    go_wp2
   ·go_ret
    rw [HV.out]
    exact RetV.is_ rfl (belowP hE _ _)
   ·exact ⟨⟨i + 1, by omega, by omega, by go_num, belowP hE _ _, bs.later (below_plus _ _ _), ba.later (below_plus _ _ _)⟩, by simp [intOf]; omega⟩
   ·exact ⟨⟨i + 1, by omega, by omega, by go_num, belowP hE _ _, bs.later (below_plus _ _ _), ba.later (below_plus _ _ _)⟩, by simp [intOf]; omega⟩
   ·exact ⟨⟨i + 1, by omega, by omega, by go_num, belowP hE _ _, bs.later (below_plus _ _ _), ba.later (below_plus _ _ _)⟩, by simp [intOf]; omega⟩
  ·have HV := Lib.hid (show fdI C (six, ah, al) pt pr = -1 from if_neg (by omega))
   have ii : ¬ (i : Int) < (n : Int) := by omega
   clear hif hlt0
   go_wp2
   go_ret
   rw [HV.out]
   exact RetV.is_ rfl hE
end
end

section
open Go.Lib
open Go.RowKit
attribute [local go_sem ↓] sliced_cut
attribute [local go_sem] cutA_zero
set_option maxHeartbeats 4000000 in
set_option maxRecDepth 100000 in
theorem rcRight_any (C : Cf) (hk : C.key.length = 16) (hb : C.bk.length = 65) (A : Option Addr) (n c : Nat) (ms : List (Int × Int)) (B : Option Addr) (m d : Nat) (w : World) (hr : Rs 2 w B m d (prs .i64 ms)) (hm : m ≤ 1000000) : Calls Tryd.prog 62 #[.agg (rcC C A n c).toArray, .slice B m d] w (RetV w (.bool (okM C ms))) := by
 have hml : ms.length = m := by have := hr.1; rw [prs_length] at this; omega
 have HOK := Lib.hid (show okM C ms = okM C ms from rfl)
 obtain ⟨R0, hR0⟩ : ∃ R0, R0 = okM C ms := ⟨_, rfl⟩
 have HR0 := Lib.hid hR0
 rw [← hR0]
 clear hR0
 obtain ⟨dvs1, vs1, vs2⟩ := rowRcS
 obtain ⟨bs, be, zV⟩ := box1 w 37 (rcC C A n c)
 go_enter Tryd.func62, Tryd.ntmps62
 go_upto_region 1 with (fail)
 generalize w.alloc (.cells (rcC C A n c).toArray 37) = V at *
 have HS := Lib.hid bs
 have HB := Lib.hid be
 clear be bs
 go_upto_region 2 with (fail)
 go_loopw [5] (fun I wr => ∃ i : Nat, i ≤ m ∧ I = .int .i64 (i : Int) ∧ Hid (okM C (ms.take i) = true) ∧ Below w.heap.size w wr ∧ Bk wr w.heap.size 37 (rcC C A n c)) (fun I _ => m - (intOf I).toNat)
 case atStart => exact ⟨0, Nat.zero_le _, rfl, Lib.hid rfl, HB.out, HS.out⟩
 case round =>
  clear HB HS
  obtain ⟨i, hi, rfl, hok, hE, bs⟩ := hrel
  by_cases hlt : i < m
  ·have ii : (i : Int) < (m : Int) := by omega
   obtain ⟨bl, ol, rfl, hbl, -⟩ := hr.at_ (by omega) (by decide)
   have H5 := Lib.hid (fun W (h : Below w.heap.size w W) => show W.cell? ⟨bl, ol + i * 2, none⟩ = some (.int .i64 (ms[i]'(by omega)).1) ∧ W.cell? ⟨bl, ol + i * 2 + 1, none⟩ = some (.int .i64 (ms[i]'(by omega)).2) from (hr.later h).range2 i (by omega))
   have hsn : ms.take (i + 1) = ms.take i ++ [ms[i]'(by omega)] := by simp
   have hmi : ms[i]? = some (ms[i]'(by omega)) := List.getElem?_eq_getElem (by omega)
   have HOI := Lib.hid ((congrArg (okM C) hsn).trans (okM_snoc C (ms.take i) _))
   have HBADX := Lib.hid (fun h : okM C (ms.take (i + 1)) = false => show R0 = false from (by
    rw [HR0.out]
    cases hq : okM C ms with
    | false => rfl
    | true => rw [okM_take hq (i + 1)] at h; cases h))
   have HMI := Lib.hid hmi
   clear hsn hmi
   generalize (ms[i]'(by omega)) = p at *
   obtain ⟨xm, ym⟩ := p
   have HKX := Lib.hid (fun W => refKnown_any C hk hb A n c xm W)
   generalize hkx : knC C xm = kx at *
   have hcase : (kx = false ∧ Hid (R0 = false)) ∨ (kx = true ∧ ym < 0 ∧ Hid (R0 = false)) ∨ (kx = true ∧ 100 < ym ∧ 0 ≤ ym ∧ Hid (R0 = false)) ∨ (kx = true ∧ 0 ≤ ym ∧ ym ≤ 100 ∧ Hid (wtB ym = true)) := by
    cases hk3 : kx with
    | false => exact .inl ⟨rfl, Lib.hid (HBADX.out (by rw [HOI.out, hk3]; simp))⟩
    | true =>
     rcases (by omega : ym < 0 ∨ (100 < ym ∧ 0 ≤ ym) ∨ (0 ≤ ym ∧ ym ≤ 100)) with h | ⟨h, h'⟩ | ⟨h, h'⟩
     ·exact .inr (.inl ⟨rfl, h, Lib.hid (HBADX.out (by rw [HOI.out]; unfold wtB; rw [decide_eq_false (show ¬ 0 ≤ ym by omega)]; simp))⟩)
     ·exact .inr (.inr (.inl ⟨rfl, h, h', Lib.hid (HBADX.out (by rw [HOI.out]; unfold wtB; rw [decide_eq_false (show ¬ ym ≤ 100 by omega)]; simp))⟩))
     ·exact .inr (.inr (.inr ⟨rfl, h, h', Lib.hid (by unfold wtB; rw [decide_eq_true h, decide_eq_true h']; rfl)⟩))
   have HKT := Lib.hid hkx
   clear hkx
   rcases hcase with ⟨rfl, HBAD⟩ | ⟨rfl, hy0, HBAD⟩ | ⟨rfl, hy1, hy0, HBAD⟩ | ⟨rfl, hy0, hy1, hwt⟩
   all_goals
    go_upto_region 4 with (fail)
    refine wp_relS 24 56 rfl (by kernel_rfl) (by kernel_rfl) ?_
    apply Steps.o1 (MP.eq _) 1 rfl rfl
    ·intro FA x hO hD K hK
     have e2 := hO 2 (by kernel_rfl)
     simp only [eval_tmp, qgT, qgS, qgZ, qoS] at e2
     have ev2 := Lib.hid ((eval_tmp FA 2).trans e2)
     clear hO hD
     refine wanted_if rfl ?_
     refine wp_ldA 37 (.tmp 2) rfl (rcC C A n c) ev2.out (bs.later (below_plus _ _ _)) (whole_ _) vs1 vs2 (szRcS C hk hb A n c) ?_
     exact hK.out _ _ (Ex.refl _) rfl
    apply Steps.o1 (MP.eq _) 2 rfl rfl
    ·intro FA x hO hD K hK
     have e1 := hO 1 (by kernel_rfl)
     simp only [eval_tmp, qgT, qgS, qgZ, qoS] at e1
     have ev1 := Lib.hid ((eval_tmp FA 1).trans e1)
     clear hO hD
     go_simp
     exact hK.out _ _ (Ex.refl _) rfl
    apply Steps.o1 (MP.eq _) 3 rfl rfl
    ·intro FA x hO hD K hK
     have e5 := hO 5 (by kernel_rfl)
     simp only [eval_tmp, qgT, qgS, qgZ, qoS] at e5
     have ev5 := Lib.hid ((eval_tmp FA 5).trans e5)
     clear hO hD
     go_simp
     exact hK.out _ _ (Ex.refl _) rfl
    apply Steps.o1 (MP.eq _) 4 rfl rfl
    ·intro FA x hO hD K hK
     obtain ⟨e14, ev14⟩ := qE (hD 1 14 (by kernel_rfl))
     obtain ⟨e15, ev15⟩ := qE (hD 2 15 (by kernel_rfl))
     clear hO hD
     go_simp
     exact hK.out _ _ (Ex.refl _) rfl
    apply Steps.o1 (MP.eq _) 5 rfl rfl
    ·intro FA x hO hD K hK
     obtain ⟨e16, ev16⟩ := qE (hD 3 16 (by kernel_rfl))
     clear hO hD
     go_simp
     exact hK.out _ _ (Ex.refl _) rfl
    apply Steps.o1 (MP.eq _) 6 rfl rfl
    ·intro FA x hO hD K hK
     obtain ⟨e17, ev17⟩ := qE (hD 4 17 (by kernel_rfl))
     clear hO hD
     have q5 := H5.out (plus wr x.bs x.d) (belowP hE x.bs x.d)
     go_simp
     exact hK.out _ _ (Ex.refl _) rfl
    apply Steps.o1 (MP.eq _) 7 rfl rfl
    ·intro FA x hO hD K hK
     obtain ⟨e13, ev13⟩ := qE (hD 0 13 (by kernel_rfl))
     obtain ⟨e18, ev18⟩ := qE (hD 5 18 (by kernel_rfl))
     clear hO hD
     go_simp
     refine (HKX.out _).mono ?_
     rintro e w2 ⟨bs2, d2, rfl, rfl⟩
     exact hK.out _ _ (Ex.plus_ _ _ _) rfl
    apply Steps.o1 (MP.eq _) 8 rfl rfl
    ·intro FA x hO hD K hK
     obtain ⟨e19, ev19⟩ := qE (hD 6 19 (by kernel_rfl))
     clear hO hD
     go_simp
     exact hK.out _ _ (Ex.refl _) rfl
    apply Steps.o1 (MP.eq _) 9 rfl rfl
    ·intro FA x hO hD K hK
     obtain ⟨e20, ev20⟩ := qE (hD 7 20 (by kernel_rfl))
     clear hO hD
     go_simp
     exact hK.out _ _ (Ex.refl _) rfl
    apply Steps.o1 (MP.eq _) 10 rfl rfl
    ·intro FA x hO hD K hK
     have e1 := hO 1 (by kernel_rfl)
     simp only [eval_tmp, qgT, qgS, qgZ, qoS] at e1
     have ev1 := Lib.hid ((eval_tmp FA 1).trans e1)
     obtain ⟨e21, ev21⟩ := qE (hD 8 21 (by kernel_rfl))
     first | have ge21 := slot_of e21 | have ge21 := slot_un e21
     clear hO hD
     first | (go_simp; exact hK.out _ _ (Ex.refl _) rfl) | (rcases ge21 with ge21 | ge21 <;> (go_simp; exact hK.out _ _ (Ex.refl _) rfl))
    apply Steps.o1 (MP.eq _) 11 rfl rfl
    ·intro FA x hO hD K hK
     have e5 := hO 5 (by kernel_rfl)
     simp only [eval_tmp, qgT, qgS, qgZ, qoS] at e5
     have ev5 := Lib.hid ((eval_tmp FA 5).trans e5)
     obtain ⟨e21, ev21⟩ := qE (hD 8 21 (by kernel_rfl))
     first | have ge21 := slot_of e21 | have ge21 := slot_un e21
     clear hO hD
     first | (go_simp; exact hK.out _ _ (Ex.refl _) rfl) | (rcases ge21 with ge21 | ge21 <;> (go_simp; exact hK.out _ _ (Ex.refl _) rfl))
    apply Steps.o1 (MP.eq _) 12 rfl rfl
    ·intro FA x hO hD K hK
     obtain ⟨e22, ev22⟩ := qE (hD 9 22 (by kernel_rfl))
     obtain ⟨e23, ev23⟩ := qE (hD 10 23 (by kernel_rfl))
     obtain ⟨e21, ev21⟩ := qE (hD 8 21 (by kernel_rfl))
     first | have ge21 := slot_of e21 | have ge21 := slot_un e21
     clear hO hD
     first | (go_simp; exact hK.out _ _ (Ex.refl _) rfl) | (rcases ge21 with ge21 | ge21 <;> (go_simp; exact hK.out _ _ (Ex.refl _) rfl))
    apply Steps.o1 (MP.eq _) 13 rfl rfl
    ·intro FA x hO hD K hK
     obtain ⟨e24, ev24⟩ := qE (hD 11 24 (by kernel_rfl))
     obtain ⟨e21, ev21⟩ := qE (hD 8 21 (by kernel_rfl))
     first | have ge21 := slot_of e21 | have ge21 := slot_un e21
     clear hO hD
     first | (go_simp; exact hK.out _ _ (Ex.refl _) rfl) | (rcases ge21 with ge21 | ge21 <;> (go_simp; exact hK.out _ _ (Ex.refl _) rfl))
    apply Steps.o1 (MP.eq _) 14 rfl rfl
    ·intro FA x hO hD K hK
     obtain ⟨e25, ev25⟩ := qE (hD 12 25 (by kernel_rfl))
     obtain ⟨e21, ev21⟩ := qE (hD 8 21 (by kernel_rfl))
     first | have ge21 := slot_of e21 | have ge21 := slot_un e21
     clear hO hD
     have q5 := H5.out (plus wr x.bs x.d) (belowP hE x.bs x.d)
     go_simp
     exact hK.out _ _ (Ex.refl _) rfl
    apply Steps.o1 (MP.eq _) 15 rfl rfl
    ·intro FA x hO hD K hK
     obtain ⟨e26, ev26⟩ := qE (hD 13 26 (by kernel_rfl))
     obtain ⟨e21, ev21⟩ := qE (hD 8 21 (by kernel_rfl))
     first | have ge21 := slot_of e21 | have ge21 := slot_un e21
     clear hO hD
     first | (go_simp; exact hK.out _ _ (Ex.refl _) rfl) | (rcases ge21 with ge21 | ge21 <;> (go_simp; exact hK.out _ _ (Ex.refl _) rfl))
    apply Steps.o1 (MP.eq _) 16 rfl rfl
    ·intro FA x hO hD K hK
     obtain ⟨e21, ev21⟩ := qE (hD 8 21 (by kernel_rfl))
     obtain ⟨e27, ev27⟩ := qE (hD 14 27 (by kernel_rfl))
     clear hO hD
     go_simp
     exact hK.out _ _ (Ex.refl _) rfl
    apply Steps.o1 (MP.eq _) 17 rfl rfl
    ·intro FA x hO hD K hK
     obtain ⟨e28, ev28⟩ := qE (hD 15 28 (by kernel_rfl))
     clear hO hD
     go_simp
     exact hK.out _ _ (Ex.refl _) rfl
    apply Steps.o1 (MP.eq _) 18 rfl rfl
    ·intro FA x hO hD K hK
     have e1 := hO 1 (by kernel_rfl)
     simp only [eval_tmp, qgT, qgS, qgZ, qoS] at e1
     have ev1 := Lib.hid ((eval_tmp FA 1).trans e1)
     obtain ⟨e29, ev29⟩ := qE (hD 16 29 (by kernel_rfl))
     first | have ge29 := slot_of e29 | have ge29 := slot_un e29
     clear hO hD
     first | (go_simp; exact hK.out _ _ (Ex.refl _) rfl) | (rcases ge29 with ge29 | ge29 <;> (go_simp; exact hK.out _ _ (Ex.refl _) rfl))
    apply Steps.o1 (MP.eq _) 19 rfl rfl
    ·intro FA x hO hD K hK
     have e5 := hO 5 (by kernel_rfl)
     simp only [eval_tmp, qgT, qgS, qgZ, qoS] at e5
     have ev5 := Lib.hid ((eval_tmp FA 5).trans e5)
     obtain ⟨e29, ev29⟩ := qE (hD 16 29 (by kernel_rfl))
     first | have ge29 := slot_of e29 | have ge29 := slot_un e29
     clear hO hD
     first | (go_simp; exact hK.out _ _ (Ex.refl _) rfl) | (rcases ge29 with ge29 | ge29 <;> (go_simp; exact hK.out _ _ (Ex.refl _) rfl))
    apply Steps.o1 (MP.eq _) 20 rfl rfl
    ·intro FA x hO hD K hK
     obtain ⟨e30, ev30⟩ := qE (hD 17 30 (by kernel_rfl))
     obtain ⟨e31, ev31⟩ := qE (hD 18 31 (by kernel_rfl))
     obtain ⟨e29, ev29⟩ := qE (hD 16 29 (by kernel_rfl))
     first | have ge29 := slot_of e29 | have ge29 := slot_un e29
     clear hO hD
     first | (go_simp; exact hK.out _ _ (Ex.refl _) rfl) | (rcases ge29 with ge29 | ge29 <;> (go_simp; exact hK.out _ _ (Ex.refl _) rfl))
    apply Steps.o1 (MP.eq _) 21 rfl rfl
    ·intro FA x hO hD K hK
     obtain ⟨e32, ev32⟩ := qE (hD 19 32 (by kernel_rfl))
     obtain ⟨e29, ev29⟩ := qE (hD 16 29 (by kernel_rfl))
     first | have ge29 := slot_of e29 | have ge29 := slot_un e29
     clear hO hD
     first | (go_simp; exact hK.out _ _ (Ex.refl _) rfl) | (rcases ge29 with ge29 | ge29 <;> (go_simp; exact hK.out _ _ (Ex.refl _) rfl))
    apply Steps.o1 (MP.eq _) 22 rfl rfl
    ·intro FA x hO hD K hK
     obtain ⟨e33, ev33⟩ := qE (hD 20 33 (by kernel_rfl))
     obtain ⟨e29, ev29⟩ := qE (hD 16 29 (by kernel_rfl))
     first | have ge29 := slot_of e29 | have ge29 := slot_un e29
     clear hO hD
     have q5 := H5.out (plus wr x.bs x.d) (belowP hE x.bs x.d)
     go_simp
     exact hK.out _ _ (Ex.refl _) rfl
    apply Steps.o1 (MP.eq _) 23 rfl rfl
    ·intro FA x hO hD K hK
     obtain ⟨e34, ev34⟩ := qE (hD 21 34 (by kernel_rfl))
     obtain ⟨e29, ev29⟩ := qE (hD 16 29 (by kernel_rfl))
     first | have ge29 := slot_of e29 | have ge29 := slot_un e29
     clear hO hD
     first | (go_simp; exact hK.out _ _ (Ex.refl _) rfl) | (rcases ge29 with ge29 | ge29 <;> (go_simp; exact hK.out _ _ (Ex.refl _) rfl))
    apply Steps.o1 (MP.eq _) 24 rfl rfl
    ·intro FA x hO hD K hK
     obtain ⟨e29, ev29⟩ := qE (hD 16 29 (by kernel_rfl))
     obtain ⟨e35, ev35⟩ := qE (hD 22 35 (by kernel_rfl))
     clear hO hD
     go_simp
     exact hK.out _ _ (Ex.refl _) rfl
    refine Steps.fin_ (fun vs x hp => ?_)
    have p0 : vs 0 = _ := hp 0 (by omega)
    have p1 : vs 1 = _ := hp 1 (by omega)
    have p2 : vs 2 = _ := hp 2 (by omega)
    have p3 : vs 3 = _ := hp 3 (by omega)
    have p4 : vs 4 = _ := hp 4 (by omega)
    have p5 : vs 5 = _ := hp 5 (by omega)
    have p6 : vs 6 = _ := hp 6 (by omega)
    have p7 : vs 7 = _ := hp 7 (by omega)
    have p8 : vs 8 = _ := hp 8 (by omega)
    have p9 : vs 9 = _ := hp 9 (by omega)
    have p10 : vs 10 = _ := hp 10 (by omega)
    have p11 : vs 11 = _ := hp 11 (by omega)
    have p12 : vs 12 = _ := hp 12 (by omega)
    have p13 : vs 13 = _ := hp 13 (by omega)
    have p14 : vs 14 = _ := hp 14 (by omega)
    have p15 : vs 15 = _ := hp 15 (by omega)
    have p16 : vs 16 = _ := hp 16 (by omega)
    have p17 : vs 17 = _ := hp 17 (by omega)
    have p18 : vs 18 = _ := hp 18 (by omega)
    have p19 : vs 19 = _ := hp 19 (by omega)
    have p20 : vs 20 = _ := hp 20 (by omega)
    have p21 : vs 21 = _ := hp 21 (by omega)
    have p22 : vs 22 = _ := hp 22 (by omega)
    have p23 : vs 23 = _ := hp 23 (by omega)
    clear hp
    simp only [List.take_succ_cons, List.take_zero, List.drop_succ_cons, List.drop_zero, putAll, Nat.zero_add, Nat.reduceAdd, Act.put, qsT, qsZ, qsS, p0, p1, p2, p3, p4, p5, p6, p7, p8, p9, p10, p11, p12, p13, p14, p15, p16, p17, p18, p19, p20, p21, p22, p23]
    clear p0 p1 p2 p3 p4 p5 p6 p7 p8 p9 p10 p11 p12 p13 p14 p15 p16 p17 p18 p19 p20 p21 p22 p23
    clear vs
   iterate 3
    focus
     go_wp2
     go_ret
     rw [HBAD.out]
     exact RetV.is_ rfl (belowP hE _ _)
   focus
      skip
      have hE4 := belowP hE x.bs x.d
      have bs4 := bs.later (below_plus wr x.bs x.d)
      generalize plus wr x.bs x.d = W5 at *
      clear bs hE
      go_upto_region 7 with (fail)
      have HS4 := Lib.hid (And.intro hE4 bs4)
      clear hE4 bs4
      go_loopw [6] (fun K w2 => ∃ k : Nat, k ≤ i ∧ K = .int .i64 (k : Int) ∧ Hid (xm ∉ (ms.take k).map (·.1)) ∧ Below w.heap.size w w2 ∧ Bk w2 w.heap.size 37 (rcC C A n c)) (fun K _ => i - (intOf K).toNat)
      case atStart => exact ⟨0, Nat.zero_le _, rfl, Lib.hid (by simp), HS4.out.1, HS4.out.2⟩
      case round =>
       clear HS4
       obtain ⟨k, hki, rfl, hno, hE2, bs2⟩ := hrel
       by_cases hlk : k < i
       ·have kk : (k : Int) < (i : Int) := by omega
        have km : (k : Int) < (m : Int) := by omega
        have km2 : k < m := by omega
        have H6 := Lib.hid (fun W (h : Below w.heap.size w W) => show W.cell? ⟨bl, ol + k * 2, none⟩ = some (.int .i64 (ms[k]'(by omega)).1) from ((hr.later h).range2 k (by omega)).1)
        have hsk : ms.take (k + 1) = ms.take k ++ [ms[k]'(by omega)] := by simp
        have hmem : (ms[k]'(by omega)) ∈ ms.take i := List.mem_iff_getElem.2 ⟨k, by rw [List.length_take]; omega, by simp⟩
        have HSK := Lib.hid (And.intro hsk hmem)
        clear hsk hmem
        generalize (ms[k]'(by omega)) = q at *
        obtain ⟨xq, yq⟩ := q
        have hcase2 : (((xq : Int) == xm) = true ∧ Hid (R0 = false)) ∨ (((xq : Int) == xm) = false ∧ Hid (xm ∉ (ms.take (k + 1)).map (·.1))) := by
         by_cases heq : xq = xm
         ·exact .inl ⟨by simp [heq], Lib.hid (HBADX.out (by
           rw [HOI.out, decide_eq_true (show xm ∈ (ms.take i).map (·.1) from List.mem_map.2 ⟨(xq, yq), HSK.out.2, heq⟩)]
           simp))⟩
         ·refine .inr ⟨by simp [heq], Lib.hid ?_⟩
          rw [HSK.out.1, List.map_append]
          intro hm
          rcases List.mem_append.1 hm with h | h
          ·exact hno.out h
          ·simp at h; exact heq h.symm
        clear hno
        rcases hcase2 with ⟨hbq, HBAD⟩ | ⟨hbq, HN⟩
        all_goals
         go_upto_region 9 with (fail)
         refine wp_relS 11 56 rfl (by kernel_rfl) (by kernel_rfl) ?_
         apply Steps.o1 (MP.eq _) 1 rfl rfl
         ·intro FA x hO hD K hK
          have e1 := hO 1 (by kernel_rfl)
          simp only [eval_tmp, qgT, qgS, qgZ, qoS] at e1
          have ev1 := Lib.hid ((eval_tmp FA 1).trans e1)
          clear hO hD
          go_simp
          exact hK.out _ _ (Ex.refl _) rfl
         apply Steps.o1 (MP.eq _) 2 rfl rfl
         ·intro FA x hO hD K hK
          have e6 := hO 6 (by kernel_rfl)
          simp only [eval_tmp, qgT, qgS, qgZ, qoS] at e6
          have ev6 := Lib.hid ((eval_tmp FA 6).trans e6)
          clear hO hD
          go_simp
          exact hK.out _ _ (Ex.refl _) rfl
         apply Steps.o1 (MP.eq _) 3 rfl rfl
         ·intro FA x hO hD K hK
          obtain ⟨e42, ev42⟩ := qE (hD 0 42 (by kernel_rfl))
          obtain ⟨e43, ev43⟩ := qE (hD 1 43 (by kernel_rfl))
          clear hO hD
          go_simp
          exact hK.out _ _ (Ex.refl _) rfl
         apply Steps.o1 (MP.eq _) 4 rfl rfl
         ·intro FA x hO hD K hK
          obtain ⟨e44, ev44⟩ := qE (hD 2 44 (by kernel_rfl))
          clear hO hD
          go_simp
          exact hK.out _ _ (Ex.refl _) rfl
         apply Steps.o1 (MP.eq _) 5 rfl rfl
         ·intro FA x hO hD K hK
          obtain ⟨e45, ev45⟩ := qE (hD 3 45 (by kernel_rfl))
          clear hO hD
          have q5 := H5.out (plus wr x.bs x.d) (belowP hE2 x.bs x.d)
          have q6 := H6.out (plus wr x.bs x.d) (belowP hE2 x.bs x.d)
          go_simp
          exact hK.out _ _ (Ex.refl _) rfl
         apply Steps.o1 (MP.eq _) 6 rfl rfl
         ·intro FA x hO hD K hK
          have e1 := hO 1 (by kernel_rfl)
          simp only [eval_tmp, qgT, qgS, qgZ, qoS] at e1
          have ev1 := Lib.hid ((eval_tmp FA 1).trans e1)
          clear hO hD
          go_simp
          exact hK.out _ _ (Ex.refl _) rfl
         apply Steps.o1 (MP.eq _) 7 rfl rfl
         ·intro FA x hO hD K hK
          have e5 := hO 5 (by kernel_rfl)
          simp only [eval_tmp, qgT, qgS, qgZ, qoS] at e5
          have ev5 := Lib.hid ((eval_tmp FA 5).trans e5)
          clear hO hD
          go_simp
          exact hK.out _ _ (Ex.refl _) rfl
         apply Steps.o1 (MP.eq _) 8 rfl rfl
         ·intro FA x hO hD K hK
          obtain ⟨e47, ev47⟩ := qE (hD 5 47 (by kernel_rfl))
          obtain ⟨e48, ev48⟩ := qE (hD 6 48 (by kernel_rfl))
          clear hO hD
          go_simp
          exact hK.out _ _ (Ex.refl _) rfl
         apply Steps.o1 (MP.eq _) 9 rfl rfl
         ·intro FA x hO hD K hK
          obtain ⟨e49, ev49⟩ := qE (hD 7 49 (by kernel_rfl))
          clear hO hD
          go_simp
          exact hK.out _ _ (Ex.refl _) rfl
         apply Steps.o1 (MP.eq _) 10 rfl rfl
         ·intro FA x hO hD K hK
          obtain ⟨e50, ev50⟩ := qE (hD 8 50 (by kernel_rfl))
          clear hO hD
          have q5 := H5.out (plus wr x.bs x.d) (belowP hE2 x.bs x.d)
          have q6 := H6.out (plus wr x.bs x.d) (belowP hE2 x.bs x.d)
          go_simp
          exact hK.out _ _ (Ex.refl _) rfl
         apply Steps.o1 (MP.eq _) 11 rfl rfl
         ·intro FA x hO hD K hK
          obtain ⟨e46, ev46⟩ := qE (hD 4 46 (by kernel_rfl))
          obtain ⟨e51, ev51⟩ := qE (hD 9 51 (by kernel_rfl))
          clear hO hD
          go_simp
          exact hK.out _ _ (Ex.refl _) rfl
         refine Steps.fin_ (fun vs x hp => ?_)
         have p0 : vs 0 = _ := hp 0 (by omega)
         have p1 : vs 1 = _ := hp 1 (by omega)
         have p2 : vs 2 = _ := hp 2 (by omega)
         have p3 : vs 3 = _ := hp 3 (by omega)
         have p4 : vs 4 = _ := hp 4 (by omega)
         have p5 : vs 5 = _ := hp 5 (by omega)
         have p6 : vs 6 = _ := hp 6 (by omega)
         have p7 : vs 7 = _ := hp 7 (by omega)
         have p8 : vs 8 = _ := hp 8 (by omega)
         have p9 : vs 9 = _ := hp 9 (by omega)
         have p10 : vs 10 = _ := hp 10 (by omega)
         clear hp
         simp only [List.take_succ_cons, List.take_zero, List.drop_succ_cons, List.drop_zero, putAll, Nat.zero_add, Nat.reduceAdd, Act.put, qsT, qsZ, qsS, p0, p1, p2, p3, p4, p5, p6, p7, p8, p9, p10]
         clear p0 p1 p2 p3 p4 p5 p6 p7 p8 p9 p10
         clear vs
         go_wp2
        ·go_ret
         rw [HBAD.out]
         exact RetV.is_ rfl (belowP hE2 _ _)
        ·exact ⟨⟨k + 1, by omega, by go_num, HN, belowP hE2 _ _, bs2.later (below_plus _ _ _)⟩, by simp [intOf]; omega⟩
       ·have kk : ¬ (k : Int) < (i : Int) := by omega
        have hke : k = i := by omega
        have HN := Lib.hid (show okM C (ms.take (i + 1)) = true by
         have h := hno.out
         rw [hke] at h
         rw [HOI.out, hok.out, decide_eq_false h, hwt.out]
         rfl)
        clear hno hke
        go_wp2
        exact ⟨⟨i + 1, by omega, by go_num, HN, hE2, bs2⟩, by simp [intOf]; omega⟩
  ·have hmi : ¬ (i : Int) < (m : Int) := by omega
   have him : i = m := by omega
   have hall : okM C ms = true := by
    have := hok.out
    rwa [List.take_of_length_le (by omega)] at this
   have h64 := okM_len hall
   have hm64 : (m : Int) ≤ 64 := by omega
   have HV := Lib.hid (show R0 = true from HR0.out.trans hall)
   clear hall h64 hi
   go_wp2
   go_ret
   rw [HV.out]
   exact RetV.is_ rfl hE
end

section
open Go.Lib
open Go.RowKit
attribute [local go_sem ↓] sliced_cut
attribute [local go_sem] cutA_zero
theorem rcC_len (C : Cf) (hk : C.key.length = 16) (hb : C.bk.length = 65) (A : Option Addr) (n c : Nat) : (rcC C A n c).length = 279 := rcL_len _ _ _ _ _ _ _ _ hk (by simp [hb]) (by simp [hb])
theorem etRv : ET Tryd.prog 35 62 (.agg (rvC (⟨(false, 0, 0), 0, 0, 0, [], ⟨[], 0, 0⟩⟩, ⟨none, 0, 0, none, 0, 0⟩)).toArray) 81 168 := ⟨Tryd.underlying35, by kernel_rfl, by kernel_rfl, by decide, by decide⟩
theorem rcC_set (C : Cf) (hk : C.key.length = 16) (hb : C.bk.length = 65) (A A' : Option Addr) (n c n' c' : Nat) : (rcC C A n c).set 278 (.slice A' n' c') = rcC C A' n' c' := rcL_setVips _ _ _ _ _ _ _ _ hk (by simp [hb]) (by simp [hb]) _ _ _
def RcO (G : Nat → Prop) (base : Nat) (w : World) (C : Cf) (A : Option Addr) (n c : Nat) (E : List Re) : Prop :=
 ∃ b cs, A = some ⟨b, 0, none⟩ ∧ base ≤ b ∧ ¬ G b ∧ Bk w b 62 (E.flatMap rvC ++ cs) ∧ RcX G w C A n c E ∧ (∀ x ∈ E, Off (fun k => G k ∨ k = b) w x.2.A) ∧ ∀ x ∈ E, RSt (fun k => G k ∨ k = b) w x.1.S.lv x.2.B x.2.m x.2.d
section
variable {G : Nat → Prop} {base : Nat} {w w' : World} {C : Cf} {A : Option Addr} {n c : Nat} {E : List Re}
theorem RcO.x (h : RcO G base w C A n c E) : RcX G w C A n c E := by
 obtain ⟨b, cs, h1, h2, h3, h4, h5, h6, h7⟩ := h
 exact h5
theorem RcO.base_ {base' : Nat} (h : RcO G base w C A n c E) (hb : base' ≤ base) : RcO G base' w C A n c E := by
 obtain ⟨b, cs, h1, h2, h3, h4, h5, h6, h7⟩ := h
 exact ⟨b, cs, h1, Nat.le_trans hb h2, h3, h4, h5, h6, h7⟩
theorem RcO.later (h : RcO G base w C A n c E) (hb : Below w.heap.size w w') : RcO G base w' C A n c E := by
 obtain ⟨b, cs, h1, h2, h3, h4, h5, h6, h7⟩ := h
 exact ⟨b, cs, h1, h2, h3, h4.later hb, h5.later hb, fun x hx => (h6 x hx).size hb.size, fun x hx => (h7 x hx).later hb⟩
theorem RcO.chg {D : Nat → Prop} (h : RcO G base w C A n c E) (hc : Chg D w w') (hd : ∀ b, D b → G b) : RcO G base w' C A n c E := by
 obtain ⟨b, cs, h1, h2, h3, h4, h5, h6, h7⟩ := h
 exact ⟨b, cs, h1, h2, h3, h4.chg hc (fun h => h3 (hd _ h)), h5.chg hc hd, fun x hx => (h6 x hx).size hc.size, fun x hx => (h7 x hx).chg ⟨hc.os, hc.tape, hc.output, hc.size, fun k hk hn => hc.block k hk (fun hD => hn (.inl (hd k hD)))⟩⟩
theorem RcO.more {G' : Nat → Prop} (h : RcO G base w C A n c E) (hd : ∀ b, G' b → G b ∨ w.heap.size ≤ b) : RcO G' base w C A n c E := by
 obtain ⟨b, cs, h1, h2, h3, h4, h5, h6, h7⟩ := h
 have hl := h4.lt
 exact ⟨b, cs, h1, h2, fun h => (hd _ h).elim h3 (fun h => by omega), h4, h5.more hd, fun x hx => (h6 x hx).more (fun k hk => hk.elim (fun h => (hd _ h).elim (fun h => .inl (.inl h)) .inr) (fun h => .inl (.inr h))), fun x hx => (h7 x hx).more (fun k hk => hk.elim (fun h => (hd _ h).elim (fun h => .inl (.inl h)) .inr) (fun h => .inl (.inr h)))⟩
theorem RcO.num_ (h : RcO G base w C A n c E) {C' : Cf} (hv : C'.vs = C.vs) : RcO G base w C' A n c E := by
 obtain ⟨b, cs, h1, h2, h3, h4, h5, h6, h7⟩ := h
 exact ⟨b, cs, h1, h2, h3, h4, ⟨h5.vs.trans hv.symm, h5.row, h5.off, h5.mm, h5.mo, h5.ss⟩, h6, h7⟩
end
set_option maxHeartbeats 4000000 in
set_option maxRecDepth 100000 in
theorem rcWith_own {G : Nat → Prop} (C : Cf) (hk : C.key.length = 16) (hb : C.bk.length = 65) (A : Option Addr) (n c : Nat) (E : List Re) (i : Nat) (y : Re) (w : World) (hG : ∀ b, G b → b < w.heap.size) (hX : RcX G w C A n c E) (hi : i < n) (hn : n ≤ 16) (h1 : Rs 2 w y.2.A y.2.n y.2.c (prs .i64 y.1.ms)) (h2 : Off G w y.2.A) (h3 : RSt G w y.1.S.lv y.2.B y.2.m y.2.d) : Calls Tryd.prog 43 #[.agg (rcC C A n c).toArray, .int .i64 (i : Int), .agg (rvC y).toArray] w fun e w' => ∃ A' c', e = .returned (.agg (rcC { C with vs := C.vs.set i y.1 } A' n c').toArray) ∧ RcO G w.heap.size w' { C with vs := C.vs.set i y.1 } A' n c' (E.set i y) ∧ Below w.heap.size w w' := by
 have HX0 := Lib.hid hX
 have H10 := Lib.hid h1
 have H20 := Lib.hid h2
 have H30 := Lib.hid h3
 clear h1 h2 h3
 obtain ⟨dvs1, vs1, vs2⟩ := rowRcS
 obtain ⟨dvr1, vr1, vr2⟩ := rowRv
 obtain ⟨bs, by_, be, zV⟩ := box2 w 37 62 (rcC C A n c) (rvC y)
 go_enter Tryd.func43, Tryd.ntmps43
 go_upto_region 1 with (fail)
 have HVe := Lib.hid (show ((w.alloc (.cells (rcC C A n c).toArray 37)).alloc (.cells (rvC y).toArray 62)).heap.size = w.heap.size + 1 + 1 by simp)
 generalize (w.alloc (.cells (rcC C A n c).toArray 37)).alloc (.cells (rvC y).toArray 62) = V at *
 replace hX := hX.later be
 have hnE : E.length = n := by have := hX.n_; have := hX.len; omega
 have hz := Bk.newK 37 (Tryd.zeroCells37) _ HVe.out.symm rfl
 have hzl : (Tryd.zeroCells37).toList.length = 279 := by kernel_rfl
 have hbz : Below V.heap.size V (V.alloc (.cells (Tryd.zeroCells37) 37)) := Below.allocS (Below.refl _ _) _
 go_upto_region 1 with (fail)
 have hVs : w.heap.size + 2 ≤ V.heap.size := by have := by_.lt; omega
 generalize hV2 : V.alloc (.cells (Tryd.zeroCells37) 37) = V2 at *
 have hV2s : V2.heap.size = V.heap.size + 1 := by rw [← hV2]; simp
 clear hV2
 generalize (Tryd.zeroCells37).toList = zl0 at *
 replace hX := hX.later hbz
 replace bs := bs.later hbz
 replace by_ := by_.later hbz
 replace be := be.trans (hbz.mono be.size)
 have hV2g : V.heap.size + 1 ≤ V2.heap.size := by omega
 clear hbz hV2s
 refine wp_region_lit ?_
 iterate 2 (refine wpList_plain rfl (fun K hK => ?_); go_simp; with_reducible refine hK _ _ ?_; clear hK K)
 refine wpList_ld1 (t := 37) (cs := rcC C A n c) 35 (.tmp 8) rfl (by rfl) rfl (bs.alloc _) (rcC_vips C hk hb A n c) Tryd.underlying35 rfl ?_
 simp only [Act.put, qsT, qsZ, qsS]
 refine wpList_appS etRv rfl (.tmp 7) (.tmp 9) rfl rfl (Os.lit V2 (Nat.le_refl _) #[] 0 rfl (Nat.zero_le _)) rfl (hX.row.alloc _) (flat_one rvC rvC_one _) (by omega) (by simp) ?_
 intro A2 n2 c2 w4 hn2 hO4 hb4 hg4
 obtain rfl : n = n2 := by omega
 clear hn2
 simp only [Act.put, qsT, qsZ, qsS]
 have hb4W : Below V2.heap.size V2 w4 := (Below.allocS (Below.refl _ _) _).trans hb4
 simp only [List.nil_append, Nat.zero_add] at hO4
 replace bs := bs.later hb4W
 replace by_ := by_.later hb4W
 replace hz := hz.later hb4W
 replace be := be.trans (hb4W.mono be.size)
 refine wpList_plain rfl (fun K hK => ?_); go_simp; with_reducible refine hK _ _ ?_; clear hK K
 refine wpList_st1 (v := .slice A2 n c2) (t := 37) (cs := rcC C A n c) (off := 278) 35 (.tmp 11) (.tmp 10) rfl rfl rfl rfl bs (by rw [rcC_len C hk hb]; omega) rfl (by kernel_rfl) ?_
 intro W6 h6 g6
 simp only [Act.put, qsT, qsZ, qsS]
 obtain ⟨b2, cur, rfl, hob, hcur, hcl, hct, hnc, hcm⟩ := hO4.bk (by omega)
 have hb2 := (hO4.blk _ hob).1
 replace hcur := hcur.grown g6 (fun e => by injection e with e; have := by_.lt; omega)
 rw [rcC_set C hk hb] at h6
 have hsp : cur = E.flatMap rvC ++ cur.drop (n * 81) := by rw [← hct, List.take_append_drop]
 have hfl : (E.flatMap rvC).length = n * 81 := by rw [flat_len rvC 81 rvC_len, hnE]
 have hnew : splice cur (i * 81) (rvC y) = (E.set i y).flatMap rvC ++ cur.drop (n * 81) := by
  rw [hsp, splice_app _ _ _ _ (by rw [rvC_len, hfl]; omega), flat_splice rvC 81 rvC_len _ _ (by omega), ← hsp]
 have HNEW := Lib.hid hnew
 replace by_ := by_.grown g6 (fun e => by injection e with e; omega)
 replace hz := hz.grown g6 (fun e => by injection e with e; omega)
 replace be := below_grown be g6 (Nat.le_refl _)
 have hcul : i * 81 + 81 ≤ cur.length := by omega
 have ii : (i : Int) < (n : Int) := by omega
 clear hnew hsp bs g6 hb4 hg4 hb4W hX hct hcl hfl
 go_upto_region 2 with (fail)
 refine wp_region_lit ?_
 refine wpList_plain rfl (fun K hK => ?_); go_simp; with_reducible refine hK _ _ ?_; clear hK K
 refine wpList_ld1 (t := 37) (cs := rcC C (some ⟨b2, 0, none⟩) n c2) 35 (.tmp 12) rfl (by rfl) rfl h6 (rcC_vips C hk hb _ n c2) Tryd.underlying35 rfl ?_
 refine wpList_plain rfl (fun K hK => ?_); go_simp; with_reducible refine hK _ _ ?_; clear hK K
 refine wpList_ldA (t := 62) 62 (.tmp 5) rfl rfl (rvC y) rfl (by_) (whole_ _) vr1 vr2 (szRv y) ?_
 refine wpList_plain rfl (fun K hK => ?_); go_simp; with_reducible refine hK _ _ ?_; clear hK K
 refine wpList_stM (t := 62) (off := i * 81) 62 (.tmp 16) (.tmp 15) rfl rfl (rvC y) cur (by rw [rvC_len]; omega) (rvC_one _) rfl rfl hcur (szRv y) ?_
 intro W8 h8 g8
 simp only [Act.put, qsT, qsZ, qsS]
 replace h6 := h6.grown g8 (fun e => by injection e with e; omega)
 replace hz := hz.grown g8 (fun e => by injection e with e; omega)
 replace be := below_grown be g8 (by omega)
 rw [HNEW.out] at h8
 clear g8 hcur by_
 go_upto_region 3 with (fail)
 refine wp_region_lit ?_
 refine wpList_ldA (t := 37) 37 (.tmp 3) rfl rfl (rcC C (some ⟨b2, 0, none⟩) n c2) rfl (h6) (whole_ _) vs1 vs2 (szRcS C hk hb _ n c2) ?_
 simp only [Act.put, qsT, qsZ, qsS]
 refine wpList_stA (t := 37) 37 (.tmp 6) (.tmp 17) rfl rfl (rcC C (some ⟨b2, 0, none⟩) n c2) zl0 (hzl.trans (rcC_len C hk hb _ _ _).symm).symm (rcL_one _ _ _ _ _ _ _ _) rfl rfl hz (szRcS C hk hb _ n c2) ?_
 intro W9 h9 g9
 simp only [Act.put, qsT, qsZ, qsS]
 replace h8 := h8.grown g9 (fun e => by injection e with e; omega)
 replace be := below_grown be g9 (by omega)
 go_wp2
 refine bodyPost_agg Tryd.results43 rfl h9.range vs1 vs2 (szRcS C hk hb _ n c2) rfl ?_
 have hX := HX0.out
 have hmem : ∀ x ∈ E.set i y, x ∈ E ∨ x = y := fun x hx => List.mem_or_eq_of_mem_set hx
 have hGb : ¬ G b2 := fun hg => by have hgb : b2 < w.heap.size := hG _ hg; omega
 refine ⟨some ⟨b2, 0, none⟩, c2, rfl, ⟨b2, _, rfl, by omega, hGb, h8, ⟨?_, ?_, ?_, ?_, ?_, ?_⟩, ?_, ?_⟩, be⟩
 ·rw [List.map_set, hX.vs]
 ·refine ⟨by rw [flat_len rvC 81 rvC_len, List.length_set, hnE], hnc, .inr ⟨b2, 0, rfl, h8.lt, fun j u hu => ?_⟩⟩
  rw [Nat.zero_add]
  exact (h8.cell j).trans (by rw [List.getElem?_append_left (List.getElem?_eq_some_iff.1 hu).1]; exact hu)
 ·intro a ha
  injection ha with ha
  subst ha
  exact ⟨h8.lt, fun hg => by have hgb : b2 < w.heap.size := hG _ hg; omega⟩
 ·intro x hx
  rcases hmem x hx with h | rfl
  ·exact (hX.mm x h).later be
  ·exact H10.out.later be
 ·intro x hx
  rcases hmem x hx with h | rfl
  ·exact (hX.mo x h).size be.size
  ·exact H20.out.size be.size
 ·intro x hx
  rcases hmem x hx with h | rfl
  ·exact (hX.ss x h).later be
  ·exact H30.out.later be
 ·intro x hx
  rcases hmem x hx with h | rfl
  ·exact ((hX.mo x h).more (fun k hk => hk.elim .inl (fun e => .inr (by omega)))).size be.size
  ·exact (H20.out.more (fun k hk => hk.elim .inl (fun e => .inr (by omega)))).size be.size
 ·intro x hx
  rcases hmem x hx with h | rfl
  ·exact ((hX.ss x h).more (fun k hk => hk.elim .inl (fun e => .inr (by omega)))).later be
  ·exact (H30.out.more (fun k hk => hk.elim .inl (fun e => .inr (by omega)))).later be
set_option maxHeartbeats 4000000 in
set_option maxRecDepth 100000 in
theorem rcWith_any {G : Nat → Prop} (C : Cf) (hk : C.key.length = 16) (hb : C.bk.length = 65) (A : Option Addr) (n c : Nat) (E : List Re) (i : Nat) (y : Re) (w : World) (hG : ∀ b, G b → b < w.heap.size) (hX : RcX G w C A n c E) (hi : i < n) (hn : n ≤ 16) (h1 : Rs 2 w y.2.A y.2.n y.2.c (prs .i64 y.1.ms)) (h2 : Off G w y.2.A) (h3 : RSt G w y.1.S.lv y.2.B y.2.m y.2.d) : Calls Tryd.prog 43 #[.agg (rcC C A n c).toArray, .int .i64 (i : Int), .agg (rvC y).toArray] w fun e w' => ∃ A' c', e = .returned (.agg (rcC { C with vs := C.vs.set i y.1 } A' n c').toArray) ∧ RcX G w' { C with vs := C.vs.set i y.1 } A' n c' (E.set i y) ∧ Below w.heap.size w w' :=
 (rcWith_own C hk hb A n c E i y w hG hX hi hn h1 h2 h3).mono (fun _ _ ⟨A', c', h1, h2, h3⟩ => ⟨A', c', h1, h2.x, h3⟩)
end

section
open Go.RowKit
theorem run_bs1 {P : Program} {w : World} {ts e : TypeId} {z : Value} {s by_ : Nat} (et : ET P ts e z s by_) (cs : List Value) (hl : cs.length = s) (hs : s ≤ 16777216) :
  (Instr.buildSlice ts 1 #[(0, .agg cs.toArray)]).run P w = .ok (.slice (some ⟨w.heap.size, 0, none⟩) 1 1) (w.alloc (.cells cs.toArray e)) := by
 have hp := et.pos
 have hz := et.zs
 obtain ⟨i, hi, hz0, hz1, hz2⟩ := info_parts et.info
 have hsl := et.sl
 clear et
 obtain rfl : i.size = s := hz1
 have h1 : ¬ 16777216 < i.size := by omega
 have h2 : ¬ i.size = 0 := by omega
 have hf := fill_cons (fun k => some (k * i.size, i.size)) ((List.range i.size).map (fun k => z.cells[k % z.cells.size]!)) 0 (.agg cs.toArray) [] 0 i.size cs (by simp) rfl hl (by simp)
 have hsp : splice ((List.range i.size).map (fun k => z.cells[k % z.cells.size]!)) 0 cs = cs := by
  unfold splice
  simp [hl]
 rw [hsp, fill_nil] at hf
 have ha : ((Array.range i.size).map (fun x => z.cells[x % z.cells.size]!)) = ((List.range i.size).map (fun k => z.cells[k % z.cells.size]!)).toArray := by
  apply Array.ext'
  simp
 rw [← ha] at hf
 unfold Instr.buildSlice
 simp only [Sem.run_bind, run_underlying hsl, Result.andThen_ok, sizeOf, typeInfo, zeroValue, Sem.run_pure]
 simp [hi, hz0, h1, h2, hf, newRow]
theorem wp_bs1 {P : Program} {Q : Exit → Act → World → Prop} {w : World} {o : Oper} {a : Act} {K : Act → World → Prop} {ts e : TypeId} {z : Value} {s by_ : Nat} (et : ET P ts e z s by_) (x : Operand) (ho : o.op = .buildSlice ts 1 #[(0, x)]) (cs : List Value) (hl : cs.length = s) (hs : s ≤ 16777216) (hx : a.eval x = .agg cs.toArray)
  (h : K (a.put o.dst (.slice (some ⟨w.heap.size, 0, none⟩) 1 1)) (w.alloc (.cells cs.toArray e))) : o.wp P a w K Q := by
 unfold Oper.wp execOp
 simp only [ho, Sem.run_bind, List.map_toArray, List.map_cons, List.map_nil, hx, run_bs1 et cs hl hs, Result.andThen_ok, Sem.run_pure]
 exact h
end

section
open Go.Lib
open Go.RowKit
attribute [local go_sem ↓] sliced_cut
attribute [local go_sem] cutA_zero
def RetRc (G : Nat → Prop) (w : World) (C' : Cf) (v : Nat) (e : Ending) (w' : World) : Prop := ∃ A n c E, e = .returned (.tuple #[.agg (rcC C' A n c).toArray, .int .i64 (v : Nat)]) ∧ RcX G w' C' A n c E ∧ Below w.heap.size w w'
theorem RetRc.no {G : Nat → Prop} {w w' : World} {C C' : Cf} {A : Option Addr} {n c : Nat} {E : List Re} {v v' : Nat} (h : RcX G w C A n c E) (hv : v' = v) (hC : C' = C) (hb : Below w.heap.size w w') : RetRc G w C' v' (.returned (.tuple #[.agg (rcC C A n c).toArray, .int .i64 (v : Nat)])) w' := by
 subst hv hC
 exact ⟨A, n, c, E, rfl, h.later hb, hb⟩
def Own.holdR {prot : Nat → Prop} (base : Nat) (t e : TypeId) (s : Nat) (cs : Value → List Value) (l : List Value) : Own prot := ⟨fun v u w => ∃ g A n c, u = .pointer (some ⟨g, 0, none⟩) ∧ v = .slice A n c ∧ Bk w g t (cs v) ∧ Os e s w base A n c l,
 fun v u b => u = .pointer (some ⟨b, 0, none⟩) ∨ v.ownBlock = some b,
 fun v u w b ⟨g, A, n, c, h1, h2, h3, h4⟩ h => (by
  rcases h with h | h
  ·rw [h1] at h; rw [← own_ptr h]; exact h3.lt
  ·subst h2; exact (h4.blk b h).2),
 fun v u w w' ⟨g, A, n, c, h1, h2, h3, h4⟩ hk => ⟨g, A, n, c, h1, h2, h3.kept hk (.inl (.inl h1)), h4.kept hk (fun b hb => .inl (.inr (by subst h2; exact hb)))⟩⟩
set_option maxHeartbeats 4000000
set_option maxRecDepth 100000
theorem run_buildRv (six : Bool) (ah al pt pr : Nat) (wy : Int) (w : World) : (Instr.build 62 #[(0, .agg (adC six ah al).toArray), (1, .int .u16 (pt : Int)), (2, .int .u8 (pr : Int)), (3, .int .i64 wy)]).run Tryd.prog w = .ok (.agg (rvC ((⟨(six, ah, al), pt, pr, wy, [], ⟨[], 0, 0⟩⟩, ⟨none, 0, 0, none, 0, 0⟩) : Re)).toArray) w := by kernel_rfl
theorem szEv (S : Stk) : (Tryd.prog.info? 34).map (·.size) = some ((refEv S).map Value.bool).length := by rw [show ((refEv S).map Value.bool).length = 65 by simp [refEv]]; kernel_rfl
theorem rowBl : ∃ d, Tryd.prog.underlying 34 = some d ∧ d.isRow = true := ⟨_, Tryd.underlying34, rfl⟩
theorem rvC_ev (x : Re) (i : Nat) (u : Value) (h : ((refEv x.1.S).map Value.bool)[i]? = some u) : (rvC x)[8 + i]? = some u := by
 unfold rvC rstC
 rw [List.getElem?_append_right (by rw [adF_len]; omega), adF_len, List.getElem?_append_right (by simp; omega)]
 rw [show 8 + i - 3 - [Value.int .u16 (x.1.pt : Int), .int .u8 (x.1.pr : Int), .int .i64 x.1.wy, .slice x.2.A x.2.n x.2.c].length = i + 1 by simp; omega, List.getElem?_cons_succ, List.getElem?_append_left (List.getElem?_eq_some_iff.1 h).1]
 exact h
theorem rvC_setEv (x : Re) (S' : Stk) (hb : refBz S' = refBz x.1.S) : splice (rvC x) 8 ((refEv S').map Value.bool) = rvC ({ x.1 with S := S' }, x.2) := by
 unfold rvC rstC splice
 rw [hb]
 simp [adF, adC, refEv]
def addR (C : Cf) (o : OpR) : Cf := if addE C o = 0 then { C with vs := C.vs ++ [newV C o] } else C
theorem added_cases (C : Cf) (k v b e : Int) (six : Bool) (ah al pt pr : Nat) (wy : Int) (ms : List (Int × Int)) : (adG six ah al = false ∧ addE C ⟨k, v, b, e, six, ah, al, pt, pr, wy, ms⟩ = 1) ∨ (adG six ah al = true ∧ ((pr : Int) == 6) = false ∧ ((pr : Int) == 17) = false ∧ addE C ⟨k, v, b, e, six, ah, al, pt, pr, wy, ms⟩ = 1) ∨
  (adG six ah al = true ∧ ((pr : Int) == 6) = true ∧ wy < 1 ∧ addE C ⟨k, v, b, e, six, ah, al, pt, pr, wy, ms⟩ = 1) ∨ (adG six ah al = true ∧ ((pr : Int) == 6) = true ∧ 4 < wy ∧ addE C ⟨k, v, b, e, six, ah, al, pt, pr, wy, ms⟩ = 1) ∨
  (adG six ah al = true ∧ ((pr : Int) == 6) = false ∧ ((pr : Int) == 17) = true ∧ wy < 1 ∧ addE C ⟨k, v, b, e, six, ah, al, pt, pr, wy, ms⟩ = 1) ∨ (adG six ah al = true ∧ ((pr : Int) == 6) = false ∧ ((pr : Int) == 17) = true ∧ 4 < wy ∧ addE C ⟨k, v, b, e, six, ah, al, pt, pr, wy, ms⟩ = 1) ∨
  (adG six ah al = true ∧ ((pr : Int) == 6) = true ∧ 1 ≤ wy ∧ wy ≤ 4 ∧ (adG six ah al && (decide (pr = 6 ∨ pr = 17) && wyB wy)) = true) ∨ (adG six ah al = true ∧ ((pr : Int) == 6) = false ∧ ((pr : Int) == 17) = true ∧ 1 ≤ wy ∧ wy ≤ 4 ∧ (adG six ah al && (decide (pr = 6 ∨ pr = 17) && wyB wy)) = true) := by
 have hbad : (adG six ah al && (decide (pr = 6 ∨ pr = 17) && wyB wy)) = false → addE C ⟨k, v, b, e, six, ah, al, pt, pr, wy, ms⟩ = 1 := fun h => by unfold addE; simp only; rw [if_pos h]
 have w1 : wy < 1 → wyB wy = false := fun h => by unfold wyB; rw [decide_eq_false (show ¬ 1 ≤ wy by omega)]; rfl
 have w4 : 4 < wy → wyB wy = false := fun h => by unfold wyB; rw [decide_eq_false (show ¬ wy ≤ 4 by omega)]; simp
 have wg : 1 ≤ wy → wy ≤ 4 → wyB wy = true := fun h1 h4 => by unfold wyB; rw [decide_eq_true h1, decide_eq_true h4]; rfl
 cases hg : adG six ah al with
 | false => exact .inl ⟨rfl, hbad (by rw [hg]; rfl)⟩
 | true =>
  rw [hg] at hbad
  refine .inr ?_
  have p6 : ((pr : Int) == 6) = decide (pr = 6) := by rw [Bool.eq_iff_iff]; simp; omega
  have p17 : ((pr : Int) == 17) = decide (pr = 17) := by rw [Bool.eq_iff_iff]; simp; omega
  rw [p6, p17]
  by_cases h6 : pr = 6
  ·subst h6
   rcases (by omega : wy < 1 ∨ 4 < wy ∨ (1 ≤ wy ∧ wy ≤ 4)) with h | h | ⟨h, h'⟩
   ·exact .inr (.inl ⟨rfl, rfl, h, hbad (by rw [w1 h]; simp)⟩)
   ·exact .inr (.inr (.inl ⟨rfl, rfl, h, hbad (by rw [w4 h]; simp)⟩))
   ·exact .inr (.inr (.inr (.inr (.inr (.inl ⟨rfl, rfl, h, h', by rw [wg h h']; rfl⟩)))))
  ·by_cases h17 : pr = 17
   ·subst h17
    rcases (by omega : wy < 1 ∨ 4 < wy ∨ (1 ≤ wy ∧ wy ≤ 4)) with h | h | ⟨h, h'⟩
    ·exact .inr (.inr (.inr (.inl ⟨rfl, rfl, rfl, h, hbad (by rw [w1 h]; simp)⟩)))
    ·exact .inr (.inr (.inr (.inr (.inl ⟨rfl, rfl, rfl, h, hbad (by rw [w4 h]; simp)⟩))))
    ·exact .inr (.inr (.inr (.inr (.inr (.inr ⟨rfl, rfl, rfl, h, h', by rw [wg h h']; rfl⟩)))))
   ·exact .inl ⟨rfl, decide_eq_false h6, decide_eq_false h17, hbad (by rw [decide_eq_false (by omega)]; rfl)⟩
theorem rcAdded_any {G : Nat → Prop} (k v b e : Int) (six : Bool) (ah al pt pr : Nat) (wy : Int) (ms : List (Int × Int)) (B : Option Addr) (m d : Nat) (C : Cf) (hC : CfOk C) (A : Option Addr) (n c : Nat) (E : List Re) (w : World) (hG : ∀ b, G b → b < w.heap.size) (hX : RcX G w C A n c E) (hal : al < 18446744073709551616) : Calls Tryd.prog 38 #[.agg (rcC C A n c).toArray, .agg (opC k v b e six ah al pt pr wy B m d).toArray] w (RetRc G w (addR C ⟨k, v, b, e, six, ah, al, pt, pr, wy, ms⟩) (addE C ⟨k, v, b, e, six, ah, al, pt, pr, wy, ms⟩)) := by
 obtain ⟨dva1, va1, va2⟩ := rowAdC
 obtain ⟨dvr1, vr1, vr2⟩ := rowRv
 obtain ⟨dub1, ub1, ub2⟩ := rowBl
 have hk := hC.key
 have hb := hC.bl
 have HX0 := Lib.hid hX
 have HRR := Lib.hid (fun W => refAdrRightC six ah al W hal)
 obtain ⟨ag, hag⟩ : ∃ x, x = adG six ah al := ⟨_, rfl⟩
 rw [← hag] at HRR
 have HC := added_cases C k v b e six ah al pt pr wy ms
 rw [← hag] at HC
 rcases HC with ⟨rfl, HE⟩ | ⟨rfl, q6, q17, HE⟩ | ⟨rfl, q6, q1, HE⟩ | ⟨rfl, q6, q1, HE⟩ | ⟨rfl, q6, q17, q1, HE⟩ | ⟨rfl, q6, q17, q1, HE⟩ | ⟨rfl, q6, q1, q4, hgood⟩ | ⟨rfl, q6, q17, q1, q4, hgood⟩
 all_goals first | (have r6 : ((pr : Int) != 6) = false := (by rw [bne, q6]; rfl)) | (have r6 : ((pr : Int) != 6) = true := (by rw [bne, q6]; rfl); have n6 : ¬ (pr : Int) = 6 := (by simpa using q6)) | skip
 all_goals first | (have r17 : ((pr : Int) != 17) = false := (by rw [bne, q17]; rfl)) | (have r17 : ((pr : Int) != 17) = true := (by rw [bne, q17]; rfl); have n17 : ¬ (pr : Int) = 17 := (by simpa using q17)) | skip
 all_goals first | (have q9 : 1 ≤ wy := (by omega)) | skip
 iterate 6
  focus
   have HAP := Lib.hid (show addR C ⟨k, v, b, e, six, ah, al, pt, pr, wy, ms⟩ = C by unfold addR; rw [HE]; rfl)
   have HE0 := Lib.hid HE
   clear HE hag
   obtain ⟨dvs1, vs1, vs2⟩ := rowRcS
   obtain ⟨dvo1, vo1, vo2⟩ := rowRo
   obtain ⟨bs, bo, be, zV⟩ := box2 w 37 48 (rcC C A n c) (opC k v b e six ah al pt pr wy B m d)
   go_enter Tryd.func38, Tryd.ntmps38
   go_upto_region 1 with (fail)
   have HVe := Lib.hid (show ((w.alloc (.cells (rcC C A n c).toArray 37)).alloc (.cells (opC k v b e six ah al pt pr wy B m d).toArray 48)).heap.size = w.heap.size + 1 + 1 by simp)
   generalize (w.alloc (.cells (rcC C A n c).toArray 37)).alloc (.cells (opC k v b e six ah al pt pr wy B m d).toArray 48) = V at *
   have hz := Bk.newK 37 (Tryd.zeroCells37) _ HVe.out.symm rfl
   have hzl : (Tryd.zeroCells37).toList.length = 279 := by kernel_rfl
   have hbz : Below V.heap.size V (V.alloc (.cells (Tryd.zeroCells37) 37)) := Below.allocS (Below.refl _ _) _
   go_upto_region 1 with (fail)
   have hVs : w.heap.size + 2 ≤ V.heap.size := by have := bo.lt; omega
   generalize hV2 : V.alloc (.cells (Tryd.zeroCells37) 37) = V2 at *
   clear hV2
   generalize (Tryd.zeroCells37).toList = zl0 at *
   replace bs := bs.later hbz
   replace bo := bo.later hbz
   replace be := be.trans (hbz.mono be.size)
   have hVz := hbz.size
   clear hbz
   refine wp_region_lit ?_
   refine wpList_plain rfl (fun K hK => ?_); go_simp; with_reducible refine hK _ _ ?_; clear hK K
   refine wpList_ldA (t := 48) (cs := opC k v b e six ah al pt pr wy B m d) 32 (.tmp 7) rfl rfl (adC six ah al) rfl (bo) rfl va1 va2 (szAd _ _ _) ?_
   refine wpList_plain rfl (fun K hK => ?_)
   go_simp
   refine (HRR.out _).mono ?_
   rintro e w1 ⟨bs1, d1, rfl, rfl⟩
   with_reducible refine hK _ _ ?_
   clear hK K
   have hb1 := below_plus V2 bs1 d1
   replace bs := bs.later hb1
   replace bo := bo.later hb1
   replace hz := hz.later hb1
   replace be := be.trans (hb1.mono be.size)
   clear hb1
   generalize plus V2 bs1 d1 = V3 at *
   iterate 2 (refine wpList_plain rfl (fun K hK => ?_); go_simp; with_reducible refine hK _ _ ?_; clear hK K)
   first | ((with_reducible refine wpList_skip ?_ ?_); (· first | (go_simp; done) | (go_simp; intro h; cases h)); simp only [Act.put, qsT, qsZ, qsS]) | (refine wpList_step (fun K hK => ?_); go_simp; (with_reducible refine hK _ _ ?_); clear hK K)
   first | ((with_reducible refine wpList_skip ?_ ?_); (· first | (go_simp; done) | (go_simp; intro h; cases h)); simp only [Act.put, qsT, qsZ, qsS]) | (refine wpList_ld1 (t := 48) (cs := opC k v b e six ah al pt pr wy B m d) 5 (.tmp 12) rfl (by go_simp) rfl (bo) rfl Tryd.underlying5 rfl ?_; simp only [Act.put, qsT, qsZ, qsS])
   first | ((with_reducible refine wpList_skip ?_ ?_); (· first | (go_simp; done) | (go_simp; intro h; cases h)); simp only [Act.put, qsT, qsZ, qsS]) | (refine wpList_step (fun K hK => ?_); go_simp; (with_reducible refine hK _ _ ?_); clear hK K)
   first | ((with_reducible refine wpList_skip ?_ ?_); (· first | (go_simp; done) | (go_simp; intro h; cases h)); simp only [Act.put, qsT, qsZ, qsS]) | (refine wpList_step (fun K hK => ?_); go_simp; (with_reducible refine hK _ _ ?_); clear hK K)
   first | ((with_reducible refine wpList_skip ?_ ?_); (· first | (go_simp; done) | (go_simp; intro h; cases h)); simp only [Act.put, qsT, qsZ, qsS]) | (refine wpList_step (fun K hK => ?_); go_simp; (with_reducible refine hK _ _ ?_); clear hK K)
   first | ((with_reducible refine wpList_skip ?_ ?_); (· first | (go_simp; done) | (go_simp; intro h; cases h)); simp only [Act.put, qsT, qsZ, qsS]) | (refine wpList_ld1 (t := 48) (cs := opC k v b e six ah al pt pr wy B m d) 5 (.tmp 16) rfl (by go_simp) rfl (bo) rfl Tryd.underlying5 rfl ?_; simp only [Act.put, qsT, qsZ, qsS])
   first | ((with_reducible refine wpList_skip ?_ ?_); (· first | (go_simp; done) | (go_simp; intro h; cases h)); simp only [Act.put, qsT, qsZ, qsS]) | (refine wpList_step (fun K hK => ?_); go_simp; (with_reducible refine hK _ _ ?_); clear hK K)
   first | ((with_reducible refine wpList_skip ?_ ?_); (· first | (go_simp; done) | (go_simp; intro h; cases h)); simp only [Act.put, qsT, qsZ, qsS]) | (refine wpList_step (fun K hK => ?_); go_simp; (with_reducible refine hK _ _ ?_); clear hK K)
   iterate 2 (refine wpList_plain rfl (fun K hK => ?_); go_simp; with_reducible refine hK _ _ ?_; clear hK K)
   first | ((with_reducible refine wpList_skip ?_ ?_); (· first | (go_simp; done) | (go_simp; intro h; cases h)); simp only [Act.put, qsT, qsZ, qsS]) | (refine wpList_step (fun K hK => ?_); go_simp; (with_reducible refine hK _ _ ?_); clear hK K)
   first | ((with_reducible refine wpList_skip ?_ ?_); (· first | (go_simp; done) | (go_simp; intro h; cases h)); simp only [Act.put, qsT, qsZ, qsS]) | (refine wpList_ld1 (t := 48) (cs := opC k v b e six ah al pt pr wy B m d) 3 (.tmp 22) rfl (by go_simp) rfl (bo) rfl Tryd.underlying3 rfl ?_; simp only [Act.put, qsT, qsZ, qsS])
   first | ((with_reducible refine wpList_skip ?_ ?_); (· first | (go_simp; done) | (go_simp; intro h; cases h)); simp only [Act.put, qsT, qsZ, qsS]) | (refine wpList_step (fun K hK => ?_); go_simp; (with_reducible refine hK _ _ ?_); clear hK K)
   iterate 2 (refine wpList_plain rfl (fun K hK => ?_); go_simp; with_reducible refine hK _ _ ?_; clear hK K)
   first | ((with_reducible refine wpList_skip ?_ ?_); (· first | (go_simp; done) | (go_simp; intro h; cases h)); simp only [Act.put, qsT, qsZ, qsS]) | (refine wpList_step (fun K hK => ?_); go_simp; (with_reducible refine hK _ _ ?_); clear hK K)
   first | ((with_reducible refine wpList_skip ?_ ?_); (· first | (go_simp; done) | (go_simp; intro h; cases h)); simp only [Act.put, qsT, qsZ, qsS]) | (refine wpList_ld1 (t := 48) (cs := opC k v b e six ah al pt pr wy B m d) 3 (.tmp 27) rfl (by go_simp) rfl (bo) rfl Tryd.underlying3 rfl ?_; simp only [Act.put, qsT, qsZ, qsS])
   first | ((with_reducible refine wpList_skip ?_ ?_); (· first | (go_simp; done) | (go_simp; intro h; cases h)); simp only [Act.put, qsT, qsZ, qsS]) | (refine wpList_step (fun K hK => ?_); go_simp; (with_reducible refine hK _ _ ?_); clear hK K)
   refine wpList_plain rfl (fun K hK => ?_); go_simp; with_reducible refine hK _ _ ?_; clear hK K
   go_upto_region 2 with (fail)
   refine wp_region_lit ?_
   refine wpList_ldA (t := 37) 37 (.tmp 2) rfl rfl (rcC C A n c) rfl (bs) (whole_ _) vs1 vs2 (szRcS C hk hb A n c) ?_
   simp only [Act.put, qsT, qsZ, qsS]
   refine wpList_stA (t := 37) 37 (.tmp 4) (.tmp 31) rfl rfl (rcC C A n c) zl0 (hzl.trans (rcC_len C hk hb _ _ _).symm).symm (rcL_one _ _ _ _ _ _ _ _) rfl rfl hz (szRcS C hk hb _ _ _) ?_
   intro W9 h9 g9
   refine wpList_plain rfl (fun K hK => ?_); go_simp; with_reducible refine hK _ _ ?_; clear hK K
   replace be := below_grown be g9 (by omega)
   go_wp2
   refine bodyPost_agg2 Tryd.results38 rfl rfl h9.range vs1 vs2 (szRcS C hk hb _ _ _) rfl ?_
   exact RetRc.no HX0.out HE0.out HAP.out be
 iterate 2
  focus
   have hE1 : addE C ⟨k, v, b, e, six, ah, al, pt, pr, wy, ms⟩ = if fdC C (six, ah, al) pt pr < C.vs.length then 7 else if 16 ≤ C.vs.length then 23 else 0 := by
    unfold addE
    simp only
    rw [← hag, hgood]
    simp
   have hnv := hX.n_
   have hvl := hC.vl
   have hlt0 : fdC C (six, ah, al) pt pr ≤ C.vs.length := List.findIdx_le_length
   have HFI := Lib.hid (fun W (h : RcX G W C A n c E) => rcFind_any C hk hb A n c E h.vs six ah al pt pr W h.row (by omega))
   have HN := Lib.hid hnv
   obtain ⟨fz, hfz⟩ : ∃ z, z = fdI C (six, ah, al) pt pr := ⟨_, rfl⟩
   rw [← hfz] at HFI
   have HFZ := Lib.hid hfz
   have HE1 := Lib.hid hE1
   have HN16 := Lib.hid hvl
   clear hE1 hgood hag hlt0 hnv hfz hvl
   obtain ⟨dvs1, vs1, vs2⟩ := rowRcS
   obtain ⟨dvo1, vo1, vo2⟩ := rowRo
   obtain ⟨bs, bo, be, zV⟩ := box2 w 37 48 (rcC C A n c) (opC k v b e six ah al pt pr wy B m d)
   go_enter Tryd.func38, Tryd.ntmps38
   go_upto_region 1 with (fail)
   have HVe := Lib.hid (show ((w.alloc (.cells (rcC C A n c).toArray 37)).alloc (.cells (opC k v b e six ah al pt pr wy B m d).toArray 48)).heap.size = w.heap.size + 1 + 1 by simp)
   generalize (w.alloc (.cells (rcC C A n c).toArray 37)).alloc (.cells (opC k v b e six ah al pt pr wy B m d).toArray 48) = V at *
   have hz := Bk.newK 37 (Tryd.zeroCells37) _ HVe.out.symm rfl
   have hzl : (Tryd.zeroCells37).toList.length = 279 := by kernel_rfl
   have hbz : Below V.heap.size V (V.alloc (.cells (Tryd.zeroCells37) 37)) := Below.allocS (Below.refl _ _) _
   go_upto_region 1 with (fail)
   have hVs : w.heap.size + 2 ≤ V.heap.size := by have := bo.lt; omega
   generalize hV2 : V.alloc (.cells (Tryd.zeroCells37) 37) = V2 at *
   clear hV2
   generalize (Tryd.zeroCells37).toList = zl0 at *
   replace bs := bs.later hbz
   replace bo := bo.later hbz
   replace be := be.trans (hbz.mono be.size)
   have hVz := hbz.size
   clear hbz
   replace hX := (HX0.out).later be
   refine wp_region_lit ?_
   refine wpList_plain rfl (fun K hK => ?_); go_simp; with_reducible refine hK _ _ ?_; clear hK K
   refine wpList_ldA (t := 48) (cs := opC k v b e six ah al pt pr wy B m d) 32 (.tmp 7) rfl rfl (adC six ah al) rfl (bo) rfl va1 va2 (szAd _ _ _) ?_
   refine wpList_plain rfl (fun K hK => ?_)
   go_simp
   refine (HRR.out _).mono ?_
   rintro e w1 ⟨bs1, d1, rfl, rfl⟩
   with_reducible refine hK _ _ ?_
   clear hK K
   have hb1 := below_plus V2 bs1 d1
   replace bs := bs.later hb1
   replace bo := bo.later hb1
   replace hz := hz.later hb1
   replace be := be.trans (hb1.mono be.size)
   clear hb1
   generalize plus V2 bs1 d1 = V3 at *
   iterate 2 (refine wpList_plain rfl (fun K hK => ?_); go_simp; with_reducible refine hK _ _ ?_; clear hK K)
   first | ((with_reducible refine wpList_skip ?_ ?_); (· first | (go_simp; done) | (go_simp; intro h; cases h)); simp only [Act.put, qsT, qsZ, qsS]) | (refine wpList_step (fun K hK => ?_); go_simp; (with_reducible refine hK _ _ ?_); clear hK K)
   first | ((with_reducible refine wpList_skip ?_ ?_); (· first | (go_simp; done) | (go_simp; intro h; cases h)); simp only [Act.put, qsT, qsZ, qsS]) | (refine wpList_ld1 (t := 48) (cs := opC k v b e six ah al pt pr wy B m d) 5 (.tmp 12) rfl (by go_simp) rfl (bo) rfl Tryd.underlying5 rfl ?_; simp only [Act.put, qsT, qsZ, qsS])
   first | ((with_reducible refine wpList_skip ?_ ?_); (· first | (go_simp; done) | (go_simp; intro h; cases h)); simp only [Act.put, qsT, qsZ, qsS]) | (refine wpList_step (fun K hK => ?_); go_simp; (with_reducible refine hK _ _ ?_); clear hK K)
   first | ((with_reducible refine wpList_skip ?_ ?_); (· first | (go_simp; done) | (go_simp; intro h; cases h)); simp only [Act.put, qsT, qsZ, qsS]) | (refine wpList_step (fun K hK => ?_); go_simp; (with_reducible refine hK _ _ ?_); clear hK K)
   first | ((with_reducible refine wpList_skip ?_ ?_); (· first | (go_simp; done) | (go_simp; intro h; cases h)); simp only [Act.put, qsT, qsZ, qsS]) | (refine wpList_step (fun K hK => ?_); go_simp; (with_reducible refine hK _ _ ?_); clear hK K)
   first | ((with_reducible refine wpList_skip ?_ ?_); (· first | (go_simp; done) | (go_simp; intro h; cases h)); simp only [Act.put, qsT, qsZ, qsS]) | (refine wpList_ld1 (t := 48) (cs := opC k v b e six ah al pt pr wy B m d) 5 (.tmp 16) rfl (by go_simp) rfl (bo) rfl Tryd.underlying5 rfl ?_; simp only [Act.put, qsT, qsZ, qsS])
   first | ((with_reducible refine wpList_skip ?_ ?_); (· first | (go_simp; done) | (go_simp; intro h; cases h)); simp only [Act.put, qsT, qsZ, qsS]) | (refine wpList_step (fun K hK => ?_); go_simp; (with_reducible refine hK _ _ ?_); clear hK K)
   first | ((with_reducible refine wpList_skip ?_ ?_); (· first | (go_simp; done) | (go_simp; intro h; cases h)); simp only [Act.put, qsT, qsZ, qsS]) | (refine wpList_step (fun K hK => ?_); go_simp; (with_reducible refine hK _ _ ?_); clear hK K)
   iterate 2 (refine wpList_plain rfl (fun K hK => ?_); go_simp; with_reducible refine hK _ _ ?_; clear hK K)
   first | ((with_reducible refine wpList_skip ?_ ?_); (· first | (go_simp; done) | (go_simp; intro h; cases h)); simp only [Act.put, qsT, qsZ, qsS]) | (refine wpList_step (fun K hK => ?_); go_simp; (with_reducible refine hK _ _ ?_); clear hK K)
   first | ((with_reducible refine wpList_skip ?_ ?_); (· first | (go_simp; done) | (go_simp; intro h; cases h)); simp only [Act.put, qsT, qsZ, qsS]) | (refine wpList_ld1 (t := 48) (cs := opC k v b e six ah al pt pr wy B m d) 3 (.tmp 22) rfl (by go_simp) rfl (bo) rfl Tryd.underlying3 rfl ?_; simp only [Act.put, qsT, qsZ, qsS])
   first | ((with_reducible refine wpList_skip ?_ ?_); (· first | (go_simp; done) | (go_simp; intro h; cases h)); simp only [Act.put, qsT, qsZ, qsS]) | (refine wpList_step (fun K hK => ?_); go_simp; (with_reducible refine hK _ _ ?_); clear hK K)
   iterate 2 (refine wpList_plain rfl (fun K hK => ?_); go_simp; with_reducible refine hK _ _ ?_; clear hK K)
   first | ((with_reducible refine wpList_skip ?_ ?_); (· first | (go_simp; done) | (go_simp; intro h; cases h)); simp only [Act.put, qsT, qsZ, qsS]) | (refine wpList_step (fun K hK => ?_); go_simp; (with_reducible refine hK _ _ ?_); clear hK K)
   first | ((with_reducible refine wpList_skip ?_ ?_); (· first | (go_simp; done) | (go_simp; intro h; cases h)); simp only [Act.put, qsT, qsZ, qsS]) | (refine wpList_ld1 (t := 48) (cs := opC k v b e six ah al pt pr wy B m d) 3 (.tmp 27) rfl (by go_simp) rfl (bo) rfl Tryd.underlying3 rfl ?_; simp only [Act.put, qsT, qsZ, qsS])
   first | ((with_reducible refine wpList_skip ?_ ?_); (· first | (go_simp; done) | (go_simp; intro h; cases h)); simp only [Act.put, qsT, qsZ, qsS]) | (refine wpList_step (fun K hK => ?_); go_simp; (with_reducible refine hK _ _ ?_); clear hK K)
   refine wpList_plain rfl (fun K hK => ?_); go_simp; with_reducible refine hK _ _ ?_; clear hK K
   replace hX := (HX0.out).later be
   go_upto_region 3 with (fail)
   refine wp_region_lit ?_
   refine wpList_ldA (t := 37) 37 (.tmp 2) rfl rfl (rcC C A n c) rfl (bs) (whole_ _) vs1 vs2 (szRcS C hk hb A n c) ?_
   refine wpList_plain rfl (fun K hK => ?_); go_simp; with_reducible refine hK _ _ ?_; clear hK K
   refine wpList_ldA (t := 48) (cs := opC k v b e six ah al pt pr wy B m d) 32 (.tmp 33) rfl rfl (adC six ah al) rfl (bo) rfl va1 va2 (szAd _ _ _) ?_
   refine wpList_plain rfl (fun K hK => ?_); go_simp; with_reducible refine hK _ _ ?_; clear hK K
   refine wpList_ld1 (t := 48) (cs := opC k v b e six ah al pt pr wy B m d) 42 (.tmp 35) rfl (by rfl) rfl (bo) rfl Tryd.underlying42 rfl ?_
   refine wpList_plain rfl (fun K hK => ?_); go_simp; with_reducible refine hK _ _ ?_; clear hK K
   refine wpList_ld1 (t := 48) (cs := opC k v b e six ah al pt pr wy B m d) 5 (.tmp 37) rfl (by rfl) rfl (bo) rfl Tryd.underlying5 rfl ?_
   refine wpList_plain rfl (fun K hK => ?_)
   go_simp
   refine (HFI.out _ hX).mono ?_
   rintro e w1 ⟨bs2, d2, rfl, rfl⟩
   with_reducible refine hK _ _ ?_
   clear hK K
   have hb1 := below_plus V3 bs2 d2
   replace bs := bs.later hb1
   replace bo := bo.later hb1
   replace hz := hz.later hb1
   replace hX := hX.later hb1
   replace be := be.trans (hb1.mono be.size)
   clear hb1
   generalize plus V3 bs2 d2 = V4 at *
   refine wpList_plain rfl (fun K hK => ?_); go_simp; with_reducible refine hK _ _ ?_; clear hK K
   have hvl := HN16.out
   by_cases hf : fdC C (six, ah, al) pt pr < C.vs.length
   ·have HE0 := Lib.hid (HE1.out.trans (if_pos hf))
    have HAP := Lib.hid (show addR C ⟨k, v, b, e, six, ah, al, pt, pr, wy, ms⟩ = C by unfold addR; rw [HE0.out]; rfl)
    have hfi0 : (0 : Int) ≤ fz := by have h1 := HFZ.out; unfold fdI at h1; rw [if_pos hf] at h1; omega
    clear hf
    go_upto_region 4 with (fail)
    refine wp_region_lit ?_
    refine wpList_ldA (t := 37) 37 (.tmp 2) rfl rfl (rcC C A n c) rfl (bs) (whole_ _) vs1 vs2 (szRcS C hk hb A n c) ?_
    simp only [Act.put, qsT, qsZ, qsS]
    refine wpList_stA (t := 37) 37 (.tmp 4) (.tmp 41) rfl rfl (rcC C A n c) zl0 (hzl.trans (rcC_len C hk hb _ _ _).symm).symm (rcL_one _ _ _ _ _ _ _ _) rfl rfl hz (szRcS C hk hb _ _ _) ?_
    intro W9 h9 g9
    refine wpList_plain rfl (fun K hK => ?_); go_simp; with_reducible refine hK _ _ ?_; clear hK K
    replace be := below_grown be g9 (by omega)
    go_wp2
    refine bodyPost_agg2 Tryd.results38 rfl rfl h9.range vs1 vs2 (szRcS C hk hb _ _ _) rfl ?_
    exact RetRc.no HX0.out HE0.out HAP.out be
   ·have hfi0 : ¬ (0 : Int) ≤ fz := by have h1 := HFZ.out; unfold fdI at h1; rw [if_neg hf] at h1; omega
    have q278 : V4.cell? ⟨w.heap.size, 278, none⟩ = some (.slice A n c) := (bs.cell _).trans (rcC_vips C hk hb A n c)
    by_cases h16 : 16 ≤ C.vs.length
    ·have HE0 := Lib.hid (HE1.out.trans ((if_neg hf).trans (if_pos h16)))
     have HAP := Lib.hid (show addR C ⟨k, v, b, e, six, ah, al, pt, pr, wy, ms⟩ = C by unfold addR; rw [HE0.out]; rfl)
     have n16 : (16 : Int) ≤ (n : Int) := by have := HN.out; omega
     clear hf h16
     go_upto_region 6 with (fail)
     refine wp_region_lit ?_
     refine wpList_ldA (t := 37) 37 (.tmp 2) rfl rfl (rcC C A n c) rfl (bs) (whole_ _) vs1 vs2 (szRcS C hk hb A n c) ?_
     simp only [Act.put, qsT, qsZ, qsS]
     refine wpList_stA (t := 37) 37 (.tmp 4) (.tmp 46) rfl rfl (rcC C A n c) zl0 (hzl.trans (rcC_len C hk hb _ _ _).symm).symm (rcL_one _ _ _ _ _ _ _ _) rfl rfl hz (szRcS C hk hb _ _ _) ?_
     intro W9 h9 g9
     refine wpList_plain rfl (fun K hK => ?_); go_simp; with_reducible refine hK _ _ ?_; clear hK K
     replace be := below_grown be g9 (by omega)
     go_wp2
     refine bodyPost_agg2 Tryd.results38 rfl rfl h9.range vs1 vs2 (szRcS C hk hb _ _ _) rfl ?_
     exact RetRc.no HX0.out HE0.out HAP.out be
    ·have HE0 := Lib.hid (HE1.out.trans ((if_neg hf).trans (if_neg h16)))
     have HAP := Lib.hid (show addR C ⟨k, v, b, e, six, ah, al, pt, pr, wy, ms⟩ = { C with vs := C.vs ++ [newV C ⟨k, v, b, e, six, ah, al, pt, pr, wy, ms⟩] } by unfold addR; rw [HE0.out]; rfl)
     have n16 : ¬ (16 : Int) ≤ (n : Int) := by have := HN.out; omega
     clear hf h16
     go_upto_region 7 with (fail)
     have hv81 : (Tryd.zeroCells62).toList.length = 81 := by kernel_rfl
     refine wp_region_lit ?_
     refine wpList_plain rfl (fun K hK => ?_); go_simp; with_reducible refine hK _ _ ?_; clear hK K
     refine wpList_ldA (t := 48) (cs := opC k v b e six ah al pt pr wy B m d) 32 (.tmp 47) rfl rfl (adC six ah al) rfl (bo) rfl va1 va2 (szAd _ _ _) ?_
     refine wpList_plain rfl (fun K hK => ?_); go_simp; with_reducible refine hK _ _ ?_; clear hK K
     refine wpList_ld1 (t := 48) (cs := opC k v b e six ah al pt pr wy B m d) 42 (.tmp 49) rfl (by rfl) rfl (bo) rfl Tryd.underlying42 rfl ?_
     refine wpList_plain rfl (fun K hK => ?_); go_simp; with_reducible refine hK _ _ ?_; clear hK K
     refine wpList_ld1 (t := 48) (cs := opC k v b e six ah al pt pr wy B m d) 5 (.tmp 51) rfl (by rfl) rfl (bo) rfl Tryd.underlying5 rfl ?_
     refine wpList_plain rfl (fun K hK => ?_); go_simp; with_reducible refine hK _ _ ?_; clear hK K
     refine wpList_ld1 (t := 48) (cs := opC k v b e six ah al pt pr wy B m d) 3 (.tmp 53) rfl (by rfl) rfl (bo) rfl Tryd.underlying3 rfl ?_
     simp only [Act.put, qsT, qsZ, qsS]
     refine wpList_build 62 [(0, .tmp 48), (1, .tmp 50), (2, .tmp 52), (3, .tmp 54)] rfl rfl (.agg (rvC ((⟨(six, ah, al), pt, pr, wy, [], ⟨[], 0, 0⟩⟩, ⟨none, 0, 0, none, 0, 0⟩) : Re)).toArray) (run_buildRv _ _ _ _ _ _ _) ?_
     refine wpList_plain rfl (fun K hK => ?_); go_simp; with_reducible refine hK _ _ ?_; clear hK K
     refine wpList_stA (t := 62) 62 (.tmp 6) (.tmp 55) rfl rfl (rvC ((⟨(six, ah, al), pt, pr, wy, [], ⟨[], 0, 0⟩⟩, ⟨none, 0, 0, none, 0, 0⟩) : Re)) (Tryd.zeroCells62).toList (by rw [rvC_len]; exact hv81.symm) (rvC_one _) rfl rfl (Bk.new _ _ _) (szRv _) ?_
     intro W7 h7 g7
     simp only [Act.put, qsT, qsZ, qsS]
     replace h7 := h7
     have be7 : Below w.heap.size w W7 := below_grown (Below.allocS be _) g7 (by have := be.size; omega)
     have bs7 := (bs.alloc (.cells (Tryd.zeroCells62) 62)).grown g7 (fun e => by injection e with e; have := bs.lt; omega)
     have hz7 := (hz.alloc (.cells (Tryd.zeroCells62) 62)).grown g7 (fun e => by injection e with e; have := hz.lt; omega)
     have hgv : V4.heap.size ≠ w.heap.size := by have := bs.lt; omega
     have hgz : V4.heap.size ≠ w.heap.size + 1 + 1 := by have := hz.lt; omega
     have hgl : w.heap.size ≤ V4.heap.size := be.size
     clear bs hz be bo q278 hX
     generalize V4.heap.size = gv at *
     have q278 : W7.cell? ⟨w.heap.size, 278, none⟩ = some (.slice A n c) := (bs7.cell _).trans (rcC_vips C hk hb A n c)
     clear g7
     by_cases h0 : n = 0
     focus
      have h0i : ¬ (0 : Int) < (n : Int) := by omega
      obtain ⟨y1, hy1⟩ : ∃ y : Re, y = ((newV C ⟨k, v, b, e, six, ah, al, pt, pr, wy, ms⟩, ⟨none, 0, 0, none, 0, 0⟩) : Re) := ⟨_, rfl⟩
      have HY1 := Lib.hid hy1
      have hvs : C.vs = [] := List.eq_nil_of_length_eq_zero (by have := HN.out; omega)
      have hy : Bk W7 gv 62 (rvC y1) := by
       rw [hy1]
       have e0 : ev0 C = 0 := by unfold ev0; rw [hvs]; rfl
       unfold newV
       rw [e0]
       exact h7
      clear hvs hy1 h7
      have bs := bs7
      have hz := hz7
      have be := be7
      clear bs7 hz7 be7
      go_upto_region 10 with (fail)
      generalize W7 = W at *
      clear q278
     rotate_left
     focus
      have h0i : (0 : Int) < (n : Int) := by omega
      have h0n : 0 < n := by omega
      have hXr := (HX0.out).later be7
      have hlE := hXr.len
      have hNn := HN.out
      obtain ⟨bl, ol, hAe, hbl, -⟩ := hXr.row.at_ h0n (by decide)
      have hrow := hXr.row
      rw [hAe] at hrow q278
      have hr0 := hrow.rangeE rvC_len 0 (by omega)
      rw [Nat.zero_mul, Nat.add_zero] at hr0
      have hE0v : (E[0]'(by omega)).1.S.ev = ev0 C := by
       unfold ev0
       rw [← hXr.vs, List.head?_map, List.head?_eq_getElem?, List.getElem?_eq_getElem (by omega)]
       rfl
      generalize (E[0]'(by omega)) = u0 at *
      have hrg : W7.rangeAt bl (ol + 8) ((refEv u0.1.S).map Value.bool) := fun i u hu => by
       rw [Nat.add_assoc]
       exact hr0 (8 + i) u (rvC_ev u0 i u hu)
      have hspl : splice (rvC ((⟨(six, ah, al), pt, pr, wy, [], ⟨[], 0, 0⟩⟩, ⟨none, 0, 0, none, 0, 0⟩) : Re)) 8 ((refEv u0.1.S).map Value.bool) = rvC ((newV C ⟨k, v, b, e, six, ah, al, pt, pr, wy, ms⟩, ⟨none, 0, 0, none, 0, 0⟩) : Re) := by
       have h1 : refEv u0.1.S = refEv ⟨[], ev0 C, 0⟩ := by unfold refEv deadS; rw [hE0v]
       rw [h1]
       exact rvC_setEv ((⟨(six, ah, al), pt, pr, wy, [], ⟨[], 0, 0⟩⟩, ⟨none, 0, 0, none, 0, 0⟩) : Re) ⟨[], ev0 C, 0⟩ rfl
      obtain ⟨y1, hy1⟩ : ∃ y : Re, y = ((newV C ⟨k, v, b, e, six, ah, al, pt, pr, wy, ms⟩, ⟨none, 0, 0, none, 0, 0⟩) : Re) := ⟨_, rfl⟩
      rw [← hy1] at hspl
      have HY1 := Lib.hid hy1
      have hgl7 := h7.lt
      clear hXr hlE hNn hAe hrow hr0 hE0v hy1
      go_upto_region 9 with (fail)
      refine wp_region_lit ?_
      iterate 5 (refine wpList_plain rfl (fun K hK => ?_); go_simp; with_reducible refine hK _ _ ?_; clear hK K)
      refine wpList_load_mid rfl 34 (.tmp 64) rfl bl (ol + 8) rfl ((refEv u0.1.S).map Value.bool) _ hrg ub1 ub2 (szEv _) ?_
      iterate 2 (refine wpList_plain rfl (fun K hK => ?_); go_simp; with_reducible refine hK _ _ ?_; clear hK K)
      refine wpList_stM (t := 62) (off := 8) 34 (.tmp 67) (.tmp 65) rfl rfl ((refEv u0.1.S).map Value.bool) (rvC ((⟨(six, ah, al), pt, pr, wy, [], ⟨[], 0, 0⟩⟩, ⟨none, 0, 0, none, 0, 0⟩) : Re)) (by rw [rvC_len]; simp [refEv]) (by intro u hu; obtain ⟨x, _, rfl⟩ := List.mem_map.1 hu; rfl) rfl rfl h7 (szEv _) ?_
      intro W9 h9 g9
      simp only [Act.put, qsT, qsZ, qsS]
      rw [hspl] at h9
      have hy := h9
      have bs := bs7.grown g9 (fun e => by injection e with e; omega)
      have hz := hz7.grown g9 (fun e => by injection e with e; omega)
      have be := below_grown be7 g9 hgl
      clear bs7 hz7 be7 h9 g9 h7 hspl hrg q278 hgl7
      go_upto_region 10 with (fail)
      generalize W9 = W at *
     iterate 2
      focus
       replace hX := (HX0.out).later be
       have hA6 := HX0.out.off
       have hrP : ∀ a, A = some a → a.block < W.heap.size → a.block ≠ w.heap.size ∧ a.block < W.heap.size := fun a ha h => ⟨by have := (hA6 a ha).1; omega, h⟩
       have hyP : gv ≠ w.heap.size ∧ gv < W.heap.size := ⟨hgv, hy.lt⟩
       have hzlt := hz.lt
       have hbs_ := be.size
       have hE16 : E.length ≤ 16 := by have := hX.len; omega
       go_upto_region 10 with (fail)
       refine wp_own (fun b => b ≠ w.heap.size ∧ b < W.heap.size) 9 1 77 2 (fun i => match i with | 8 => 9 | i => i) (fun i => match i with | 3 => [0] | 6 => [3, 5] | 8 => [6, 9] | _ => []) (fun i => match i with | 9 => .pointer (some ⟨w.heap.size, 0, none⟩) | _ => undef) rfl (by kernel_rfl) (by kernel_rfl) (fun i => match i with | 0 => Own.osr 62 81 W.heap.size ([]) | 1 => Own.eq (.pointer (some ⟨w.heap.size, 278, none⟩)) | 2 => Own.eq (.slice A n c) | 3 => Own.osr 62 81 W.heap.size ([] ++ E.flatMap rvC) | 4 => Own.eq (.agg (rvC y1).toArray) | 5 => Own.osr 62 81 W.heap.size (rvC y1) | 6 => Own.osr 62 81 W.heap.size (([] ++ E.flatMap rvC) ++ rvC y1) | 7 => Own.eq (.pointer (some ⟨w.heap.size, 278, none⟩)) | 8 => Own.holdR W.heap.size 37 62 81 (fun v => match v with | .slice A n c => rcC C A n c | _ => []) (([] ++ E.flatMap rvC) ++ rvC y1) | 9 => Own.blk 37 (rcC C A n c) | _ => Own.any) (fun b h => h.2) ?_ ?_ ?_ ?_ ?_
       ·exact fun t ht => by obtain rfl : t = 0 := (by omega); exact ⟨_, rfl, bs⟩
       ·exact fun t t' h1 h2 hne => absurd (show t = t' by omega) hne
       ·exact fun t ht b hb hp => by obtain rfl : t = 0 := (by omega); exact hp.1 (own_ptr hb).symm
       ·intro i hi o ho FA w' vs H K hK
        match i, hi, ho, H, hK with
        | 0, _, ho, H, hK => 
         obtain rfl := qoi ho
         go_simp
         have ho1 := Os.lit (s := 81) (e := 62) w' (Nat.le_refl _) #[] 0 rfl (by decide)
         exact hK.out _ _ (chgX (Ex.alloc _ _)) ⟨_, _, _, rfl, ho1.mono H.kept.size⟩ (fun b hb => .inr (ho1.blk b hb).1)
        | 1, _, ho, H, hK => 
         obtain rfl := qoi ho
         have ev2 : FA.eval (.tmp 2) = .pointer (some ⟨w.heap.size, 0, none⟩) := H.out 2 (by kernel_rfl)
         have e2 : FA.tmps[2]?.getD undef = .pointer (some ⟨w.heap.size, 0, none⟩) := by simpa [Act.eval] using ev2
         replace ev2 := Lib.hid ev2
         go_simp
         exact hK.out _ _ (chgX (Ex.refl _)) rfl (fun _ h => h.elim)
        | 2, _, ho, H, hK => 
         obtain rfl := qoi ho
         have ev69 : FA.eval (.tmp 69) = .pointer (some ⟨w.heap.size, 278, none⟩) := (H.dep 1 69 (by kernel_rfl)).trans (H.word 1 (by omega) (by kernel_rfl))
         have e69 : FA.tmps[69]?.getD undef = .pointer (some ⟨w.heap.size, 278, none⟩) := by simpa [Act.eval] using ev69
         replace ev69 := Lib.hid ev69
         obtain ⟨g0, hg0, hb0⟩ := H.word 9 (by omega) (by kernel_rfl)
         have hv0 : vs 9 = .pointer (some ⟨w.heap.size, 0, none⟩) := H.virt 9 (by omega)
         obtain rfl := own_ptr (hv0.symm.trans hg0)
         refine wanted_if rfl ?_
         refine wp_ld1 35 (.tmp 69) rfl ev69.out hb0 (rcC_vips C hk hb A n c) Tryd.underlying35 rfl ?_
         exact hK.out _ _ (chgX (Ex.refl _)) rfl (fun _ h => h.elim)
        | 3, _, ho, H, hK => 
         obtain rfl := qoi ho
         clear ho
         have ev68 := H.dep 0 68 (by kernel_rfl)
         have e68 : FA.tmps[68]?.getD undef = vs 0 := by simpa [Act.eval] using ev68
         replace ev68 := Lib.hid ev68
         have ev70 : FA.eval (.tmp 70) = .slice A n c := (H.dep 2 70 (by kernel_rfl)).trans (H.word 2 (by omega) (by kernel_rfl))
         have e70 : FA.tmps[70]?.getD undef = .slice A n c := by simpa [Act.eval] using ev70
         replace ev70 := Lib.hid ev70
         obtain ⟨A1, n1, c1, hv1, h1⟩ := H.word 0 (by omega) (by kernel_rfl)
         have hn1 : n1 = 0 := by have := h1.rs.1; simp at this; omega
         subst hn1
         refine wanted_if rfl ?_
         refine own_appS etRv (.tmp 68) (.tmp 70) rfl (ev68.out.trans hv1) h1 ev70.out (hX.row.kept H.kept hrP) (flat_one rvC rvC_one _) (by omega) H.kept.size ?_
         intro A3 n3 c3 w3 hn3 ho3 hg3 hf3
         refine hK.out _ _ (Chg.grown hg3 (fun k hk => ⟨0, rfl, by show (vs 0).ownBlock = some k; rw [hv1]; exact hk⟩)) ⟨_, _, _, rfl, ho3⟩ (fun b hb => ?_)
         rcases hf3 b hb with h | h
         ·exact .inl ⟨0, rfl, by show (vs 0).ownBlock = some b; rw [hv1]; exact h⟩
         ·exact .inr h
        | 4, _, ho, H, hK => 
         obtain rfl := qoi ho
         have ev6 : FA.eval (.tmp 6) = .pointer (some ⟨gv, 0, none⟩) := H.out 6 (by kernel_rfl)
         have e6 : FA.tmps[6]?.getD undef = .pointer (some ⟨gv, 0, none⟩) := by simpa [Act.eval] using ev6
         replace ev6 := Lib.hid ev6
         refine wanted_if rfl ?_
         refine wp_ldA 62 (.tmp 6) rfl (rvC y1) ev6.out (hy.kept H.kept hyP) (whole_ _) vr1 vr2 (szRv _) ?_
         exact hK.out _ _ (chgX (Ex.refl _)) rfl (fun _ h => h.elim)
        | 5, _, ho, H, hK => 
         obtain rfl := qoi ho
         have ev72 : FA.eval (.tmp 72) = .agg (rvC y1).toArray := (H.dep 4 72 (by kernel_rfl)).trans (H.word 4 (by omega) (by kernel_rfl))
         have e72 : FA.tmps[72]?.getD undef = .agg (rvC y1).toArray := by simpa [Act.eval] using ev72
         replace ev72 := Lib.hid ev72
         refine wanted_if rfl ?_
         refine wp_bs1 etRv (.tmp 72) rfl (rvC y1) (rvC_len _) (by decide) ev72.out ?_
         have ho1 := Os.lit (s := 81) (e := 62) w' (Nat.le_refl _) (rvC y1).toArray 1 (by rw [List.size_toArray, rvC_len]) (by decide)
         exact hK.out _ _ (chgX (Ex.alloc _ _)) ⟨_, _, _, rfl, ho1.mono H.kept.size⟩ (fun b hb => .inr (ho1.blk b hb).1)
        | 6, _, ho, H, hK => 
         obtain rfl := qoi ho
         clear ho
         have ev71 := H.dep 3 71 (by kernel_rfl)
         have e71 : FA.tmps[71]?.getD undef = vs 3 := by simpa [Act.eval] using ev71
         replace ev71 := Lib.hid ev71
         have ev73 := H.dep 5 73 (by kernel_rfl)
         have e73 : FA.tmps[73]?.getD undef = vs 5 := by simpa [Act.eval] using ev73
         replace ev73 := Lib.hid ev73
         obtain ⟨A1, n1, c1, hv1, h1⟩ := H.word 3 (by omega) (by kernel_rfl)
         obtain ⟨A2, n2, c2, hv2, h2⟩ := H.word 5 (by omega) (by kernel_rfl)
         have hn1 : n1 ≤ 2000 := by have := h1.rs.1; rw [List.nil_append, flat_len rvC 81 rvC_len] at this; omega
         have hn2 : n2 ≤ 2000 := by have := h2.rs.1; rw [rvC_len] at this; omega
         refine wanted_if rfl ?_
         refine own_appS etRv (.tmp 71) (.tmp 73) rfl (ev71.out.trans hv1) h1 (ev73.out.trans hv2) h2.rs (rvC_one _) (by omega) H.kept.size ?_
         intro A3 n3 c3 w3 hn3 ho3 hg3 hf3
         refine hK.out _ _ (Chg.grown hg3 (fun k hk => ⟨3, rfl, by show (vs 3).ownBlock = some k; rw [hv1]; exact hk⟩)) ⟨_, _, _, rfl, ho3⟩ (fun b hb => ?_)
         rcases hf3 b hb with h | h
         ·exact .inl ⟨3, rfl, by show (vs 3).ownBlock = some b; rw [hv1]; exact h⟩
         ·exact .inr h
        | 7, _, ho, H, hK => 
         obtain rfl := qoi ho
         have ev2 : FA.eval (.tmp 2) = .pointer (some ⟨w.heap.size, 0, none⟩) := H.out 2 (by kernel_rfl)
         have e2 : FA.tmps[2]?.getD undef = .pointer (some ⟨w.heap.size, 0, none⟩) := by simpa [Act.eval] using ev2
         replace ev2 := Lib.hid ev2
         go_simp
         exact hK.out _ _ (chgX (Ex.refl _)) rfl (fun _ h => h.elim)
        | 8, _, ho, H, hK => 
         obtain rfl := qoi ho
         clear ho
         have ev75 : FA.eval (.tmp 75) = .pointer (some ⟨w.heap.size, 278, none⟩) := (H.dep 7 75 (by kernel_rfl)).trans (H.word 7 (by omega) (by kernel_rfl))
         have e75 : FA.tmps[75]?.getD undef = .pointer (some ⟨w.heap.size, 278, none⟩) := by simpa [Act.eval] using ev75
         replace ev75 := Lib.hid ev75
         have ev74 := H.dep 6 74 (by kernel_rfl)
         have e74 : FA.tmps[74]?.getD undef = vs 6 := by simpa [Act.eval] using ev74
         replace ev74 := Lib.hid ev74
         obtain ⟨g0, hg0, hb0⟩ := H.word 9 (by omega) (by kernel_rfl)
         have hv0 : vs 9 = .pointer (some ⟨w.heap.size, 0, none⟩) := H.virt 9 (by omega)
         obtain rfl := own_ptr (hv0.symm.trans hg0)
         obtain ⟨A6, n6, c6, hv6, h6⟩ := H.word 6 (by omega) (by kernel_rfl)
         have hdd := H.dis 6 9 (by omega) (by omega) (by omega) (by kernel_rfl) (by kernel_rfl)
         refine wanted_if rfl ?_
         refine wp_st1 (v := .slice A6 n6 c6) 35 (.tmp 75) (.tmp 74) rfl ev75.out (ev74.out.trans hv6) hb0 (by rw [rcC_len C hk hb]; omega) rfl (by kernel_rfl) ?_
         intro w'' hn hgr
         have hne : ∀ k, (Value.slice A6 n6 c6).ownBlock = some k → some w.heap.size ≠ some k := fun k hk2 e2 => hdd k (by show (vs 6).ownBlock = some k; rw [hv6]; exact hk2) (by show vs 9 = _; rw [hv0]; injection e2 with e2; rw [e2])
         refine hK.out (.slice A6 n6 c6) _ (Chg.one hgr ⟨9, rfl, hv0⟩) ⟨_, _, _, _, hv0, rfl, ?_, h6.grown hgr hne⟩ (fun b hb => .inl ?_)
         ·show Bk w'' w.heap.size _ ((fun (v : Value) => match v with | .slice A n c => rcC C A n c | _ => []) (.slice A6 n6 c6))
          rw [rcC_set C hk hb] at hn
          exact hn
         ·rcases hb with hb | hb
          ·exact ⟨9, rfl, hb⟩
          ·exact ⟨6, rfl, by show (vs 6).ownBlock = some b; rw [hv6]; exact hb⟩
        | (k + 9), hi, _, _, _ => exact absurd hi (by omega)
       intro vs w' hC hV hW hDis hFr
       have p1 : vs 1 = .pointer (some ⟨w.heap.size, 278, none⟩) := hW 1 (by omega) (by kernel_rfl)
       have p2 : vs 2 = .slice A n c := hW 2 (by omega) (by kernel_rfl)
       have p4 : vs 4 = .agg (rvC y1).toArray := hW 4 (by omega) (by kernel_rfl)
       have p7 : vs 7 = .pointer (some ⟨w.heap.size, 278, none⟩) := hW 7 (by omega) (by kernel_rfl)
       have p8 := hW 8 (by omega) (by kernel_rfl)
       clear hW
       simp only [List.take_succ_cons, List.take_zero, List.drop_succ_cons, List.drop_zero, putAll, Nat.zero_add, Nat.reduceAdd, Act.put, qsT, qsZ, qsS, p1, p2, p4, p7]
       obtain ⟨g0, A9, n9, c9, hg0, hv9, hbS, ho9⟩ := p8
       replace hg0 : vs 9 = .pointer (some ⟨g0, 0, none⟩) := hg0
       have hv0 : vs 9 = .pointer (some ⟨w.heap.size, 0, none⟩) := hV 9 (by omega)
       obtain rfl := own_ptr (hv0.symm.trans hg0)
       replace hbS : Bk w' w.heap.size 37 (rcC C A9 n9 c9) := by rw [hv9] at hbS; exact hbS
       clear hDis hFr hV hv9 hg0 hv0
       have hzz := hz.kept hC (by refine ⟨?_, hz.lt⟩; omega)
       replace hz := hzz
       replace be := be.trans (hC.below (B := w.heap.size) be.size (fun b hb => ⟨by omega, by omega⟩))
       simp only [List.nil_append] at ho9
       have ho9W := fun k hk2 => ho9.blk k hk2
       replace ho9 := ho9.mono hbs_
       have hne9 : ∀ k, (Value.slice A9 n9 c9).ownBlock = some k → some (w.heap.size + 1 + 1) ≠ some k := fun k hk2 e2 => by have h1 := (ho9W k hk2).1; injection e2 with e2; omega
       clear hzz hC
       go_upto_region 11 with (fail)
       refine wp_region_lit ?_
       refine wpList_ldA (t := 37) 37 (.tmp 2) rfl rfl (rcC C A9 n9 c9) rfl (hbS) (whole_ _) vs1 vs2 (szRcS C hk hb A9 n9 c9) ?_
       simp only [Act.put, qsT, qsZ, qsS]
       refine wpList_stA (t := 37) 37 (.tmp 4) (.tmp 76) rfl rfl (rcC C A9 n9 c9) zl0 (hzl.trans (rcC_len C hk hb _ _ _).symm).symm (rcL_one _ _ _ _ _ _ _ _) rfl rfl hz (szRcS C hk hb _ _ _) ?_
       intro W9 h9 g9
       refine wpList_plain rfl (fun K hK => ?_); go_simp; with_reducible refine hK _ _ ?_; clear hK K
       replace be := below_grown be g9 (by omega)
       go_wp2
       refine bodyPost_agg2 Tryd.results38 rfl rfl h9.range vs1 vs2 (szRcS C hk hb _ _ _) rfl ?_
       rw [HE0.out, HAP.out]
       have hX9 := HX0.out.later be
       refine ⟨A9, n9, c9, E ++ [y1], rfl, ⟨?_, ?_, ?_, ?_, ?_, ?_⟩, be⟩
       ·rw [List.map_append, hX9.vs, HY1.out]; rfl
       ·have := (ho9.grown g9 hne9).rs
        rw [List.flatMap_append]
        simpa using this
       ·exact (Off.own ho9 (fun b hb => hG b hb)).size g9.size
       ·intro x hx
        rcases List.mem_append.1 hx with hx | hx
        ·exact hX9.mm x hx
        ·obtain rfl := List.mem_singleton.1 hx
         rw [HY1.out]; exact Rs.nil_
       ·intro x hx
        rcases List.mem_append.1 hx with hx | hx
        ·exact hX9.mo x hx
        ·obtain rfl := List.mem_singleton.1 hx
         rw [HY1.out]; exact Off.none_
       ·intro x hx
        rcases List.mem_append.1 hx with hx | hx
        ·exact hX9.ss x hx
        ·obtain rfl := List.mem_singleton.1 hx
         rw [HY1.out]; exact RSt.nil_
end

section
open Go.Lib
open Go.RowKit
attribute [local go_sem ↓] sliced_cut
attribute [local go_sem] cutA_zero
def RetRx (G : Nat → Prop) (w : World) (C' : Cf) (v : Nat) (e : Ending) (w' : World) : Prop := ∃ C'' A n c E, e = .returned (.tuple #[.agg (rcC C'' A n c).toArray, .int .i64 (v : Nat)]) ∧ RcX G w' C'' A n c E ∧ Below w.heap.size w w' ∧ C''.key.length = 16 ∧ C''.bk.length = 65 ∧ (v = 0 → C'' = C')
theorem RetRx.no {G : Nat → Prop} {w w' : World} {C C' : Cf} {A : Option Addr} {n c : Nat} {E : List Re} {v v' : Nat} (h : RcX G w C A n c E) (hv : v' = v) (hk : C.key.length = 16) (hb : C.bk.length = 65) (h0 : v ≠ 0) (hbw : Below w.heap.size w w') : RetRx G w C' v' (.returned (.tuple #[.agg (rcC C A n c).toArray, .int .i64 (v : Nat)])) w' := by
 subst hv
 exact ⟨C, A, n, c, E, rfl, h.later hbw, hbw, hk, hb, fun h => absurd h h0⟩
theorem rvC_stk (x : Re) : ((rvC x).drop 7).take (rstC x.2.B x.2.m x.2.d x.1.S).length = rstC x.2.B x.2.m x.2.d x.1.S := by
 have e : (rvC x).drop 7 = rstC x.2.B x.2.m x.2.d x.1.S := rfl
 rw [e, List.take_length]
theorem rvC_setStk (x : Re) (A : Option Addr) (n c : Nat) (S' : Stk) : splice (rvC x) 7 (rstC A n c S') = rvC ({ x.1 with S := S' }, { x.2 with B := A, m := n, d := c }) := by
 unfold splice
 rw [List.drop_of_length_le (by rw [rvC_len, rstC_len]; omega), List.append_nil]
 rfl
def mkI (L : List Vp) (k b : Int) (i : Nat) : List Vp := (L.take i).map (mrkV k b) ++ L.drop i
theorem mkI_0 (L : List Vp) (k b : Int) : mkI L k b 0 = L := by simp [mkI]
theorem mkI_len (L : List Vp) (k b : Int) (i : Nat) : (mkI L k b i).length = L.length := by simp [mkI]; omega
theorem mkI_all (L : List Vp) (k b : Int) : mkI L k b L.length = L.map (mrkV k b) := by simp [mkI]
theorem mkI_at (L : List Vp) (k b : Int) (i : Nat) (h : i < L.length) : (mkI L k b i)[i]? = some L[i] := by
 unfold mkI
 rw [List.getElem?_append_right (by simp; omega)]
 simp [Nat.min_eq_left (Nat.le_of_lt h)]
theorem mkI_step (L : List Vp) (k b : Int) (i : Nat) (h : i < L.length) : (mkI L k b i).set i (mrkV k b L[i]) = mkI L k b (i + 1) := by
 have e : L.drop i = L[i] :: L.drop (i + 1) := List.drop_eq_getElem_cons h
 have e2 : ((L.take i).map (mrkV k b)).length = i := by simp; omega
 unfold mkI
 rw [List.set_append_right _ _ (by omega), e2, Nat.sub_self, e, List.set_cons_zero, List.take_succ_eq_append_getElem h, List.map_append, List.append_assoc]
 rfl
def mrkL (L : List Vp) (k b : Int) : Nat := match L with | [] => 1 | v :: _ => mrkE v.S k b
def mrk0 (C : Cf) (k b : Int) : Nat := mrkL C.vs k b
theorem mrkL_at (L : List Vp) (k b : Int) (h : 0 < L.length) : mrkL L k b = mrkE (L[0]).S k b := by
 cases L with
 | nil => cases h
 | cons v t => rfl
theorem mrk0_at (C : Cf) (k b : Int) (h : 0 < C.vs.length) : mrk0 C k b = mrkE (C.vs[0]).S k b := mrkL_at C.vs k b h
set_option maxHeartbeats 4000000 in
set_option maxRecDepth 100000 in
theorem rcEvicted_any {G : Nat → Prop} (k v b e : Int) (six : Bool) (ah al pt pr : Nat) (wy : Int) (B : Option Addr) (m d : Nat) (C : Cf) (hC : CfOk C) (A : Option Addr) (n c : Nat) (E : List Re) (w : World) (hG : ∀ b, G b → b < w.heap.size) (hX : RcX G w C A n c E) (hk67 : k = 6 ∨ k = 7) : Calls Tryd.prog 39 #[.agg (rcC C A n c).toArray, .agg (opC k v b e six ah al pt pr wy B m d).toArray] w (RetRx G w { C with vs := C.vs.map (mrkV k b) } (markE C k b)) := by
 obtain ⟨dvr1, vr1, vr2⟩ := rowRv
 obtain ⟨dvt1, vt1, vt2⟩ := rowRst
 have hk := hC.key
 have hb := hC.bl
 have HVS := Lib.hid hC.vs
 have HX0 := Lib.hid hX
 have HN := Lib.hid hX.n_
 have HKN := Lib.hid (fun W => refKnown_any C hk hb A n c b W)
 have HK67 : Hid (((k == 6) = true ∧ ¬ k = 7) ∨ ((k == 6) = false ∧ k = 7)) := Lib.hid (hk67.elim (fun h => .inl ⟨by simp [h], by omega⟩) (fun h => .inr ⟨by simp [h], h⟩))
 clear hk67
 cases hkn : knC C b with
 | false =>
  have HE0 := Lib.hid (show markE C k b = 6 by unfold markE; rw [if_pos hkn])
  rw [hkn] at HKN
  clear hkn
  obtain ⟨dvs1, vs1, vs2⟩ := rowRcS
  obtain ⟨dvo1, vo1, vo2⟩ := rowRo
  obtain ⟨bs, bo, be, zV⟩ := box2 w 37 48 (rcC C A n c) (opC k v b e six ah al pt pr wy B m d)
  go_enter Tryd.func39, Tryd.ntmps39
  go_upto_region 1 with (fail)
  have HVe := Lib.hid (show ((w.alloc (.cells (rcC C A n c).toArray 37)).alloc (.cells (opC k v b e six ah al pt pr wy B m d).toArray 48)).heap.size = w.heap.size + 1 + 1 by simp)
  generalize (w.alloc (.cells (rcC C A n c).toArray 37)).alloc (.cells (opC k v b e six ah al pt pr wy B m d).toArray 48) = V at *
  have hz := Bk.newK 37 (Tryd.zeroCells37) _ HVe.out.symm rfl
  have hzl : (Tryd.zeroCells37).toList.length = 279 := by kernel_rfl
  have hv81 : (Tryd.zeroCells62).toList.length = 81 := by kernel_rfl
  have hbz : Below V.heap.size V (V.alloc (.cells (Tryd.zeroCells37) 37)) := Below.allocS (Below.refl _ _) _
  go_upto_region 1 with (fail)
  have hVs : w.heap.size + 2 ≤ V.heap.size := by have := bo.lt; omega
  generalize hV2 : V.alloc (.cells (Tryd.zeroCells37) 37) = V2 at *
  clear hV2
  generalize (Tryd.zeroCells37).toList = zl0 at *
  replace bs := bs.later hbz
  replace bo := bo.later hbz
  replace be := be.trans (hbz.mono be.size)
  have hVz := hbz.size
  clear hbz
  refine wp_region_lit ?_
  refine wpList_ldA (t := 37) 37 (.tmp 2) rfl rfl (rcC C A n c) rfl (bs) (whole_ _) vs1 vs2 (szRcS C hk hb A n c) ?_
  refine wpList_plain rfl (fun K hK => ?_); go_simp; with_reducible refine hK _ _ ?_; clear hK K
  refine wpList_ld1 (t := 48) (cs := opC k v b e six ah al pt pr wy B m d) 3 (.tmp 11) rfl (by rfl) rfl (bo) rfl Tryd.underlying3 rfl ?_
  refine wpList_plain rfl (fun K hK => ?_)
  go_simp
  refine (HKN.out _).mono ?_
  rintro e w1 ⟨bs1, d1, rfl, rfl⟩
  with_reducible refine hK _ _ ?_
  clear hK K
  have hb1 := below_plus V2 bs1 d1
  replace bs := bs.later hb1
  replace bo := bo.later hb1
  replace hz := hz.later hb1
  replace be := be.trans (hb1.mono be.size)
  clear hb1
  generalize plus V2 bs1 d1 = V3 at *
  refine wpList_plain rfl (fun K hK => ?_); go_simp; with_reducible refine hK _ _ ?_; clear hK K
  go_upto_region 2 with (fail)
  refine wp_region_lit ?_
  refine wpList_ldA (t := 37) 37 (.tmp 2) rfl rfl (rcC C A n c) rfl (bs) (whole_ _) vs1 vs2 (szRcS C hk hb A n c) ?_
  simp only [Act.put, qsT, qsZ, qsS]
  refine wpList_stA (t := 37) 37 (.tmp 4) (.tmp 15) rfl rfl (rcC C A n c) zl0 (hzl.trans (rcC_len C hk hb _ _ _).symm).symm (rcL_one _ _ _ _ _ _ _ _) rfl rfl hz (szRcS C hk hb _ _ _) ?_
  intro W9 h9 g9
  refine wpList_plain rfl (fun K hK => ?_); go_simp; with_reducible refine hK _ _ ?_; clear hK K
  replace be := below_grown be g9 (by omega)
  go_wp2
  refine bodyPost_agg2 Tryd.results39 rfl rfl h9.range vs1 vs2 (szRcS C hk hb _ _ _) rfl ?_
  exact RetRx.no HX0.out HE0.out hk hb (by decide) be
 | true =>
  rw [hkn] at HKN
  by_cases hn0 : n = 0
  ·have HE0 := Lib.hid (show markE C k b = 1 by
    have hvs : C.vs = [] := List.eq_nil_of_length_eq_zero (by have := HN.out; omega)
    unfold markE; rw [if_neg (by rw [hkn]; decide), hvs])
   have hn0i : ((n : Int) == 0) = true := by simp [hn0]
   clear hkn hn0
   obtain ⟨dvs1, vs1, vs2⟩ := rowRcS
   obtain ⟨dvo1, vo1, vo2⟩ := rowRo
   obtain ⟨bs, bo, be, zV⟩ := box2 w 37 48 (rcC C A n c) (opC k v b e six ah al pt pr wy B m d)
   go_enter Tryd.func39, Tryd.ntmps39
   go_upto_region 1 with (fail)
   have HVe := Lib.hid (show ((w.alloc (.cells (rcC C A n c).toArray 37)).alloc (.cells (opC k v b e six ah al pt pr wy B m d).toArray 48)).heap.size = w.heap.size + 1 + 1 by simp)
   generalize (w.alloc (.cells (rcC C A n c).toArray 37)).alloc (.cells (opC k v b e six ah al pt pr wy B m d).toArray 48) = V at *
   have hz := Bk.newK 37 (Tryd.zeroCells37) _ HVe.out.symm rfl
   have hzl : (Tryd.zeroCells37).toList.length = 279 := by kernel_rfl
   have hv81 : (Tryd.zeroCells62).toList.length = 81 := by kernel_rfl
   have hbz : Below V.heap.size V (V.alloc (.cells (Tryd.zeroCells37) 37)) := Below.allocS (Below.refl _ _) _
   go_upto_region 1 with (fail)
   have hVs : w.heap.size + 2 ≤ V.heap.size := by have := bo.lt; omega
   generalize hV2 : V.alloc (.cells (Tryd.zeroCells37) 37) = V2 at *
   clear hV2
   generalize (Tryd.zeroCells37).toList = zl0 at *
   replace bs := bs.later hbz
   replace bo := bo.later hbz
   replace be := be.trans (hbz.mono be.size)
   have hVz := hbz.size
   clear hbz
   refine wp_region_lit ?_
   refine wpList_ldA (t := 37) 37 (.tmp 2) rfl rfl (rcC C A n c) rfl (bs) (whole_ _) vs1 vs2 (szRcS C hk hb A n c) ?_
   refine wpList_plain rfl (fun K hK => ?_); go_simp; with_reducible refine hK _ _ ?_; clear hK K
   refine wpList_ld1 (t := 48) (cs := opC k v b e six ah al pt pr wy B m d) 3 (.tmp 11) rfl (by rfl) rfl (bo) rfl Tryd.underlying3 rfl ?_
   refine wpList_plain rfl (fun K hK => ?_)
   go_simp
   refine (HKN.out _).mono ?_
   rintro e w1 ⟨bs1, d1, rfl, rfl⟩
   with_reducible refine hK _ _ ?_
   clear hK K
   have hb1 := below_plus V2 bs1 d1
   replace bs := bs.later hb1
   replace bo := bo.later hb1
   replace hz := hz.later hb1
   replace be := be.trans (hb1.mono be.size)
   clear hb1
   generalize plus V2 bs1 d1 = V3 at *
   refine wpList_plain rfl (fun K hK => ?_); go_simp; with_reducible refine hK _ _ ?_; clear hK K
   have q278 : V3.cell? ⟨w.heap.size, 278, none⟩ = some (.slice A n c) := (bs.cell _).trans (rcC_vips C hk hb A n c)
   go_upto_region 4 with (fail)
   refine wp_region_lit ?_
   refine wpList_ldA (t := 37) 37 (.tmp 2) rfl rfl (rcC C A n c) rfl (bs) (whole_ _) vs1 vs2 (szRcS C hk hb A n c) ?_
   simp only [Act.put, qsT, qsZ, qsS]
   refine wpList_stA (t := 37) 37 (.tmp 4) (.tmp 20) rfl rfl (rcC C A n c) zl0 (hzl.trans (rcC_len C hk hb _ _ _).symm).symm (rcL_one _ _ _ _ _ _ _ _) rfl rfl hz (szRcS C hk hb _ _ _) ?_
   intro W9 h9 g9
   refine wpList_plain rfl (fun K hK => ?_); go_simp; with_reducible refine hK _ _ ?_; clear hK K
   replace be := below_grown be g9 (by omega)
   go_wp2
   refine bodyPost_agg2 Tryd.results39 rfl rfl h9.range vs1 vs2 (szRcS C hk hb _ _ _) rfl ?_
   exact RetRx.no HX0.out HE0.out hk hb (by decide) be
  ·have hn0i : ((n : Int) == 0) = false := by simp [hn0]
   have HME := Lib.hid (show markE C k b = mrk0 C k b by unfold markE mrk0 mrkL; rw [if_neg (by rw [hkn]; decide)]; cases C.vs <;> rfl)
   have HN0 := Lib.hid hn0
   clear hkn hn0
   obtain ⟨dvs1, vs1, vs2⟩ := rowRcS
   obtain ⟨dvo1, vo1, vo2⟩ := rowRo
   obtain ⟨bs, bo, be, zV⟩ := box2 w 37 48 (rcC C A n c) (opC k v b e six ah al pt pr wy B m d)
   go_enter Tryd.func39, Tryd.ntmps39
   go_upto_region 1 with (fail)
   have HVe := Lib.hid (show ((w.alloc (.cells (rcC C A n c).toArray 37)).alloc (.cells (opC k v b e six ah al pt pr wy B m d).toArray 48)).heap.size = w.heap.size + 1 + 1 by simp)
   generalize (w.alloc (.cells (rcC C A n c).toArray 37)).alloc (.cells (opC k v b e six ah al pt pr wy B m d).toArray 48) = V at *
   have hz := Bk.newK 37 (Tryd.zeroCells37) _ HVe.out.symm rfl
   have hzl : (Tryd.zeroCells37).toList.length = 279 := by kernel_rfl
   have hv81 : (Tryd.zeroCells62).toList.length = 81 := by kernel_rfl
   have hbz : Below V.heap.size V (V.alloc (.cells (Tryd.zeroCells37) 37)) := Below.allocS (Below.refl _ _) _
   go_upto_region 1 with (fail)
   have hVs : w.heap.size + 2 ≤ V.heap.size := by have := bo.lt; omega
   generalize hV2 : V.alloc (.cells (Tryd.zeroCells37) 37) = V2 at *
   clear hV2
   generalize (Tryd.zeroCells37).toList = zl0 at *
   replace bs := bs.later hbz
   replace bo := bo.later hbz
   replace be := be.trans (hbz.mono be.size)
   have hVz := hbz.size
   clear hbz
   refine wp_region_lit ?_
   refine wpList_ldA (t := 37) 37 (.tmp 2) rfl rfl (rcC C A n c) rfl (bs) (whole_ _) vs1 vs2 (szRcS C hk hb A n c) ?_
   refine wpList_plain rfl (fun K hK => ?_); go_simp; with_reducible refine hK _ _ ?_; clear hK K
   refine wpList_ld1 (t := 48) (cs := opC k v b e six ah al pt pr wy B m d) 3 (.tmp 11) rfl (by rfl) rfl (bo) rfl Tryd.underlying3 rfl ?_
   refine wpList_plain rfl (fun K hK => ?_)
   go_simp
   refine (HKN.out _).mono ?_
   rintro e w1 ⟨bs1, d1, rfl, rfl⟩
   with_reducible refine hK _ _ ?_
   clear hK K
   have hb1 := below_plus V2 bs1 d1
   replace bs := bs.later hb1
   replace bo := bo.later hb1
   replace hz := hz.later hb1
   replace be := be.trans (hb1.mono be.size)
   clear hb1
   generalize plus V2 bs1 d1 = V3 at *
   refine wpList_plain rfl (fun K hK => ?_); go_simp; with_reducible refine hK _ _ ?_; clear hK K
   have q278 : V3.cell? ⟨w.heap.size, 278, none⟩ = some (.slice A n c) := (bs.cell _).trans (rcC_vips C hk hb A n c)
   obtain ⟨G1, hG1⟩ : ∃ G1 : Nat → Prop, G1 = fun b => G b ∨ (w.heap.size ≤ b ∧ b < w.heap.size + 3) := ⟨_, rfl⟩
   have hXs : RcX G1 V3 { C with vs := mkI C.vs k b 0 } A n c E := by
    rw [mkI_0, hG1]
    exact (HX0.out.more (fun b hb => hb.elim .inl (fun h => .inr h.1))).later be
   have HST := Lib.hid (And.intro hXs (And.intro bs (And.intro bo (And.intro hz be))))
   have HG1 := Lib.hid (show ∀ b, G1 b → b < w.heap.size + 3 by
    intro b hb
    rw [hG1] at hb
    rcases hb with h | h
    ·have := hG b h; omega
    ·omega)
   have HG1s := Lib.hid (show ∀ b, w.heap.size ≤ b → b < w.heap.size + 3 → G1 b by intro b h1 h2; rw [hG1]; exact .inr ⟨h1, h2⟩)
   have HG1g := Lib.hid (show ∀ b, G b → G1 b by intro b h; rw [hG1]; exact .inl h)
   have HN16 := Lib.hid (show n ≤ 16 by have := hC.vl; have := HN.out; omega)
   clear hG1 hXs bs bo hz be
   go_upto_region 5 with (fail)
   clear q278
   go_upto_region 7 with (fail)
   go_loopw [6, 7] (fun FV I wr => ∃ (f i : Nat) (Ai : Option Addr) (ci : Nat) (Ei : List Re), FV = .int .i64 (f : Int) ∧ I = .int .i64 (i : Int) ∧ i ≤ n ∧ ((i = 0 → f = 0) ∧ (0 < i → f = mrk0 C k b)) ∧ RcX G1 wr { C with vs := mkI C.vs k b i } Ai n ci Ei ∧ Bk wr w.heap.size 37 (rcC C Ai n ci) ∧ Bk wr (w.heap.size + 1) 48 (opC k v b e six ah al pt pr wy B m d) ∧ Bk wr (w.heap.size + 1 + 1) 37 zl0 ∧ Below w.heap.size w wr) (fun _ I _ => n - (intOf I).toNat)
   case atStart => exact ⟨0, 0, A, c, E, rfl, rfl, by omega, ⟨fun _ => rfl, fun h => absurd h (by omega)⟩, HST.out.1, HST.out.2.1, HST.out.2.2.1, HST.out.2.2.2.1, HST.out.2.2.2.2⟩
   case round =>
    clear HST
    obtain ⟨f, i, Ai, ci, Ei, rfl, rfl, hin, hfv, hX, bs, bo, hz, hE⟩ := hrel
    have hzz := hz.lt
    by_cases hil : i < n
    ·have hi1 : (i : Int) < (n : Int) := by omega
     have q278 : wr.cell? ⟨w.heap.size, 278, none⟩ = some (.slice Ai n ci) := (bs.cell _).trans (rcC_vips C hk hb Ai n ci)
     have hlE : Ei.length = n := by have := hX.len; have h2 := mkI_len C.vs k b i; simp only [] at this; have := HN.out; omega
     obtain ⟨bl, ol, hAe, hbl, -⟩ := hX.row.at_ (by omega) (by decide)
     have hrow := hX.row
     rw [hAe] at hrow q278
     have hrg := hrow.rangeE rvC_len i (by omega)
     have hum : Ei[i]'(by omega) ∈ Ei := List.getElem_mem _
     have hui : (Ei[i]'(by omega)).1 = C.vs[i]'(by have := HN.out; omega) := by
      have h1 : (Ei.map (·.1))[i]? = some (Ei[i]'(by omega)).1 := by rw [List.getElem?_map, List.getElem?_eq_getElem (by omega)]; rfl
      rw [hX.vs] at h1
      have h2 := mkI_at C.vs k b i (by have := HN.out; omega)
      rw [h2] at h1
      exact (Option.some.inj h1).symm
     have HOK := Lib.hid (show StkOk (Ei[i]'(by omega)).1.S by rw [hui]; exact (HVS.out _ (List.getElem_mem _)).st)
     have HSTEP := Lib.hid (show (mkI C.vs k b i).set i (mrkV k b (Ei[i]'(by omega)).1) = mkI C.vs k b (i + 1) by rw [hui]; exact mkI_step C.vs k b i (by have := HN.out; omega))
     have HF0 := Lib.hid (show i = 0 → mrkE (Ei[i]'(by omega)).1.S k b = mrk0 C k b by intro h; rw [hui]; subst h; exact (mrk0_at C k b (by have := HN.out; omega)).symm)
     obtain ⟨u, hu⟩ : ∃ u, u = Ei[i]'(by omega) := ⟨_, rfl⟩
     rw [← hu] at hrg hum HOK HSTEP HF0
     clear hAe hrow hui hu
     have hmm := hX.mm u hum
     have hmo := hX.mo u hum
     have hss := hX.ss u hum
     have HX := Lib.hid hX
     clear hX hum
     go_upto_region 9 with (fail)
     refine wp_region_lit ?_
     iterate 4 (refine wpList_plain rfl (fun K hK => ?_); go_simp; with_reducible refine hK _ _ ?_; clear hK K)
     refine wpList_load_mid rfl 62 (.tmp 31) rfl bl (ol + i * 81) rfl (rvC u) _ hrg vr1 vr2 (szRv u) ?_
     refine wpList_plain rfl (fun K hK => ?_); go_simp; with_reducible refine hK _ _ ?_; clear hK K
     refine wpList_stA (t := 62) 62 (.tmp 8) (.tmp 32) rfl rfl (rvC u) (Tryd.zeroCells62).toList (by rw [rvC_len]; exact hv81.symm) (rvC_one _) rfl rfl (Bk.new _ _ _) (szRv _) ?_
     intro W7 h7 g7
     simp only [Act.put, qsT, qsZ, qsS]
     have hbw : Below wr.heap.size wr W7 := below_grown (Below.allocS (Below.refl _ _) _) g7 (Nat.le_refl _)
     replace bs := bs.later hbw
     replace bo := bo.later hbw
     replace hz := hz.later hbw
     have hG2 : ∀ b, (G1 b ∨ b = wr.heap.size) → b < W7.heap.size := fun b hb => hb.elim (fun h => by have := HG1.out b h; have := hbw.size; omega) (fun h => by have := h7.lt; omega)
     have hst7 : RSt (fun b => G1 b ∨ b = wr.heap.size) W7 u.1.S.lv u.2.B u.2.m u.2.d := (hss.more (fun b hb => hb.elim .inl (fun h => .inr (by omega)))).later hbw
     have hgl := h7.lt
     clear q278 hrg g7 hss
     go_upto_region 11 with (fail)
     refine wp_region_lit ?_
     refine wpList_plain rfl (fun K hK => ?_); go_simp; with_reducible refine hK _ _ ?_; clear hK K
     refine wpList_ld1 (t := 48) (cs := opC k v b e six ah al pt pr wy B m d) 3 (.tmp 33) rfl (by rfl) rfl (bo) rfl Tryd.underlying3 rfl ?_
     refine wpList_plain rfl (fun K hK => ?_); go_simp; with_reducible refine hK _ _ ?_; clear hK K
     rcases HK67.out with ⟨k6, k6n⟩ | ⟨k6, k6n⟩
     ·have HEVI := Lib.hid (fun W {D : Nat → Prop} (hD : ∀ b, D b → b < W.heap.size) (hR : RSt D W u.1.S.lv u.2.B u.2.m u.2.d) => show Calls Tryd.prog 60 #[.agg (rstC u.2.B u.2.m u.2.d u.1.S).toArray, .int .i64 b] W (RetRS D W (mrkS u.1.S k b) (fun x => .tuple #[x, .int .i64 (mrkE u.1.S k b : Nat)])) by unfold mrkS mrkE; rw [if_neg k6n, if_neg k6n]; exact refEvict_any u.1.S u.2.B u.2.m u.2.d b W hD hR)
      clear k6n
      go_upto_region 12 with (fail)
      refine wp_region_lit ?_
      refine wpList_plain rfl (fun K hK => ?_); go_simp; with_reducible refine hK _ _ ?_; clear hK K
      refine wpList_ldA (t := 62) (cs := rvC u) 60 (.tmp 37) rfl rfl (rstC u.2.B u.2.m u.2.d u.1.S) rfl h7 (rvC_stk u) vt1 vt2 (szRst _ _ _ _) ?_
      refine wpList_plain rfl (fun K hK => ?_); go_simp; with_reducible refine hK _ _ ?_; clear hK K
      refine wpList_ld1 (t := 48) (cs := opC k v b e six ah al pt pr wy B m d) 3 (.tmp 39) rfl (by rfl) rfl (bo) rfl Tryd.underlying3 rfl ?_
      refine wpList_plain rfl (fun K hK => ?_)
      go_simp
      refine (HEVI.out _ hG2 hst7).mono ?_
      rintro ee w1 ⟨A7, n7, c7, bs7, d7, rfl, rfl, hst8⟩
      with_reducible refine hK _ _ ?_
      clear hK K
      have hb8 := below_plus W7 bs7 d7
      replace bs := bs.later hb8
      replace bo := bo.later hb8
      replace hz := hz.later hb8
      replace h7 := h7.later hb8
      replace hbw := hbw.trans (hb8.mono hbw.size)
      clear hb8
      generalize plus W7 bs7 d7 = W8 at *
      iterate 4 (refine wpList_plain rfl (fun K hK => ?_); go_simp; with_reducible refine hK _ _ ?_; clear hK K)
      refine wpList_stM (t := 62) (off := 7) 60 (.tmp 44) (.tmp 42) rfl rfl (rstC A7 n7 c7 (mrkS u.1.S k b)) (rvC u) (by rw [rvC_len, rstC_len]; decide) (rstC_one _ _ _ _) rfl rfl h7 (szRst _ _ _ _) ?_
      intro W9 h9 g9
      refine wpList_plain rfl (fun K hK => ?_); go_simp; with_reducible refine hK _ _ ?_; clear hK K
      have hst9 : RSt (fun b => G1 b ∨ b = wr.heap.size) W9 (mrkS u.1.S k b).lv A7 n7 c7 := hst8.chg (Chg.one g9 (.inr rfl))
      replace hst9 := hst9.more (D' := G1) (fun b hb => .inl (.inl hb))
      rw [rvC_setStk] at h9
      obtain ⟨y, hy⟩ : ∃ y : Re, y = ({ u.1 with S := mrkS u.1.S k b }, { u.2 with B := A7, m := n7, d := c7 }) := ⟨_, rfl⟩
      rw [← hy] at h9
      have hyv : y.1 = mrkV k b u.1 := by rw [hy]; rfl
      have hbw9 : Below wr.heap.size wr W9 := below_grown hbw g9 (by omega)
      have bs9 := bs.grown g9 (fun e => by injection e with e; omega)
      have bo9 := bo.grown g9 (fun e => by injection e with e; omega)
      have hz9 := hz.grown g9 (fun e => by injection e with e; omega)
      have hXw := HX.out.later hbw9
      have h1w : Rs 2 W9 y.2.A y.2.n y.2.c (prs .i64 y.1.ms) := by rw [hy]; exact hmm.later hbw9
      have h2w : Off G1 W9 y.2.A := by rw [hy]; exact hmo.size hbw9.size
      have h3w : RSt G1 W9 y.1.S.lv y.2.B y.2.m y.2.d := by rw [hy]; exact hst9
      have hEw : Below w.heap.size w W9 := hE.trans (hbw9.mono hE.size)
      clear hy hst8 hst7 hst9 hG2 bs bo hz hmm hmo g9 h7 hbw
      have bs := bs9
      have bo := bo9
      have hz := hz9
      have hbw := hbw9
      clear bs9 bo9 hz9 hbw9
      have HWI := Lib.hid (fun W (h : RcX G1 W { C with vs := mkI C.vs k b i } Ai n ci Ei) (h1 : Rs 2 W y.2.A y.2.n y.2.c (prs .i64 y.1.ms)) (h2 : Off G1 W y.2.A) (h3 : RSt G1 W y.1.S.lv y.2.B y.2.m y.2.d) (hs : w.heap.size + 3 ≤ W.heap.size) => rcWith_any { C with vs := mkI C.vs k b i } hk hb Ai n ci Ei i y W (fun b hb => Nat.lt_of_lt_of_le (HG1.out b hb) hs) h hil HN16.out h1 h2 h3)
      have hsV : w.heap.size + 3 ≤ W9.heap.size := by have := hbw.size; omega
      have hcase : (((i : Int) == 0) = true ∧ Hid (mrkE u.1.S k b = mrk0 C k b)) ∨ (((i : Int) == 0) = false ∧ Hid (f = mrk0 C k b)) := by
       by_cases i0 : i = 0
       ·exact .inl ⟨by simp [i0], Lib.hid (HF0.out i0)⟩
       ·exact .inr ⟨by simp [i0], Lib.hid (hfv.2 (by omega))⟩
      clear hfv
      rcases hcase with ⟨i0i, hfm⟩ | ⟨i0i, hfm⟩
      all_goals
       go_upto_region 16 with (fail)
       refine wp_region_lit ?_
       refine wpList_ldA (t := 37) 37 (.tmp 2) rfl rfl (rcC C Ai n ci) rfl (bs) (whole_ _) vs1 vs2 (szRcS C hk hb Ai n ci) ?_
       refine wpList_plain rfl (fun K hK => ?_); go_simp; with_reducible refine hK _ _ ?_; clear hK K
       refine wpList_ldA (t := 62) 62 (.tmp 8) rfl rfl (rvC y) rfl (h9) (whole_ _) vr1 vr2 (szRv y) ?_
       refine wpList_plain rfl (fun K hK => ?_)
       go_simp
       refine (HWI.out _ hXw h1w h2w h3w hsV).mono ?_
       rintro e w1 ⟨A8, c8, rfl, hX8, hb9⟩
       with_reducible refine hK _ _ ?_
       clear hK K
       replace bs := bs.later hb9
       replace bo := bo.later hb9
       replace hz := hz.later hb9
       replace hEw := hEw.trans (hb9.mono hEw.size)
       generalize hWW : w1 = W10 at *
       clear hWW
       refine wpList_stA (t := 37) 37 (.tmp 2) (.tmp 60) rfl rfl (rcC C A8 n c8) (rcC C Ai n ci) (by rw [rcC_len C hk hb, rcC_len C hk hb]) (rcL_one _ _ _ _ _ _ _ _) rfl rfl bs (szRcS C hk hb _ _ _) ?_
       intro W11 h11 g11
       simp only [Act.put, qsT, qsZ, qsS]
       clear HWI
       have hX8' := hX8
       simp only [] at hX8'
       rw [hyv, HSTEP.out] at hX8'
       have hX9 := hX8'.chg (Chg.one (D := fun b => b = w.heap.size) g11 rfl) (fun b h => HG1s.out b (by omega) (by omega))
       have bo11 := bo.grown g11 (fun e => by injection e with e; omega)
       have hz11 := hz.grown g11 (fun e => by injection e with e; omega)
       have hE11 := below_grown hEw g11 (Nat.le_refl _)
       clear hX8' hX8 bo hz hEw bs
       have n16 := HN16.out
       go_wp2
       exact ⟨⟨_, i + 1, A8, c8, _, rfl, by go_num, by omega, ⟨fun h => absurd h (by omega), fun _ => hfm.out⟩, hX9, h11, bo11, hz11, hE11⟩, by simp [intOf]; omega⟩
     ·have HADM := Lib.hid (fun (hok : StkOk u.1.S) W {D : Nat → Prop} (hD : ∀ b, D b → b < W.heap.size) (hR : RSt D W u.1.S.lv u.2.B u.2.m u.2.d) => show Calls Tryd.prog 61 #[.agg (rstC u.2.B u.2.m u.2.d u.1.S).toArray, .int .i64 b] W (RetRS D W (mrkS u.1.S k b) (fun x => .tuple #[x, .int .i64 (mrkE u.1.S k b : Nat)])) by unfold mrkS mrkE; rw [if_pos k6n, if_pos k6n]; exact refAdmit_any u.1.S hok u.2.B u.2.m u.2.d b W hD hR)
      clear k6n
      go_upto_region 13 with (fail)
      refine wp_region_lit ?_
      refine wpList_plain rfl (fun K hK => ?_); go_simp; with_reducible refine hK _ _ ?_; clear hK K
      refine wpList_ldA (t := 62) (cs := rvC u) 60 (.tmp 46) rfl rfl (rstC u.2.B u.2.m u.2.d u.1.S) rfl h7 (rvC_stk u) vt1 vt2 (szRst _ _ _ _) ?_
      refine wpList_plain rfl (fun K hK => ?_); go_simp; with_reducible refine hK _ _ ?_; clear hK K
      refine wpList_ld1 (t := 48) (cs := opC k v b e six ah al pt pr wy B m d) 3 (.tmp 48) rfl (by rfl) rfl (bo) rfl Tryd.underlying3 rfl ?_
      refine wpList_plain rfl (fun K hK => ?_)
      go_simp
      refine (HADM.out HOK.out _ hG2 hst7).mono ?_
      rintro ee w1 ⟨A7, n7, c7, bs7, d7, rfl, rfl, hst8⟩
      with_reducible refine hK _ _ ?_
      clear hK K
      have hb8 := below_plus W7 bs7 d7
      replace bs := bs.later hb8
      replace bo := bo.later hb8
      replace hz := hz.later hb8
      replace h7 := h7.later hb8
      replace hbw := hbw.trans (hb8.mono hbw.size)
      clear hb8
      generalize plus W7 bs7 d7 = W8 at *
      iterate 4 (refine wpList_plain rfl (fun K hK => ?_); go_simp; with_reducible refine hK _ _ ?_; clear hK K)
      refine wpList_stM (t := 62) (off := 7) 60 (.tmp 53) (.tmp 51) rfl rfl (rstC A7 n7 c7 (mrkS u.1.S k b)) (rvC u) (by rw [rvC_len, rstC_len]; decide) (rstC_one _ _ _ _) rfl rfl h7 (szRst _ _ _ _) ?_
      intro W9 h9 g9
      refine wpList_plain rfl (fun K hK => ?_); go_simp; with_reducible refine hK _ _ ?_; clear hK K
      have hst9 : RSt (fun b => G1 b ∨ b = wr.heap.size) W9 (mrkS u.1.S k b).lv A7 n7 c7 := hst8.chg (Chg.one g9 (.inr rfl))
      replace hst9 := hst9.more (D' := G1) (fun b hb => .inl (.inl hb))
      rw [rvC_setStk] at h9
      obtain ⟨y, hy⟩ : ∃ y : Re, y = ({ u.1 with S := mrkS u.1.S k b }, { u.2 with B := A7, m := n7, d := c7 }) := ⟨_, rfl⟩
      rw [← hy] at h9
      have hyv : y.1 = mrkV k b u.1 := by rw [hy]; rfl
      have hbw9 : Below wr.heap.size wr W9 := below_grown hbw g9 (by omega)
      have bs9 := bs.grown g9 (fun e => by injection e with e; omega)
      have bo9 := bo.grown g9 (fun e => by injection e with e; omega)
      have hz9 := hz.grown g9 (fun e => by injection e with e; omega)
      have hXw := HX.out.later hbw9
      have h1w : Rs 2 W9 y.2.A y.2.n y.2.c (prs .i64 y.1.ms) := by rw [hy]; exact hmm.later hbw9
      have h2w : Off G1 W9 y.2.A := by rw [hy]; exact hmo.size hbw9.size
      have h3w : RSt G1 W9 y.1.S.lv y.2.B y.2.m y.2.d := by rw [hy]; exact hst9
      have hEw : Below w.heap.size w W9 := hE.trans (hbw9.mono hE.size)
      clear hy hst8 hst7 hst9 hG2 bs bo hz hmm hmo g9 h7 hbw
      have bs := bs9
      have bo := bo9
      have hz := hz9
      have hbw := hbw9
      clear bs9 bo9 hz9 hbw9
      have HWI := Lib.hid (fun W (h : RcX G1 W { C with vs := mkI C.vs k b i } Ai n ci Ei) (h1 : Rs 2 W y.2.A y.2.n y.2.c (prs .i64 y.1.ms)) (h2 : Off G1 W y.2.A) (h3 : RSt G1 W y.1.S.lv y.2.B y.2.m y.2.d) (hs : w.heap.size + 3 ≤ W.heap.size) => rcWith_any { C with vs := mkI C.vs k b i } hk hb Ai n ci Ei i y W (fun b hb => Nat.lt_of_lt_of_le (HG1.out b hb) hs) h hil HN16.out h1 h2 h3)
      have hsV : w.heap.size + 3 ≤ W9.heap.size := by have := hbw.size; omega
      have hcase : (((i : Int) == 0) = true ∧ Hid (mrkE u.1.S k b = mrk0 C k b)) ∨ (((i : Int) == 0) = false ∧ Hid (f = mrk0 C k b)) := by
       by_cases i0 : i = 0
       ·exact .inl ⟨by simp [i0], Lib.hid (HF0.out i0)⟩
       ·exact .inr ⟨by simp [i0], Lib.hid (hfv.2 (by omega))⟩
      clear hfv
      rcases hcase with ⟨i0i, hfm⟩ | ⟨i0i, hfm⟩
      all_goals
       go_upto_region 16 with (fail)
       refine wp_region_lit ?_
       refine wpList_ldA (t := 37) 37 (.tmp 2) rfl rfl (rcC C Ai n ci) rfl (bs) (whole_ _) vs1 vs2 (szRcS C hk hb Ai n ci) ?_
       refine wpList_plain rfl (fun K hK => ?_); go_simp; with_reducible refine hK _ _ ?_; clear hK K
       refine wpList_ldA (t := 62) 62 (.tmp 8) rfl rfl (rvC y) rfl (h9) (whole_ _) vr1 vr2 (szRv y) ?_
       refine wpList_plain rfl (fun K hK => ?_)
       go_simp
       refine (HWI.out _ hXw h1w h2w h3w hsV).mono ?_
       rintro e w1 ⟨A8, c8, rfl, hX8, hb9⟩
       with_reducible refine hK _ _ ?_
       clear hK K
       replace bs := bs.later hb9
       replace bo := bo.later hb9
       replace hz := hz.later hb9
       replace hEw := hEw.trans (hb9.mono hEw.size)
       generalize hWW : w1 = W10 at *
       clear hWW
       refine wpList_stA (t := 37) 37 (.tmp 2) (.tmp 60) rfl rfl (rcC C A8 n c8) (rcC C Ai n ci) (by rw [rcC_len C hk hb, rcC_len C hk hb]) (rcL_one _ _ _ _ _ _ _ _) rfl rfl bs (szRcS C hk hb _ _ _) ?_
       intro W11 h11 g11
       simp only [Act.put, qsT, qsZ, qsS]
       clear HWI
       have hX8' := hX8
       simp only [] at hX8'
       rw [hyv, HSTEP.out] at hX8'
       have hX9 := hX8'.chg (Chg.one (D := fun b => b = w.heap.size) g11 rfl) (fun b h => HG1s.out b (by omega) (by omega))
       have bo11 := bo.grown g11 (fun e => by injection e with e; omega)
       have hz11 := hz.grown g11 (fun e => by injection e with e; omega)
       have hE11 := below_grown hEw g11 (Nat.le_refl _)
       clear hX8' hX8 bo hz hEw bs
       have n16 := HN16.out
       go_wp2
       exact ⟨⟨_, i + 1, A8, c8, _, rfl, by go_num, by omega, ⟨fun h => absurd h (by omega), fun _ => hfm.out⟩, hX9, h11, bo11, hz11, hE11⟩, by simp [intOf]; omega⟩
    ·have hi1 : ¬ (i : Int) < (n : Int) := by omega
     have q278 : wr.cell? ⟨w.heap.size, 278, none⟩ = some (.slice Ai n ci) := (bs.cell _).trans (rcC_vips C hk hb Ai n ci)
     have hall := Lib.hid (show mkI C.vs k b i = C.vs.map (mrkV k b) by rw [show i = C.vs.length by have := HN.out; omega]; exact mkI_all _ _ _)
     have hfm := Lib.hid (hfv.2 (by have := HN0.out; omega))
     clear hil hfv hin
     go_upto_region 17 with (fail)
     refine wp_region_lit ?_
     refine wpList_ldA (t := 37) 37 (.tmp 2) rfl rfl (rcC C Ai n ci) rfl (bs) (whole_ _) vs1 vs2 (szRcS C hk hb Ai n ci) ?_
     refine wpList_plain rfl (fun K hK => ?_); go_simp; with_reducible refine hK _ _ ?_; clear hK K
     refine wpList_stA (t := 37) 37 (.tmp 4) (.tmp 61) rfl rfl (rcC C Ai n ci) zl0 (hzl.trans (rcC_len C hk hb _ _ _).symm).symm (rcL_one _ _ _ _ _ _ _ _) rfl rfl hz (szRcS C hk hb _ _ _) ?_
     intro W9 h9 g9
     refine wpList_plain rfl (fun K hK => ?_); go_simp; with_reducible refine hK _ _ ?_; clear hK K
     have hE9 := below_grown hE g9 (by omega)
     go_wp2
     refine bodyPost_agg2 Tryd.results39 rfl rfl h9.range vs1 vs2 (szRcS C hk hb _ _ _) rfl ?_
     have hX9 := hX.chg (Chg.one (D := fun b => b = w.heap.size + 1 + 1) g9 rfl) (fun b h => HG1s.out b (by omega) (by omega))
     rw [HME.out, ← hfm.out]
     refine ⟨{ C with vs := mkI C.vs k b i }, Ai, n, ci, Ei, rfl, hX9.more (fun b h => .inl (HG1g.out b h)), hE9, hk, hb, fun _ => ?_⟩
     rw [hall.out]
end

end Go.Proofs.YtkecgdnmehgpjaaDoor
