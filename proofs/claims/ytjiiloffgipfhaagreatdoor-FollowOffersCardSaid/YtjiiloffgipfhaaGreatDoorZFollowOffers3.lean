/- Texts of the law FollowOffers, part 3. -/
import Derived.Test.YtjiiloffgipfhaaGreatDoorZFollowOffers2
set_option linter.unusedVariables false
set_option linter.unusedSimpArgs false
set_option maxHeartbeats 4000000
set_option maxRecDepth 100000
namespace Go.Proofs.YtjiiloffgipfhaaGreatDoor
section
open Go.RowKit
theorem Bk.apart {w : World} {a b : Nat} {t u : TypeId} {cs ds : List Value} (h : Bk w a t cs) (k : Bk w b u ds) (hn : t ≠ u) : a ≠ b := by
 rintro rfl
 unfold Bk at h k
 rw [h] at k
 injection k with k
 injection k with _ k _
 exact hn k
theorem Bk.same {w : World} {a : Nat} {t u : TypeId} {cs ds : List Value} (h : Bk w a t cs) (k : Bk w a u ds) : cs = ds := by
 unfold Bk at h k
 rw [h] at k
 injection k with k
 injection k with k _ _
 simpa using k
structure VE where
 A : Option Addr
 n : Nat
 c : Nat
 T : Nat
abbrev Ve := Vp × VE
def veC (x : Ve) : List Value := [.bool x.1.ad.1, .int .u64 (x.1.ad.2.1 : Int), .int .u64 (x.1.ad.2.2 : Int), .int .u16 (x.1.pt : Int), .int .u8 (x.1.pr : Int), .int .i64 x.1.wy, .slice x.2.A x.2.n x.2.c, .pointer (some ⟨x.2.T, 0, none⟩)]
theorem veC_len (x : Ve) : (veC x).length = 8 := rfl
theorem veC_one (x : Ve) : ∀ u ∈ veC x, u.oneCell' = true := by simp [veC, Value.oneCell']
theorem szVe (x : Ve) : (Tryz.prog.info? 143).map (·.size) = some (veC x).length := by kernel_rfl
theorem rowVe : ∃ d, Tryz.prog.underlying 143 = some d ∧ d.isRow = true := ⟨_, Tryz.underlying143, rfl⟩
theorem etVe : ET Tryz.prog 94 143 (.agg #[.bool false, .int .u64 0, .int .u64 0, .int .u16 0, .int .u8 0, .int .i64 0, .slice none 0 0, .pointer none]) 8 72 := ⟨Tryz.underlying94, by kernel_rfl, rfl, by decide, by decide⟩
def z0 : Adr := (false, 0, 0)
def bkC (x : Option Adr) : List Value := [.bool (x.getD z0).1, .int .u64 ((x.getD z0).2.1 : Int), .int .u64 ((x.getD z0).2.2 : Int), .bool x.isSome]
theorem bkC_len (x : Option Adr) : (bkC x).length = 4 := rfl
theorem bkC_one (x : Option Adr) : ∀ u ∈ bkC x, u.oneCell' = true := by simp [bkC, Value.oneCell']
def stC (C : Cf) (A : Option Addr) (n c : Nat) : List Value := .int .u64 (C.num : Int) :: (ringC C.key C.now ++ (C.bk.flatMap bkC ++ [.slice A n c]))
theorem stC_len (C : Cf) (hk : C.key.length = 16) (hb : C.bk.length = 65) (A : Option Addr) (n c : Nat) : (stC C A n c).length = 279 := by
 simp [stC, ringC, bcs_length, hk, flat_len bkC 4 bkC_len, hb]
theorem stC_one (C : Cf) (A : Option Addr) (n c : Nat) : ∀ u ∈ stC C A n c, u.oneCell' = true := by
 intro u hu
 rcases List.mem_cons.1 hu with rfl | hu
 ·rfl
 ·rcases List.mem_append.1 hu with hu | hu
  ·rcases List.mem_append.1 hu with hu | hu
   ·exact bcs_one _ u hu
   ·simp at hu; subst hu; rfl
  ·rcases List.mem_append.1 hu with hu | hu
   ·exact flat_one bkC bkC_one _ u hu
   ·simp at hu; subst hu; rfl
theorem szSt (C : Cf) (hk : C.key.length = 16) (hb : C.bk.length = 65) (A : Option Addr) (n c : Nat) : (Tryz.prog.info? 96).map (·.size) = some (stC C A n c).length := by rw [stC_len C hk hb]; kernel_rfl
theorem rowSt : ∃ d, Tryz.prog.underlying 96 = some d ∧ d.isRow = true := ⟨_, Tryz.underlying96, rfl⟩
theorem stC_vips (C : Cf) (hk : C.key.length = 16) (hb : C.bk.length = 65) (A : Option Addr) (n c : Nat) : (stC C A n c)[278]? = some (.slice A n c) := by
 unfold stC
 rw [List.getElem?_cons_succ, List.getElem?_append_right (by simp [ringC, bcs_length, hk]), List.getElem?_append_right (by simp [ringC, bcs_length, hk, flat_len bkC 4 bkC_len, hb])]
 simp [ringC, bcs_length, hk, flat_len bkC 4 bkC_len, hb]
theorem stC_setVips (C : Cf) (hk : C.key.length = 16) (hb : C.bk.length = 65) (A : Option Addr) (n c : Nat) (A' : Option Addr) (n' c' : Nat) (L : List Vp) : (stC C A n c).set 278 (.slice A' n' c') = stC { C with vs := L } A' n' c' := by
 unfold stC
 rw [List.set_cons_succ, List.set_append_right _ _ (by simp [ringC, bcs_length, hk]), List.set_append_right _ _ (by simp [ringC, bcs_length, hk, flat_len bkC 4 bkC_len, hb])]
 simp [ringC, bcs_length, hk, flat_len bkC 4 bkC_len, hb]
theorem stC_num (C : Cf) (A : Option Addr) (n c : Nat) : (stC C A n c)[0]? = some (.int .u64 (C.num : Int)) := rfl
theorem stC_ring (C : Cf) (hk : C.key.length = 16) (A : Option Addr) (n c : Nat) : ((stC C A n c).drop 1).take (ringC C.key C.now).length = ringC C.key C.now := by
 unfold stC
 rw [List.drop_succ_cons, List.drop_zero, List.take_left]
theorem stC_setRing (C : Cf) (hk : C.key.length = 16) (A : Option Addr) (n c m : Nat) : splice (stC C A n c) 1 (ringC C.key m) = stC { C with now := m } A n c := by
 unfold stC
 have e := splice_cons (.int .u64 (C.num : Int)) (ringC C.key C.now ++ (C.bk.flatMap bkC ++ [.slice A n c])) (ringC C.key m) 0
 rw [Nat.add_zero] at e
 rw [e]
 congr 1
 have h1 : (ringC C.key C.now).length = (ringC C.key m).length := by simp [ringC]
 unfold splice
 rw [List.take_zero, List.nil_append, Nat.zero_add, ← h1, List.drop_left]
theorem stC_bkAt (C : Cf) (hk : C.key.length = 16) (hb : C.bk.length = 65) (A : Option Addr) (n c : Nat) (i : Nat) (hi : i < 65) (k : Nat) (u : Value) (h : (bkC (C.bk.getD i none))[k]? = some u) : (stC C A n c)[18 + i * 4 + k]? = some u := by
 have hib : i < C.bk.length := by omega
 have e : C.bk.getD i none = C.bk[i] := by simp [List.getD_eq_getElem?_getD, hib]
 rw [e] at h
 have h4 := flat_at bkC 4 bkC_len C.bk i hib k u h
 have hlt := (List.getElem?_eq_some_iff.1 h4).1
 unfold stC
 rw [show 18 + i * 4 + k = (17 + (i * 4 + k)) + 1 by omega, List.getElem?_cons_succ, List.getElem?_append_right (by simp [ringC, bcs_length, hk]),
  show 17 + (i * 4 + k) - (ringC C.key C.now).length = i * 4 + k by simp [ringC, bcs_length, hk], List.getElem?_append_left hlt]
 exact h4
theorem stC_setBk (C : Cf) (hk : C.key.length = 16) (hb : C.bk.length = 65) (A : Option Addr) (n c : Nat) (i : Nat) (hi : i < 65) (x : Option Adr) : splice (stC C A n c) (18 + i * 4) (bkC x) = stC { C with bk := C.bk.set i x } A n c := by
 unfold stC
 rw [show 18 + i * 4 = 1 + (17 + i * 4) by omega, splice_cons]
 congr 1
 have hr : (ringC C.key C.now).length = 17 := by simp [ringC, bcs_length, hk]
 have hf := flat_len bkC 4 bkC_len C.bk
 have e : splice (ringC C.key C.now ++ (C.bk.flatMap bkC ++ [.slice A n c])) (17 + i * 4) (bkC x) = ringC C.key C.now ++ splice (C.bk.flatMap bkC ++ [.slice A n c]) (i * 4) (bkC x) := by
  unfold splice
  rw [← hr, List.take_length_add_append, List.append_assoc]
  congr 3
  rw [Nat.add_assoc, List.drop_length_add_append]
 rw [e, splice_app _ _ _ _ (by rw [bkC_len, hf]; omega), flat_splice bkC 4 bkC_len _ _ (by omega)]
structure CfX (G D : Nat → Prop) (w : World) (g : Nat) (C : Cf) (A : Option Addr) (n c : Nat) (E : List Ve) : Prop where
 vs : E.map (·.1) = C.vs
 st : Bk w g 96 (stC C A n c)
 row : Os 143 8 w 0 A n c (E.flatMap veC)
 dr : ∀ k, (Value.slice A n c).ownBlock = some k → D k
 dg : D g
 tb : ∀ x ∈ E, Bk w x.2.T 210 (stkC x.1.S)
 dt : ∀ x ∈ E, D x.2.T
 mm : ∀ x ∈ E, Rs 2 w x.2.A x.2.n x.2.c (prs .i64 x.1.ms)
 mo : ∀ x ∈ E, Off G w x.2.A
 nd : (E.map (·.2.T)).Nodup
 sub : ∀ b, D b → G b
 lt : ∀ b, G b → b < w.heap.size
def CfM (G D : Nat → Prop) (w : World) (g : Nat) (C : Cf) : Prop := ∃ A n c E, CfX G D w g C A n c E
section
variable {G D : Nat → Prop} {w w' : World} {g : Nat} {C : Cf} {A : Option Addr} {n c : Nat} {E : List Ve}
theorem CfX.len (h : CfX G D w g C A n c E) : E.length = C.vs.length := by rw [← h.vs]; simp
theorem CfX.n_ (h : CfX G D w g C A n c E) : n = C.vs.length := by
 have := h.row.rs.1
 rw [flat_len veC 8 veC_len] at this
 have := h.len
 omega
theorem CfX.later (h : CfX G D w g C A n c E) (hb : Below w.heap.size w w') : CfX G D w' g C A n c E :=
 ⟨h.vs, h.st.later hb, h.row.later hb, h.dr, h.dg, fun x hx => (h.tb x hx).later hb, h.dt, fun x hx => (h.mm x hx).later hb, fun x hx => (h.mo x hx).size hb.size, h.nd, h.sub, fun b hG => Nat.lt_of_lt_of_le (h.lt b hG) hb.size⟩
theorem Bk.chgD {D : Nat → Prop} {w w' : World} {a : Nat} {t : TypeId} {cs : List Value} (h : Bk w a t cs) (hc : Chg D w w') (hn : ¬ D a) : Bk w' a t cs := h.chg hc hn
theorem CfX.chg {D' : Nat → Prop} (h : CfX G D w g C A n c E) (hc : Chg D' w w') (hd : ∀ b, D' b → G b) (hn : ∀ b, D' b → ¬ D b) : CfX G D w' g C A n c E :=
 ⟨h.vs, h.st.chg hc (fun k => hn _ k h.dg), h.row.chg hc (fun k hk hD => hn k hD (h.dr k hk)), h.dr, h.dg, fun x hx => (h.tb x hx).chg hc (fun k => hn _ k (h.dt x hx)), h.dt,
  fun x hx => (h.mm x hx).chg hc (fun a ha hD => (h.mo x hx a ha).2 (hd _ hD)), fun x hx => (h.mo x hx).size hc.size, h.nd, h.sub, fun b hG => Nat.lt_of_lt_of_le (h.lt b hG) hc.size⟩
theorem CfX.more {G' : Nat → Prop} (h : CfX G D w g C A n c E) (h1 : ∀ b, G b → G' b) (h2 : ∀ b, G' b → b < w.heap.size) (h3 : ∀ x ∈ E, Off G' w x.2.A) : CfX G' D w g C A n c E :=
 ⟨h.vs, h.st, h.row, h.dr, h.dg, h.tb, h.dt, h.mm, h3, h.nd, fun b hb => h1 b (h.sub b hb), h2⟩
theorem CfX.ne_st (h : CfX G D w g C A n c E) {x : Ve} (hx : x ∈ E) : x.2.T ≠ g := (h.tb x hx).apart h.st (by decide)
theorem Os.bk {e : TypeId} {s : Nat} {w : World} {base : Nat} {A : Option Addr} {n c : Nat} {cs : List Value} (h : Os e s w base A n c cs) (hn : 0 < n) : ∃ b cur, A = some ⟨b, 0, none⟩ ∧ (Value.slice A n c).ownBlock = some b ∧ Bk w b e cur ∧ cur.length = c * s ∧ cur.take (n * s) = cs ∧ n ≤ c ∧ c ≤ maxLen := by
 rcases h.2 with ⟨hv, h0⟩ | ⟨b, cap, cur, hv, _, hr, hnc, hm, hs, ht⟩
 ·omega
 ·injection hv with h1 h2 h3
  subst h1 h3
  exact ⟨b, cur.toList, rfl, rfl, hr, by simpa using hs, ht, hnc, hm⟩
theorem Os.of_bk {e : TypeId} {s : Nat} {w : World} {b n c : Nat} {cur cs : List Value} (h : Bk w b e cur) (hl : cur.length = c * s) (ht : cur.take (n * s) = cs) (hn : n ≤ c) (hc : c ≤ maxLen) (hcs : cs.length = n * s) : Os e s w 0 (some ⟨b, 0, none⟩) n c cs :=
 ⟨hcs, .inr ⟨b, c, cur.toArray, rfl, Nat.zero_le _, h, hn, hc, by simpa using hl, by simpa using ht⟩⟩
theorem CfX.ne_row (h : CfX G D w g C A n c E) {x : Ve} (hx : x ∈ E) : ∀ k, (Value.slice A n c).ownBlock = some k → k ≠ x.2.T := by
 intro k hk
 have hn : 0 < n := by
  have := h.len
  have := h.n_
  have := List.length_pos_of_mem hx
  omega
 obtain ⟨b, cur, _, hb, hB, _⟩ := h.row.bk hn
 rw [hb] at hk
 injection hk with hk
 subst hk
 exact hB.apart (h.tb x hx) (by decide)
theorem nodup_at {l : List Ve} (h : (l.map (·.2.T)).Nodup) {i j : Nat} (hi : i < l.length) (hj : j < l.length) (he : l[i].2.T = l[j].2.T) : i = j :=
 (List.getElem_inj (h₀ := by simpa using hi) (h₁ := by simpa using hj) h).1 (by simpa using he)
theorem CfX.setStk (h : CfX G D w g C A n c E) {i : Nat} {x : Ve} (hi : E[i]? = some x) {S' : Stk} (hb : Bk w' x.2.T 210 (stkC S')) (hc : Chg (fun b => b = x.2.T) w w') : CfX G D w' g { C with vs := C.vs.set i { x.1 with S := S' } } A n c (E.set i ({ x.1 with S := S' }, x.2)) := by
 have hx := List.mem_of_getElem? hi
 have hT := h.dt x hx
 have hil := (List.getElem?_eq_some_iff.1 hi).1
 have hxi : E[i] = x := (List.getElem?_eq_some_iff.1 hi).2
 have hG := h.sub _ hT
 have hfl : (E.set i ({ x.1 with S := S' }, x.2)).flatMap veC = E.flatMap veC := by
  rw [← flat_set veC 8 veC_len E i hil ({ x.1 with S := S' }, x.2) 0 (.bool x.1.ad.1) (by decide) (by rw [hxi]; rfl)]
  apply List.ext_getElem?
  intro j
  by_cases hj : i * 8 + 0 = j
  ·subst hj
   have := flat_at veC 8 veC_len E i hil 0 (.bool x.1.ad.1) (by rw [hxi]; rfl)
   rw [this, List.getElem?_set_self (List.getElem?_eq_some_iff.1 this).1]
  ·rw [List.getElem?_set_ne hj]
 have mem : ∀ y ∈ E.set i ({ x.1 with S := S' }, x.2), (y = ({ x.1 with S := S' }, x.2)) ∨ (∃ j, ∃ hj : j < E.length, j ≠ i ∧ y = E[j]) := by
  intro y hy
  obtain ⟨j, hj, rfl⟩ := List.mem_iff_getElem.1 hy
  rw [List.length_set] at hj
  rw [List.getElem_set]
  split
  ·exact .inl rfl
  ·rename_i hne
   exact .inr ⟨j, hj, fun e => hne e.symm, rfl⟩
 refine ⟨?_, ?_, ?_, h.dr, h.dg, ?_, ?_, ?_, ?_, ?_, h.sub, fun b hb' => Nat.lt_of_lt_of_le (h.lt b hb') hc.size⟩
 ·show _ = C.vs.set i _
  rw [List.map_set, h.vs]
 ·exact h.st.chg hc (fun e => h.ne_st hx e.symm)
 ·rw [hfl]
  exact h.row.chg hc (fun k hk e => h.ne_row hx k hk e)
 ·intro y hy
  rcases mem y hy with rfl | ⟨j, hj, hne, rfl⟩
  ·exact hb
  ·exact (h.tb _ (List.getElem_mem hj)).chg hc (fun e => hne (nodup_at h.nd hj hil (by rw [hxi]; exact e)))
 ·intro y hy
  rcases mem y hy with rfl | ⟨j, hj, _, rfl⟩
  ·exact hT
  ·exact h.dt _ (List.getElem_mem hj)
 ·intro y hy
  have hk : ∀ z ∈ E, Rs 2 w' z.2.A z.2.n z.2.c (prs .i64 z.1.ms) := fun z hz => (h.mm z hz).chg hc (fun a ha e => (h.mo z hz a ha).2 (by rw [e]; exact hG))
  rcases mem y hy with rfl | ⟨j, hj, _, rfl⟩
  ·exact hk x hx
  ·exact hk _ (List.getElem_mem hj)
 ·intro y hy
  rcases mem y hy with rfl | ⟨j, hj, _, rfl⟩
  ·exact (h.mo x hx).size hc.size
  ·exact (h.mo _ (List.getElem_mem hj)).size hc.size
 ·rw [List.map_set]
  have : (E.map (·.2.T)).set i x.2.T = E.map (·.2.T) := by
   apply List.ext_getElem
   ·simp
   ·intro j h1 h2
    rw [List.getElem_set]
    split
    ·rename_i e; subst e; simp [hxi]
    ·rfl
  rw [this]
  exact h.nd
theorem CfX.setSt (h : CfX G D w g C A n c E) {C' : Cf} (hv : C'.vs = C.vs) (hb : Bk w' g 96 (stC C' A n c)) (hg : w.grownBy w' (some g)) : CfX G D w' g C' A n c E := by
 have hc : Chg (fun b => b = g) w w' := Chg.one hg rfl
 refine ⟨h.vs.trans hv.symm, hb, ?_, h.dr, h.dg, fun x hx => (h.tb x hx).chg hc (fun e => h.ne_st hx e), h.dt, fun x hx => (h.mm x hx).chg hc (fun a ha e => (h.mo x hx a ha).2 (by rw [e]; exact h.sub _ h.dg)), fun x hx => (h.mo x hx).size hc.size, h.nd, h.sub, fun b hb' => Nat.lt_of_lt_of_le (h.lt b hb') hc.size⟩
 refine h.row.chg hc (fun k hk e => ?_)
 have e : k = g := e
 subst e
 rcases Nat.eq_zero_or_pos n with h0 | h0
 ·rcases h.row.2 with ⟨hv, _⟩ | ⟨b, cap, cur, hv, _, hr, _⟩
  ·injection hv with h1 _ _; subst h1; cases hk
  ·injection hv with h1 _ _
   subst h1
   injection hk with hk
   subst hk
   have := h.st
   unfold Bk at this
   rw [hr] at this
   injection this with this
   injection this with _ this _
   revert this
   decide
 ·obtain ⟨b, cur, _, hb', hB, _⟩ := h.row.bk h0
  rw [hb'] at hk
  injection hk with hk
  subst hk
  exact hB.apart h.st (by decide) rfl
end
end

section
attribute [local go_sem ↓] sliced_cut
attribute [local go_sem] cutA_zero
open Go.RowKit
theorem rowAdC : ∃ d, Tryz.prog.underlying 53 = some d ∧ d.isRow = true := ⟨_, Tryz.underlying53, rfl⟩
def bkA (C : Cf) (m : Int) : Adr := if 1 ≤ m ∧ m ≤ 64 then (C.bk.getD m.toNat none).getD z0 else z0
theorem polRight_any (n : Int) (w : World) : Calls Tryz.prog 136 #[.int .i64 n] w fun e w' => e = .returned (.bool (wyB n)) ∧ w = w' := by
 by_cases h1 : 1 ≤ n
 ·by_cases h2 : n ≤ 64 - 60
  ·have h2 : n ≤ 4 := by omega
   have hh := qy (show wyB n = true by simp [wyB, h1, h2])
   go_enter Tryz.func136, Tryz.ntmps136
   go_wp2
   go_ret
   exact ⟨by rw [hh.out]; rfl, rfl⟩
  ·have h2 : ¬ n ≤ 4 := by omega
   have hh := qy (show wyB n = false by simp [wyB, h2])
   go_enter Tryz.func136, Tryz.ntmps136
   go_wp2
   go_ret
   exact ⟨by rw [hh.out]; rfl, rfl⟩
 ·have hh := qy (show wyB n = false by simp [wyB, h1])
  go_enter Tryz.func136, Tryz.ntmps136
  go_wp2
  go_ret
  exact ⟨by rw [hh.out]; rfl, rfl⟩
theorem cfgLen_any (C : Cf) (hk : C.key.length = 16) (hb : C.bk.length = 65) (A : Option Addr) (n c : Nat) (g : Nat) (w : World) (hS : Bk w g 96 (stC C A n c)) : Calls Tryz.prog 55 #[.pointer (some ⟨g, 0, none⟩)] w fun e w' => e = .returned (.int .i64 (n : Nat)) ∧ w = w' := by
 have q0 : w.cell? ⟨g, 278, none⟩ = some (.slice A n c) := (hS.cell _).trans (stC_vips C hk hb A n c)
 go_enter Tryz.func55, Tryz.ntmps55
 go_wp2
 go_ret
 exact ⟨rfl, rfl⟩
theorem backend_any (C : Cf) (hk : C.key.length = 16) (hb : C.bk.length = 65) (A : Option Addr) (n c : Nat) (g : Nat) (m : Int) (w : World) (hS : Bk w g 96 (stC C A n c)) : Calls Tryz.prog 53 #[.pointer (some ⟨g, 0, none⟩), .int .i64 m] w (RetV w (.tuple #[.agg (adC (bkA C m).1 (bkA C m).2.1 (bkA C m).2.2).toArray, .bool (knC C m)])) := by
 obtain ⟨da1, va1, va2⟩ := rowAdC
 have be : Below w.heap.size w (w.alloc (.cells #[.bool false, .int .u64 0, .int .u64 0] 53)) := Below.allocS (Below.refl _ _) _
 have b2 : Bk (w.alloc (.cells #[.bool false, .int .u64 0, .int .u64 0] 53)) w.heap.size 53 (adC false 0 0) := Bk.new w 53 #[.bool false, .int .u64 0, .int .u64 0]
 replace hS := hS.later be
 have zV : w.heap.size + 1 ≤ (w.alloc (.cells #[.bool false, .int .u64 0, .int .u64 0] 53)).heap.size := by simp
 by_cases h1 : m < 1
 ·have e1 : bkA C m = z0 := if_neg (by omega)
  have e2 : knC C m = false := by unfold knC; rw [decide_eq_false (by omega)]; rfl
  rw [e1, e2]
  clear e1 e2
  go_enter Tryz.func53, Tryz.ntmps53
  go_upto_region 2 with (fail)
  generalize w.alloc (.cells #[.bool false, .int .u64 0, .int .u64 0] 53) = V at *
  refine wp_region_lit ?_
  refine qw ?_
  refine wpList_stA (t := 53) 53 (.tmp 4) (.tmp 16) rfl rfl (adC false 0 0) (adC false 0 0) rfl (by simp [adC, Value.oneCell']) rfl rfl b2 (szAd _ _ _) ?_
  intro W4 h4 g4
  refine qw ?_
  go_wp2
  refine bodyPost_agg2 Tryz.results53 rfl rfl h4.range va1 va2 (szAd _ _ _) rfl (RetV.is_ (by first | rfl | (simp only [*]; rfl)) (below_grown be g4 (by omega)))
 ·by_cases h2 : 64 < m
  ·have e1 : bkA C m = z0 := if_neg (by omega)
   have e2 : knC C m = false := by unfold knC; rw [decide_eq_false (show ¬ m ≤ 64 by omega)]; simp
   rw [e1, e2]
   clear e1 e2
   go_enter Tryz.func53, Tryz.ntmps53
   go_upto_region 2 with (fail)
   generalize w.alloc (.cells #[.bool false, .int .u64 0, .int .u64 0] 53) = V at *
   refine wp_region_lit ?_
   refine qw ?_
   refine wpList_stA (t := 53) 53 (.tmp 4) (.tmp 16) rfl rfl (adC false 0 0) (adC false 0 0) rfl (by simp [adC, Value.oneCell']) rfl rfl b2 (szAd _ _ _) ?_
   intro W4 h4 g4
   refine qw ?_
   go_wp2
   refine bodyPost_agg2 Tryz.results53 rfl rfl h4.range va1 va2 (szAd _ _ _) rfl (RetV.is_ (by first | rfl | (simp only [*]; rfl)) (below_grown be g4 (by omega)))
  ·obtain ⟨i, rfl⟩ : ∃ i : Nat, m = i := ⟨m.toNat, by omega⟩
   have i65 : (i : Int) < 65 := by omega
   have e1 : bkA C i = (C.bk.getD i none).getD z0 := if_pos ⟨by omega, by omega⟩
   have e2 : knC C i = (C.bk.getD i none).isSome := by unfold knC; rw [decide_eq_true (by omega), decide_eq_true (by omega)]; rfl
   have hpa : ((stC C A n c).drop (18 + i * 4)).take (adC (bkA C i).1 (bkA C i).2.1 (bkA C i).2.2).length = adC (bkA C i).1 (bkA C i).2.1 (bkA C i).2.2 := part_ofS (fun k u h => stC_bkAt C hk hb A n c i (by omega) k u (by
    rw [e1] at h
    have hk3 := (List.getElem?_eq_some_iff.1 h).1
    rw [← h]
    match k, hk3 with
    | 0, _ => rfl
    | 1, _ => rfl
    | 2, _ => rfl))
   have hpb : (stC C A n c)[18 + i * 4 + 3]? = some (.bool (knC C i)) := stC_bkAt C hk hb A n c i (by omega) 3 _ (by rw [e2]; rfl)
   clear e1 e2
   go_enter Tryz.func53, Tryz.ntmps53
   go_upto_region 3 with (fail)
   generalize w.alloc (.cells #[.bool false, .int .u64 0, .int .u64 0] 53) = V at *
   have zg : ¬ g = w.heap.size := by have := b2.apart hS (by decide); omega
   refine wp_suS (fun b => b = w.heap.size) 16 31 2 [14] rfl (by kernel_rfl) (by kernel_rfl) (fun k w' => Bk w' w.heap.size 53 (if k = 0 then adC false 0 0 else (adC (bkA C i).1 (bkA C i).2.1 (bkA C i).2.2))) (fun k _ _ h hx => h.later hx.below) (b2) ?_
   apply StepsC.one (MC.eq _) 1 rfl (by decide)
   ·intro o ho FA w' hC hO hD K hK
    obtain rfl := qoi ho
    have e0 := hO 0 (by kernel_rfl)
    simp only [eval_tmp, qgT, qgS, qgZ, qoS] at e0
    have ev0 := qy ((eval_tmp FA 0).trans e0)
    clear hO hD ho
    go_simp
    exact qk hK rfl
   apply StepsC.one (MC.eq _) 2 rfl (by decide)
   ·intro o ho FA w' hC hO hD K hK
    obtain rfl := qoi ho
    have e1 := hO 1 (by kernel_rfl)
    simp only [eval_tmp, qgT, qgS, qgZ, qoS] at e1
    have ev1 := qy ((eval_tmp FA 1).trans e1)
    clear hO hD ho
    go_simp
    exact qk hK rfl
   apply StepsC.one (MC.eq _) 3 rfl (by decide)
   ·intro o ho FA w' hC hO hD K hK
    obtain rfl := qoi ho
    obtain ⟨e17, ev17⟩ := qE (hD 0 17 (by kernel_rfl))
    clear hO hD ho
    go_simp
    exact qk hK rfl
   apply StepsC.one (MC.eq _) 4 rfl (by decide)
   ·intro o ho FA w' hC hO hD K hK
    obtain rfl := qoi ho
    obtain ⟨e19, ev19⟩ := qE (hD 2 19 (by kernel_rfl))
    clear hO hD ho
    go_simp
    exact qk hK rfl
   apply StepsC.one (MC.eq _) 5 rfl (by decide)
   ·intro o ho FA w' hC hO hD K hK
    obtain rfl := qoi ho
    obtain ⟨e20, ev20⟩ := qE (hD 3 20 (by kernel_rfl))
    obtain ⟨e18, ev18⟩ := qE (hD 1 18 (by kernel_rfl))
    clear hO hD ho
    go_simp
    exact qk hK rfl
   apply StepsC.one (MC.eq _) 6 rfl (by decide)
   ·intro o ho FA w' hC hO hD K hK
    obtain rfl := qoi ho
    obtain ⟨e21, ev21⟩ := qE (hD 4 21 (by kernel_rfl))
    clear hO hD ho
    go_simp
    exact qk hK rfl
   apply StepsC.one (MC.eq _) 7 rfl (by decide)
   ·intro o ho FA w' hC hO hD K hK
    obtain rfl := qoi ho
    obtain ⟨e22, ev22⟩ := qE (hD 5 22 (by kernel_rfl))
    clear hO hD ho
    refine wanted_if rfl ?_
    refine wp_ldA 53 (.tmp 22) rfl (adC (bkA C i).1 (bkA C i).2.1 (bkA C i).2.2) ev22.out (hS.chg hC zg) hpa va1 va2 (szAd _ _ _) ?_
    exact qk hK rfl
   apply StepsC.one (MC.eq _) 8 rfl (by decide)
   ·intro o ho FA w' hC hO hD K hK
    obtain rfl := qoi ho
    have e0 := hO 0 (by kernel_rfl)
    simp only [eval_tmp, qgT, qgS, qgZ, qoS] at e0
    have ev0 := qy ((eval_tmp FA 0).trans e0)
    clear hO hD ho
    go_simp
    exact qk hK rfl
   apply StepsC.one (MC.eq _) 9 rfl (by decide)
   ·intro o ho FA w' hC hO hD K hK
    obtain rfl := qoi ho
    have e1 := hO 1 (by kernel_rfl)
    simp only [eval_tmp, qgT, qgS, qgZ, qoS] at e1
    have ev1 := qy ((eval_tmp FA 1).trans e1)
    clear hO hD ho
    go_simp
    exact qk hK rfl
   apply StepsC.one (MC.eq _) 10 rfl (by decide)
   ·intro o ho FA w' hC hO hD K hK
    obtain rfl := qoi ho
    obtain ⟨e24, ev24⟩ := qE (hD 7 24 (by kernel_rfl))
    clear hO hD ho
    go_simp
    exact qk hK rfl
   apply StepsC.one (MC.eq _) 11 rfl (by decide)
   ·intro o ho FA w' hC hO hD K hK
    obtain rfl := qoi ho
    obtain ⟨e26, ev26⟩ := qE (hD 9 26 (by kernel_rfl))
    clear hO hD ho
    go_simp
    exact qk hK rfl
   apply StepsC.one (MC.eq _) 12 rfl (by decide)
   ·intro o ho FA w' hC hO hD K hK
    obtain rfl := qoi ho
    obtain ⟨e27, ev27⟩ := qE (hD 10 27 (by kernel_rfl))
    obtain ⟨e25, ev25⟩ := qE (hD 8 25 (by kernel_rfl))
    clear hO hD ho
    go_simp
    exact qk hK rfl
   apply StepsC.one (MC.eq _) 13 rfl (by decide)
   ·intro o ho FA w' hC hO hD K hK
    obtain rfl := qoi ho
    obtain ⟨e28, ev28⟩ := qE (hD 11 28 (by kernel_rfl))
    clear hO hD ho
    go_simp
    exact qk hK rfl
   apply StepsC.one (MC.eq _) 14 rfl (by decide)
   ·intro o ho FA w' hC hO hD K hK
    obtain rfl := qoi ho
    obtain ⟨e29, ev29⟩ := qE (hD 12 29 (by kernel_rfl))
    clear hO hD ho
    refine wanted_if rfl ?_
    refine wp_ld1 4 (.tmp 29) rfl ev29.out (hS.chg hC zg) hpb Tryz.underlying4 rfl ?_
    exact qk hK rfl
   apply StepsC.mov (MC.any) 15 0 rfl rfl rfl
   ·intro o ho FA w' hC hO hD hS K hK
    obtain rfl := qoi ho
    have e4 := hO 4 (by kernel_rfl)
    simp only [eval_tmp, qgT, qgS, qgZ, qoS] at e4
    have ev4 := qy ((eval_tmp FA 4).trans e4)
    obtain ⟨e23, ev23⟩ := qE (hD 6 23 (by kernel_rfl))
    clear hO hD ho
    refine wanted_if rfl ?_
    refine wp_stA 53 (.tmp 4) (.tmp 23) rfl (adC (bkA C i).1 (bkA C i).2.1 (bkA C i).2.2) (adC false 0 0) rfl (by simp [adC, Value.oneCell']) ev4.out ev23.out hS (szAd _ _ _) ?_
    intro w'' hn hg
    exact hK.out undef _ (Chg.one hg rfl) hn trivial
   apply StepsC.one (MC.eq _) 16 rfl (by decide)
   ·intro o ho FA w' hC hO hD K hK
    obtain rfl := qoi ho
    obtain ⟨e30, ev30⟩ := qE (hD 13 30 (by kernel_rfl))
    clear hO hD ho
    go_simp
    exact qk hK rfl
   refine StepsC.fin_ (fun vs w' hC hS hp => ?_)
   have p0 : vs 0 = _ := hp 0 (by omega) rfl
   have p1 : vs 1 = _ := hp 1 (by omega) rfl
   have p2 : vs 2 = _ := hp 2 (by omega) rfl
   have p3 : vs 3 = _ := hp 3 (by omega) rfl
   have p4 : vs 4 = _ := hp 4 (by omega) rfl
   have p5 : vs 5 = _ := hp 5 (by omega) rfl
   have p6 : vs 6 = _ := hp 6 (by omega) rfl
   have p7 : vs 7 = _ := hp 7 (by omega) rfl
   have p8 : vs 8 = _ := hp 8 (by omega) rfl
   have p9 : vs 9 = _ := hp 9 (by omega) rfl
   have p10 : vs 10 = _ := hp 10 (by omega) rfl
   have p11 : vs 11 = _ := hp 11 (by omega) rfl
   have p12 : vs 12 = _ := hp 12 (by omega) rfl
   have p13 : vs 13 = _ := hp 13 (by omega) rfl
   have p15 : vs 15 = _ := hp 15 (by omega) rfl
   clear hp
   simp only [qta, qtb, qda, qdb, putAll, Nat.zero_add, Nat.reduceAdd, Act.put, qsT, qsZ, qsS, p0, p1, p2, p3, p4, p5, p6, p7, p8, p9, p10, p11, p12, p13, p15]
   clear p0 p1 p2 p3 p4 p5 p6 p7 p8 p9 p10 p11 p12 p13 p15
   clear vs
   go_wp2
   refine bodyPost_agg2 Tryz.results53 rfl rfl (Bk.range hS) va1 va2 (szAd _ _ _) rfl (RetV.is_ rfl ((be.trans (hC.below (fun b hb => by have hb : b = w.heap.size := hb; omega) (by omega)))))
theorem eqI_ad (w : World) (a b : Adr) : (Op.equalIn 10000 53 (.agg #[.bool a.1, .int .u64 (a.2.1 : Int), .int .u64 (a.2.2 : Int)]) (.agg #[.bool b.1, .int .u64 (b.2.1 : Int), .int .u64 (b.2.2 : Int)])).run Tryz.prog w = .ok (decide (a = b)) w := by
 have hS : Tryz.prog.underlying 53 = some (.struct (Tryz.prog.fieldsOf 53)) := by kernel_rfl
 have hp : Tryz.prog.stoodInHeld 53 = false := by kernel_rfl
 obtain ⟨a1, a2, a3⟩ := a
 obtain ⟨b1, b2, b3⟩ := b
 rw [run_equalIn_agg w _ 53 _ _ hS hp]
 simp only [Program.fieldsOf, Tryz.underlying53]
 go_simp
 repeat' split
 all_goals (simp_all <;> omega)
def eqAd (a : Bool) (b c : Nat) (d : Bool) (e f : Nat) : Bool := decide ((a, b, c) = (d, e, f))
theorem eqC_ad (w : World) (a : Bool) (b c : Nat) (d : Bool) (e f : Nat) : (Op.equalIn 10000 53 (.agg (adC a b c).toArray) (.agg (adC d e f).toArray)).run Tryz.prog w = .ok (eqAd a b c d e f) w := eqI_ad w (a, b, c) (d, e, f)
theorem rng_ad {w : World} {b o : Nat} {x : Ve} (h : w.rangeAt b o (veC x)) : w.rangeAt b o (adC x.1.ad.1 x.1.ad.2.1 x.1.ad.2.2) ∧ w.cell? ⟨b, o + 3, none⟩ = some (.int .u16 (x.1.pt : Int)) ∧ w.cell? ⟨b, o + 4, none⟩ = some (.int .u8 (x.1.pr : Int)) :=
 ⟨fun i u hu => h i u (by
  have hk3 := (List.getElem?_eq_some_iff.1 hu).1
  rw [← hu]
  match i, hk3 with
  | 0, _ => rfl
  | 1, _ => rfl
  | 2, _ => rfl), h 3 _ rfl, h 4 _ rfl⟩
def fdI (C : Cf) (a : Adr) (pt pr : Nat) : Int := if fdC C a pt pr < C.vs.length then (fdC C a pt pr : Int) else -1
theorem fdC_step (C : Cf) (a : Adr) (pt pr : Nat) (i : Nat) (hi : i ≤ fdC C a pt pr) (h : i < C.vs.length) : (eqV a pt pr C.vs[i] = true → fdC C a pt pr = i) ∧ (eqV a pt pr C.vs[i] = false → i + 1 ≤ fdC C a pt pr) := by
 unfold fdC at *
 constructor
 ·intro he
  rcases Nat.lt_or_ge i (C.vs.findIdx (eqV a pt pr)) with h' | h'
  ·have := List.not_of_lt_findIdx h'
   rw [he] at this
   cases this
  ·omega
 ·intro he
  rcases Nat.lt_or_ge i (C.vs.findIdx (eqV a pt pr)) with h' | h'
  ·exact h'
  ·exfalso
   have e : i = C.vs.findIdx (eqV a pt pr) := by omega
   have := List.findIdx_getElem (p := eqV a pt pr) (xs := C.vs) (w := by rw [← e]; exact h)
   simp only [← e] at this
   rw [he] at this
   cases this
section
attribute [local go_sem ↓] eqC_ad
theorem cfgFind_any (C : Cf) (hk : C.key.length = 16) (hb : C.bk.length = 65) (A : Option Addr) (n c : Nat) (E : List Ve) (hE0 : E.map (·.1) = C.vs) (g : Nat) (a : Adr) (pt pr : Nat) (w : World) (hS : Bk w g 96 (stC C A n c)) (hr : Os 143 8 w 0 A n c (E.flatMap veC)) (hn : n ≤ 1000) : Calls Tryz.prog 137 #[.pointer (some ⟨g, 0, none⟩), .agg (adC a.1 a.2.1 a.2.2).toArray, .int .u16 (pt : Int), .int .u8 (pr : Int)] w (RetV w (.int .i64 (fdI C a pt pr))) := by
 obtain ⟨da1, va1, va2⟩ := rowAdC
 obtain ⟨six, ah, al⟩ := a
 have hlE : E.length = C.vs.length := by rw [← hE0]; simp
 have hln : E.length = n := by have := hr.rs.1; rw [flat_len veC 8 veC_len] at this; omega
 have ba : Bk (w.alloc (.cells (adC six ah al).toArray 53)) w.heap.size 53 (adC six ah al) := Bk.new w 53 (adC six ah al).toArray
 have be : Below w.heap.size w (w.alloc (.cells (adC six ah al).toArray 53)) := Below.allocS (Below.refl _ _) _
 have q0 : (w.alloc (.cells (adC six ah al).toArray 53)).cell? ⟨g, 278, none⟩ = some (.slice A n c) := ((hS.later be).cell _).trans (stC_vips C hk hb A n c)
 have HS := qy (hS.later be)
 have zV : w.heap.size + 1 ≤ (w.alloc (.cells (adC six ah al).toArray 53)).heap.size := by simp
 go_enter Tryz.func137, Tryz.ntmps137
 go_upto_region 1 with (fail)
 generalize w.alloc (.cells (adC six ah al).toArray 53) = V at *
 have HL := qy (fun w h => cfgLen_any C hk hb A n c g w h)
 go_upto_region 2 with (go_at_call 55; refine (HL.out _ HS.out).mono ?_; rintro e w1 ⟨rfl, rfl⟩)
 clear q0
 have HF := qy ba
 have HB := qy be
 have hlt0 : fdC C (six, ah, al) pt pr ≤ C.vs.length := List.findIdx_le_length
 clear ba be
 go_loopw [13] (fun I wr => ∃ i : Nat, i ≤ n ∧ i ≤ fdC C (six, ah, al) pt pr ∧ I = .int .i64 (i : Int) ∧ Below w.heap.size w wr ∧ Bk wr w.heap.size 53 (adC six ah al)) (fun I _ => n - (intOf I).toNat)
 case atStart => exact ⟨0, Nat.zero_le _, Nat.zero_le _, rfl, HB.out, HF.out⟩
 case round =>
  clear HF HB
  obtain ⟨i, hi, hif, rfl, hE, ba⟩ := hrel
  by_cases hlt : i < n
  ·have ii : (i : Int) < (n : Int) := by omega
   obtain ⟨b, cur, rfl, -, hB, -⟩ := hr.bk (by omega)
   have hst := fdC_step C (six, ah, al) pt pr i hif (by omega)
   have hrg : ∀ W, Below w.heap.size w W → W.rangeAt b (i * 8) (veC E[i]) := fun W h => by
    have := (hr.rs.later h).rangeE veC_len i (by omega)
    rwa [Nat.zero_add] at this
   have hCi : C.vs[i]'(by omega) = E[i].1 := by simp [← hE0]
   rw [hCi] at hst
   have q0 : wr.cell? ⟨g, 278, none⟩ = some (.slice (some ⟨b, 0, none⟩) n c) := ((hS.later hE).cell _).trans (stC_vips C hk hb _ n c)
   have HQ := qy (fun W h => rng_ad (hrg W h))
   clear hrg hCi
   generalize E[i].1 = v at *
   have hcase : (eqAd v.ad.1 v.ad.2.1 v.ad.2.2 six ah al = true ∧ decide (v.ad = (six, ah, al)) = true ∧ ((v.pt : Int) == (pt : Int)) = true ∧ ((v.pr : Int) == (pr : Int)) = true ∧ Hid (fdI C (six, ah, al) pt pr = (i : Int))) ∨
     (eqAd v.ad.1 v.ad.2.1 v.ad.2.2 six ah al = true ∧ decide (v.ad = (six, ah, al)) = true ∧ ((v.pt : Int) == (pt : Int)) = true ∧ ((v.pr : Int) == (pr : Int)) = false ∧ i + 1 ≤ fdC C (six, ah, al) pt pr) ∨
     (eqAd v.ad.1 v.ad.2.1 v.ad.2.2 six ah al = true ∧ decide (v.ad = (six, ah, al)) = true ∧ ((v.pt : Int) == (pt : Int)) = false ∧ i + 1 ≤ fdC C (six, ah, al) pt pr) ∨
     (eqAd v.ad.1 v.ad.2.1 v.ad.2.2 six ah al = false ∧ decide (v.ad = (six, ah, al)) = false ∧ i + 1 ≤ fdC C (six, ah, al) pt pr) := by
    by_cases h1 : v.ad = (six, ah, al)
    ·by_cases h2 : v.pt = pt
     ·by_cases h3 : v.pr = pr
      ·have he := hst.1 (decide_eq_true ⟨h1, h2, h3⟩)
       exact .inl ⟨decide_eq_true h1, decide_eq_true h1, by simp [h2], by simp [h3], qy (by unfold fdI; rw [he, if_pos (by omega)])⟩
      ·exact .inr (.inl ⟨decide_eq_true h1, decide_eq_true h1, by simp [h2], by simp; omega, hst.2 (decide_eq_false (fun h => h3 h.2.2))⟩)
     ·exact .inr (.inr (.inl ⟨decide_eq_true h1, decide_eq_true h1, by simp; omega, hst.2 (decide_eq_false (fun h => h2 h.2.1))⟩))
    ·exact .inr (.inr (.inr ⟨decide_eq_false h1, decide_eq_false h1, hst.2 (decide_eq_false (fun h => h1 h.1))⟩))
   clear hst
   rcases hcase with ⟨hc1, hc1', hc2, hc3, HV⟩ | ⟨hc1, hc1', hc2, hc3, he⟩ | ⟨hc1, hc1', hc2, he⟩ | ⟨hc1, hc1', he⟩
   all_goals
    go_upto_region 5 with (fail)
    refine wp_relS 22 46 rfl (by kernel_rfl) (by kernel_rfl) ?_
    refine qb 10 1 ?_
    refine qa 0 22 2 ?_
    refine qa 1 23 3 ?_
    apply qm 4 rfl rfl
    ·intro FA x hO hD K hK
     obtain ⟨e24, ev24⟩ := qE (hD 2 24)
     clear hO hD
     refine wanted_if rfl ?_
     refine wp_load_mid 53 (.tmp 24) rfl b (i * 8) ev24.out (adC v.ad.1 v.ad.2.1 v.ad.2.2) _ (HQ.out _ (belowP hE x.bs x.d)).1 va1 va2 (szAd _ _ _) ?_
     exact qk hK rfl
    apply qm 5 rfl rfl
    ·intro FA x hO hD K hK
     have e5 := hO 5
     simp only [eval_tmp, qgT, qgS, qgZ, qoS] at e5
     have ev5 := qy ((eval_tmp FA 5).trans e5)
     clear hO hD
     refine wanted_if rfl ?_
     refine wp_ldA 53 (.tmp 5) rfl (adC six ah al) ev5.out (ba.later bpl) rfl va1 va2 (szAd _ _ _) ?_
     exact qk hK rfl
    refine qc 3 25 4 26 6 ?_
    refine qa 5 27 7 ?_
    refine qf 10 6 28 8 ?_
    refine qg 7 29 6 28 9 ?_
    refine qg 8 30 6 28 10 ?_
    apply qm 11 rfl rfl
    ·intro FA x hO hD K hK
     have e31 := qe (hD 9 31)
     have e28 := qe (hD 6 28)
     first | have ge28 := slot_of e28 | have ge28 := slot_un e28
     clear hO hD
     first | (have hq := (HQ.out (plus wr x.bs x.d) (belowP hE x.bs x.d)).2; go_simp; exact qk hK rfl) | (go_simp; exact qk hK rfl) | (rcases ge28 with ge28 | ge28 <;> (go_simp; exact qk hK rfl))
    refine qf 2 6 28 12 ?_
    refine qh 10 32 11 33 6 28 13 ?_
    refine qc 6 28 12 34 14 ?_
    refine qa 13 35 15 ?_
    refine qf 10 14 36 16 ?_
    refine qg 15 37 14 36 17 ?_
    refine qg 16 38 14 36 18 ?_
    apply qm 19 rfl rfl
    ·intro FA x hO hD K hK
     have e39 := qe (hD 17 39)
     have e36 := qe (hD 14 36)
     first | have ge36 := slot_of e36 | have ge36 := slot_un e36
     clear hO hD
     first | (have hq := (HQ.out (plus wr x.bs x.d) (belowP hE x.bs x.d)).2; go_simp; exact qk hK rfl) | (go_simp; exact qk hK rfl) | (rcases ge36 with ge36 | ge36 <;> (go_simp; exact qk hK rfl))
    refine qf 3 14 36 20 ?_
    refine qh 18 40 19 41 14 36 21 ?_
    refine qc 14 36 20 42 22 ?_
    refine Steps.fin_ (fun vs x hp => ?_)
    simp only [qta, qtb, qda, qdb, putAll, Nat.zero_add, Nat.reduceAdd, Act.put, qsT, qsZ, qsS, qi (hp 0 qd), qi (hp 1 qd), qi (hp 2 qd), qi (hp 3 qd), qi (hp 4 qd), qi (hp 5 qd), qi (hp 6 qd), qi (hp 7 qd), qi (hp 8 qd), qi (hp 9 qd), qi (hp 10 qd), qi (hp 11 qd), qi (hp 12 qd), qi (hp 13 qd), qi (hp 14 qd), qi (hp 15 qd), qi (hp 16 qd), qi (hp 17 qd), qi (hp 18 qd), qi (hp 19 qd), qi (hp 20 qd), qi (hp 21 qd)]
    clear hp
    clear vs
    go_wp2
   ·go_ret
    rw [HV.out]
    exact RetV.is_ rfl (belowP hE _ _)
   ·exact ⟨⟨i + 1, by omega, by omega, by go_num, belowP hE _ _, ba.later bpl⟩, by simp [intOf]; omega⟩
   ·exact ⟨⟨i + 1, by omega, by omega, by go_num, belowP hE _ _, ba.later bpl⟩, by simp [intOf]; omega⟩
   ·exact ⟨⟨i + 1, by omega, by omega, by go_num, belowP hE _ _, ba.later bpl⟩, by simp [intOf]; omega⟩
  ·have HV := qy (show fdI C (six, ah, al) pt pr = -1 from if_neg (by omega))
   have ii : ¬ (i : Int) < (n : Int) := by omega
   clear hif hlt0
   go_wp2
   go_ret
   rw [HV.out]
   exact RetV.is_ rfl hE
end
structure Grow (G D G' D' : Nat → Prop) (w : World) : Prop where
 gg : ∀ b, G b → G' b
 gn : ∀ b, G' b → G b ∨ w.heap.size ≤ b
 dn : ∀ b, D' b → D b ∨ w.heap.size ≤ b
theorem Grow.refl (G D : Nat → Prop) (w : World) : Grow G D G D w := ⟨fun _ h => h, fun _ h => .inl h, fun _ h => .inl h⟩
theorem Grow.trans {G D G1 D1 G2 D2 : Nat → Prop} {w w1 : World} (h : Grow G D G1 D1 w) (k : Grow G1 D1 G2 D2 w1) (hs : w.heap.size ≤ w1.heap.size) : Grow G D G2 D2 w :=
 ⟨fun b hb => k.gg b (h.gg b hb), fun b hb => (k.gn b hb).elim (h.gn b) (fun h' => .inr (Nat.le_trans hs h')), fun b hb => (k.dn b hb).elim (h.dn b) (fun h' => .inr (Nat.le_trans hs h'))⟩
theorem Grow.early {G D G1 D1 : Nat → Prop} {w w1 : World} (k : Grow G D G1 D1 w1) (hs : w.heap.size ≤ w1.heap.size) : Grow G D G1 D1 w := (Grow.refl G D w).trans k hs
def RetCf (G D : Nat → Prop) (w : World) (g : Nat) (C' : Cf) (v : Value) (e : Ending) (w' : World) : Prop := e = .returned v ∧ ∃ G' D', CfM G' D' w' g C' ∧ Grow G D G' D' w ∧ Chg D w w'
theorem run_buildKn (six : Bool) (ah al : Nat) (w : World) : (Instr.build 92 #[(0, .agg (adC six ah al).toArray), (1, .bool true)]).run Tryz.prog w = .ok (.agg (bkC (some (six, ah, al))).toArray) w := by kernel_rfl
theorem addBackend_any {G D : Nat → Prop} (k v b e : Int) (six : Bool) (ah al pt pr : Nat) (wy : Int) (ms : List (Int × Int)) (B : Option Addr) (m d : Nat) (C : Cf) (hC : CfOk C) (g : Nat) (A : Option Addr) (n c : Nat) (E : List Ve) (w : World) (hX : CfX G D w g C A n c E) (hal : al < 18446744073709551616) : Calls Tryz.prog 108 #[.pointer (some ⟨g, 0, none⟩), .agg (opC k v b e six ah al pt pr wy B m d).toArray] w (RetCf G D w g (bif (numB b && adG six ah al) then { C with bk := C.bk.set b.toNat (some (six, ah, al)) } else C) (.int .i64 (bif (numB b && adG six ah al) then 0 else 1))) := by
 obtain ⟨da1, va1, va2⟩ := rowAdC
 obtain ⟨do1, vo1, vo2⟩ := rowOpC
 have hk := hC.key
 have hb := hC.bl
 have HA := qy (fun w => adrRightC six ah al w hal)
 by_cases h1 : b < 1
 ·have hq : (numB b && adG six ah al) = false := by unfold numB; rw [decide_eq_false (by omega)]; rfl
  rw [hq]
  obtain ⟨bo, be, zV⟩ := box1 w 67 (opC k v b e six ah al pt pr wy B m d)
  go_enter Tryz.func108, Tryz.ntmps108
  go_upto_region 1 with (fail)
  generalize w.alloc (.cells (opC k v b e six ah al pt pr wy B m d).toArray 67) = V at *
  replace hX := hX.later be
  refine wp_region_lit ?_
  refine qw ?_
  refine qL 3 (.tmp 5) bo Tryz.underlying3 ?_
  iterate 2 (refine qw ?_)
  iterate 3 ((with_reducible refine wpList_skip ?_ ?_); (· first | (go_simp; done) | (go_simp; intro h; cases h)); simp only [Act.put, qsT, qsZ, qsS])
  iterate 2 (refine qw ?_)
  iterate 4 ((with_reducible refine wpList_skip ?_ ?_); (· first | (go_simp; done) | (go_simp; intro h; cases h)); simp only [Act.put, qsT, qsZ, qsS])
  refine qw ?_
  go_wp2
  go_ret
  exact ⟨rfl, G, D, ⟨A, n, c, E, hX⟩, Grow.refl _ _ _, Chg.of_below be⟩
 ·by_cases h2 : 64 < b
  ·have hq : (numB b && adG six ah al) = false := by unfold numB; rw [decide_eq_false (show ¬ b ≤ 64 by omega)]; simp
   rw [hq]
   obtain ⟨bo, be, zV⟩ := box1 w 67 (opC k v b e six ah al pt pr wy B m d)
   go_enter Tryz.func108, Tryz.ntmps108
   go_upto_region 1 with (fail)
   generalize w.alloc (.cells (opC k v b e six ah al pt pr wy B m d).toArray 67) = V at *
   replace hX := hX.later be
   refine wp_region_lit ?_
   refine qw ?_
   refine qL 3 (.tmp 5) bo Tryz.underlying3 ?_
   iterate 2 (refine qw ?_)
   refine wpList_step (fun K hK => ?_); go_simp; with_reducible refine hK _ _ ?_; clear hK K
   refine wpList_ld1 (t := 67) (cs := opC k v b e six ah al pt pr wy B m d) 3 (.tmp 9) rfl (by go_simp) rfl (bo) rfl Tryz.underlying3 rfl ?_
   refine wpList_step (fun K hK => ?_); go_simp; with_reducible refine hK _ _ ?_; clear hK K
   iterate 2 (refine qw ?_)
   iterate 4 ((with_reducible refine wpList_skip ?_ ?_); (· first | (go_simp; done) | (go_simp; intro h; cases h)); simp only [Act.put, qsT, qsZ, qsS])
   refine qw ?_
   go_wp2
   go_ret
   exact ⟨rfl, G, D, ⟨A, n, c, E, hX⟩, Grow.refl _ _ _, Chg.of_below be⟩
  ·have hnb : numB b = true := by unfold numB; rw [decide_eq_true (by omega), decide_eq_true (by omega)]; rfl
   rw [hnb, Bool.true_and]
   obtain ⟨i, rfl⟩ : ∃ i : Nat, b = i := ⟨b.toNat, by omega⟩
   have i65 : (i : Int) < 65 := by omega
   clear hnb
   cases hg : adG six ah al
   ·rw [hg] at HA
    clear hg
    obtain ⟨bo, be, zV⟩ := box1 w 67 (opC k v (i : Int) e six ah al pt pr wy B m d)
    go_enter Tryz.func108, Tryz.ntmps108
    go_upto_region 1 with (fail)
    generalize w.alloc (.cells (opC k v (i : Int) e six ah al pt pr wy B m d).toArray 67) = V at *
    replace hX := hX.later be
    refine wp_region_lit ?_
    refine qw ?_
    refine qL 3 (.tmp 5) bo Tryz.underlying3 ?_
    iterate 2 (refine qw ?_)
    refine wpList_step (fun K hK => ?_); go_simp; with_reducible refine hK _ _ ?_; clear hK K
    refine wpList_ld1 (t := 67) (cs := opC k v (i : Int) e six ah al pt pr wy B m d) 3 (.tmp 9) rfl (by go_simp) rfl (bo) rfl Tryz.underlying3 rfl ?_
    refine wpList_step (fun K hK => ?_); go_simp; with_reducible refine hK _ _ ?_; clear hK K
    iterate 2 (refine qw ?_)
    refine wpList_step (fun K hK => ?_); go_simp; with_reducible refine hK _ _ ?_; clear hK K
    refine wpList_ldG (t := 67) (cs := opC k v (i : Int) e six ah al pt pr wy B m d) 53 (.tmp 14) rfl (by go_simp) (adC six ah al) rfl (bo) rfl va1 va2 (szAd _ _ _) ?_
    refine wpList_step (fun K hK => ?_)
    go_simp
    refine (HA.out _).mono ?_
    rintro e w1 ⟨bs1, d1, rfl, rfl⟩
    with_reducible refine hK _ _ ?_
    clear hK K
    have hb1 := below_plus V bs1 d1
    replace hX := hX.later hb1
    replace bo := bo.later hb1
    replace be := be.trans (hb1.mono be.size)
    clear hb1
    generalize plus V bs1 d1 = V1 at *
    refine wpList_step (fun K hK => ?_); go_simp; with_reducible refine hK _ _ ?_; clear hK K
    refine qw ?_
    go_wp2
    go_ret
    exact ⟨rfl, G, D, ⟨A, n, c, E, hX⟩, Grow.refl _ _ _, Chg.of_below be⟩
   ·rw [hg] at HA
    clear hg
    obtain ⟨bo, be, zV⟩ := box1 w 67 (opC k v (i : Int) e six ah al pt pr wy B m d)
    go_enter Tryz.func108, Tryz.ntmps108
    go_upto_region 1 with (fail)
    generalize w.alloc (.cells (opC k v (i : Int) e six ah al pt pr wy B m d).toArray 67) = V at *
    replace hX := hX.later be
    refine wp_region_lit ?_
    refine qw ?_
    refine qL 3 (.tmp 5) bo Tryz.underlying3 ?_
    iterate 2 (refine qw ?_)
    refine wpList_step (fun K hK => ?_); go_simp; with_reducible refine hK _ _ ?_; clear hK K
    refine wpList_ld1 (t := 67) (cs := opC k v (i : Int) e six ah al pt pr wy B m d) 3 (.tmp 9) rfl (by go_simp) rfl (bo) rfl Tryz.underlying3 rfl ?_
    refine wpList_step (fun K hK => ?_); go_simp; with_reducible refine hK _ _ ?_; clear hK K
    iterate 2 (refine qw ?_)
    refine wpList_step (fun K hK => ?_); go_simp; with_reducible refine hK _ _ ?_; clear hK K
    refine wpList_ldG (t := 67) (cs := opC k v (i : Int) e six ah al pt pr wy B m d) 53 (.tmp 14) rfl (by go_simp) (adC six ah al) rfl (bo) rfl va1 va2 (szAd _ _ _) ?_
    refine wpList_step (fun K hK => ?_)
    go_simp
    refine (HA.out _).mono ?_
    rintro e w1 ⟨bs1, d1, rfl, rfl⟩
    with_reducible refine hK _ _ ?_
    clear hK K
    have hb1 := below_plus V bs1 d1
    replace hX := hX.later hb1
    replace bo := bo.later hb1
    replace be := be.trans (hb1.mono be.size)
    clear hb1
    generalize plus V bs1 d1 = V1 at *
    refine wpList_step (fun K hK => ?_); go_simp; with_reducible refine hK _ _ ?_; clear hK K
    refine qw ?_
    go_upto_region 3 with (fail)
    refine wp_relS 9 28 rfl (by kernel_rfl) (by kernel_rfl) ?_
    refine qb 0 1 ?_
    refine qb 3 2 ?_
    refine ql 1 20 3 3 bo Tryz.underlying3 ?_
    refine qb 3 4 ?_
    apply qm 5 rfl rfl
    ·intro FA x hO hD K hK
     obtain ⟨e22, ev22⟩ := qE (hD 3 22)
     clear hO hD
     refine wanted_if rfl ?_
     refine wp_ldA 53 (.tmp 22) rfl (adC six ah al) ev22.out (bo.later bpl) rfl va1 va2 (szAd _ _ _) ?_
     exact qk hK rfl
    apply qm 6 rfl rfl
    ·intro FA x hO hD K hK
     obtain ⟨e23, ev23⟩ := qE (hD 4 23)
     clear hO hD
     refine wanted_if rfl ?_
     refine wp_buildV 92 [(0, .tmp 23), (1, .const (.bool true))] rfl (.agg (bkC (some (six, ah, al))).toArray) (by simp only [List.map_cons, List.map_nil, ev23.out]; exact run_buildKn six ah al _) ?_
     exact qk hK rfl
    refine qa 0 19 7 ?_
    refine qa 6 25 8 ?_
    refine qc 7 26 2 21 9 ?_
    refine Steps.fin_ (fun vs x hp => ?_)
    simp only [qta, qtb, qda, qdb, putAll, Nat.zero_add, Nat.reduceAdd, Act.put, qsT, qsZ, qsS, qi (hp 0 qd), qi (hp 1 qd), qi (hp 2 qd), qi (hp 3 qd), qi (hp 4 qd), qi (hp 5 qd), qi (hp 6 qd), qi (hp 7 qd), qi (hp 8 qd)]
    clear hp
    clear vs
    have hb3 := below_plus V1 x.bs x.d
    replace hX := hX.later hb3
    replace be := be.trans (hb3.mono be.size)
    clear hb3
    generalize plus V1 x.bs x.d = V2 at *
    refine wpList_stM (t := 96) (off := 18 + i * 4) 92 (.tmp 27) (.tmp 24) rfl rfl (bkC (some (six, ah, al))) (stC C A n c) (by rw [stC_len C hk hb, bkC_len]; omega) (bkC_one _) rfl rfl hX.st (by kernel_rfl) ?_
    intro W4 h4 g4
    simp only [Act.put, qsT, qsZ, qsS]
    replace hX := hX.setSt (C' := { C with bk := C.bk.set i (some (six, ah, al)) }) rfl (by rw [← stC_setBk C hk hb A n c i (by omega)]; exact h4) g4
    go_wp2
    go_ret
    exact ⟨rfl, G, D, ⟨A, n, c, E, hX⟩, Grow.refl _ _ _, (Chg.of_below be).trans (Chg.one g4 hX.dg)⟩
def senC (q : List Int) : List Value := (List.range 65).map fun k : Nat => .bool (decide ((k : Int) ∈ q))
theorem senC_len (q : List Int) : (senC q).length = 65 := by simp [senC]
theorem senC_at (q : List Int) (k : Nat) (h : k < 65) : (senC q)[k]? = some (.bool (decide ((k : Int) ∈ q))) := by simp [senC, h]
theorem senC_set (q : List Int) (k : Nat) (h : k < 65) : (senC q).set k (.bool true) = senC (q ++ [(k : Int)]) := by
 apply List.ext_getElem?
 intro i
 by_cases hi : i < 65
 ·rw [senC_at _ _ hi, List.getElem?_set]
  split
  ·next e => subst e; rw [if_pos (by rw [senC_len]; exact hi)]; simp
  ·next e =>
   rw [senC_at _ _ hi]
   have : (i : Int) ≠ (k : Int) := by omega
   simp [this]
 ·rw [List.getElem?_eq_none (by rw [List.length_set, senC_len]; omega), List.getElem?_eq_none (by rw [senC_len]; omega)]
theorem okM_snoc (C : Cf) (l : List (Int × Int)) (p : Int × Int) : okM C (l ++ [p]) = (okM C l && (knC C p.1 && (!decide (p.1 ∈ l.map (·.1)) && wtB p.2))) := by
 rw [Bool.eq_iff_iff]
 simp only [okM, Bool.and_eq_true, decide_eq_true_eq, List.all_append, List.all_cons, List.all_nil, List.map_append, List.map_cons, List.map_nil, List.nodup_append, Bool.not_eq_true', decide_eq_false_iff_not]
 constructor
 ·rintro ⟨⟨h1, h2, _⟩, h3, h4, h5⟩
  exact ⟨⟨h1, h3⟩, h2.1, fun hm => h5 _ hm _ (by simp) rfl, h2.2⟩
 ·rintro ⟨⟨h1, h3⟩, h2, h5, h6⟩
  refine ⟨⟨h1, ⟨h2, h6⟩, trivial⟩, h3, by simp, fun a ha b hb e => ?_⟩
  simp at hb
  subst hb e
  exact h5 ha
theorem okM_take {C : Cf} {l : List (Int × Int)} (h : okM C l = true) (j : Nat) : okM C (l.take j) = true := by
 simp only [okM, Bool.and_eq_true, List.all_eq_true, decide_eq_true_eq] at h ⊢
 refine ⟨fun p hp => h.1 p (List.mem_of_mem_take hp), ?_⟩
 rw [List.map_take]
 exact h.2.sublist (List.take_sublist _ _)
theorem okM_bad {C : Cf} {l : List (Int × Int)} {j : Nat} (h : okM C (l.take j) = false) : okM C l = false := by
 cases hl : okM C l
 ·rfl
 ·rw [okM_take hl] at h; cases h
theorem szMb (x y : Int) : (Tryz.prog.info? 128).map (·.size) = some ([Value.int .i64 x, .int .i64 y]).length := by kernel_rfl
theorem rowMb : ∃ d, Tryz.prog.underlying 128 = some d ∧ d.isRow = true := ⟨_, Tryz.underlying128, rfl⟩
theorem fit_any (ms : List (Int × Int)) (B : Option Addr) (m d : Nat) (C : Cf) (hC : CfOk C) (g : Nat) (A : Option Addr) (n c : Nat) (w : World) (hS : Bk w g 96 (stC C A n c)) (hr : Rs 2 w B m d (prs .i64 ms)) (hm : m ≤ 1000000) : Calls Tryz.prog 141 #[.pointer (some ⟨g, 0, none⟩), .slice B m d] w (RetV w (.bool (okM C ms))) := by
 obtain ⟨dm, m1, m2⟩ := rowMb
 have hml : ms.length = m := by have := hr.1; rw [prs_length] at this; omega
 have HB := qy (fun x w h => backend_any C hC.key hC.bl A n c g x w h)
 by_cases h64 : 64 < m
 ·have i64 : (64 : Int) < (m : Int) := by omega
  have HBAD := qy (show okM C ms = false by
   cases hl : okM C ms
   ·rfl
   ·have := okM_len hl; omega)
  go_enter Tryz.func141, Tryz.ntmps141
  go_wp2
  go_ret
  exact RetV.is_ (by rw [HBAD.out]; rfl) (Below.refl _ _)
 ·have i64 : ¬ (64 : Int) < (m : Int) := by omega
  have hzv : ∀ w, (zeroValue 80).run Tryz.prog w = .ok (.agg (senC []).toArray) w := fun _ => by kernel_rfl
  go_enter Tryz.func141, Tryz.ntmps141
  go_upto_region 4 with (fail)
  have hk : Bk (w.alloc (.cells (senC []).toArray 80)) w.heap.size 80 (senC []) := Bk.new _ _ _
  have be : Below w.heap.size w (w.alloc (.cells (senC []).toArray 80)) := Below.allocS (Below.refl _ _) _
  generalize w.alloc (.cells (senC []).toArray 80) = V at *
  clear hzv
  go_upto_region 5 with (fail)
  have HK := qy hk
  have HE := qy be
  clear hk be
  go_loopw [15] (fun I wr => ∃ j : Nat, I = .int .i64 (j : Int) ∧ j ≤ m ∧ okM C (ms.take j) = true ∧ Bk wr w.heap.size 80 (senC ((ms.take j).map (·.1))) ∧ Below w.heap.size w wr) (fun I _ => m - (intOf I).toNat)
  case atStart => exact ⟨0, rfl, Nat.zero_le _, rfl, HK.out, HE.out⟩
  case round =>
   clear HE HK
   obtain ⟨j, rfl, hj, hok, hk, hE⟩ := hrel
   have HOK := qy hok
   clear hok
   by_cases hlt : j < m
   ·have ij : (j : Int) < (m : Int) := by omega
    have hjL : j < ms.length := by omega
    obtain ⟨bl, ol, rfl, hbl, -⟩ := (hr.later hE).at_ (by omega) (by decide)
    have hg7 := rng_pr ((hr.later hE).range2 j hjL)
    have hsn : ms.take (j + 1) = ms.take j ++ [ms[j]] := by simp
    generalize ms[j] = p at *
    obtain ⟨x, y⟩ := p
    have HSN := qy hsn
    have HO2 := qy ((congrArg (okM C) hsn).trans (okM_snoc C (ms.take j) (x, y)))
    clear hsn
    go_upto_region 7 with (first
     | (refine at_op (.load 128 (.tmp 17)) rfl ?_; refine wpList_load_mid rfl 128 (.tmp 17) rfl bl (ol + j * 2) rfl [.int .i64 x, .int .i64 y] _ hg7 m1 m2 (szMb _ _) ?_)
     | (refine at_op (.store 128 (.tmp 7) (.tmp 18)) rfl ?_; refine wpList_stA (t := 128) 128 (.tmp 7) (.tmp 18) rfl rfl [.int .i64 x, .int .i64 y] [.int .i64 0, .int .i64 0] rfl (by simp [Value.oneCell']) rfl rfl (Bk.new _ _ _) (szMb _ _) ?_; intro W4 h4 g4))
    have be4 : Below wr.heap.size wr W4 := below_grown (Below.allocS (Below.refl _ _) _) g4 (Nat.le_refl _)
    have q0 : W4.cell? ⟨wr.heap.size, 0, none⟩ = some (.int .i64 x) := h4.cell 0
    have q1 : W4.cell? ⟨wr.heap.size, 1, none⟩ = some (.int .i64 y) := h4.cell 1
    have hgm : wr.heap.size < W4.heap.size := h4.lt
    have hwg : w.heap.size ≤ wr.heap.size := hE.size
    replace hE := hE.trans (be4.mono hE.size)
    replace hk := hk.later be4
    have hS4 := hS.later hE
    clear be4 h4 g4 hg7
    generalize wr.heap.size = gm at *
    refine wp_region_lit ?_
    iterate 3 (refine qw ?_)
    refine wpq fun K hK => ?_
    go_simp
    refine (HB.out x _ hS4).mono ?_
    rintro e w1 ⟨bs1, d1, rfl, rfl⟩
    with_reducible refine hK _ _ ?_
    clear hK K
    have hb1 := below_plus W4 bs1 d1
    replace hk := hk.later hb1
    replace hE := hE.trans (hb1.mono hE.size)
    have q0 := (hb1.cell (p := ⟨gm, 0, none⟩) hgm).trans q0
    have q1 := (hb1.cell (p := ⟨gm, 1, none⟩) hgm).trans q1
    have zgm := Nat.lt_of_lt_of_le hgm hb1.size
    clear hb1
    generalize plus W4 bs1 d1 = W5 at *
    iterate 4 (refine qw ?_)
    refine wpList_stA (t := 53) 53 (.tmp 8) (.tmp 24) rfl rfl (adC (bkA C x).1 (bkA C x).2.1 (bkA C x).2.2) (adC false 0 0) rfl (by simp [adC, Value.oneCell']) rfl rfl (Bk.new _ _ _) (szAd _ _ _) ?_
    intro W6 h6 g6
    refine qw ?_
    have be6 : Below W5.heap.size W5 W6 := below_grown (Below.allocS (Below.refl _ _) _) g6 (Nat.le_refl _)
    replace q0 := (be6.cell (p := ⟨gm, 0, none⟩) zgm).trans q0
    replace q1 := (be6.cell (p := ⟨gm, 1, none⟩) zgm).trans q1
    replace hE := hE.trans (be6.mono hE.size)
    replace hk := hk.later be6
    have hW := qy hE
    clear be6 h6 g6 hS4
    cases hkn : knC C x with
    | false =>
     have HBAD := qy (okM_bad (j := j + 1) (by rw [HO2.out]; simp [hkn]))
     replace hW := hW.out
     clear HOK hkn
     go_wp2
     go_ret
     exact RetV.is_ (by rw [HBAD.out]; rfl) hW
    | true =>
     have hrg := knC_rg hkn
     obtain ⟨i, rfl⟩ : ∃ i : Nat, x = i := ⟨x.toNat, by omega⟩
     have i65 : (i : Int) < 65 := by omega
     have hseen := (hk.cell i).trans (senC_at _ i (by omega))
     have hfz := hk.frozen i
     cases hq : decide ((i : Int) ∈ (ms.take j).map (·.1)) with
     | true =>
      rw [hq] at hseen
      have HBAD := qy (okM_bad (j := j + 1) (by rw [HO2.out]; simp only [hq]; simp))
      replace hW := hW.out
      clear HOK hkn hq
      go_wp2
      go_ret
      exact RetV.is_ (by rw [HBAD.out]; rfl) hW
     | false =>
      rw [hq] at hseen
      by_cases h0 : y < 0
      ·have HBAD := qy (okM_bad (j := j + 1) (by rw [HO2.out]; unfold wtB; simp only [decide_eq_false (show ¬ 0 ≤ y by omega)]; simp))
       replace hW := hW.out
       clear HOK hkn hq
       go_wp2
       go_ret
       exact RetV.is_ (by rw [HBAD.out]; rfl) hW
      ·by_cases h100 : 100 < y
       ·have HBAD := qy (okM_bad (j := j + 1) (by rw [HO2.out]; unfold wtB; simp only [decide_eq_false (show ¬ y ≤ 100 by omega)]; simp))
        replace hW := hW.out
        clear HOK hkn hq
        go_wp2
        go_ret
        exact RetV.is_ (by rw [HBAD.out]; rfl) hW
       ·have HK2 := qy (show okM C (ms.take (j + 1)) = true by rw [HO2.out, HOK.out, hkn]; simp only [hq]; unfold wtB; simp only [decide_eq_true (show 0 ≤ y by omega), decide_eq_true (show y ≤ 100 by omega)]; rfl)
        have e := hk.set_ i (.bool true)
        rw [senC_set _ i (by omega)] at e
        have HS2 := qy (show Bk (W6.setCell ⟨w.heap.size, i, none⟩ (.bool true)) w.heap.size 80 (senC ((ms.take (j + 1)).map (·.1))) by rw [HSN.out, List.map_append]; exact e)
        have hb2 : w.heap.size ≤ w.heap.size := Nat.le_refl _
        have hne : gm ≠ w.heap.size ∨ True := Or.inr trivial
        replace hW := hW.out
        clear e hkn hq
        go_wp2
        exact ⟨⟨j + 1, by go_num, by omega, HK2.out, HS2.out, hW.setCell hb2 _⟩, by simp [intOf]; omega⟩
   ·obtain rfl : j = m := by omega
    have ij : ¬ (j : Int) < (j : Int) := by omega
    have HGOOD := qy (show okM C ms = true by have := HOK.out; rwa [List.take_of_length_le (by omega)] at this)
    clear HOK
    go_wp2
    go_ret
    exact RetV.is_ (by rw [HGOOD.out]; rfl) hE
end

section
open Go.RowKit
theorem mod_bit (x k : Nat) : x % 2 ^ (k + 1) = if x.testBit k then x % 2 ^ k ||| 2 ^ k else x % 2 ^ k := by
 apply Nat.eq_of_testBit_eq
 intro i
 rw [Nat.testBit_mod_two_pow]
 by_cases h : x.testBit k = true
 ·rw [if_pos h, Nat.testBit_or, Nat.testBit_mod_two_pow, Nat.testBit_two_pow]
  by_cases hi : i = k
  ·subst hi; simp [h]
  ·have h2 : decide (k = i) = false := decide_eq_false (fun e => hi e.symm)
   rw [h2, Bool.or_false]
   by_cases hl : i < k
   ·rw [decide_eq_true hl, decide_eq_true (by omega)]
   ·rw [decide_eq_false hl, decide_eq_false (by omega)]
 ·rw [if_neg h, Nat.testBit_mod_two_pow]
  by_cases hi : i = k
  ·subst hi
   simp only [Bool.not_eq_true] at h
   simp [h]
  ·by_cases hl : i < k
   ·rw [decide_eq_true hl, decide_eq_true (by omega)]
   ·rw [decide_eq_false hl, decide_eq_false (by omega)]
def stE (ev k : Nat) : Stk := ⟨[], ev % 2 ^ k, 0⟩
theorem stE_0 (ev : Nat) : stE ev 0 = stk0 := by simp [stE, stk0, Nat.mod_one]
theorem stE_64 (ev : Nat) (h : ev < 18446744073709551616) : stE ev 64 = ⟨[], ev, 0⟩ := by
 unfold stE
 rw [Nat.mod_eq_of_lt (by simpa using h)]
theorem stE_ok (ev k : Nat) (hk : k ≤ 64) : StkOk (stE ev k) := by
 refine ⟨by simp [stE], by simp [stE], ?_, by simp [stE], by simp [stE]⟩
 show ev % 2 ^ k < 18446744073709551616
 have h1 := Nat.mod_lt ev (Nat.two_pow_pos k)
 have h2 : 2 ^ k ≤ 2 ^ 64 := Nat.pow_le_pow_right (by decide) hk
 have : (2 : Nat) ^ 64 = 18446744073709551616 := by decide
 omega
theorem hasB_bit (ev k : Nat) (hk : k < 64) : hasB ev ((k + 1 : Nat) : Int) 1 64 = ev.testBit k := by
 unfold hasB
 rw [decide_eq_true (by omega), decide_eq_true (by omega), show (((k + 1 : Nat) : Int) - ((1 : Nat) : Int)).toNat = k by omega]
 rfl
theorem stE_yes (ev k : Nat) (hk : k < 64) (h : hasB ev ((k + 1 : Nat) : Int) 1 64 = true) : eviS (stE ev k) ((k + 1 : Nat) : Int) = stE ev (k + 1) := by
 rw [hasB_bit ev k hk] at h
 have hd : deadS (stE ev k) ((k + 1 : Nat) : Int) = false := by
  show hasB (ev % 2 ^ k) _ 1 64 = false
  rw [hasB_bit _ k hk, Nat.testBit_mod_two_pow]
  simp
 have hn : numB ((k + 1 : Nat) : Int) = true := by unfold numB; rw [decide_eq_true (by omega), decide_eq_true (by omega)]; rfl
 unfold eviS
 rw [hd, hn, if_pos (by rfl)]
 unfold stE
 rw [mod_bit ev k, if_pos h]
 rfl
theorem stE_no (ev k : Nat) (hk : k < 64) (h : hasB ev ((k + 1 : Nat) : Int) 1 64 = false) : stE ev k = stE ev (k + 1) := by
 rw [hasB_bit ev k hk] at h
 unfold stE
 rw [mod_bit ev k, h]
 rfl
theorem stE_yes' (ev m : Nat) (h1 : 1 ≤ m) (h2 : m ≤ 64) (h : hasB ev (m : Int) 1 64 = true) : eviS (stE ev (m - 1)) (m : Int) = stE ev m := by
 obtain ⟨k, rfl⟩ : ∃ k, m = k + 1 := ⟨m - 1, by omega⟩
 exact stE_yes ev k (by omega) h
theorem stE_no' (ev m : Nat) (h1 : 1 ≤ m) (h2 : m ≤ 64) (h : hasB ev (m : Int) 1 64 = false) : stE ev (m - 1) = stE ev m := by
 obtain ⟨k, rfl⟩ : ∃ k, m = k + 1 := ⟨m - 1, by omega⟩
 exact stE_no ev k (by omega) h
theorem CfX.add {G D : Nat → Prop} {w : World} {g : Nat} {C : Cf} {A : Option Addr} {n c : Nat} {E : List Ve} (h : CfX G D w g C A n c E) {T : Nat} {S0 : Stk}
  (hT : Bk w T 210 (stkC S0)) (hTG : G T) (hTD : ¬ D T) {w5 : World} {A' : Option Addr} {n' c' : Nat} {v0 : Vp} (hS0 : v0.S = S0) (hms : v0.ms = [])
  (hO : Os 143 8 w5 0 A' n' c' (E.flatMap veC ++ veC (v0, ⟨none, 0, 0, T⟩))) (hg5 : w.grownBy w5 (Value.slice A n c).ownBlock) (hob : ∀ b, (Value.slice A' n' c').ownBlock = some b → (Value.slice A n c).ownBlock = some b ∨ w.heap.size ≤ b)
  {w6 : World} {C' : Cf} (hst : Bk w6 g 96 (stC C' A' n' c')) (hg6 : w5.grownBy w6 (some g)) (hC' : C'.vs = C.vs ++ [v0]) :
  CfX (fun b => G b ∨ (Value.slice A' n' c').ownBlock = some b) (fun b => D b ∨ b = T ∨ (Value.slice A' n' c').ownBlock = some b) w6 g C' A' n' c' (E ++ [(v0, ⟨none, 0, 0, T⟩)]) := by
 have hn' : 0 < n' := by
  have := hO.1
  rw [List.length_append] at this
  simp [veC] at this
  omega
 have hgr : (Value.slice A n c).ownBlock ≠ some g := fun e => by
  have hgD := h.dr g e
  rcases Nat.eq_zero_or_pos n with h0 | h0
  ·rcases h.row.2 with ⟨hv, _⟩ | ⟨b, cap, cur, hv, _, hr, _⟩
   ·injection hv with h1 _ _; subst h1; cases e
   ·injection hv with h1 _ _
    subst h1
    injection e with e
    subst e
    have := h.st
    unfold Bk at this
    rw [hr] at this
    injection this with this
    injection this with _ this _
    revert this
    decide
  ·obtain ⟨b, cur, _, hb', hB, _⟩ := h.row.bk h0
   rw [hb'] at e
   injection e with e
   subst e
   exact hB.apart h.st (by decide) rfl
 have hst5 : Bk w5 g 96 (stC C A n c) := h.st.grown hg5 hgr
 have hrow_g : ∀ k, (Value.slice A' n' c').ownBlock = some k → some g ≠ some k := fun k hk e => by
  injection e with e
  subst e
  obtain ⟨b, cur, _, hb', hB, _⟩ := hO.bk hn'
  rw [hb'] at hk
  injection hk with hk
  subst hk
  exact hB.apart hst5 (by decide) rfl
 have hTr : (Value.slice A n c).ownBlock ≠ some T := fun e => hTD (h.dr T e)
 have hTg : T ≠ g := fun e => hTD (e ▸ h.dg)
 have mem : ∀ y ∈ E ++ [(v0, (⟨none, 0, 0, T⟩ : VE))], y ∈ E ∨ y = (v0, ⟨none, 0, 0, T⟩) := fun y hy => by simpa using hy
 have sz : w.heap.size ≤ w6.heap.size := Nat.le_trans hg5.size hg6.size
 refine ⟨by rw [List.map_append, h.vs, hC']; rfl, hst, ?_, fun k hk => .inr (.inr hk), .inl h.dg, ?_, ?_, ?_, ?_, ?_, ?_, ?_⟩
 ·rw [List.flatMap_append]
  have : List.flatMap veC [(v0, (⟨none, 0, 0, T⟩ : VE))] = veC (v0, ⟨none, 0, 0, T⟩) := by simp
  rw [this]
  exact hO.grown hg6 hrow_g
 ·intro y hy
  rcases mem y hy with hy | rfl
  ·exact ((h.tb y hy).grown hg5 (fun e => h.ne_row hy _ e rfl)).grown hg6 (fun e => h.ne_st hy (by injection e with e; exact e.symm))
  ·show Bk w6 T _ (stkC v0.S)
   rw [hS0]
   exact (hT.grown hg5 hTr).grown hg6 (fun e => hTg (by injection e with e; exact e.symm))
 ·intro y hy
  rcases mem y hy with hy | rfl
  ·exact .inl (h.dt y hy)
  ·exact .inr (.inl rfl)
 ·intro y hy
  rcases mem y hy with hy | rfl
  ·refine ((h.mm y hy).grown hg5 (fun a ha e => ?_)).grown hg6 (fun a ha e => (h.mo y hy a ha).2 ?_)
   ·exact (h.mo y hy a ha).2 (h.sub _ (h.dr _ e.symm))
   ·injection e with e; rw [e]; exact h.sub _ h.dg
  ·show Rs 2 w6 none 0 0 (prs .i64 v0.ms)
   rw [hms]
   exact Rs.nil_
 ·intro y hy
  rcases mem y hy with hy | rfl
  ·intro a ha
   refine ⟨Nat.lt_of_lt_of_le (h.mo y hy a ha).1 sz, ?_⟩
   have h1 := (h.mo y hy a ha).1
   rintro (k | k)
   ·exact (h.mo y hy a ha).2 k
   ·rcases hob _ k with k | k
    ·exact (h.mo y hy a ha).2 (h.sub _ (h.dr _ k))
    ·omega
  ·exact Off.none_
 ·rw [List.map_append, List.nodup_append]
  refine ⟨h.nd, by simp, fun a ha b hb e => ?_⟩
  simp at hb
  subst hb e
  obtain ⟨y, hy, e⟩ := List.mem_map.1 ha
  exact hTD (e ▸ h.dt y hy)
 ·rintro b (k | k | k)
  ·exact .inl (h.sub b k)
  ·subst k; exact .inl hTG
  ·exact .inr k
 ·rintro b (k | k)
  ·exact Nat.lt_of_lt_of_le (h.lt b k) sz
  ·exact Nat.lt_of_lt_of_le (hO.blk b k).2 hg6.size
end

section
open Go.RowKit
attribute [local go_sem ↓] sliced_cut
attribute [local go_sem] cutA_zero
theorem CfX.own_ne_g {G D : Nat → Prop} {w : World} {g : Nat} {C : Cf} {A : Option Addr} {n c : Nat} {E : List Ve} (h : CfX G D w g C A n c E) : (Value.slice A n c).ownBlock ≠ some g := fun e => by
 rcases h.row.2 with ⟨hv, _⟩ | ⟨b, cap, cur, hv, _, hr, _⟩
 ·injection hv with h1 _ _; subst h1; cases e
 ·injection hv with h1 _ _
  subst h1
  injection e with e
  subst e
  have := h.st
  unfold Bk at this
  rw [hr] at this
  injection this with this
  injection this with _ this _
  revert this
  decide
def addS (C : Cf) (o : OpR) : Cf := if addE C o = 0 then { C with vs := C.vs ++ [newV C o] } else C
theorem run_buildVe (six : Bool) (ah al pt pr : Nat) (wy : Int) (T : Nat) (v0 : Vp) (h1 : v0.ad = (six, ah, al)) (h2 : v0.pt = pt) (h3 : v0.pr = pr) (h4 : v0.wy = wy) (w : World) : (Instr.build 143 #[(0, .agg (adC six ah al).toArray), (1, .int .u16 (pt : Int)), (2, .int .u8 (pr : Int)), (3, .int .i64 wy), (5, .pointer (some ⟨T, 0, none⟩))]).run Tryz.prog w = .ok (.agg (veC (v0, ⟨none, 0, 0, T⟩)).toArray) w := by
 obtain ⟨ad, p1, p2, w1, ms, S⟩ := v0
 subst h1 h2 h3 h4
 kernel_rfl
theorem foldVe (x : Ve) : List.foldl (fun (cs : Array Value) (x : Value × Nat) => cs.setIfInBounds x.snd x.fst) #[.bool false, .int .u64 0, .int .u64 0, .int .u16 0, .int .u8 0, .int .i64 0, .slice none 0 0, .pointer none] (veC x).zipIdx = (veC x).toArray := by simp [veC, List.zipIdx]
attribute [local go_sem] foldVe
theorem addVip_any {G D : Nat → Prop} (k v b e : Int) (six : Bool) (ah al pt pr : Nat) (wy : Int) (ms : List (Int × Int)) (B : Option Addr) (mm d : Nat) (C : Cf) (hC : CfOk C) (g : Nat) (A : Option Addr) (n c : Nat) (E : List Ve) (w : World) (hX : CfX G D w g C A n c E) (hal : al < 18446744073709551616) (hpr : pr < 256) : Calls Tryz.prog 109 #[.pointer (some ⟨g, 0, none⟩), .agg (opC k v b e six ah al pt pr wy B mm d).toArray] w (RetCf G D w g (addS C (⟨k, v, b, e, six, ah, al, pt, pr, wy, ms⟩ : OpR)) (.int .i64 (addE C (⟨k, v, b, e, six, ah, al, pt, pr, wy, ms⟩ : OpR) : Nat))) := by
 have hX0 := qy hX
 obtain ⟨da, va1, va2⟩ := rowAdC
 obtain ⟨do1, vo1, vo2⟩ := rowOpC
 have hk := hC.key
 have hb := hC.bl
 have HA := qy (fun w => adrRightC six ah al w hal)
 have HW := qy (fun w => polRight_any wy w)
 have hn16 : n ≤ 16 := by have := hX.n_; have := hC.vl; omega
 have hn1000 : n ≤ 1000 := by omega
 have HNV := qy hX.n_
 have hev64 : ev0 C < 18446744073709551616 := by
  unfold ev0
  cases hc : C.vs with
  | nil => simp
  | cons a t => exact (hC.vs a (by simp [hc])).st.ev
 have hcases : (adG six ah al = false ∧ Hid (addE C (⟨k, v, b, e, six, ah, al, pt, pr, wy, ms⟩ : OpR) = 1)) ∨ (adG six ah al = true ∧ ((pr : Int) != 6) = false ∧ wyB wy = false ∧ Hid (addE C (⟨k, v, b, e, six, ah, al, pt, pr, wy, ms⟩ : OpR) = 1)) ∨
   (adG six ah al = true ∧ ((pr : Int) != 6) = true ∧ ((pr : Int) != 17) = false ∧ wyB wy = false ∧ Hid (addE C (⟨k, v, b, e, six, ah, al, pt, pr, wy, ms⟩ : OpR) = 1)) ∨ (adG six ah al = true ∧ ((pr : Int) != 6) = true ∧ ((pr : Int) != 17) = true ∧ Hid (addE C (⟨k, v, b, e, six, ah, al, pt, pr, wy, ms⟩ : OpR) = 1)) ∨
   (adG six ah al = true ∧ ((pr : Int) != 6) = false ∧ wyB wy = true ∧ Hid (decide (pr = 6 ∨ pr = 17) = true)) ∨ (adG six ah al = true ∧ ((pr : Int) != 6) = true ∧ ((pr : Int) != 17) = false ∧ wyB wy = true ∧ Hid (decide (pr = 6 ∨ pr = 17) = true)) := by
  cases hg : adG six ah al with
  | false => exact .inl ⟨rfl, qy (by unfold addE; rw [if_pos (by simp [hg])])⟩
  | true =>
   by_cases h6 : pr = 6
   ·have h6i : ((pr : Int) != 6) = false := by simp; omega
    cases hwb : wyB wy with
    | false => exact .inr (.inl ⟨rfl, h6i, rfl, qy (by unfold addE; rw [if_pos (by simp [hwb])])⟩)
    | true => exact .inr (.inr (.inr (.inr (.inl ⟨rfl, h6i, rfl, qy (by simp [h6])⟩))))
   ·have h6i : ((pr : Int) != 6) = true := by simp; omega
    by_cases h17 : pr = 17
    ·have h17i : ((pr : Int) != 17) = false := by simp; omega
     cases hwb : wyB wy with
     | false => exact .inr (.inr (.inl ⟨rfl, h6i, h17i, rfl, qy (by unfold addE; rw [if_pos (by simp [hwb])])⟩))
     | true => exact .inr (.inr (.inr (.inr (.inr ⟨rfl, h6i, h17i, rfl, qy (by simp [h17])⟩))))
    ·have h17i : ((pr : Int) != 17) = true := by simp; omega
     exact .inr (.inr (.inr (.inl ⟨rfl, h6i, h17i, qy (by unfold addE; rw [if_pos (by simp [h6, h17])])⟩)))
 rcases hcases with ⟨hg, he⟩ | ⟨hg, h6i, hwb, he⟩ | ⟨hg, h6i, h17i, hwb, he⟩ | ⟨hg, h6i, h17i, he⟩ | ⟨hg, h6i, hwb, HP⟩ | ⟨hg, h6i, h17i, hwb, HP⟩
 all_goals rw [hg] at HA
 all_goals first | rw [hwb] at HW | skip
 iterate 4
  focus
   have hcs := qy (show addS C (⟨k, v, b, e, six, ah, al, pt, pr, wy, ms⟩ : OpR) = C from if_neg (by rw [he.out]; decide))
   obtain ⟨bo, be, zV⟩ := box1 w 67 (opC k v b e six ah al pt pr wy B mm d)
   go_enter Tryz.func109, Tryz.ntmps109
   go_upto_region 1 with (fail)
   generalize w.alloc (.cells (opC k v b e six ah al pt pr wy B mm d).toArray 67) = V at *
   replace hX := hX.later be
   refine wp_region_lit ?_
   refine qw ?_
   refine wpList_ldA (t := 67) (cs := opC k v b e six ah al pt pr wy B mm d) 53 (.tmp 7) rfl rfl (adC six ah al) rfl (bo) rfl va1 va2 (szAd _ _ _) ?_
   refine wpq fun K hK => ?_
   go_simp
   refine (HA.out _).mono ?_
   rintro e w1 ⟨bs1, d1, rfl, rfl⟩
   with_reducible refine hK _ _ ?_
   clear hK K
   have hb1 := below_plus V bs1 d1
   replace hX := hX.later hb1
   replace bo := bo.later hb1
   replace be := be.trans (hb1.mono be.size)
   clear hb1
   generalize plus V bs1 d1 = V1 at *
   iterate 2 (refine qw ?_)
   first | ((with_reducible refine wpList_skip ?_ ?_); (· first | (go_simp; done) | (go_simp; intro h; cases h)); simp only [Act.put, qsT, qsZ, qsS]) | (refine wpList_step (fun K hK => ?_); go_simp; (with_reducible refine hK _ _ ?_); clear hK K)
   first | ((with_reducible refine wpList_skip ?_ ?_); (· first | (go_simp; done) | (go_simp; intro h; cases h)); simp only [Act.put, qsT, qsZ, qsS]) | (refine wpList_ld1 (t := 67) (cs := opC k v b e six ah al pt pr wy B mm d) 5 (.tmp 12) rfl (by go_simp) rfl (bo) rfl Tryz.underlying5 rfl ?_; simp only [Act.put, qsT, qsZ, qsS])
   first | ((with_reducible refine wpList_skip ?_ ?_); (· first | (go_simp; done) | (go_simp; intro h; cases h)); simp only [Act.put, qsT, qsZ, qsS]) | (refine wpList_step (fun K hK => ?_); go_simp; (with_reducible refine hK _ _ ?_); clear hK K)
   first | ((with_reducible refine wpList_skip ?_ ?_); (· first | (go_simp; done) | (go_simp; intro h; cases h)); simp only [Act.put, qsT, qsZ, qsS]) | (refine wpList_step (fun K hK => ?_); go_simp; (with_reducible refine hK _ _ ?_); clear hK K)
   first | ((with_reducible refine wpList_skip ?_ ?_); (· first | (go_simp; done) | (go_simp; intro h; cases h)); simp only [Act.put, qsT, qsZ, qsS]) | (refine wpList_step (fun K hK => ?_); go_simp; (with_reducible refine hK _ _ ?_); clear hK K)
   first | ((with_reducible refine wpList_skip ?_ ?_); (· first | (go_simp; done) | (go_simp; intro h; cases h)); simp only [Act.put, qsT, qsZ, qsS]) | (refine wpList_ld1 (t := 67) (cs := opC k v b e six ah al pt pr wy B mm d) 5 (.tmp 16) rfl (by go_simp) rfl (bo) rfl Tryz.underlying5 rfl ?_; simp only [Act.put, qsT, qsZ, qsS])
   first | ((with_reducible refine wpList_skip ?_ ?_); (· first | (go_simp; done) | (go_simp; intro h; cases h)); simp only [Act.put, qsT, qsZ, qsS]) | (refine wpList_step (fun K hK => ?_); go_simp; (with_reducible refine hK _ _ ?_); clear hK K)
   first | ((with_reducible refine wpList_skip ?_ ?_); (· first | (go_simp; done) | (go_simp; intro h; cases h)); simp only [Act.put, qsT, qsZ, qsS]) | (refine wpList_step (fun K hK => ?_); go_simp; (with_reducible refine hK _ _ ?_); clear hK K)
   iterate 2 (refine qw ?_)
   first | ((with_reducible refine wpList_skip ?_ ?_); (· first | (go_simp; done) | (go_simp; intro h; cases h)); simp only [Act.put, qsT, qsZ, qsS]) | (refine wpList_step (fun K hK => ?_); go_simp; (with_reducible refine hK _ _ ?_); clear hK K)
   first | ((with_reducible refine wpList_skip ?_ ?_); (· first | (go_simp; done) | (go_simp; intro h; cases h)); simp only [Act.put, qsT, qsZ, qsS]) | (refine wpList_ld1 (t := 67) (cs := opC k v b e six ah al pt pr wy B mm d) 3 (.tmp 22) rfl (by go_simp) rfl (bo) rfl Tryz.underlying3 rfl ?_; simp only [Act.put, qsT, qsZ, qsS])
   first | ((with_reducible refine wpList_skip ?_ ?_); (· first | (go_simp; done) | (go_simp; intro h; cases h)); simp only [Act.put, qsT, qsZ, qsS]) | (refine wpList_step (fun K hK => ?_); go_simp; refine (HW.out _).mono ?_; rintro e w1 ⟨rfl, rfl⟩; (with_reducible refine hK _ _ ?_); clear hK K)
   first | ((with_reducible refine wpList_skip ?_ ?_); (· first | (go_simp; done) | (go_simp; intro h; cases h)); simp only [Act.put, qsT, qsZ, qsS]) | (refine wpList_step (fun K hK => ?_); go_simp; (with_reducible refine hK _ _ ?_); clear hK K)
   refine qw ?_
   go_wp2
   go_ret
   exact ⟨by rw [he.out]; rfl, G, D, ⟨A, n, c, E, by rw [hcs.out]; exact hX⟩, Grow.refl _ _ _, Chg.of_below be⟩
 iterate 2
  focus
   obtain ⟨bo, be, zV⟩ := box1 w 67 (opC k v b e six ah al pt pr wy B mm d)
   go_enter Tryz.func109, Tryz.ntmps109
   go_upto_region 1 with (fail)
   generalize w.alloc (.cells (opC k v b e six ah al pt pr wy B mm d).toArray 67) = V at *
   replace hX := hX.later be
   refine wp_region_lit ?_
   refine qw ?_
   refine wpList_ldA (t := 67) (cs := opC k v b e six ah al pt pr wy B mm d) 53 (.tmp 7) rfl rfl (adC six ah al) rfl (bo) rfl va1 va2 (szAd _ _ _) ?_
   refine wpq fun K hK => ?_
   go_simp
   refine (HA.out _).mono ?_
   rintro e w1 ⟨bs1, d1, rfl, rfl⟩
   with_reducible refine hK _ _ ?_
   clear hK K
   have hb1 := below_plus V bs1 d1
   replace hX := hX.later hb1
   replace bo := bo.later hb1
   replace be := be.trans (hb1.mono be.size)
   clear hb1
   generalize plus V bs1 d1 = V1 at *
   iterate 2 (refine qw ?_)
   first | ((with_reducible refine wpList_skip ?_ ?_); (· first | (go_simp; done) | (go_simp; intro h; cases h)); simp only [Act.put, qsT, qsZ, qsS]) | (refine wpList_step (fun K hK => ?_); go_simp; (with_reducible refine hK _ _ ?_); clear hK K)
   first | ((with_reducible refine wpList_skip ?_ ?_); (· first | (go_simp; done) | (go_simp; intro h; cases h)); simp only [Act.put, qsT, qsZ, qsS]) | (refine wpList_ld1 (t := 67) (cs := opC k v b e six ah al pt pr wy B mm d) 5 (.tmp 12) rfl (by go_simp) rfl (bo) rfl Tryz.underlying5 rfl ?_; simp only [Act.put, qsT, qsZ, qsS])
   first | ((with_reducible refine wpList_skip ?_ ?_); (· first | (go_simp; done) | (go_simp; intro h; cases h)); simp only [Act.put, qsT, qsZ, qsS]) | (refine wpList_step (fun K hK => ?_); go_simp; (with_reducible refine hK _ _ ?_); clear hK K)
   first | ((with_reducible refine wpList_skip ?_ ?_); (· first | (go_simp; done) | (go_simp; intro h; cases h)); simp only [Act.put, qsT, qsZ, qsS]) | (refine wpList_step (fun K hK => ?_); go_simp; (with_reducible refine hK _ _ ?_); clear hK K)
   first | ((with_reducible refine wpList_skip ?_ ?_); (· first | (go_simp; done) | (go_simp; intro h; cases h)); simp only [Act.put, qsT, qsZ, qsS]) | (refine wpList_step (fun K hK => ?_); go_simp; (with_reducible refine hK _ _ ?_); clear hK K)
   first | ((with_reducible refine wpList_skip ?_ ?_); (· first | (go_simp; done) | (go_simp; intro h; cases h)); simp only [Act.put, qsT, qsZ, qsS]) | (refine wpList_ld1 (t := 67) (cs := opC k v b e six ah al pt pr wy B mm d) 5 (.tmp 16) rfl (by go_simp) rfl (bo) rfl Tryz.underlying5 rfl ?_; simp only [Act.put, qsT, qsZ, qsS])
   first | ((with_reducible refine wpList_skip ?_ ?_); (· first | (go_simp; done) | (go_simp; intro h; cases h)); simp only [Act.put, qsT, qsZ, qsS]) | (refine wpList_step (fun K hK => ?_); go_simp; (with_reducible refine hK _ _ ?_); clear hK K)
   first | ((with_reducible refine wpList_skip ?_ ?_); (· first | (go_simp; done) | (go_simp; intro h; cases h)); simp only [Act.put, qsT, qsZ, qsS]) | (refine wpList_step (fun K hK => ?_); go_simp; (with_reducible refine hK _ _ ?_); clear hK K)
   iterate 2 (refine qw ?_)
   first | ((with_reducible refine wpList_skip ?_ ?_); (· first | (go_simp; done) | (go_simp; intro h; cases h)); simp only [Act.put, qsT, qsZ, qsS]) | (refine wpList_step (fun K hK => ?_); go_simp; (with_reducible refine hK _ _ ?_); clear hK K)
   first | ((with_reducible refine wpList_skip ?_ ?_); (· first | (go_simp; done) | (go_simp; intro h; cases h)); simp only [Act.put, qsT, qsZ, qsS]) | (refine wpList_ld1 (t := 67) (cs := opC k v b e six ah al pt pr wy B mm d) 3 (.tmp 22) rfl (by go_simp) rfl (bo) rfl Tryz.underlying3 rfl ?_; simp only [Act.put, qsT, qsZ, qsS])
   first | ((with_reducible refine wpList_skip ?_ ?_); (· first | (go_simp; done) | (go_simp; intro h; cases h)); simp only [Act.put, qsT, qsZ, qsS]) | (refine wpList_step (fun K hK => ?_); go_simp; refine (HW.out _).mono ?_; rintro e w1 ⟨rfl, rfl⟩; (with_reducible refine hK _ _ ?_); clear hK K)
   first | ((with_reducible refine wpList_skip ?_ ?_); (· first | (go_simp; done) | (go_simp; intro h; cases h)); simp only [Act.put, qsT, qsZ, qsS]) | (refine wpList_step (fun K hK => ?_); go_simp; (with_reducible refine hK _ _ ?_); clear hK K)
   refine qw ?_
   go_upto_region 3 with (fail)
   have HF := qy (fun w (h : CfX G D w g C A n c E) => cfgFind_any C hk hb A n c E h.vs g (six, ah, al) pt pr w h.st h.row hn1000)
   refine wp_region_lit ?_
   iterate 2 (refine qw ?_)
   refine wpList_ldA (t := 67) (cs := opC k v b e six ah al pt pr wy B mm d) 53 (.tmp 28) rfl rfl (adC six ah al) rfl (bo) rfl va1 va2 (szAd _ _ _) ?_
   refine qw ?_
   refine qL 54 (.tmp 30) bo Tryz.underlying54 ?_
   refine qw ?_
   refine qL 5 (.tmp 32) bo Tryz.underlying5 ?_
   refine wpq fun K hK => ?_
   go_simp
   refine (HF.out _ hX).mono ?_
   rintro e w1 ⟨bs1, d1, rfl, rfl⟩
   with_reducible refine hK _ _ ?_
   clear hK K
   have hb1 := below_plus V1 bs1 d1
   replace hX := hX.later hb1
   replace bo := bo.later hb1
   replace be := be.trans (hb1.mono be.size)
   clear hb1
   generalize plus V1 bs1 d1 = V2 at *
   refine qw ?_
   clear HF HA
   by_cases hfd : fdC C (six, ah, al) pt pr < C.vs.length
   ·have e1 : fdI C (six, ah, al) pt pr = (fdC C (six, ah, al) pt pr : Int) := if_pos hfd
    have he := qy (show addE C (⟨k, v, b, e, six, ah, al, pt, pr, wy, ms⟩ : OpR) = 7 by unfold addE; rw [if_neg (by rw [hg, hwb, HP.out]; simp), if_pos hfd])
    have hcs := qy (show addS C (⟨k, v, b, e, six, ah, al, pt, pr, wy, ms⟩ : OpR) = C from if_neg (by rw [he.out]; decide))
    rw [e1]
    generalize fdC C (six, ah, al) pt pr = fd at *
    have i0 : (0 : Int) ≤ (fd : Int) := by omega
    clear e1
    go_wp2
    go_ret
    exact ⟨by rw [he.out]; rfl, G, D, ⟨A, n, c, E, by rw [hcs.out]; exact hX⟩, Grow.refl _ _ _, Chg.of_below be⟩
   have e1 : fdI C (six, ah, al) pt pr = -1 := if_neg hfd
   rw [e1]
   clear e1
   have q0 : V2.cell? ⟨g, 278, none⟩ = some (.slice A n c) := (hX.st.cell 278).trans (stC_vips C hk hb A n c)
   by_cases h16 : 16 ≤ n
   ·have i16 : (16 : Int) ≤ (n : Int) := by omega
    have he := qy (show addE C (⟨k, v, b, e, six, ah, al, pt, pr, wy, ms⟩ : OpR) = 23 by unfold addE; rw [if_neg (by rw [hg, hwb, HP.out]; simp), if_neg hfd, if_pos (by have := HNV.out; omega)])
    have hcs := qy (show addS C (⟨k, v, b, e, six, ah, al, pt, pr, wy, ms⟩ : OpR) = C from if_neg (by rw [he.out]; decide))
    go_wp2
    go_ret
    exact ⟨by rw [he.out]; rfl, G, D, ⟨A, n, c, E, by rw [hcs.out]; exact hX⟩, Grow.refl _ _ _, Chg.of_below be⟩
   have i16 : ¬ (16 : Int) ≤ (n : Int) := by omega
   have he := qy (show addE C (⟨k, v, b, e, six, ah, al, pt, pr, wy, ms⟩ : OpR) = 0 by unfold addE; rw [if_neg (by rw [hg, hwb, HP.out]; simp), if_neg hfd, if_neg (by have := HNV.out; omega)])
   have hcs := qy (show addS C (⟨k, v, b, e, six, ah, al, pt, pr, wy, ms⟩ : OpR) = { C with vs := C.vs ++ [newV C (⟨k, v, b, e, six, ah, al, pt, pr, wy, ms⟩ : OpR)] } from if_pos he.out)
   have hzs : ∀ w, (zeroValue 210).run Tryz.prog w = .ok (.agg (stkC stk0).toArray) w := fun _ => by kernel_rfl
   go_upto_region 8 with (fail)
   clear q0 hzs
   have b7 : Below V2.heap.size V2 (V2.alloc (.cells (stkC stk0).toArray 210)) := Below.allocS (Below.refl _ _) _
   have hT : Bk (V2.alloc (.cells (stkC stk0).toArray 210)) V2.heap.size 210 (stkC stk0) := Bk.new V2 210 (stkC stk0).toArray
   have zT : V2.heap.size < (V2.alloc (.cells (stkC stk0).toArray 210)).heap.size := hT.lt
   have hwT : w.heap.size < V2.heap.size := bo.lt
   have hTG : ¬ G V2.heap.size := fun h => by have := hX.lt _ h; omega
   have hmo := fun x hx => Off.more (D' := fun b => G b ∨ b = V2.heap.size) (hX.mo x hx) (fun b hb => hb.elim .inl (fun h => .inr (by rw [h]; exact Nat.le_refl _)))
   replace hX := hX.later b7
   replace hX := hX.more (G' := fun b => G b ∨ b = V2.heap.size) (fun b hb => .inl hb) (fun b hb => hb.elim (hX.lt b) (fun h => by rw [h]; exact zT)) (fun x hx => (hmo x hx).size b7.size)
   have hTD : ¬ D V2.heap.size := fun h => hTG (hX0.out.sub _ h)
   replace bo := bo.later b7
   replace be := be.trans (b7.mono be.size)
   replace hT : Bk (V2.alloc (.cells (stkC stk0).toArray 210)) V2.heap.size 210 (stkC (stE (ev0 C) 0)) := by rw [stE_0]; exact hT
   clear b7 hmo zT
   generalize V2.alloc (.cells (stkC stk0).toArray 210) = V3 at *
   generalize V2.heap.size = T at *
   go_upto_region 9 with (fail)
   have HST := qy (And.intro hX (And.intro hT (And.intro bo be)))
   clear hX hT bo be
   go_loopw [6] (fun I wr => ∃ m : Nat, I = .int .i64 (m : Int) ∧ 1 ≤ m ∧ m ≤ 65 ∧ CfX (fun b => G b ∨ b = T) D wr g C A n c E ∧ Bk wr T 210 (stkC (stE (ev0 C) (m - 1))) ∧ Bk wr w.heap.size 67 (opC k v b e six ah al pt pr wy B mm d) ∧ Below w.heap.size w wr) (fun I _ => 65 - (intOf I).toNat)
   case atStart => exact ⟨1, rfl, Nat.le_refl _, by omega, HST.out.1, HST.out.2.1, HST.out.2.2.1, HST.out.2.2.2⟩
   case round =>
    clear HST
    obtain ⟨m, rfl, hm1, hm65, hX, hT, bo, hE⟩ := hrel
    have q0 : wr.cell? ⟨g, 278, none⟩ = some (.slice A n c) := (hX.st.cell 278).trans (stC_vips C hk hb A n c)
    by_cases h64 : m ≤ 64
    ·have i64 : (m : Int) ≤ 64 := by omega
     rcases Nat.eq_zero_or_pos n with h0 | h0
     ·have hno : hasB (ev0 C) (m : Int) 1 64 = false := by
       have : C.vs = [] := List.eq_nil_of_length_eq_zero (by have := hX.n_; omega)
       simp [ev0, this, hasB]
      have hs := stE_no' (ev0 C) m hm1 h64 hno
      rw [hs] at hT
      have h0i : ¬ (0 : Int) < (n : Int) := by omega
      have h0n : ¬ 0 < n := by omega
      clear h0
      have HH := qy (And.intro hX (And.intro hT (And.intro bo hE)))
      clear hno hs hX hT bo hE
      go_upto_region 11 with (fail)
      refine wp_region_lit ?_
      iterate 7 (refine qw ?_)
      iterate 9 ((with_reducible refine wpList_skip ?_ ?_); (· first | (go_simp; done) | (go_simp; intro h; cases h)); simp only [Act.put, qsT, qsZ, qsS])
      refine qw ?_
      go_wp2
      exact ⟨⟨m + 1, by go_num, by omega, by omega, HH.out.1, by simpa using HH.out.2.1, HH.out.2.2.1, HH.out.2.2.2⟩, by simp [intOf]; omega⟩
     ·have hlE := hX.len
      have hnv := hX.n_
      obtain ⟨bb, cur, rfl, -, hB, -⟩ := hX.row.bk h0
      have hrg : wr.rangeAt bb (0 * 8) (veC (E[0]'(by omega))) := by
       have := hX.row.rs.rangeE veC_len 0 (by omega)
       rwa [Nat.zero_add] at this
      rw [Nat.zero_mul] at hrg
      have q7 : wr.cell? ⟨bb, 7, none⟩ = some (.pointer (some ⟨(E[0]'(by omega)).2.T, 0, none⟩)) := by simpa using hrg 7 _ rfl
      have hmem : E[0]'(by omega) ∈ E := List.getElem_mem _
      have hvm : (E[0]'(by omega)).1 ∈ C.vs := by rw [← hX.vs]; exact List.mem_map.2 ⟨_, hmem, rfl⟩
      have hvo := hC.vs _ hvm
      have hev : ∀ i : Int, deadS (E[0]'(by omega)).1.S i = hasB (ev0 C) i 1 64 := fun i => by rw [hasB_dead, hvo.ev]
      generalize E[0]'(by omega) = x0 at *
      have HEV := qy (fun w (h : CfX (fun b => G b ∨ b = T) D w g C (some ⟨bb, 0, none⟩) n c E) => evicted_any x0.1.S hvo.st.ev x0.2.T (m : Int) (by omega) w (h.tb x0 hmem))
      rw [hev] at HEV
      have h0i : (0 : Int) < (n : Int) := by omega
      clear hrg hvm hvo hev hB hnv hlE
      go_upto_region 11 with (fail)
      refine wp_region_lit ?_
      iterate 7 (refine qw ?_)
      iterate 8 (refine wpList_step (fun K hK => ?_); go_simp; with_reducible refine hK _ _ ?_; clear hK K)
      refine wpList_step (fun K hK => ?_)
      go_simp
      refine (HEV.out _ hX).mono ?_
      rintro e w1 ⟨bs1, d1, rfl, rfl⟩
      with_reducible refine hK _ _ ?_
      clear hK K
      have hb1 := below_plus wr bs1 d1
      replace hX := hX.later hb1
      replace hT := hT.later hb1
      replace bo := bo.later hb1
      replace hE := hE.trans (hb1.mono hE.size)
      clear hb1
      generalize plus wr bs1 d1 = W2 at *
      refine qw ?_
      clear HEV q0 q7
      cases hd : hasB (ev0 C) (m : Int) 1 64
      ·have hs := stE_no' (ev0 C) m hm1 h64 hd
       rw [hs] at hT
       have HH := qy (And.intro hX (And.intro hT (And.intro bo hE)))
       clear hd hs hX hT bo hE
       go_wp2
       exact ⟨⟨m + 1, by go_num, by omega, by omega, HH.out.1, by simpa using HH.out.2.1, HH.out.2.2.1, HH.out.2.2.2⟩, by simp [intOf]; omega⟩
      ·have hs := stE_yes' (ev0 C) m hm1 h64 hd
       have HET := qy (fun w h => evict_any (stE (ev0 C) (m - 1)) (stE_ok _ _ (by omega)) T (m : Int) (by omega) w h)
       rw [hs] at HET
       clear hd hs
       go_upto_region 12 with (fail)
       refine wp_region_lit ?_
       iterate 2 (refine qw ?_)
       refine wpq fun K hK => ?_
       go_simp
       refine (HET.out _ hT).mono ?_
       rintro e w1 ⟨rfl, hT2, hc2⟩
       with_reducible refine hK _ _ ?_
       clear hK K
       replace hX := hX.chg hc2 (fun b hb => .inr hb) (fun b hb => by rw [show b = T from hb]; exact hTD)
       replace bo := bo.chg hc2 (fun e => by have e : w.heap.size = T := e; omega)
       replace hE := hE.trans (hc2.below (fun b hb => by have hb : b = T := hb; omega) hE.size)
       have HH := qy (And.intro hX (And.intro hT2 (And.intro bo hE)))
       clear hX hT hT2 bo hE hc2 HET
       go_wp2
       exact ⟨⟨m + 1, by go_num, by omega, by omega, HH.out.1, by simpa using HH.out.2.1, HH.out.2.2.1, HH.out.2.2.2⟩, by simp [intOf]; omega⟩
    ·have i64 : ¬ (m : Int) ≤ 64 := by omega
     obtain rfl : m = 65 := by omega
     replace hT : Bk wr T 210 (stkC (stE (ev0 C) 64)) := hT
     rw [stE_64 _ hev64] at hT
     clear hm1 hm65 h64
     obtain ⟨v0, hv0⟩ : ∃ v0, (newV C (⟨k, v, b, e, six, ah, al, pt, pr, wy, ms⟩ : OpR)) = v0 := ⟨_, rfl⟩
     have hbld : ∀ w, (Instr.build 143 #[(0, .agg (adC six ah al).toArray), (1, .int .u16 (pt : Int)), (2, .int .u8 (pr : Int)), (3, .int .i64 wy), (5, .pointer (some ⟨T, 0, none⟩))]).run Tryz.prog w = .ok (.agg (veC (v0, ⟨none, 0, 0, T⟩)).toArray) w := fun w => by rw [← hv0]; exact run_buildVe six ah al pt pr wy T _ rfl rfl rfl rfl w
     have HV0 := qy hv0
     clear hv0
     go_upto_region 13 with (fail)
     clear q0
     refine wp_relES 16 86 [0] rfl (by kernel_rfl) (by kernel_rfl) ?_
     apply Steps.oneP (.pointer (some ⟨g, 0, none⟩)) 1 rfl (by decide)
     ·intro o ho FA x hO hD
      obtain rfl := qoi ho
      have e0 := hO 0 (by kernel_rfl)
      simp only [eval_tmp, qgT, qgS, qgZ, qoS] at e0
      have ev0 := qy ((eval_tmp FA 0).trans e0)
      clear hO hD ho
      refine .inl ⟨by simp [Region.wanted], fun w => ?_⟩
      go_simp
     apply Steps.oneE (MP.eq _) 2 rfl (by decide)
     ·intro o ho FA x hO hD K hK
      obtain rfl := qoi ho
      have e0 := hO 0 (by kernel_rfl)
      simp only [eval_tmp, qgT, qgS, qgZ, qoS] at e0
      have ev0 := qy ((eval_tmp FA 0).trans e0)
      clear hO hD ho
      go_simp
      exact qk hK rfl
     apply Steps.oneE (MP.eq _) 3 rfl (by decide)
     ·intro o ho FA x hO hD K hK
      obtain rfl := qoi ho
      obtain ⟨e68, ev68⟩ := qE (hD 1 68 (by kernel_rfl))
      clear hO hD ho
      go_simp
      exact qk hK rfl
     apply Steps.oneE (MP.eq _) 4 rfl (by decide)
     ·intro o ho FA x hO hD K hK
      obtain rfl := qoi ho
      obtain ⟨e69, ev69⟩ := qE (hD 2 69 (by kernel_rfl))
      clear hO hD ho
      go_simp
      exact qk hK rfl
     apply Steps.oneE (MP.eq _) 5 rfl (by decide)
     ·intro o ho FA x hO hD K hK
      obtain rfl := qoi ho
      obtain ⟨e70, ev70⟩ := qE (hD 3 70 (by kernel_rfl))
      clear hO hD ho
      refine wanted_if rfl ?_
      refine wp_ld1 94 (.tmp 70) rfl ev70.out (hX.st.later bpl) (stC_vips C hk hb A n c) Tryz.underlying94 rfl ?_
      exact qk hK rfl
     apply Steps.oneE (MP.eq _) 6 rfl (by decide)
     ·intro o ho FA x hO hD K hK
      obtain rfl := qoi ho
      have e3 := hO 3 (by kernel_rfl)
      simp only [eval_tmp, qgT, qgS, qgZ, qoS] at e3
      have ev3 := qy ((eval_tmp FA 3).trans e3)
      clear hO hD ho
      go_simp
      exact qk hK rfl
     apply Steps.oneE (MP.eq _) 7 rfl (by decide)
     ·intro o ho FA x hO hD K hK
      obtain rfl := qoi ho
      obtain ⟨e72, ev72⟩ := qE (hD 5 72 (by kernel_rfl))
      clear hO hD ho
      refine wanted_if rfl ?_
      refine wp_ldA 53 (.tmp 72) rfl (adC six ah al) ev72.out (bo.later bpl) rfl va1 va2 (szAd _ _ _) ?_
      exact qk hK rfl
     apply Steps.oneE (MP.eq _) 8 rfl (by decide)
     ·intro o ho FA x hO hD K hK
      obtain rfl := qoi ho
      have e3 := hO 3 (by kernel_rfl)
      simp only [eval_tmp, qgT, qgS, qgZ, qoS] at e3
      have ev3 := qy ((eval_tmp FA 3).trans e3)
      clear hO hD ho
      go_simp
      exact qk hK rfl
     apply Steps.oneE (MP.eq _) 9 rfl (by decide)
     ·intro o ho FA x hO hD K hK
      obtain rfl := qoi ho
      obtain ⟨e74, ev74⟩ := qE (hD 7 74 (by kernel_rfl))
      clear hO hD ho
      refine wanted_if rfl ?_
      refine wp_ld1 54 (.tmp 74) rfl ev74.out (bo.later bpl) rfl Tryz.underlying54 rfl ?_
      exact qk hK rfl
     apply Steps.oneE (MP.eq _) 10 rfl (by decide)
     ·intro o ho FA x hO hD K hK
      obtain rfl := qoi ho
      have e3 := hO 3 (by kernel_rfl)
      simp only [eval_tmp, qgT, qgS, qgZ, qoS] at e3
      have ev3 := qy ((eval_tmp FA 3).trans e3)
      clear hO hD ho
      go_simp
      exact qk hK rfl
     apply Steps.oneE (MP.eq _) 11 rfl (by decide)
     ·intro o ho FA x hO hD K hK
      obtain rfl := qoi ho
      obtain ⟨e76, ev76⟩ := qE (hD 9 76 (by kernel_rfl))
      clear hO hD ho
      refine wanted_if rfl ?_
      refine wp_ld1 5 (.tmp 76) rfl ev76.out (bo.later bpl) rfl Tryz.underlying5 rfl ?_
      exact qk hK rfl
     apply Steps.oneE (MP.eq _) 12 rfl (by decide)
     ·intro o ho FA x hO hD K hK
      obtain rfl := qoi ho
      have e3 := hO 3 (by kernel_rfl)
      simp only [eval_tmp, qgT, qgS, qgZ, qoS] at e3
      have ev3 := qy ((eval_tmp FA 3).trans e3)
      clear hO hD ho
      go_simp
      exact qk hK rfl
     apply Steps.oneE (MP.eq _) 13 rfl (by decide)
     ·intro o ho FA x hO hD K hK
      obtain rfl := qoi ho
      obtain ⟨e78, ev78⟩ := qE (hD 11 78 (by kernel_rfl))
      clear hO hD ho
      refine wanted_if rfl ?_
      refine wp_ld1 3 (.tmp 78) rfl ev78.out (bo.later bpl) rfl Tryz.underlying3 rfl ?_
      exact qk hK rfl
     apply Steps.oneE (MP.eq _) 14 rfl (by decide)
     ·intro o ho FA x hO hD K hK
      obtain rfl := qoi ho
      have e5 := hO 5 (by kernel_rfl)
      simp only [eval_tmp, qgT, qgS, qgZ, qoS] at e5
      have ev5 := qy ((eval_tmp FA 5).trans e5)
      clear hO hD ho
      go_simp
      exact qk hK rfl
     apply Steps.oneE (MP.eq _) 15 rfl (by decide)
     ·intro o ho FA x hO hD K hK
      obtain rfl := qoi ho
      obtain ⟨e73, ev73⟩ := qE (hD 6 73 (by kernel_rfl))
      obtain ⟨e75, ev75⟩ := qE (hD 8 75 (by kernel_rfl))
      obtain ⟨e77, ev77⟩ := qE (hD 10 77 (by kernel_rfl))
      obtain ⟨e79, ev79⟩ := qE (hD 12 79 (by kernel_rfl))
      obtain ⟨e80, ev80⟩ := qE (hD 13 80 (by kernel_rfl))
      clear hO hD ho
      refine wanted_if rfl ?_
      refine wp_buildV 143 [(0, .tmp 73), (1, .tmp 75), (2, .tmp 77), (3, .tmp 79), (5, .tmp 80)] rfl (.agg (veC (v0, ⟨none, 0, 0, T⟩)).toArray) (by simp only [List.map_cons, List.map_nil, ev73.out, ev75.out, ev77.out, ev79.out, ev80.out]; exact hbld _) ?_
      exact qk hK rfl
     apply Steps.oneE (MP.ofs 143 8 0 (veC (v0, ⟨none, 0, 0, T⟩))) 16 rfl (by decide)
     ·intro o ho FA x hO hD K hK
      obtain rfl := qoi ho
      obtain ⟨e81, ev81⟩ := qE (hD 14 81 (by kernel_rfl))
      clear hO hD ho
      go_simp
      refine hK.out _ _ (Ex.alloc _ _) ⟨_, _, rfl, ?_⟩
      have h := Os.lit (s := 8) (e := 143) (base := 0) (plus wr x.bs x.d) (Nat.zero_le _) (veC (v0, ⟨none, 0, 0, T⟩)).toArray 1 rfl (by decide)
      exact h
     refine Steps.fin_ (fun vs x hp => ?_)
     have p15 := hp 15 qd
     simp only [qta, qtb, qda, qdb, putAll, Nat.zero_add, Nat.reduceAdd, Act.put, qsT, qsZ, qsS, qi (hp 0 qd), qi (hp 1 qd), qi (hp 2 qd), qi (hp 3 qd), qi (hp 4 qd), qi (hp 5 qd), qi (hp 6 qd), qi (hp 7 qd), qi (hp 8 qd), qi (hp 9 qd), qi (hp 10 qd), qi (hp 11 qd), qi (hp 12 qd), qi (hp 13 qd), qi (hp 14 qd)]
     clear hp
     generalize vs 15 = y15 at *
     clear vs
     obtain ⟨A15, n15, rfl, h15⟩ := p15
     obtain rfl : n15 = 1 := by have := h15.1; rw [veC_len] at this; omega
     have hb13 := below_plus wr x.bs x.d
     replace hX := hX.later hb13
     replace hT := hT.later hb13
     replace hE := hE.trans (hb13.mono hE.size)
     clear hb13 bo
     generalize plus wr x.bs x.d = Z at *
     have hgr := hX.own_ne_g
     refine wpList_appS2 etVe rfl (.tmp 71) (.tmp 82) rfl rfl hX.row rfl h15.rs (veC_one _) (by omega) (Nat.zero_le _) ?_
     intro A5 n5 c5 w5 hn5 hO5 hb5 hg5 hob5
     subst hn5
     simp only [Act.put, qsT, qsZ, qsS]
     have hst5 := hX.st.grown hg5 hgr
     iterate 2 (refine qw ?_)
     refine wpList_st1 (v := .slice A5 (n + 1) c5) 94 (.tmp 85) (.tmp 83) rfl rfl rfl rfl hst5 (by rw [stC_len C hk hb]; omega) rfl (by kernel_rfl) ?_
     intro W6 h6 g6
     simp only [Act.put, qsT, qsZ, qsS]
     have hg6 := hX.add hT (Or.inr rfl) hTD (by rw [← HV0.out]; rfl) (by rw [← HV0.out]; rfl) hO5 hg5 (fun b hb => by
      rcases hob5 with h | h
      ·exact .inl (by rw [← h]; exact hb)
      ·rw [h] at hb; injection hb with hb; exact .inr (by omega)) (C' := { C with vs := C.vs ++ [v0] }) (by rw [← stC_setVips C hk hb A n c]; exact h6) g6 rfl
     have hch : Chg D w W6 := ((Chg.of_below hE).trans (Chg.grown hg5 (fun k hk => hX.dr k hk))).trans (Chg.one g6 hX.dg)
     go_wp2
     go_wp2
     apply_assumption
     go_wp2
     go_ret
     refine ⟨by rw [he.out]; rfl, (fun b => (G b ∨ b = T) ∨ (Value.slice A5 (n + 1) c5).ownBlock = some b), (fun b => D b ∨ b = T ∨ (Value.slice A5 (n + 1) c5).ownBlock = some b), ⟨_, _, _, _, by rw [hcs.out, HV0.out]; exact hg6⟩, ⟨fun b hb => .inl (.inl hb), fun b hb => ?_, fun b hb => ?_⟩, hch⟩
     ·rcases hb with (hb | hb) | hb
      ·exact .inl hb
      ·exact .inr (by rw [hb]; exact Nat.le_of_lt hwT)
      ·rcases hob5 with h | h
       ·exact .inl (hX0.out.sub _ (hX.dr b (by rw [← h]; exact hb)))
       ·rw [h] at hb; injection hb with hb; exact .inr (by rw [← hb]; exact hE.size)
     ·rcases hb with hb | hb | hb
      ·exact .inl hb
      ·exact .inr (by rw [hb]; exact Nat.le_of_lt hwT)
      ·rcases hob5 with h | h
       ·exact .inl (hX.dr b (by rw [← h]; exact hb))
       ·rw [h] at hb; injection hb with hb; exact .inr (by rw [← hb]; exact hE.size)
end

section
attribute [local go_sem ↓] sliced_cut
attribute [local go_sem] cutA_zero
open Go.RowKit
theorem mclone_any (ms : List (Int × Int)) (A : Option Addr) (n c : Nat) (w : World) (h : Rs 2 w A n c (prs .i64 ms)) (hm : n ≤ 1000000) : Calls Tryz.prog 66 #[.slice A n c] w (RetOs 128 2 w (prs .i64 ms)) := by
 have hnil := fun w => Lib.run_eql_slice_nil (P := Tryz.prog) w 65 128 A n c 0 0 Tryz.underlying65
 cases A with
 | none =>
  go_enter Tryz.func66, Tryz.ntmps66
  go_wp2
  go_ret
  have : prs .i64 ms = [] := by
   rcases h.2.2 with h | ⟨b, off, h, _⟩
   ·exact h
   ·cases h
  rw [this]
  exact RetOs.mk Os.nil_ (Below.refl _ _)
 | some ad =>
  go_enter Tryz.func66, Tryz.ntmps66
  go_wp2_with (at_builtin; refine wpList_appS etCm rfl (.tmp 5) (.tmp 6) rfl rfl (Os.lit w (Nat.le_refl _) #[] 0 rfl (Nat.zero_le _)) rfl (h.alloc _) (prs_one _ _) (by omega) (by simp) ?_; intro A2 n2 c2 w4 hn2 hO4 hb4 hg4; subst hn2)
  go_ret
  simp only [List.nil_append, Nat.zero_add] at hO4
  exact RetOs.mk hO4 ((Below.allocS (Below.refl _ _) _).trans (hb4.mono (by simp)))
section
variable {G D : Nat → Prop} {w w' : World} {g : Nat} {C : Cf} {A : Option Addr} {n c : Nat} {E : List Ve}
theorem CfX.setRow (h : CfX G D w g C A n c E) {i : Nat} {x : Ve} (hi : E[i]? = some x) {b0 : Nat} {cur : List Value} (hA : A = some ⟨b0, 0, none⟩) (hB : Bk w b0 143 cur) {j : Nat} {u : Value} (hj : j < 8) {y : Ve} (hy : (veC x).set j u = veC y) (hyT : y.2.T = x.2.T) (hyS : y.1.S = x.1.S)
  (hg : w.grownBy w' (some b0)) (hb : Bk w' b0 143 (cur.set (i * 8 + j) u)) (hm : Rs 2 w' y.2.A y.2.n y.2.c (prs .i64 y.1.ms)) (ho : Off G w' y.2.A) : CfX G D w' g { C with vs := C.vs.set i y.1 } A n c (E.set i y) := by
 have hx := List.mem_of_getElem? hi
 have hil := (List.getElem?_eq_some_iff.1 hi).1
 have hxi : E[i] = x := (List.getElem?_eq_some_iff.1 hi).2
 have hn0 : 0 < n := by have := h.len; have := h.n_; omega
 obtain ⟨b1, cur1, hA1, hob, hB1, hl, ht, hnc, hcm⟩ := h.row.bk hn0
 have e1 : b1 = b0 := by rw [hA] at hA1; injection hA1 with hA1; injection hA1 with hA1; exact hA1.symm
 subst e1
 obtain rfl := hB1.same hB
 have hD := h.dr _ hob
 have hG := h.sub _ hD
 have hc : Chg (fun b => b = b1) w w' := Chg.one hg rfl
 have mem : ∀ z ∈ E.set i y, z = y ∨ (∃ j, ∃ hj : j < E.length, j ≠ i ∧ z = E[j]) := by
  intro z hz
  obtain ⟨k, hk, rfl⟩ := List.mem_iff_getElem.1 hz
  rw [List.length_set] at hk
  rw [List.getElem_set]
  split
  ·exact .inl rfl
  ·rename_i hne
   exact .inr ⟨k, hk, fun e => hne e.symm, rfl⟩
 refine ⟨?_, h.st.chg hc (fun e => hB1.apart h.st (by decide) e.symm), ?_, h.dr, h.dg, ?_, ?_, ?_, ?_, ?_, h.sub, fun b hb' => Nat.lt_of_lt_of_le (h.lt b hb') hc.size⟩
 ·show _ = C.vs.set i _
  rw [List.map_set, h.vs]
 ·subst hA
  refine Os.of_bk hb (by rw [List.length_set]; exact hl) ?_ hnc hcm (by rw [flat_len veC 8 veC_len, List.length_set]; have := h.len; have := h.n_; omega)
  rw [List.take_set, ht, flat_set veC 8 veC_len E i hil y j u hj (by rw [hxi]; exact hy)]
 ·intro z hz
  rcases mem z hz with rfl | ⟨k, hk, _, rfl⟩
  ·rw [hyT, hyS]
   exact (h.tb x hx).chg hc (fun e => hB1.apart (h.tb x hx) (by decide) e.symm)
  ·exact (h.tb _ (List.getElem_mem hk)).chg hc (fun e => hB1.apart (h.tb _ (List.getElem_mem hk)) (by decide) e.symm)
 ·intro z hz
  rcases mem z hz with rfl | ⟨k, hk, _, rfl⟩
  ·rw [hyT]; exact h.dt x hx
  ·exact h.dt _ (List.getElem_mem hk)
 ·intro z hz
  rcases mem z hz with rfl | ⟨k, hk, _, rfl⟩
  ·exact hm
  ·exact (h.mm _ (List.getElem_mem hk)).chg hc (fun a ha e => (h.mo _ (List.getElem_mem hk) a ha).2 (by rw [e]; exact hG))
 ·intro z hz
  rcases mem z hz with rfl | ⟨k, hk, _, rfl⟩
  ·exact ho
  ·exact (h.mo _ (List.getElem_mem hk)).size hc.size
 ·rw [List.map_set, hyT]
  have : (E.map (·.2.T)).set i x.2.T = E.map (·.2.T) := by
   apply List.ext_getElem
   ·simp
   ·intro j h1 h2
    rw [List.getElem_set]
    split
    ·rename_i e; subst e; simp [hxi]
    ·rfl
  rw [this]
  exact h.nd
end
def setS (C : Cf) (i : Nat) (v : Vp) (ms : List (Int × Int)) : Cf := if setE C v ms = 0 then { C with vs := C.vs.set i (setV v ms) } else C
theorem setMembers_any {G D : Nat → Prop} (ms : List (Int × Int)) (B : Option Addr) (mm d : Nat) (C : Cf) (hC : CfOk C) (g : Nat) (A : Option Addr) (n c : Nat) (E : List Ve) (w : World) (hX : CfX G D w g C A n c E) (hr : Rs 2 w B mm d (prs .i64 ms)) (hB0 : Off G w B) (hm : mm ≤ 1000000) (i b0 : Nat) (x : Ve) (hi : E[i]? = some x) (hA : A = some ⟨b0, 0, none⟩) : Calls Tryz.prog 112 #[.pointer (some ⟨g, 0, none⟩), .pointer (some ⟨b0, i * 8, none⟩), .slice B mm d] w (RetCf G D w g (setS C i x.1 ms) (.int .i64 (setE C x.1 ms : Nat))) := by
 have hml : ms.length = mm := by have := hr.1; rw [prs_length] at this; omega
 obtain ⟨dm, m1, m2⟩ := rowMb
 obtain ⟨dvt, vt1, vt2⟩ := rowTab
 have HFT := qy (fun w h h2 => fit_any ms B mm d C hC g A n c w h h2 hm)
 have hmem := List.mem_of_getElem? hi
 have hil := (List.getElem?_eq_some_iff.1 hi).1
 have hxi : E[i] = x := (List.getElem?_eq_some_iff.1 hi).2
 have hvm : x.1 ∈ C.vs := by rw [← hX.vs]; exact List.mem_map.2 ⟨x, hmem, rfl⟩
 have hok := (hC.vs _ hvm).st
 have hn0 : 0 < n := by have := hX.len; have := hX.n_; omega
 have HI := qy hi
 have be := Below.refl w.heap.size w
 have HGL := qy hX.lt
 have HVS := qy hX.vs
 have HML := qy hml
 have hin : i < n := by have := hX.len; have := hX.n_; omega
 have HTL := qy (hX.lt _ (hX.sub _ (hX.dt x hmem)))
 clear hi
 cases hfit : okM C ms
 ·rw [hfit] at HFT
  have he := qy (show setE C x.1 ms = 1 by unfold setE; rw [if_pos hfit])
  have hcs := qy (show setS C i x.1 ms = C from if_neg (by rw [he.out]; decide))
  clear hxi hA
  go_enter Tryz.func112, Tryz.ntmps112
  go_upto_region 2 with (go_at_call 141; refine (HFT.out _ hX.st hr).mono ?_; rintro e w1 ⟨bs1, d1, rfl, rfl⟩)
  replace hX := hX.later (below_plus w bs1 d1)
  replace be := belowP be bs1 d1
  go_wp2
  go_ret
  exact ⟨by rw [he.out]; rfl, G, D, ⟨_, n, c, E, by rw [hcs.out]; exact hX⟩, Grow.refl _ _ _, Chg.of_below be⟩
 ·rw [hfit] at HFT
  have hm64 : mm ≤ 64 := by have := okM_len hfit; omega
  have HFIT := qy hfit
  clear hfit
  subst hA
  go_enter Tryz.func112, Tryz.ntmps112
  go_upto_region 4 with (go_at_call 141; refine (HFT.out _ hX.st hr).mono ?_; rintro e w1 ⟨bs1, d1, rfl, rfl⟩)
  have hb1 := below_plus w bs1 d1
  have hX1 := hX.later hb1
  replace hr := hr.later hb1
  replace hB0 := hB0.size hb1.size
  replace be := be.trans (hb1.mono be.size)
  have hwV := qy be.size
  clear hb1 HFT
  generalize plus w bs1 d1 = V at *
  go_upto_region 5 with (fail)
  have hO0 : Os 3 1 V V.heap.size none 0 0 (itK ((ms.take 0).map (·.1))) := Os.nil_
  have bv := Below.refl V.heap.size V
  go_loopw [7, 21] (fun OUT I wr => ∃ (j : Nat) (Ab : Option Addr) (kb cb : Nat), I = .int .i64 (j : Int) ∧ OUT = .slice Ab kb cb ∧ j ≤ mm ∧ Os 3 1 wr V.heap.size Ab kb cb (itK ((ms.take j).map (·.1))) ∧ Below V.heap.size V wr) (fun _ I _ => mm - (intOf I).toNat)
  case atStart => exact ⟨0, none, 0, 0, rfl, rfl, Nat.zero_le _, hO0, bv⟩
  case round =>
   clear hO0 bv
   obtain ⟨j, Ab, kb, cb, rfl, rfl, hj, hO, hE⟩ := hrel
   have hkb : kb = j := by have := hO.1; rw [itK_len] at this; simp at this; omega
   by_cases hlt : j < mm
   ·have ij : (j : Int) < (mm : Int) := by omega
    have hjL : j < ms.length := by omega
    obtain ⟨bl, ol, rfl, hbl, -⟩ := (hr.later hE).at_ (by omega) (by decide)
    have hg7 := rng_pr ((hr.later hE).range2 j hjL)
    have hsn : ms.take (j + 1) = ms.take j ++ [ms[j]] := by simp
    generalize ms[j] = p at *
    obtain ⟨xb, yb⟩ := p
    have HSN := qy hsn
    have hkb60 : kb ≤ 64 := by omega
    clear hsn hkb
    go_upto_region 7 with (first
     | (refine at_op (.load 128 (.tmp 23)) rfl ?_; refine wpList_load_mid rfl 128 (.tmp 23) rfl bl (ol + j * 2) rfl [.int .i64 xb, .int .i64 yb] _ hg7 m1 m2 (szMb _ _) ?_)
     | (refine at_op (.store 128 (.tmp 9) (.tmp 24)) rfl ?_; refine wpList_stA (t := 128) 128 (.tmp 9) (.tmp 24) rfl rfl [.int .i64 xb, .int .i64 yb] [.int .i64 0, .int .i64 0] rfl (by simp [Value.oneCell']) rfl rfl (Bk.new _ _ _) (szMb _ _) ?_; intro W4 h4 g4))
    have be4 : Below wr.heap.size wr W4 := below_grown (Below.allocS (Below.refl _ _) _) g4 (Nat.le_refl _)
    have q0 : W4.cell? ⟨wr.heap.size, 0, none⟩ = some (.int .i64 xb) := h4.cell 0
    replace hE := hE.trans (be4.mono hE.size)
    replace hO := hO.later be4
    clear be4 h4 g4 hg7
    generalize wr.heap.size = gm at *
    go_wp2_with (at_builtin; refine wpList_appS etI rfl (.tmp 25) (.tmp 28) rfl rfl (hO.later (Below.allocS (Below.refl _ _) _)) rfl (Rs.of_bk (n := 1) (c := 1) (Bk.new W4 _ _) rfl (Nat.le_refl _)) (by simp [Value.oneCell']) (by omega) (by have := hE.size; simp; omega) ?_; intro A2 n2 c2 w4 hn2 hO4 hb4 hg4; subst hn2)
    exact ⟨⟨j + 1, A2, _, c2, by go_num, rfl, by omega, by rw [HSN.out, List.map_append, itK_append]; exact hO4, (Below.allocS hE _).trans hb4⟩, by simp [intOf]; omega⟩
   ·obtain rfl : j = mm := by omega
    have ij : ¬ (j : Int) < (j : Int) := by omega
    rw [List.take_of_length_le (by omega)] at hO
    have hX := hX1.later hE
    have hEV := qy hE
    replace hr := hr.later hE
    replace hB0 := hB0.size hE.size
    replace hE := be.trans (hE.mono be.size)
    have hkb60 : kb ≤ 64 := by omega
    have zVr := hEV.out.size
    clear hkb hj hX1 be hml hEV
    obtain ⟨bb, cur, hA1, hob, hBr, hcl, -, hnc, -⟩ := hX.row.bk hn0
    have e1 : bb = b0 := by injection hA1 with hA1; injection hA1 with hA1; exact hA1.symm
    subst e1
    clear hA1
    have HBL := qy (HGL.out _ (hX.sub _ (hX.dr _ hob)))
    have hTw := hX.tb x hmem
    have hDT := hX.dt x hmem
    have hrT := hX.ne_row hmem _ hob
    have hQ0 : ∀ W, Chg (fun b => b = x.2.T) w W → W.cell? ⟨bb, i * 8 + 7, none⟩ = some (.pointer (some ⟨x.2.T, 0, none⟩)) := fun W hc => by
     have h0 := ‹CfX G D w g C _ n c E›
     have := (h0.row.rs.chg hc (fun a ha e => by injection ha with ha; subst ha; exact hrT e)).rangeE veC_len i hil
     rw [Nat.zero_add, hxi] at this
     exact this 7 _ rfl
    obtain ⟨T, hT0⟩ : ∃ T, x.2.T = T := ⟨_, rfl⟩
    rw [hT0] at hTw hDT hrT hQ0
    have HQ := qy hQ0
    have HT0 := qy hT0
    have q7 := hQ0 wr (Chg.of_below hE)
    have hT := hTw
    obtain ⟨S, hS0⟩ : ∃ S, x.1.S = S := ⟨_, rfl⟩
    rw [hS0] at hT hok
    obtain ⟨xn, bn, hnw⟩ := newest_ex S hok.len
    have HN := qy (fun w h => hnw T w h)
    have htk := newT_ok hok
    have HNX := qy (fun w (h : Rs 1 w Ab kb cb (itK (ms.map (·.1)))) => tabNext_any (newT S) htk (ms.map (·.1)) Ab kb cb w h (by omega))
    have HP := qy (fun w h => push_any S hok T (tNext (newT S) (ms.map (·.1))) w h)
    have hsv : setV x.1 ms = { x.1 with S := pushS S (tNext (newT S) (ms.map (·.1))), ms := ms } := by unfold setV tabS; rw [hS0]
    have hse : setE C x.1 ms = pushE S := by unfold setE; rw [if_neg (by rw [HFIT.out]; simp), hS0]
    have HSV := qy hsv
    have HSE := qy hse
    clear hnw hT0 hTw hQ0 hsv hse
    generalize newT S = TT0 at *
    generalize tNext TT0 (ms.map (·.1)) = TT at *
    obtain ⟨ES, hES⟩ : ∃ ES, pushS S TT = ES := ⟨_, rfl⟩
    rw [hES] at HP HSV
    have HES := qy hES
    have HS0 := qy hS0
    clear hES hS0
    have hzt : ∀ w, (zeroValue 205).run Tryz.prog w = .ok (.agg (tabC []).toArray) w := fun _ => by kernel_rfl
    go_upto_region 9 with (fail)
    refine wp_region_lit ?_
    iterate 4 (refine qw ?_)
    refine wpq fun K hK => ?_
    go_simp
    refine (HN.out _ hT).mono ?_
    rintro e w1 ⟨bs1, d1, rfl, rfl⟩
    with_reducible refine hK _ _ ?_
    clear hK K
    have hb1 := below_plus wr bs1 d1
    replace hX := hX.later hb1
    replace hT := hT.later hb1
    replace hO := hO.later hb1
    replace hr := hr.later hb1
    replace hBr := hBr.later hb1
    replace hE := hE.trans (hb1.mono hE.size)
    have hVs := Nat.le_trans zVr hb1.size
    clear hb1 HN q7
    generalize plus wr bs1 d1 = W at *
    iterate 6 (refine qw ?_)
    refine wpList_stA (t := 205) 205 (.tmp 11) (.tmp 38) rfl rfl (tabC TT0) (tabC []) (by rw [tabC_len0, tabC_len0]) (tabC_one _) rfl rfl (Bk.new _ _ _) (by rw [tabC_len0]; kernel_rfl) ?_
    intro W4 h4 g4
    refine qw ?_
    have be4 : Below W.heap.size W W4 := below_grown (Below.allocS (Below.refl _ _) _) g4 (Nat.le_refl _)
    replace hX := hX.later be4
    replace hT := hT.later be4
    replace hO := hO.later be4
    replace hr := hr.later be4
    replace hBr := hBr.later be4
    replace hE := hE.trans (be4.mono hE.size)
    have h4 : Bk W4 W.heap.size 205 (tabC TT0) := h4
    have zg4 : ¬ W.heap.size = T := h4.apart hT (by decide)
    clear be4 g4 hzt
    have hoT : ∀ a, Ab = some a → ¬ a.block = T := fun a ha e => by
     have h1 := (hO.blk a.block (by rw [ha]; rfl)).1
     have h2 := HTL.out
     rw [HT0.out] at h2
     have h3 := hwV.out
     omega
    go_upto_region 10 with (fail)
    refine wp_suS (fun b => b = T) 13 59 2 [7] rfl (by kernel_rfl) (by kernel_rfl) (fun k w' => Bk w' T 210 (stkC (if k = 0 then S else ES))) (fun k _ _ h hx => h.later hx.below) (hT) ?_
    apply StepsC.one (MC.eq _) 1 rfl (by decide)
    ·intro o ho FA w' hC hO hD K hK
     obtain rfl := qoi ho
     have e1 := hO 1 (by kernel_rfl)
     simp only [eval_tmp, qgT, qgS, qgZ, qoS] at e1
     have ev1 := qy ((eval_tmp FA 1).trans e1)
     clear hO hD ho
     go_simp
     exact qk hK rfl
    apply StepsC.one (MC.eq _) 2 rfl (by decide)
    ·intro o ho FA w' hC hO hD K hK
     obtain rfl := qoi ho
     obtain ⟨e41, ev41⟩ := qE (hD 0 41 (by kernel_rfl))
     clear hO hD ho
     go_simp
     exact qk hK rfl
    apply StepsC.one (MC.eq _) 3 rfl (by decide)
    ·intro o ho FA w' hC hO hD K hK
     obtain rfl := qoi ho
     obtain ⟨e42, ev42⟩ := qE (hD 1 42 (by kernel_rfl))
     clear hO hD ho
     go_simp
     exact qk hK rfl
    apply StepsC.one (MC.eq _) 4 rfl (by decide)
    ·intro o ho FA w' hC hO hD K hK
     obtain rfl := qoi ho
     obtain ⟨e43, ev43⟩ := qE (hD 2 43 (by kernel_rfl))
     clear hO hD ho
     have hq := HQ.out w' ((Chg.of_below hE).trans hC)
     go_simp
     exact qk hK rfl
    apply StepsC.one (MC.eq _) 5 rfl (by decide)
    ·intro o ho FA w' hC hO hD K hK
     obtain rfl := qoi ho
     have e11 := hO 11 (by kernel_rfl)
     simp only [eval_tmp, qgT, qgS, qgZ, qoS] at e11
     have ev11 := qy ((eval_tmp FA 11).trans e11)
     clear hO hD ho
     refine wanted_if rfl ?_
     refine wp_ldA 205 (.tmp 11) rfl (tabC TT0) ev11.out (h4.chg hC zg4) (whole_ _) vt1 vt2 (by rw [tabC_len0]; kernel_rfl) ?_
     exact qk hK rfl
    apply StepsC.one (MC.eq _) 6 rfl (by decide)
    ·intro o ho FA w' hC hO hD K hK
     obtain rfl := qoi ho
     have e7 := hO 7 (by kernel_rfl)
     simp only [eval_tmp, qgT, qgS, qgZ, qoS] at e7
     have ev7 := qy ((eval_tmp FA 7).trans e7)
     clear hO hD ho
     go_simp
     exact qk hK rfl
    apply StepsC.one (MC.eq _) 7 rfl (by decide)
    ·intro o ho FA w' hC hO hD K hK
     obtain rfl := qoi ho
     obtain ⟨e45, ev45⟩ := qE (hD 4 45 (by kernel_rfl))
     obtain ⟨e46, ev46⟩ := qE (hD 5 46 (by kernel_rfl))
     clear hO hD ho
     go_simp
     refine (HNX.out _ (hO.rs.chg hC hoT)).mono ?_
     rintro e w2 ⟨bs2, d2, rfl, rfl⟩
     exact hK.out _ _ (Ex.plus_ _ _ _) rfl
    apply StepsC.mov (MC.eq (.tuple #[.int .i64 (pushV S : Nat), .int .i64 (pushE S : Nat)])) 8 0 rfl rfl rfl
    ·intro o ho FA w' hC hO hD hS K hK
     obtain rfl := qoi ho
     obtain ⟨e44, ev44⟩ := qE (hD 3 44 (by kernel_rfl))
     obtain ⟨e47, ev47⟩ := qE (hD 6 47 (by kernel_rfl))
     clear hO hD ho
     go_simp
     refine (HP.out _ hS).mono ?_
     rintro e w2 ⟨rfl, hS2, hc2⟩
     exact hK.out _ _ hc2 hS2 rfl
    apply StepsC.one (MC.eq _) 9 rfl (by decide)
    ·intro o ho FA w' hC hO hD K hK
     obtain rfl := qoi ho
     obtain ⟨e48, ev48⟩ := qE (hD 7 48 (by kernel_rfl))
     clear hO hD ho
     go_simp
     exact qk hK rfl
    apply StepsC.one (MC.eq _) 10 rfl (by decide)
    ·intro o ho FA w' hC hO hD K hK
     obtain rfl := qoi ho
     obtain ⟨e40, ev40⟩ := qE (hD 8 40 (by kernel_rfl))
     clear hO hD ho
     go_simp
     exact qk hK rfl
    apply StepsC.one (MC.eq _) 11 rfl (by decide)
    ·intro o ho FA w' hC hO hD K hK
     obtain rfl := qoi ho
     obtain ⟨e40, ev40⟩ := qE (hD 8 40 (by kernel_rfl))
     clear hO hD ho
     go_simp
     exact qk hK rfl
    apply StepsC.one (MC.eq _) 12 rfl (by decide)
    ·intro o ho FA w' hC hO hD K hK
     obtain rfl := qoi ho
     obtain ⟨e49, ev49⟩ := qE (hD 9 49 (by kernel_rfl))
     clear hO hD ho
     go_simp
     exact qk hK rfl
    apply StepsC.one (MC.eq _) 13 rfl (by decide)
    ·intro o ho FA w' hC hO hD K hK
     obtain rfl := qoi ho
     obtain ⟨e50, ev50⟩ := qE (hD 10 50 (by kernel_rfl))
     clear hO hD ho
     go_simp
     exact qk hK rfl
    refine StepsC.fin_ (fun vs w' hC hS hp => ?_)
    have p0 : vs 0 = _ := hp 0 (by omega) rfl
    have p1 : vs 1 = _ := hp 1 (by omega) rfl
    have p2 : vs 2 = _ := hp 2 (by omega) rfl
    have p3 : vs 3 = _ := hp 3 (by omega) rfl
    have p4 : vs 4 = _ := hp 4 (by omega) rfl
    have p5 : vs 5 = _ := hp 5 (by omega) rfl
    have p6 : vs 6 = _ := hp 6 (by omega) rfl
    have p7 : vs 7 = _ := hp 7 (by omega) rfl
    have p8 : vs 8 = _ := hp 8 (by omega) rfl
    have p9 : vs 9 = _ := hp 9 (by omega) rfl
    have p10 : vs 10 = _ := hp 10 (by omega) rfl
    have p11 : vs 11 = _ := hp 11 (by omega) rfl
    have p12 : vs 12 = _ := hp 12 (by omega) rfl
    clear hp
    simp only [qta, qtb, qda, qdb, putAll, Nat.zero_add, Nat.reduceAdd, Act.put, qsT, qsZ, qsS, p0, p1, p2, p3, p4, p5, p6, p7, p8, p9, p10, p11, p12]
    clear p0 p1 p2 p3 p4 p5 p6 p7 p8 p9 p10 p11 p12
    clear vs
    have hwl : w.heap.size ≤ w'.heap.size := Nat.le_trans hE.size hC.size
    replace hS : Bk w' T 210 (stkC ES) := hS
    have hch : Chg D w w' := (Chg.of_below hE).trans (hC.wid (fun b hb => by rw [show b = T from hb]; exact hDT))
    have X2 := hX.setStk HI.out (S' := ES) (by rw [HT0.out]; exact hS) (by rw [HT0.out]; exact hC)
    have hr2 : Rs 2 w' B j d (prs .i64 ms) := hr.chg hC (fun a ha e => (hB0 a ha).2 (by rw [show a.block = T from e]; exact hX.sub _ hDT))
    have hB2 : Bk w' bb 143 cur := hBr.chg hC (fun e => hrT e)
    clear hX hT hO hr hBr hE h4 hC HQ hoT HNX HP
    obtain ⟨PV, hPV⟩ : ∃ PV : Int, ((pushV S : Nat) : Int) = PV := ⟨_, rfl⟩
    obtain ⟨PE, hPE⟩ : ∃ PE : Int, ((pushE S : Nat) : Int) = PE := ⟨_, rfl⟩
    rw [hPV, hPE]
    have HPE := qy hPE
    clear hPV hPE
    by_cases hf : freeS S < 8
    ·have hp0 : (PE != 0) = false := by rw [← HPE.out]; simp [pushE, hf]
     have he := qy (show setE C x.1 ms = 0 by rw [HSE.out]; exact if_pos hf)
     have hcs := qy (show setS C i x.1 ms = { C with vs := C.vs.set i (setV x.1 ms) } from if_pos he.out)
     have HCL := qy (fun w h => mclone_any ms B j d w h hm)
     clear hf
     go_upto_region 13 with (fail)
     refine wp_region_lit ?_
     iterate 2 (refine qw ?_)
     refine wpq fun K hK => ?_
     go_simp
     refine (HCL.out _ hr2).mono ?_
     rintro e w1 ⟨A9, n9, c9, bs1, d1, rfl, rfl, ho9⟩
     with_reducible refine hK _ _ ?_
     clear hK K
     have hb1 := below_plus w' bs1 d1
     replace X2 := X2.later hb1
     replace hB2 := hB2.later hb1
     replace hch := hch.trans (Chg.of_below hb1)
     have hn9 : n9 = j := by have := ho9.1; rw [prs_length] at this; have := HML.out; omega
     subst hn9
     have ho9lt := fun k hk => (ho9.blk k hk)
     clear hb1
     generalize plus w' bs1 d1 = W7 at *
     iterate 2 (refine qw ?_)
     refine wpList_st1 (v := .slice A9 n9 c9) (t := 143) (cs := cur) (off := i * 8 + 6) 65 (.tmp 58) (.tmp 56) rfl rfl rfl rfl hB2 (by omega) rfl (by kernel_rfl) ?_
     intro W8 h8 g8
     simp only [Act.put, qsT, qsZ, qsS]
     have X3 := X2.setRow (i := i) (x := ({ x.1 with S := ES }, x.2)) (by rw [List.getElem?_set_self hil]) rfl hB2 (j := 6) (u := .slice A9 n9 c9) (by decide) (y := ({ x.1 with S := ES, ms := ms }, ⟨A9, n9, c9, x.2.T⟩)) rfl rfl rfl g8 h8 (ho9.rs.chg (Chg.one (D := fun b => b = bb) g8 rfl) (fun a ha e => by
      have h1 := (ho9lt a.block (by rw [ha]; rfl)).1
      have h2 := HBL.out
      have e : a.block = bb := e
      have := hch.size
      omega)) ((Off.own ho9 (fun b hb => Nat.lt_of_lt_of_le (HGL.out b hb) hwl)).size g8.size)
     rw [List.set_set] at X3
     have hch2 : Chg D w W8 := hch.trans (Chg.one g8 (X2.dr _ hob))
     go_wp2
     go_ret
     rw [hcs.out, HSV.out]
     simp only [List.set_set] at X3
     exact ⟨by rw [he.out]; rfl, G, D, ⟨_, _, _, _, X3⟩, Grow.refl _ _ _, hch2⟩
    ·have hp0 : (PE != 0) = true := by rw [← HPE.out]; simp [pushE, hf]
     have he := qy (show setE C x.1 ms = pushE S from HSE.out)
     have hcs := qy (show setS C i x.1 ms = C from if_neg (by rw [he.out]; simp [pushE, hf]))
     have hES : ES = S := by rw [← HES.out]; exact if_neg hf
     have hid : ({ C with vs := C.vs.set i { x.1 with S := ES } } : Cf) = C := by
      have h1 : ({ x.1 with S := ES } : Vp) = x.1 := by rw [hES, ← HS0.out]
      have h2 : C.vs.set i x.1 = C.vs := by
       have h3 := HVS.out
       have : C.vs[i]? = some x.1 := by rw [← h3, List.getElem?_map, HI.out]; rfl
       obtain ⟨h4, h5⟩ := List.getElem?_eq_some_iff.1 this
       rw [← h5, List.set_getElem_self]
      rw [h1, h2]
     rw [hid] at X2
     clear hf hES hid
     go_wp2
     go_ret
     rw [hcs.out]
     exact ⟨by rw [he.out, HPE.out]; rfl, G, D, ⟨_, _, _, _, X2⟩, Grow.refl _ _ _, hch⟩
def mkJ (k b : Int) (L : List Vp) (j : Nat) : List Vp := (L.take j).map (mrkV k b) ++ L.drop j
theorem mkJ_0 (k b : Int) (L : List Vp) : mkJ k b L 0 = L := by simp [mkJ]
theorem mkJ_at (k b : Int) (L : List Vp) (j : Nat) : (mkJ k b L j)[j]? = L[j]? := by
 unfold mkJ
 rcases Nat.lt_or_ge j L.length with h | h
 ·rw [List.getElem?_append_right (by simp; omega)]
  simp
  congr 1
  omega
 ·rw [List.getElem?_eq_none (by simp; omega), List.getElem?_eq_none h]
theorem mkJ_succ (k b : Int) (L : List Vp) (j : Nat) (v : Vp) (h : L[j]? = some v) : mkJ k b L (j + 1) = (mkJ k b L j).set j (mrkV k b v) := by
 obtain ⟨hj, hv⟩ := List.getElem?_eq_some_iff.1 h
 unfold mkJ
 rw [List.take_succ_eq_append_getElem hj, List.map_append, List.set_append_right _ _ (by simp; omega), List.append_assoc]
 congr 1
 rw [hv]
 have e : j - (List.map (mrkV k b) (List.take j L)).length = 0 := by simp; omega
 rw [e, List.drop_eq_getElem_cons hj]
 rfl
theorem mrkE_ne {S : Stk} {k n : Int} (h : ¬ mrkE S k n = 0) : mrkS S k n = S := by
 unfold mrkE at h
 unfold mrkS
 split at h
 ·rename_i hk
  rw [if_pos hk]
  unfold admE at h
  unfold admS
  split at h
  ·exact absurd rfl h
  ·rename_i hd; rw [if_neg hd]
 ·rename_i hk
  rw [if_neg hk]
  unfold eviE at h
  unfold eviS
  split at h
  ·rename_i hn
   split at h
   ·rename_i hd; rw [hn, hd]; rfl
   ·exact absurd rfl h
  ·rename_i hn
   simp only [Bool.not_eq_true] at hn
   rw [hn]
   rfl
def markS (C : Cf) (k b : Int) : Cf := if markE C k b = 0 then { C with vs := C.vs.map (mrkV k b) } else C
theorem mrkA (S : Stk) (ho : StkOk S) (T : Nat) (k b : Int) (hb : b ≤ 9223372036854775807) (w : World) (hk : k = 7) (h : Bk w T 210 (stkC S)) : Calls Tryz.prog 140 #[.pointer (some ⟨T, 0, none⟩), .int .i64 b] w (RetSt w T (mrkS S k b) (.int .i64 (mrkE S k b : Nat))) := by
 unfold mrkS mrkE
 rw [if_pos hk, if_pos hk]
 exact admit_any S ho T b hb w h
theorem mrkB (S : Stk) (ho : StkOk S) (T : Nat) (k b : Int) (hb : b ≤ 9223372036854775807) (w : World) (hk : ¬ k = 7) (h : Bk w T 210 (stkC S)) : Calls Tryz.prog 139 #[.pointer (some ⟨T, 0, none⟩), .int .i64 b] w (RetSt w T (mrkS S k b) (.int .i64 (mrkE S k b : Nat))) := by
 unfold mrkS mrkE
 rw [if_neg hk, if_neg hk]
 exact evict_any S ho T b hb w h
theorem mark_any {G D : Nat → Prop} (k v b e : Int) (six : Bool) (ah al pt pr : Nat) (wy : Int) (ms : List (Int × Int)) (B : Option Addr) (m d : Nat) (C : Cf) (hC : CfOk C) (g : Nat) (A : Option Addr) (n c : Nat) (E : List Ve) (w : World) (hX : CfX G D w g C A n c E) (hb63 : b ≤ 9223372036854775807) : Calls Tryz.prog 110 #[.pointer (some ⟨g, 0, none⟩), .agg (opC k v b e six ah al pt pr wy B m d).toArray] w (RetCf G D w g (markS C k b) (.int .i64 (markE C k b : Nat))) := by
 obtain ⟨da, va1, va2⟩ := rowAdC
 obtain ⟨do1, vo1, vo2⟩ := rowOpC
 obtain ⟨dv1, vv1, vv2⟩ := rowVe
 have hk := hC.key
 have hb := hC.bl
 have HLT := qy (fun z (h : D z) => hX.lt z (hX.sub z h))
 have HB := qy (fun w h => backend_any C hk hb A n c g b w h)
 have hn16 : n ≤ 16 := by have := hX.n_; have := hC.vl; omega
 have HN0 := qy hX.n_
 obtain ⟨bo, be, zV⟩ := box1 w 67 (opC k v b e six ah al pt pr wy B m d)
 go_enter Tryz.func110, Tryz.ntmps110
 go_upto_region 1 with (fail)
 generalize w.alloc (.cells (opC k v b e six ah al pt pr wy B m d).toArray 67) = V at *
 replace hX := hX.later be
 go_upto_region 1 with (fail)
 refine wp_region_lit ?_
 iterate 2 (refine qw ?_)
 refine qL 3 (.tmp 13) bo Tryz.underlying3 ?_
 refine wpq fun K hK => ?_
 go_simp
 refine (HB.out _ hX.st).mono ?_
 rintro e w1 ⟨bs1, d1, rfl, rfl⟩
 with_reducible refine hK _ _ ?_
 clear hK K
 have hb1 := below_plus V bs1 d1
 replace hX := hX.later hb1
 replace bo := bo.later hb1
 replace be := be.trans (hb1.mono be.size)
 clear hb1
 generalize plus V bs1 d1 = V1 at *
 iterate 4 (refine qw ?_)
 refine wpList_stA (t := 53) 53 (.tmp 5) (.tmp 16) rfl rfl (adC (bkA C b).1 (bkA C b).2.1 (bkA C b).2.2) (adC false 0 0) rfl (by simp [adC, Value.oneCell']) rfl rfl (Bk.new _ _ _) (szAd _ _ _) ?_
 intro W4 h4 g4
 refine qw ?_
 have be4 : Below V1.heap.size V1 W4 := below_grown (Below.allocS (Below.refl _ _) _) g4 (Nat.le_refl _)
 replace hX := hX.later be4
 replace bo := bo.later be4
 replace be := be.trans (be4.mono be.size)
 clear be4 h4 g4 HB
 cases hkn : knC C b
 ·have HKN := qy hkn
  clear hkn
  have he := qy (show markE C k b = 6 by unfold markE; rw [if_pos HKN.out])
  have hcs := qy (show markS C k b = C from if_neg (by rw [he.out]; decide))
  go_wp2
  go_ret
  exact ⟨by rw [he.out]; rfl, G, D, ⟨A, n, c, E, by rw [hcs.out]; exact hX⟩, Grow.refl _ _ _, Chg.of_below be⟩
 ·have HKN := qy hkn
  clear hkn
  rcases Nat.eq_zero_or_pos n with h0 | h0
  ·have hq0 : W4.cell? ⟨g, 278, none⟩ = some (.slice A n c) := (hX.st.cell 278).trans (stC_vips C hk hb A n c)
   have hvs0 : C.vs = [] := List.eq_nil_of_length_eq_zero (by have := HN0.out; omega)
   have h0i : ((n : Int) == 0) = true := by simp [h0]
   have HVS := qy hvs0
   clear h0 hvs0
   have he := qy (show markE C k b = 1 by unfold markE; rw [if_neg (by rw [HKN.out]; simp), HVS.out])
   have hcs := qy (show markS C k b = C from if_neg (by rw [he.out]; decide))
   go_wp2
   go_ret
   exact ⟨by rw [he.out]; rfl, G, D, ⟨A, n, c, E, by rw [hcs.out]; exact hX⟩, Grow.refl _ _ _, Chg.of_below be⟩
  ·have h0i : ((n : Int) == 0) = false := by simp; omega
   by_cases hk7 : k = 7
   focus
    have hk7i : (k == 7) = true := by simp [hk7]
    have HK7 := qy hk7
    clear hk7
    have HAP := qy (fun (S : Stk) (T : Nat) (w : World) (ho : StkOk S) (h : Bk w T 210 (stkC S)) => mrkA S ho T k b hb63 w HK7.out h)
   rotate_left
   focus
    have hk7i : (k == 7) = false := by simp [hk7]
    have HK7 := qy hk7
    clear hk7
    have HAP := qy (fun (S : Stk) (T : Nat) (w : World) (ho : StkOk S) (h : Bk w T 210 (stkC S)) => mrkB S ho T k b hb63 w HK7.out h)
   iterate 2
    focus
     have hq0 : W4.cell? ⟨g, 278, none⟩ = some (.slice A n c) := (hX.st.cell 278).trans (stC_vips C hk hb A n c)
     have hn0 : 0 < n := by omega
     have hn0i : (0 : Int) < (n : Int) := by omega
     obtain ⟨bb, cur, rfl, hob, hBr, hcl, -, hnc, -⟩ := hX.row.bk hn0
     have hlE := hX.len
     have hnE := hX.n_
     have hmem : E[0]'(by omega) ∈ E := List.getElem_mem _
     have hi0 : E[0]? = some (E[0]'(by omega)) := List.getElem?_eq_getElem _
     have hv0 : C.vs[0]? = some (E[0]'(by omega)).1 := by rw [← hX.vs, List.getElem?_map, hi0]; rfl
     have hok0 := (hC.vs _ (List.mem_of_getElem? hv0)).st
     have hq7 : ∀ W, Below W4.heap.size W4 W → W.cell? ⟨bb, 7, none⟩ = some (.pointer (some ⟨(E[0]'(by omega)).2.T, 0, none⟩)) := fun W h => by
      have := (hX.row.rs.later h).rangeE veC_len 0 (by omega)
      simpa using this 7 _ rfl
     have HQ := qy hq7
     generalize E[0]'(by omega) = x0 at *
     have hm1 : markE C k b = mrkE x0.1.S k b := by
      unfold markE
      rw [if_neg (by rw [HKN.out]; simp)]
      cases hc : C.vs with
      | nil => rw [hc] at hv0; cases hv0
      | cons a t => rw [hc] at hv0; simp at hv0; rw [hv0]
     have HM1 := qy hm1
     have HV0 := qy hv0
     have HI0 := qy hi0
     have HLE := qy hlE
     have HNE := qy hnE
     clear hq7 hm1 hv0 hi0 hlE hnE hn0
     have hqk : W4.cell? ⟨w.heap.size, 0, none⟩ = some (.int .i64 k) := bo.cell 0
     go_upto_region 9 with (fail)
     clear hq0 hqk
     refine wp_relS 10 60 rfl (by kernel_rfl) (by kernel_rfl) ?_
     refine qb 7 1 ?_
     refine qb 0 2 ?_
     refine qa 1 30 3 ?_
     refine qa 2 31 4 ?_
     refine ql 3 32 5 94 hX.st Tryz.underlying94 ?_ (hv := (stC_vips C hk hb _ n c))
     refine qa 4 33 6 ?_
     refine qa 5 34 7 ?_
     apply qm 8 rfl rfl
     ·intro FA x hO hD K hK
      have e35 := qe (hD 6 35)
      clear hO hD
      have hq := HQ.out _ (below_plus W4 x.bs x.d)
      go_simp
      exact qk hK rfl
     refine qb 3 9 ?_
     refine ql 8 37 10 3 bo Tryz.underlying3 ?_
     refine Steps.fin_ (fun vs x hp => ?_)
     simp only [qta, qtb, qda, qdb, putAll, Nat.zero_add, Nat.reduceAdd, Act.put, qsT, qsZ, qsS, qi (hp 0 qd), qi (hp 1 qd), qi (hp 2 qd), qi (hp 3 qd), qi (hp 4 qd), qi (hp 5 qd), qi (hp 6 qd), qi (hp 7 qd), qi (hp 8 qd), qi (hp 9 qd)]
     clear hp
     clear vs
     have hb9 := below_plus W4 x.bs x.d
     replace hX := hX.later hb9
     replace bo := bo.later hb9
     replace be := be.trans (hb9.mono be.size)
     clear hb9 HQ
     generalize plus W4 x.bs x.d = V5 at *
     refine wpq fun K hK => ?_
     go_simp
     refine (HAP.out x0.1.S x0.2.T _ hok0 (hX.tb x0 hmem)).mono ?_
     rintro en w1 ⟨rfl, hS2, hc2⟩
     with_reducible refine hK _ _ ?_
     clear hK K
     refine qw ?_
     have X1 := hX.setStk HI0.out hS2 hc2
     have hch : Chg D w w1 := (Chg.of_below be).trans (hc2.wid (fun z hz => by rw [show z = x0.2.T from hz]; exact hX.dt x0 hmem))
     replace bo : Bk w1 w.heap.size 67 (opC k v b e six ah al pt pr wy B m d) := bo.chg hc2 (fun z => by have z : w.heap.size = x0.2.T := z; have := HLT.out _ (hX.dt x0 hmem); omega)
     clear hX hS2 hc2 be
     obtain ⟨PE, hPE⟩ : ∃ PE : Int, ((mrkE x0.1.S k b : Nat) : Int) = PE := ⟨_, rfl⟩
     rw [hPE]
     have HPE := qy hPE
     clear hPE
     by_cases hne : mrkE x0.1.S k b = 0
     ·have hp0 : (PE != 0) = false := by rw [← HPE.out]; simp [hne]
      have he := qy (show markE C k b = 0 by rw [HM1.out]; exact hne)
      have hcs := qy (show markS C k b = { C with vs := C.vs.map (mrkV k b) } from if_pos he.out)
      clear hne
      have hq0 : w1.cell? ⟨g, 278, none⟩ = some (.slice (some ⟨bb, 0, none⟩) n c) := (X1.st.cell 278).trans (stC_vips _ hk hb _ n c)
      have hn1 : (1 : Int) ≤ (n : Int) := by omega
      have hXm : CfX G D w1 g { C with vs := mkJ k b C.vs 1 } (some ⟨bb, 0, none⟩) n c (E.set 0 ({ x0.1 with S := mrkS x0.1.S k b }, x0.2)) := by
       have : C.vs.set 0 { x0.1 with S := mrkS x0.1.S k b } = mkJ k b C.vs 1 := by
        have h := mkJ_succ k b C.vs 0 x0.1 HV0.out
        rw [mkJ_0] at h
        exact h.symm
       rw [← this]
       exact X1
      have HXM := qy hXm
      clear X1 hXm
      go_upto_region 13 with (fail)
      clear hq0
      have HBO := qy bo
      have HCH := qy hch
      clear bo hch
      rcases Nat.lt_or_ge n 2 with h2 | h2
      ·have hn1' : n = 1 := by omega
       subst hn1'
       have hfin : mkJ k b C.vs 1 = C.vs.map (mrkV k b) := by
        unfold mkJ
        rw [List.take_of_length_le (by have := HNE.out; omega), List.drop_of_length_le (by have := HNE.out; omega), List.append_nil]
       have HF := qy hfin
       clear hfin
       go_loopw [49] (fun I wr => I = .int .i64 0 ∧ wr = w1) (fun I _ => 0)
       case atStart => exact ⟨rfl, rfl⟩
       case round =>
        obtain ⟨rfl, rfl⟩ := hrel
        go_wp2
        go_ret
        rw [hcs.out, ← HF.out]
        exact ⟨by rw [he.out]; rfl, G, D, ⟨_, _, _, _, HXM.out⟩, Grow.refl _ _ _, HCH.out⟩
      ·have hc1 : ¬ c = 1 := by omega
       have hcut : cutA (some ⟨bb, 0, none⟩) c 1 8 = some ⟨bb, 8, none⟩ := by unfold cutA; rw [if_neg hc1]; rfl
       obtain ⟨n1, rfl⟩ : ∃ n1, n = n1 + 1 := ⟨n - 1, by omega⟩
       rw [hcut, Nat.add_sub_cancel]
       have n18 : n1 ≤ 16 := by omega
       clear hcut h2
       go_loopw [49] (fun I wr => ∃ (j : Nat) (E1 : List Ve), I = .int .i64 (j : Int) ∧ j ≤ n1 ∧ CfX G D wr g { C with vs := mkJ k b C.vs (j + 1) } (some ⟨bb, 0, none⟩) (n1 + 1) c E1 ∧ Bk wr w.heap.size 67 (opC k v b e six ah al pt pr wy B m d) ∧ Chg D w wr) (fun I _ => n1 - (intOf I).toNat)
       case atStart => exact ⟨0, _, rfl, Nat.zero_le _, HXM.out, HBO.out, HCH.out⟩
       case round =>
        clear HXM HBO HCH
        obtain ⟨j, E1, rfl, hj, hX, bo, hch⟩ := hrel
        by_cases hlt : j < n1
        ·have ij : (j : Int) < (n1 : Int) := by omega
         have hl1 : E1.length = n1 + 1 := by have h1 := hX.len; have h2 := hX.n_; omega
         have hmy : E1[j + 1]'(by omega) ∈ E1 := List.getElem_mem _
         have hiy : E1[j + 1]? = some (E1[j + 1]'(by omega)) := List.getElem?_eq_getElem _
         have hvy : C.vs[j + 1]? = some (E1[j + 1]'(by omega)).1 := by
          rw [← mkJ_at k b C.vs (j + 1)]
          have := hX.vs
          rw [show mkJ k b C.vs (j + 1) = List.map (·.1) E1 from this.symm, List.getElem?_map, hiy]; rfl
         have hoky := (hC.vs _ (List.mem_of_getElem? hvy)).st
         have hgy : wr.rangeAt bb (8 + j * 8) (veC (E1[j + 1]'(by omega))) := by
          have := hX.row.rs.rangeE veC_len (j + 1) (by omega)
          rwa [show 0 + (j + 1) * 8 = 8 + j * 8 by omega] at this
         generalize E1[j + 1]'(by omega) = y at *
         have HIY := qy hiy
         have HVY := qy hvy
         clear hiy hvy hl1
         go_upto_region 15 with (first
          | (refine at_op (.load 143 (.tmp 51)) rfl ?_; refine wpList_load_mid rfl 143 (.tmp 51) rfl bb (8 + j * 8) rfl (veC y) _ hgy vv1 vv2 (szVe _) ?_)
          | (refine at_op (.store 143 (.tmp 10) (.tmp 52)) rfl ?_; refine wpList_stA (t := 143) 143 (.tmp 10) (.tmp 52) rfl rfl (veC y) [.bool false, .int .u64 0, .int .u64 0, .int .u16 0, .int .u8 0, .int .i64 0, .slice none 0 0, .pointer none] rfl (veC_one _) rfl rfl (Bk.new _ _ _) (szVe _) ?_; intro W6 h6 g6))
         have be6 : Below wr.heap.size wr W6 := below_grown (Below.allocS (Below.refl _ _) _) g6 (Nat.le_refl _)
         have q7 : W6.cell? ⟨wr.heap.size, 7, none⟩ = some (.pointer (some ⟨y.2.T, 0, none⟩)) := h6.cell 7
         replace hX := hX.later be6
         replace bo := bo.later be6
         replace hch := hch.trans (Chg.of_below be6)
         clear be6 h6 g6 hgy
         generalize wr.heap.size = gv at *
         refine wp_region_lit ?_
         iterate 4 (refine qw ?_)
         refine qL 3 (.tmp 56) bo Tryz.underlying3 ?_
         refine wpq fun K hK => ?_
         go_simp
         refine (HAP.out y.1.S y.2.T _ hoky (hX.tb y hmy)).mono ?_
         rintro en w1 ⟨rfl, hS2, hc2⟩
         with_reducible refine hK _ _ ?_
         clear hK K
         have X2 := hX.setStk HIY.out hS2 hc2
         replace hch : Chg D w w1 := hch.trans (hc2.wid (fun z hz => by rw [show z = y.2.T from hz]; exact hX.dt y hmy))
         replace bo : Bk w1 w.heap.size 67 (opC k v b e six ah al pt pr wy B m d) := bo.chg hc2 (fun z => by have z : w.heap.size = y.2.T := z; have := HLT.out _ (hX.dt y hmy); omega)
         have hs := mkJ_succ k b C.vs (j + 1) y.1 HVY.out
         replace X2 : CfX G D w1 g { C with vs := (mkJ k b C.vs (j + 1)).set (j + 1) (mrkV k b y.1) } (some ⟨bb, 0, none⟩) (n1 + 1) c (E1.set (j + 1) ({ y.1 with S := mrkS y.1.S k b }, y.2)) := X2
         rw [← hs] at X2
         have HH := qy (And.intro X2 (And.intro bo hch))
         clear X2 bo hch hX hS2 hc2 hs q7
         go_wp2
         exact ⟨⟨j + 1, by go_num, by omega, ⟨_, HH.out.1⟩, HH.out.2.1, HH.out.2.2⟩, by simp [intOf]; omega⟩
        ·obtain rfl : j = n1 := by omega
         have ij : ¬ (j : Int) < (j : Int) := by omega
         have hfin : mkJ k b C.vs (j + 1) = C.vs.map (mrkV k b) := by
          unfold mkJ
          rw [List.take_of_length_le (by have := HNE.out; omega), List.drop_of_length_le (by have := HNE.out; omega), List.append_nil]
         rw [hfin] at hX
         have HH := qy (And.intro hX hch)
         clear hX hch hfin hj bo
         go_wp2
         go_ret
         rw [hcs.out]
         exact ⟨by rw [he.out]; rfl, G, D, ⟨_, _, _, _, HH.out.1⟩, Grow.refl _ _ _, HH.out.2⟩
     ·have hp0 : (PE != 0) = true := by rw [← HPE.out]; simp [hne]
      have he := qy (show markE C k b = mrkE x0.1.S k b from HM1.out)
      have hcs := qy (show markS C k b = C from if_neg (by rw [he.out]; exact hne))
      have hid : ({ C with vs := C.vs.set 0 { x0.1 with S := mrkS x0.1.S k b } } : Cf) = C := by
       have h1 : ({ x0.1 with S := mrkS x0.1.S k b } : Vp) = x0.1 := by rw [mrkE_ne hne]
       have h2 : C.vs.set 0 x0.1 = C.vs := by
        obtain ⟨h4, h5⟩ := List.getElem?_eq_some_iff.1 HV0.out
        rw [← h5, List.set_getElem_self]
       rw [h1, h2]
      rw [hid] at X1
      clear hne hid bo
      go_wp2
      go_ret
      rw [hcs.out]
      exact ⟨by rw [he.out, HPE.out]; rfl, G, D, ⟨_, _, _, _, X1⟩, Grow.refl _ _ _, hch⟩
theorem do_1 (C : Cf) (o : OpR) (h : o.k = 1) : doC C o = (bif (numB o.b && adG o.six o.ah o.al) then { C with bk := C.bk.set o.b.toNat (some (o.six, o.ah, o.al)) } else C) ∧ ((chE C o : Nat) : Int) = (bif (numB o.b && adG o.six o.ah o.al) then 0 else 1) := by
 unfold doC chC chE
 rw [if_pos h, if_pos h]
 cases (numB o.b && adG o.six o.ah o.al) <;> simp
theorem do_2 (C : Cf) (o : OpR) (h : o.k = 2) : doC C o = addS C o ∧ chE C o = addE C o := by
 unfold doC chC chE addS
 rw [h]
 simp
theorem do_67 (C : Cf) (o : OpR) (h : o.k = 6 ∨ o.k = 7) : doC C o = markS C o.k o.b ∧ chE C o = markE C o.k o.b := by
 unfold doC chC chE markS
 have h1 : ¬ o.k = 1 := by omega
 have h2 : ¬ o.k = 2 := by omega
 simp only [if_neg h1, if_neg h2, if_pos h]
 exact ⟨trivial, trivial⟩
theorem do_8 (C : Cf) (o : OpR) (h : o.k = 8) : doC C o = { C with now := (C.now + 1) % 18446744073709551616 } ∧ chE C o = 0 := by
 unfold doC chC chE
 rw [h]
 simp
theorem do_no (C : Cf) (o : OpR) (h1 : ¬ o.k = 1) (h2 : ¬ o.k = 2) (h6 : ¬ o.k = 6) (h7 : ¬ o.k = 7) (h8 : ¬ o.k = 8) (hv : vAt C o.v = none) : doC C o = C ∧ chE C o = 6 := by
 have h67 : ¬ (o.k = 6 ∨ o.k = 7) := by omega
 have e : chE C o = 6 := by unfold chE; simp only [if_neg h1, if_neg h2, if_neg h67, if_neg h8, hv]
 exact ⟨by unfold doC; rw [if_neg (by rw [e]; decide)], e⟩
theorem do_v (C : Cf) (o : OpR) (h1 : ¬ o.k = 1) (h2 : ¬ o.k = 2) (h6 : ¬ o.k = 6) (h7 : ¬ o.k = 7) (h8 : ¬ o.k = 8) {v : Vp} (hv : vAt C o.v = some v) : doC C o = (if vipE C o v = 0 then { C with vs := C.vs.set o.v.toNat (vipV o v) } else C) ∧ chE C o = vipE C o v := by
 have h67 : ¬ (o.k = 6 ∨ o.k = 7) := by omega
 unfold doC chC chE
 simp only [if_neg h1, if_neg h2, if_neg h67, if_neg h8, hv]
 exact ⟨trivial, trivial⟩
theorem vAt_some {C : Cf} {i : Nat} {v : Vp} (h : C.vs[i]? = some v) : vAt C (i : Int) = some v := by unfold vAt; rw [if_pos (by omega)]; exact h
theorem set_same {C : Cf} {i : Nat} {v : Vp} (h : C.vs[i]? = some v) : ({ C with vs := C.vs.set i v } : Cf) = C := by
 obtain ⟨h4, h5⟩ := List.getElem?_eq_some_iff.1 h
 rw [← h5, List.set_getElem_self]
theorem do_3 (C : Cf) (o : OpR) (h : o.k = 3) {i : Nat} {v : Vp} (hi : o.v = i) (hv : C.vs[i]? = some v) : doC C o = setS C i v o.ms ∧ chE C o = setE C v o.ms := by
 obtain ⟨h1, h2⟩ := do_v C o (by omega) (by omega) (by omega) (by omega) (by omega) (by rw [hi]; exact vAt_some hv)
 have e1 : vipE C o v = setE C v o.ms := by unfold vipE; rw [if_pos h]
 have e2 : vipV o v = setV v o.ms := by unfold vipV; rw [if_pos h]
 rw [h1, h2, e1, e2, hi]
 exact ⟨rfl, rfl⟩
theorem retE_ne {S : Stk} {v : Int} (h : ¬ retE S v = 0) : retS S v = S := by
 unfold retE at h
 unfold retS
 split at h
 ·exact absurd rfl h
 ·rename_i h1; rw [if_neg h1]
theorem rlsE_ne {S : Stk} {v : Int} (h : ¬ rlsE S v = 0) : rlsS S v = S := by
 unfold rlsE at h
 unfold rlsS
 split at h
 ·exact absurd rfl h
 ·rename_i h1; rw [if_neg h1]
theorem do_4 (C : Cf) (o : OpR) (h : o.k = 4) {i : Nat} {v : Vp} (hi : o.v = i) (hv : C.vs[i]? = some v) : doC C o = { C with vs := C.vs.set i { v with S := retS v.S o.e } } ∧ chE C o = retE v.S o.e := by
 obtain ⟨h1, h2⟩ := do_v C o (by omega) (by omega) (by omega) (by omega) (by omega) (by rw [hi]; exact vAt_some hv)
 have e1 : vipE C o v = retE v.S o.e := by unfold vipE; rw [if_neg (by omega), if_pos h]
 have e2 : vipV o v = { v with S := retS v.S o.e } := by unfold vipV; rw [if_neg (by omega), if_pos h]
 rw [h1, h2, e1, e2, hi]
 refine ⟨?_, rfl⟩
 by_cases h0 : retE v.S o.e = 0
 ·rw [if_pos h0]; rfl
 ·rw [if_neg h0, retE_ne h0]; exact (set_same hv).symm
theorem do_5 (C : Cf) (o : OpR) (h : o.k = 5) {i : Nat} {v : Vp} (hi : o.v = i) (hv : C.vs[i]? = some v) : doC C o = { C with vs := C.vs.set i { v with S := rlsS v.S o.e } } ∧ chE C o = rlsE v.S o.e := by
 obtain ⟨h1, h2⟩ := do_v C o (by omega) (by omega) (by omega) (by omega) (by omega) (by rw [hi]; exact vAt_some hv)
 have e1 : vipE C o v = rlsE v.S o.e := by unfold vipE; rw [if_neg (by omega), if_neg (by omega), if_pos h]
 have e2 : vipV o v = { v with S := rlsS v.S o.e } := by unfold vipV; rw [if_neg (by omega), if_neg (by omega)]
 rw [h1, h2, e1, e2, hi]
 refine ⟨?_, rfl⟩
 by_cases h0 : rlsE v.S o.e = 0
 ·rw [if_pos h0]; rfl
 ·rw [if_neg h0, rlsE_ne h0]; exact (set_same hv).symm
theorem do_x (C : Cf) (o : OpR) (h1 : ¬ o.k = 1) (h2 : ¬ o.k = 2) (h6 : ¬ o.k = 6) (h7 : ¬ o.k = 7) (h8 : ¬ o.k = 8) (h3 : ¬ o.k = 3) (h4 : ¬ o.k = 4) (h5 : ¬ o.k = 5) {i : Nat} {v : Vp} (hi : o.v = i) (hv : C.vs[i]? = some v) : doC C o = C ∧ chE C o = 1 := by
 obtain ⟨k1, k2⟩ := do_v C o h1 h2 h6 h7 h8 (by rw [hi]; exact vAt_some hv)
 have e1 : vipE C o v = 1 := by unfold vipE; rw [if_neg h3, if_neg h4, if_neg h5]
 rw [k1, k2, e1]
 exact ⟨by rw [if_neg (by decide)], rfl⟩
theorem change_any {G D : Nat → Prop} (k v b e : Int) (six : Bool) (ah al pt pr : Nat) (wy : Int) (ms : List (Int × Int)) (B : Option Addr) (m d : Nat) (C : Cf) (hC : CfOk C) (g : Nat) (A : Option Addr) (n c : Nat) (E : List Ve) (w : World) (hX : CfX G D w g C A n c E) (ho : OpOk (⟨k, v, b, e, six, ah, al, pt, pr, wy, ms⟩ : OpR)) (hr : Rs 2 w B m d (prs .i64 ms)) (hB0 : Off G w B) (hm : m ≤ 1000000) : Calls Tryz.prog 74 #[.pointer (some ⟨g, 0, none⟩), .agg (opC k v b e six ah al pt pr wy B m d).toArray] w (RetCf G D w g (doC C (⟨k, v, b, e, six, ah, al, pt, pr, wy, ms⟩ : OpR)) (.int .i64 (chE C (⟨k, v, b, e, six, ah, al, pt, pr, wy, ms⟩ : OpR) : Nat))) := by
 obtain ⟨da, va1, va2⟩ := rowAdC
 obtain ⟨do1, vo1, vo2⟩ := rowOpC
 obtain ⟨dr1, vr1, vr2⟩ : ∃ d, Tryz.prog.underlying 90 = some d ∧ d.isRow = true := ⟨_, Tryz.underlying90, rfl⟩
 have hk := hC.key
 have hb := hC.bl
 have hal := ho.al
 have hpr := ho.pr
 have hb63 := ho.b.2
 have he63 := ho.e.2
 simp only at hal hpr hb63 he63
 have hn16 : n ≤ 16 := by have := hX.n_; have := hC.vl; omega
 by_cases k1 : k = 1
 ·have i1 : (k == 1) = true := by simp [k1]
  have hdo := do_1 C (⟨k, v, b, e, six, ah, al, pt, pr, wy, ms⟩ : OpR) k1
  have hcs := qy hdo.1
  have he := qy hdo.2
  clear hdo
  clear k1
  obtain ⟨bo, be, zV⟩ := box1 w 67 (opC k v b e six ah al pt pr wy B m d)
  go_enter Tryz.func74, Tryz.ntmps74
  go_upto_region 1 with (fail)
  generalize w.alloc (.cells (opC k v b e six ah al pt pr wy B m d).toArray 67) = V at *
  replace hX := hX.later be
  replace hr := hr.later be
  replace hB0 := hB0.size be.size
  have qk : V.cell? ⟨w.heap.size, 0, none⟩ = some (.int .i64 k) := bo.cell 0
  have HA := qy (fun w (h : CfX G D w g C A n c E) => addBackend_any k v b e six ah al pt pr wy ms B m d C hC g A n c E w h hal)
  go_upto_region 3 with (fail)
  refine wp_region_lit ?_
  refine qw ?_
  refine qA 67 (.tmp 3) bo vo1 vo2 (szOp k v b e six ah al pt pr wy B m d) ?_
  refine wpq fun K hK => ?_
  go_simp
  refine (HA.out _ hX).mono ?_
  rintro e w1 ⟨rfl, G2, D2, hM, hgr, hc⟩
  with_reducible refine hK _ _ ?_
  clear hK K
  refine qw ?_
  go_wp2
  go_ret
  rw [hcs.out]
  exact ⟨by rw [he.out]; rfl, G2, D2, hM, hgr.early be.size, (Chg.of_below be).trans hc⟩
 have i1 : (k == 1) = false := by simpa using k1
 by_cases k2 : k = 2
 ·have i2 : (k == 2) = true := by simp [k2]
  have hdo := do_2 C (⟨k, v, b, e, six, ah, al, pt, pr, wy, ms⟩ : OpR) k2
  have hcs := qy hdo.1
  have he := qy hdo.2
  clear hdo
  clear k1 k2
  obtain ⟨bo, be, zV⟩ := box1 w 67 (opC k v b e six ah al pt pr wy B m d)
  go_enter Tryz.func74, Tryz.ntmps74
  go_upto_region 1 with (fail)
  generalize w.alloc (.cells (opC k v b e six ah al pt pr wy B m d).toArray 67) = V at *
  replace hX := hX.later be
  replace hr := hr.later be
  replace hB0 := hB0.size be.size
  have qk : V.cell? ⟨w.heap.size, 0, none⟩ = some (.int .i64 k) := bo.cell 0
  have HA := qy (fun w (h : CfX G D w g C A n c E) => addVip_any k v b e six ah al pt pr wy ms B m d C hC g A n c E w h hal hpr)
  go_upto_region 5 with (fail)
  refine wp_region_lit ?_
  refine qw ?_
  refine qA 67 (.tmp 3) bo vo1 vo2 (szOp k v b e six ah al pt pr wy B m d) ?_
  refine wpq fun K hK => ?_
  go_simp
  refine (HA.out _ hX).mono ?_
  rintro e w1 ⟨rfl, G2, D2, hM, hgr, hc⟩
  with_reducible refine hK _ _ ?_
  clear hK K
  refine qw ?_
  go_wp2
  go_ret
  rw [hcs.out]
  exact ⟨by rw [he.out]; rfl, G2, D2, hM, hgr.early be.size, (Chg.of_below be).trans hc⟩
 have i2 : (k == 2) = false := by simpa using k2
 by_cases k67 : k = 6 ∨ k = 7
 ·have HA := qy (fun w (h : CfX G D w g C A n c E) => mark_any k v b e six ah al pt pr wy ms B m d C hC g A n c E w h hb63)
  have hdo := do_67 C (⟨k, v, b, e, six, ah, al, pt, pr, wy, ms⟩ : OpR) k67
  have hcs := qy hdo.1
  have he := qy hdo.2
  clear hdo
  clear k1 k2
  rcases k67 with k6 | k7
  ·have i6 : (k == 6) = true := by simp [k6]
   clear k6
   obtain ⟨bo, be, zV⟩ := box1 w 67 (opC k v b e six ah al pt pr wy B m d)
   go_enter Tryz.func74, Tryz.ntmps74
   go_upto_region 1 with (fail)
   generalize w.alloc (.cells (opC k v b e six ah al pt pr wy B m d).toArray 67) = V at *
   replace hX := hX.later be
   replace hr := hr.later be
   replace hB0 := hB0.size be.size
   have qk : V.cell? ⟨w.heap.size, 0, none⟩ = some (.int .i64 k) := bo.cell 0
   go_upto_region 8 with (fail)
   refine wp_region_lit ?_
   refine qw ?_
   refine qA 67 (.tmp 3) bo vo1 vo2 (szOp k v b e six ah al pt pr wy B m d) ?_
   refine wpq fun K hK => ?_
   go_simp
   refine (HA.out _ hX).mono ?_
   rintro e w1 ⟨rfl, G2, D2, hM, hgr, hc⟩
   with_reducible refine hK _ _ ?_
   clear hK K
   refine qw ?_
   go_wp2
   go_ret
   rw [hcs.out]
   exact ⟨by rw [he.out]; rfl, G2, D2, hM, hgr.early be.size, (Chg.of_below be).trans hc⟩
  ·have i6 : (k == 6) = false := by simp [k7]
   have i7 : (k == 7) = true := by simp [k7]
   clear k7
   obtain ⟨bo, be, zV⟩ := box1 w 67 (opC k v b e six ah al pt pr wy B m d)
   go_enter Tryz.func74, Tryz.ntmps74
   go_upto_region 1 with (fail)
   generalize w.alloc (.cells (opC k v b e six ah al pt pr wy B m d).toArray 67) = V at *
   replace hX := hX.later be
   replace hr := hr.later be
   replace hB0 := hB0.size be.size
   have qk : V.cell? ⟨w.heap.size, 0, none⟩ = some (.int .i64 k) := bo.cell 0
   go_upto_region 8 with (fail)
   refine wp_region_lit ?_
   refine qw ?_
   refine qA 67 (.tmp 3) bo vo1 vo2 (szOp k v b e six ah al pt pr wy B m d) ?_
   refine wpq fun K hK => ?_
   go_simp
   refine (HA.out _ hX).mono ?_
   rintro e w1 ⟨rfl, G2, D2, hM, hgr, hc⟩
   with_reducible refine hK _ _ ?_
   clear hK K
   refine qw ?_
   go_wp2
   go_ret
   rw [hcs.out]
   exact ⟨by rw [he.out]; rfl, G2, D2, hM, hgr.early be.size, (Chg.of_below be).trans hc⟩
 have k6 : ¬ k = 6 := fun h => k67 (.inl h)
 have k7 : ¬ k = 7 := fun h => k67 (.inr h)
 have i6 : (k == 6) = false := by simpa using k6
 have i7 : (k == 7) = false := by simpa using k7
 by_cases k8 : k = 8
 ·have i8 : (k == 8) = true := by simp [k8]
  have hdo := do_8 C (⟨k, v, b, e, six, ah, al, pt, pr, wy, ms⟩ : OpR) k8
  have hcs := qy hdo.1
  have he := qy hdo.2
  clear hdo
  clear k1 k2 k67 k6 k7 k8
  have HR := qy (fun w => ringNext_any C.key hk C.now w hC.now)
  obtain ⟨bo, be, zV⟩ := box1 w 67 (opC k v b e six ah al pt pr wy B m d)
  go_enter Tryz.func74, Tryz.ntmps74
  go_upto_region 1 with (fail)
  generalize w.alloc (.cells (opC k v b e six ah al pt pr wy B m d).toArray 67) = V at *
  replace hX := hX.later be
  replace hr := hr.later be
  replace hB0 := hB0.size be.size
  have qk : V.cell? ⟨w.heap.size, 0, none⟩ = some (.int .i64 k) := bo.cell 0
  go_upto_region 10 with (fail)
  refine wp_region_lit ?_
  iterate 4 (refine qw ?_)
  refine wpList_ldA (t := 96) (off := 1) (cs := stC C A n c) 90 (.tmp 29) rfl rfl (ringC C.key C.now) rfl hX.st (stC_ring C hk A n c) vr1 vr2 (szRing C.key hk _) ?_
  refine wpq fun K hK => ?_
  go_simp
  refine (HR.out _).mono ?_
  rintro e w1 ⟨bs1, d1, rfl, rfl⟩
  with_reducible refine hK _ _ ?_
  clear hK K
  have hb1 := below_plus V bs1 d1
  replace hX := hX.later hb1
  replace be := be.trans (hb1.mono be.size)
  clear hb1
  generalize plus V bs1 d1 = V1 at *
  iterate 2 (refine qw ?_)
  refine wpList_stM (t := 96) (off := 1) 90 (.tmp 33) (.tmp 31) rfl rfl (ringC C.key ((C.now + 1) % 18446744073709551616)) (stC C A n c) (by rw [stC_len C hk hb]; simp [ringC, bcs_length, hk]) (ringC_one _ _) rfl rfl hX.st (szRing C.key hk _) ?_
  intro W4 h4 g4
  simp only [Act.put, qsT, qsZ, qsS]
  replace hX := hX.setSt (C' := { C with now := (C.now + 1) % 18446744073709551616 }) rfl (by rw [← stC_setRing C hk A n c]; exact h4) g4
  have hch : Chg D w W4 := (Chg.of_below be).trans (Chg.one g4 hX.dg)
  go_wp2
  go_ret
  rw [hcs.out]
  exact ⟨by rw [he.out]; rfl, G, D, ⟨_, _, _, _, hX⟩, Grow.refl _ _ _, hch⟩
 have i8 : (k == 8) = false := by simpa using k8
 have HK := qy (And.intro k1 (And.intro k2 (And.intro k6 (And.intro k7 k8))))
 clear k1 k2 k67 k6 k7 k8
 have hEn : E.length = n := by have := hX.len; have := hX.n_; omega
 have hnv := qy hX.n_
 by_cases hvv : v < 0 ∨ (¬ v < 0 ∧ (n : Int) ≤ v)
 ·have hno : vAt C v = none := by
   unfold vAt
   split
   ·rw [List.getElem?_eq_none (by have := hnv.out; omega)]
   ·rfl
  have hdo := do_no C (⟨k, v, b, e, six, ah, al, pt, pr, wy, ms⟩ : OpR) HK.out.1 HK.out.2.1 HK.out.2.2.1 HK.out.2.2.2.1 HK.out.2.2.2.2 hno
  have hcs := qy hdo.1
  have he := qy hdo.2
  clear hdo
  clear hno
  rcases hvv with hv0 | ⟨hv0, hvn⟩
  all_goals
   obtain ⟨bo, be, zV⟩ := box1 w 67 (opC k v b e six ah al pt pr wy B m d)
   go_enter Tryz.func74, Tryz.ntmps74
   go_upto_region 1 with (fail)
   generalize w.alloc (.cells (opC k v b e six ah al pt pr wy B m d).toArray 67) = V at *
   replace hX := hX.later be
   replace hr := hr.later be
   replace hB0 := hB0.size be.size
   have qk : V.cell? ⟨w.heap.size, 0, none⟩ = some (.int .i64 k) := bo.cell 0
   go_upto_region 12 with (fail)
   clear qk
   refine wp_relS 13 81 rfl (by kernel_rfl) (by kernel_rfl) ?_
   refine qb 3 1 ?_
   refine ql 0 34 2 3 bo Tryz.underlying3 ?_
   refine qa 1 35 3 ?_
   refine qa 2 36 4 ?_
   refine qf 3 3 37 5 ?_
   apply qm 6 rfl rfl
   ·intro FA x hO hD K hK
    obtain ⟨e38, ev38⟩ := qE (hD 4 38)
    have e37 := qe (hD 3 37)
    first | have ge37 := slot_of e37 | have ge37 := slot_un e37
    clear hO hD
    first | (refine wanted_ifG ?_ ?_; (· go_simp); refine wp_ld1 3 (.tmp 38) rfl ev38.out (bo.later bpl) rfl Tryz.underlying3 rfl ?_; exact qk hK rfl) | (go_simp; exact qk hK rfl) | (rcases ge37 with ge37 | ge37 <;> (go_simp; exact qk hK rfl))
   refine qf 0 3 37 7 ?_
   refine qg 6 40 3 37 8 ?_
   refine qg 7 41 3 37 9 ?_
   apply qm 10 rfl rfl
   ·intro FA x hO hD K hK
    obtain ⟨e42, ev42⟩ := qE (hD 8 42)
    have e37 := qe (hD 3 37)
    first | have ge37 := slot_of e37 | have ge37 := slot_un e37
    clear hO hD
    first | (refine wanted_ifG ?_ ?_; (· go_simp); refine wp_ld1 94 (.tmp 42) rfl ev42.out (hX.st.later bpl) (stC_vips C hk hb _ n c) Tryz.underlying94 rfl ?_; exact qk hK rfl) | (go_simp; exact qk hK rfl) | (rcases ge37 with ge37 | ge37 <;> (go_simp; exact qk hK rfl))
   refine qg 9 43 3 37 11 ?_
   refine qh 5 39 10 44 3 37 12 ?_
   refine qc 3 37 11 45 13 ?_
   refine Steps.fin_ (fun vs x hp => ?_)
   simp only [qta, qtb, qda, qdb, putAll, Nat.zero_add, Nat.reduceAdd, Act.put, qsT, qsZ, qsS, qi (hp 0 qd), qi (hp 1 qd), qi (hp 2 qd), qi (hp 3 qd), qi (hp 4 qd), qi (hp 5 qd), qi (hp 6 qd), qi (hp 7 qd), qi (hp 8 qd), qi (hp 9 qd), qi (hp 10 qd), qi (hp 11 qd), qi (hp 12 qd)]
   clear hp
   clear vs
   have hb9 := below_plus V x.bs x.d
   replace hX := hX.later hb9
   replace bo := bo.later hb9
   replace hr := hr.later hb9
   replace hB0 := hB0.size hb9.size
   replace be := be.trans (hb9.mono be.size)
   clear hb9
   generalize plus V x.bs x.d = V2 at *
   go_wp2
   go_ret
   rw [hcs.out]
   exact ⟨by rw [he.out]; rfl, G, D, ⟨_, _, _, _, hX⟩, Grow.refl _ _ _, Chg.of_below be⟩
 obtain ⟨i, rfl⟩ : ∃ i : Nat, v = i := ⟨v.toNat, by omega⟩
 have hin : i < n := by omega
 have hii : (i : Int) < (n : Int) := by omega
 have hn0 : 0 < n := by omega
 obtain ⟨bb, cur, rfl, hob, -⟩ := hX.row.bk hn0
 have hmem : E[i]'(by omega) ∈ E := List.getElem_mem _
 have hi0 : E[i]? = some (E[i]'(by omega)) := List.getElem?_eq_getElem _
 have hvi : C.vs[i]? = some (E[i]'(by omega)).1 := by rw [← hX.vs, List.getElem?_map, hi0]; rfl
 have hok := (hC.vs _ (List.mem_of_getElem? hvi)).st
 have hq7 : ∀ W0 W, CfX G D W0 g C (some ⟨bb, 0, none⟩) n c E → Below W0.heap.size W0 W → W.cell? ⟨bb, i * 8 + 7, none⟩ = some (.pointer (some ⟨(E[i]'(by omega)).2.T, 0, none⟩)) := fun W0 W hX h => by
  have := (hX.row.rs.later h).rangeE veC_len i (by omega)
  rw [Nat.zero_add] at this
  exact this 7 _ rfl
 have HQ0 := qy hq7
 generalize E[i]'(by omega) = x0 at *
 have HI0 := qy hi0
 have HVI := qy hvi
 clear hq7 hi0 hvi hn0 hob hEn
 obtain ⟨bo, be, zV⟩ := box1 w 67 (opC k (i : Int) b e six ah al pt pr wy B m d)
 go_enter Tryz.func74, Tryz.ntmps74
 go_upto_region 1 with (fail)
 generalize w.alloc (.cells (opC k (i : Int) b e six ah al pt pr wy B m d).toArray 67) = V at *
 replace hX := hX.later be
 replace hr := hr.later be
 replace hB0 := hB0.size be.size
 have qk : V.cell? ⟨w.heap.size, 0, none⟩ = some (.int .i64 k) := bo.cell 0
 go_upto_region 12 with (fail)
 clear qk
 refine wp_relS 13 81 rfl (by kernel_rfl) (by kernel_rfl) ?_
 refine qb 3 1 ?_
 refine ql 0 34 2 3 bo Tryz.underlying3 ?_
 refine qa 1 35 3 ?_
 refine qa 2 36 4 ?_
 refine qf 3 3 37 5 ?_
 apply qm 6 rfl rfl
 ·intro FA x hO hD K hK
  obtain ⟨e38, ev38⟩ := qE (hD 4 38)
  have e37 := qe (hD 3 37)
  first | have ge37 := slot_of e37 | have ge37 := slot_un e37
  clear hO hD
  first | (refine wanted_ifG ?_ ?_; (· go_simp); refine wp_ld1 3 (.tmp 38) rfl ev38.out (bo.later bpl) rfl Tryz.underlying3 rfl ?_; exact qk hK rfl) | (go_simp; exact qk hK rfl) | (rcases ge37 with ge37 | ge37 <;> (go_simp; exact qk hK rfl))
 refine qf 0 3 37 7 ?_
 refine qg 6 40 3 37 8 ?_
 refine qg 7 41 3 37 9 ?_
 apply qm 10 rfl rfl
 ·intro FA x hO hD K hK
  obtain ⟨e42, ev42⟩ := qE (hD 8 42)
  have e37 := qe (hD 3 37)
  first | have ge37 := slot_of e37 | have ge37 := slot_un e37
  clear hO hD
  first | (refine wanted_ifG ?_ ?_; (· go_simp); refine wp_ld1 94 (.tmp 42) rfl ev42.out (hX.st.later bpl) (stC_vips C hk hb _ n c) Tryz.underlying94 rfl ?_; exact qk hK rfl) | (go_simp; exact qk hK rfl) | (rcases ge37 with ge37 | ge37 <;> (go_simp; exact qk hK rfl))
 refine qg 9 43 3 37 11 ?_
 refine qh 5 39 10 44 3 37 12 ?_
 refine qc 3 37 11 45 13 ?_
 refine Steps.fin_ (fun vs x hp => ?_)
 simp only [qta, qtb, qda, qdb, putAll, Nat.zero_add, Nat.reduceAdd, Act.put, qsT, qsZ, qsS, qi (hp 0 qd), qi (hp 1 qd), qi (hp 2 qd), qi (hp 3 qd), qi (hp 4 qd), qi (hp 5 qd), qi (hp 6 qd), qi (hp 7 qd), qi (hp 8 qd), qi (hp 9 qd), qi (hp 10 qd), qi (hp 11 qd), qi (hp 12 qd)]
 clear hp
 clear vs
 have hb9 := below_plus V x.bs x.d
 replace hX := hX.later hb9
 replace bo := bo.later hb9
 replace hr := hr.later hb9
 replace hB0 := hB0.size hb9.size
 replace be := be.trans (hb9.mono be.size)
 clear hb9
 generalize plus V x.bs x.d = V2 at *
 go_upto_region 14 with (fail)
 refine wp_relS 7 81 rfl (by kernel_rfl) (by kernel_rfl) ?_
 refine qb 0 1 ?_
 refine qa 0 47 2 ?_
 refine qa 1 48 3 ?_
 refine ql 2 49 4 94 hX.st Tryz.underlying94 ?_ (hv := (stC_vips C hk hb _ n c))
 refine qb 3 5 ?_
 refine ql 4 51 6 3 bo Tryz.underlying3 ?_
 refine qc 3 50 5 52 7 ?_
 refine Steps.fin_ (fun vs x hp => ?_)
 simp only [qta, qtb, qda, qdb, putAll, Nat.zero_add, Nat.reduceAdd, Act.put, qsT, qsZ, qsS, qi (hp 0 qd), qi (hp 1 qd), qi (hp 2 qd), qi (hp 3 qd), qi (hp 4 qd), qi (hp 5 qd), qi (hp 6 qd)]
 clear hp
 clear vs
 have hb9 := below_plus V2 x.bs x.d
 replace hX := hX.later hb9
 replace bo := bo.later hb9
 replace hr := hr.later hb9
 replace hB0 := hB0.size hb9.size
 replace be := be.trans (hb9.mono be.size)
 clear hb9
 generalize plus V2 x.bs x.d = V3 at *
 have qk : V3.cell? ⟨w.heap.size, 0, none⟩ = some (.int .i64 k) := bo.cell 0
 by_cases k3 : k = 3
 ·have i3 : (k == 3) = true := by simp [k3]
  have hdo := do_3 C (⟨k, (i : Int), b, e, six, ah, al, pt, pr, wy, ms⟩ : OpR) k3 rfl HVI.out
  have hcs := qy hdo.1
  have he := qy hdo.2
  clear hdo
  clear k3
  have HS := qy (fun w (h : CfX G D w g C (some ⟨bb, 0, none⟩) n c E) h1 h2 => setMembers_any ms B m d C hC g (some ⟨bb, 0, none⟩) n c E w h h1 h2 hm i bb x0 HI0.out rfl)
  go_upto_region 17 with (fail)
  clear qk
  refine wp_region_lit ?_
  iterate 3 (refine qw ?_)
  refine qL 65 (.tmp 60) bo Tryz.underlying65 ?_
  refine wpq fun K hK => ?_
  go_simp
  refine (HS.out _ hX hr hB0).mono ?_
  rintro e w1 ⟨rfl, G2, D2, hM, hgr, hc⟩
  with_reducible refine hK _ _ ?_
  clear hK K
  refine qw ?_
  go_wp2
  go_ret
  rw [hcs.out]
  exact ⟨by rw [he.out]; rfl, G2, D2, hM, hgr.early be.size, (Chg.of_below be).trans hc⟩
 have i3 : (k == 3) = false := by simpa using k3
 by_cases k4 : k = 4
 ·have i4 : (k == 4) = true := by simp [k4]
  have hdo := do_4 C (⟨k, (i : Int), b, e, six, ah, al, pt, pr, wy, ms⟩ : OpR) k4 rfl HVI.out
  have hcs := qy hdo.1
  have he := qy hdo.2
  clear hdo
  clear k3 k4
  have HRT := qy (fun w h => retire_any x0.1.S hok x0.2.T e he63 w h)
  have HQ := qy (fun W h => HQ0.out V3 W hX h)
  go_upto_region 19 with (fail)
  clear qk
  refine wp_relS 6 81 rfl (by kernel_rfl) (by kernel_rfl) ?_
  refine qb 5 1 ?_
  refine qa 0 65 2 ?_
  refine qa 1 66 3 ?_
  apply qm 4 rfl rfl
  ·intro FA x hO hD K hK
   have e67 := qe (hD 2 67)
   clear hO hD
   have hq := HQ.out _ (below_plus V3 x.bs x.d)
   go_simp
   exact qk hK rfl
  refine qb 3 5 ?_
  refine ql 4 69 6 3 bo Tryz.underlying3 ?_
  refine Steps.fin_ (fun vs x hp => ?_)
  simp only [qta, qtb, qda, qdb, putAll, Nat.zero_add, Nat.reduceAdd, Act.put, qsT, qsZ, qsS, qi (hp 0 qd), qi (hp 1 qd), qi (hp 2 qd), qi (hp 3 qd), qi (hp 4 qd), qi (hp 5 qd)]
  clear hp
  clear vs
  have hb9 := below_plus V3 x.bs x.d
  replace hX := hX.later hb9
  replace be := be.trans (hb9.mono be.size)
  clear hb9 HQ hr hB0 bo
  generalize plus V3 x.bs x.d = V5 at *
  refine wpq fun K hK => ?_
  go_simp
  refine (HRT.out _ (hX.tb x0 hmem)).mono ?_
  rintro en w1 ⟨rfl, hS2, hc2⟩
  with_reducible refine hK _ _ ?_
  clear hK K
  refine qw ?_
  have X1 := hX.setStk HI0.out hS2 hc2
  have hch : Chg D w w1 := (Chg.of_below be).trans (hc2.wid (fun z hz => by rw [show z = x0.2.T from hz]; exact hX.dt x0 hmem))
  clear hX hS2 hc2 be
  go_wp2
  go_ret
  rw [hcs.out]
  exact ⟨by rw [he.out]; rfl, G, D, ⟨_, _, _, _, X1⟩, Grow.refl _ _ _, hch⟩
 have i4 : (k == 4) = false := by simpa using k4
 by_cases k5 : k = 5
 ·have i5 : (k == 5) = true := by simp [k5]
  have hdo := do_5 C (⟨k, (i : Int), b, e, six, ah, al, pt, pr, wy, ms⟩ : OpR) k5 rfl HVI.out
  have hcs := qy hdo.1
  have he := qy hdo.2
  clear hdo
  clear k3 k4 k5
  have HRT := qy (fun w h => release_any x0.1.S hok x0.2.T e he63 w h)
  have HQ := qy (fun W h => HQ0.out V3 W hX h)
  go_upto_region 21 with (fail)
  clear qk
  refine wp_relS 6 81 rfl (by kernel_rfl) (by kernel_rfl) ?_
  refine qb 5 1 ?_
  refine qa 0 74 2 ?_
  refine qa 1 75 3 ?_
  apply qm 4 rfl rfl
  ·intro FA x hO hD K hK
   have e76 := qe (hD 2 76)
   clear hO hD
   have hq := HQ.out _ (below_plus V3 x.bs x.d)
   go_simp
   exact qk hK rfl
  refine qb 3 5 ?_
  refine ql 4 78 6 3 bo Tryz.underlying3 ?_
  refine Steps.fin_ (fun vs x hp => ?_)
  simp only [qta, qtb, qda, qdb, putAll, Nat.zero_add, Nat.reduceAdd, Act.put, qsT, qsZ, qsS, qi (hp 0 qd), qi (hp 1 qd), qi (hp 2 qd), qi (hp 3 qd), qi (hp 4 qd), qi (hp 5 qd)]
  clear hp
  clear vs
  have hb9 := below_plus V3 x.bs x.d
  replace hX := hX.later hb9
  replace be := be.trans (hb9.mono be.size)
  clear hb9 HQ hr hB0 bo
  generalize plus V3 x.bs x.d = V5 at *
  refine wpq fun K hK => ?_
  go_simp
  refine (HRT.out _ (hX.tb x0 hmem)).mono ?_
  rintro en w1 ⟨rfl, hS2, hc2⟩
  with_reducible refine hK _ _ ?_
  clear hK K
  refine qw ?_
  have X1 := hX.setStk HI0.out hS2 hc2
  have hch : Chg D w w1 := (Chg.of_below be).trans (hc2.wid (fun z hz => by rw [show z = x0.2.T from hz]; exact hX.dt x0 hmem))
  clear hX hS2 hc2 be
  go_wp2
  go_ret
  rw [hcs.out]
  exact ⟨by rw [he.out]; rfl, G, D, ⟨_, _, _, _, X1⟩, Grow.refl _ _ _, hch⟩
 have i5 : (k == 5) = false := by simpa using k5
 have hdo := do_x C (⟨k, (i : Int), b, e, six, ah, al, pt, pr, wy, ms⟩ : OpR) HK.out.1 HK.out.2.1 HK.out.2.2.1 HK.out.2.2.2.1 HK.out.2.2.2.2 k3 k4 k5 rfl HVI.out
 have hcs := qy hdo.1
 have he := qy hdo.2
 clear hdo
 clear k3 k4 k5
 go_wp2
 go_ret
 rw [hcs.out]
 exact ⟨by rw [he.out]; rfl, G, D, ⟨_, _, _, _, hX⟩, Grow.refl _ _ _, Chg.of_below be⟩
theorem apply_any {G D : Nat → Prop} (k v b e : Int) (six : Bool) (ah al pt pr : Nat) (wy : Int) (ms : List (Int × Int)) (B : Option Addr) (m d : Nat) (C : Cf) (hC : CfOk C) (g : Nat) (A : Option Addr) (n c : Nat) (E : List Ve) (w : World) (hX : CfX G D w g C A n c E) (ho : OpOk (⟨k, v, b, e, six, ah, al, pt, pr, wy, ms⟩ : OpR)) (hr : Rs 2 w B m d (prs .i64 ms)) (hB0 : Off G w B) (hm : m ≤ 1000000) : Calls Tryz.prog 30 #[.pointer (some ⟨g, 0, none⟩), .agg (opC k v b e six ah al pt pr wy B m d).toArray] w (RetCf G D w g (apC C (⟨k, v, b, e, six, ah, al, pt, pr, wy, ms⟩ : OpR)) (.int .i64 (chE C (⟨k, v, b, e, six, ah, al, pt, pr, wy, ms⟩ : OpR) : Nat))) := by
 obtain ⟨da, va1, va2⟩ := rowAdC
 obtain ⟨do1, vo1, vo2⟩ := rowOpC
 have HC := qy (fun w (h : CfX G D w g C A n c E) h1 h2 => change_any k v b e six ah al pt pr wy ms B m d C hC g A n c E w h ho h1 h2 hm)
 have HDG := qy hX.dg
 have had := qy (apC_do C (⟨k, v, b, e, six, ah, al, pt, pr, wy, ms⟩ : OpR))
 have hdo := doC_ok hC ho
 obtain ⟨bo, be, zV⟩ := box1 w 67 (opC k v b e six ah al pt pr wy B m d)
 go_enter Tryz.func30, Tryz.ntmps30
 go_upto_region 1 with (fail)
 generalize w.alloc (.cells (opC k v b e six ah al pt pr wy B m d).toArray 67) = V at *
 replace hX := hX.later be
 replace hr := hr.later be
 replace hB0 := hB0.size be.size
 go_upto_region 3 with (fail)
 refine wp_region_lit ?_
 refine qw ?_
 refine qA 67 (.tmp 3) bo vo1 vo2 (szOp k v b e six ah al pt pr wy B m d) ?_
 refine wpq fun K hK => ?_
 go_simp
 refine (HC.out _ hX hr hB0).mono ?_
 rintro e w1 ⟨rfl, G2, D2, hM, hgr, hc⟩
 with_reducible refine hK _ _ ?_
 clear hK K
 refine qw ?_
 obtain ⟨A2, n2, c2, E2, hX2⟩ := hM
 have hk := hdo.key
 have hb := hdo.bl
 generalize doC C (⟨k, v, b, e, six, ah, al, pt, pr, wy, ms⟩ : OpR) = C2 at *
 have hch : Chg D w w1 := (Chg.of_below be).trans hc
 have hgr2 := hgr.early be.size
 have HX := qy hX2
 have hnum : C2.num < 18446744073709551616 := hdo.num
 have hq0 : w1.cell? ⟨g, 0, none⟩ = some (.int .u64 (C2.num : Int)) := hX2.st.cell 0
 obtain ⟨ec, hec⟩ : ∃ ec, chE C (⟨k, v, b, e, six, ah, al, pt, pr, wy, ms⟩ : OpR) = ec := ⟨_, rfl⟩
 rw [hec] at had ⊢
 have HEC := qy hec
 clear hec hX hr hB0 bo hc hgr be hX2
 by_cases h0 : ec = 0
 ·have ha : apC C (⟨k, v, b, e, six, ah, al, pt, pr, wy, ms⟩ : OpR) = upN C2 := by rw [had.out, if_pos h0]
  have HA := qy ha
  subst h0
  have hw : IntKind.u64.wrap ((C2.num : Int) + 1) = (((C2.num + 1) % 18446744073709551616 : Nat) : Int) := by rw [IntKind.wrap_u64]; omega
  clear ha had
  go_upto_region 5 with (fail)
  refine wp_region_lit ?_
  iterate 7 (refine qw ?_)
  refine wpList_st1 (t := 96) (off := 0) 23 (.tmp 19) (.tmp 17) rfl rfl rfl rfl HX.out.st (by rw [stC_len C2 hk hb]; omega) rfl (by kernel_rfl) ?_
  intro W4 h4 g4
  simp only [Act.put, qsT, qsZ, qsS]
  have hX3 := HX.out.setSt (C' := upN C2) rfl h4 g4
  have hch2 := hch.trans (Chg.one g4 (D := D) HDG.out)
  go_wp2
  go_ret
  rw [HA.out]
  exact ⟨by rw [HEC.out]; rfl, G2, D2, ⟨_, _, _, _, hX3⟩, hgr2, hch2⟩
 ·have ha : apC C (⟨k, v, b, e, six, ah, al, pt, pr, wy, ms⟩ : OpR) = C2 := by rw [had.out, if_neg h0]
  have HA := qy ha
  have h0i : ((ec : Int) == 0) = false := by simp [h0]
  clear ha had h0
  go_wp2
  go_ret
  rw [HA.out]
  exact ⟨by rw [HEC.out]; rfl, G2, D2, ⟨_, _, _, _, HX.out⟩, hgr2, hch⟩
theorem run_buildSt (key : List UInt8) (hk : key.length = 16) (w : World) : (Instr.build 96 #[(1, .agg (ringC key 0).toArray)]).run Tryz.prog w = .ok (.agg (stC (cf0 key) none 0 0).toArray) w := by
 refine run_build_struct (fields := Tryz.prog.fieldsOf 96) (zero := stC (cf0 (List.replicate 16 0)) none 0 0) (places := #[(0, 1), (1, 17), (18, 260), (278, 1)]) (parts := [(1, .agg (ringC key 0).toArray)]) (by kernel_rfl) (by kernel_rfl) (by kernel_rfl) ?_
 have hl : (ringC key 0).length = 17 := by simp [ringC, bcs_length, hk]
 rw [fill_cons _ _ 1 _ _ 1 17 (ringC key 0) rfl rfl hl (by rw [stC_len _ (by simp [cf0]) (by simp [cf0])]; omega), fill_nil]
 congr 2
 have e : stC (cf0 (List.replicate 16 0)) none 0 0 = .int .u64 0 :: (ringC (List.replicate 16 0) 0 ++ ((List.replicate 65 none).flatMap bkC ++ [.slice none 0 0])) := rfl
 have e2 : stC (cf0 key) none 0 0 = .int .u64 0 :: (ringC key 0 ++ ((List.replicate 65 none).flatMap bkC ++ [.slice none 0 0])) := rfl
 rw [e, e2]
 have hl0 : (ringC (List.replicate 16 0) 0).length = 17 := by simp [ringC, bcs_length]
 generalize ringC (List.replicate 16 0) 0 = R0 at *
 generalize ((List.replicate 65 none).flatMap bkC ++ [Value.slice none 0 0]) = T0
 have h1 := splice_cons (.int .u64 0) (R0 ++ T0) (ringC key 0) 0
 rw [Nat.add_zero] at h1
 rw [h1]
 congr 1
 unfold splice
 rw [List.take_zero, List.nil_append, Nat.zero_add, hl, ← hl0, List.drop_left]
theorem new_any (key : List UInt8) (hk : key.length = 16) (w : World) : Calls Tryz.prog 33 #[.agg (bcs key).toArray] w fun e w' => ∃ g, e = .returned (.pointer (some ⟨g, 0, none⟩)) ∧ w.heap.size ≤ g ∧ Below w.heap.size w w' ∧ Bk w' g 96 (stC (cf0 key) none 0 0) := by
 obtain ⟨dk, u1, u2, u3⟩ := rowKey
 have HR := qy (fun w => ringNew_any key hk 0 w)
 have bk : Bk (w.alloc (.cells (bcs key).toArray 88)) w.heap.size 88 (bcs key) := Bk.new w 88 (bcs key).toArray
 have be : Below w.heap.size w (w.alloc (.cells (bcs key).toArray 88)) := Below.allocS (Below.refl _ _) _
 go_enter Tryz.func33, Tryz.ntmps33
 go_upto_region 1 with (fail)
 generalize w.alloc (.cells (bcs key).toArray 88) = V at *
 refine wp_region_lit ?_
 refine wpList_ldA (t := 88) 88 (.tmp 1) rfl rfl (bcs key) rfl bk (bcs_whole key) u1 u2 (szKey key hk) ?_
 refine wpq fun K hK => ?_
 go_simp
 refine (HR.out _).mono ?_
 rintro en w1 ⟨bs1, d1, rfl, rfl⟩
 with_reducible refine hK _ _ ?_
 clear hK K
 replace be := be.trans ((below_plus V bs1 d1).mono be.size)
 generalize plus V bs1 d1 = V1 at *
 refine wpList_build 96 [(1, .tmp 4)] rfl rfl (.agg (stC (cf0 key) none 0 0).toArray) (run_buildSt key hk _) ?_
 iterate 2 (refine qw ?_)
 go_wp2
 go_ret
 exact ⟨V1.heap.size, rfl, be.size, Below.allocS be _, Bk.new _ _ _⟩
theorem cf0_X {G : Nat → Prop} {w : World} {g : Nat} {key : List UInt8} (h : Bk w g 96 (stC (cf0 key) none 0 0)) (hG : ∀ b, G b → b < w.heap.size) : CfX (fun b => G b ∨ b = g) (fun b => b = g) w g (cf0 key) none 0 0 [] :=
 ⟨rfl, h, Os.nil_, (fun k hk => by cases hk), rfl, (fun x hx => by cases hx), (fun x hx => by cases hx), (fun x hx => by cases hx), (fun x hx => by cases hx), List.nodup_nil, (fun b hb => Or.inr hb), (fun b hb => hb.elim (hG b) (fun e => by rw [e]; exact h.lt))⟩
def clV (x : Ve) : Ve := (x.1, ⟨x.2.A, x.2.n, x.2.n, x.2.T⟩)
def veZ : List Value := [.bool false, .int .u64 0, .int .u64 0, .int .u16 0, .int .u8 0, .int .i64 0, .slice none 0 0, .pointer none]
theorem clip_any (A : Option Addr) (n c : Nat) (w : World) (h : n ≤ c) : Calls Tryz.prog 97 #[.slice A n c] w fun e w' => e = .returned (.slice A n n) ∧ w = w' := by
 go_enter Tryz.func97, Tryz.ntmps97
 go_wp2
 go_ret
 simp
theorem vip_any {G D : Nat → Prop} (C : Cf) (hk : C.key.length = 16) (hb : C.bk.length = 65) (g : Nat) (A : Option Addr) (n c : Nat) (E : List Ve) (i : Nat) (x0 : Ve) (w : World) (hX : CfX G D w g C A n c E) (hi : E[i]? = some x0) : Calls Tryz.prog 56 #[.pointer (some ⟨g, 0, none⟩), .int .i64 (i : Int)] w (RetV w (.tuple #[.agg (veC (clV x0)).toArray, .bool true])) := by
 obtain ⟨dv1, vv1, vv2⟩ := rowVe
 have hil := (List.getElem?_eq_some_iff.1 hi).1
 have hxi : E[i] = x0 := (List.getElem?_eq_some_iff.1 hi).2
 have hin : i < n := by have := hX.len; have := hX.n_; omega
 have hii : ¬ (i : Int) < 0 := by omega
 have hii2 : ¬ (n : Int) ≤ (i : Int) := by omega
 have hii3 : (i : Int) < (n : Int) := by omega
 have hx0n := (hX.mm x0 (List.mem_of_getElem? hi)).2.1
 have be : Below w.heap.size w (w.alloc (.cells #[.bool false, .int .u64 0, .int .u64 0, .int .u16 0, .int .u8 0, .int .i64 0, .slice none 0 0, .pointer none] 143)) := Below.allocS (Below.refl _ _) _
 have b2 : Bk (w.alloc (.cells #[.bool false, .int .u64 0, .int .u64 0, .int .u16 0, .int .u8 0, .int .i64 0, .slice none 0 0, .pointer none] 143)) w.heap.size 143 veZ := Bk.new w 143 #[.bool false, .int .u64 0, .int .u64 0, .int .u16 0, .int .u8 0, .int .i64 0, .slice none 0 0, .pointer none]
 replace hX := hX.later be
 have zV : w.heap.size + 1 ≤ (w.alloc (.cells #[.bool false, .int .u64 0, .int .u64 0, .int .u16 0, .int .u8 0, .int .i64 0, .slice none 0 0, .pointer none] 143)).heap.size := by simp
 have q0 : (w.alloc (.cells #[.bool false, .int .u64 0, .int .u64 0, .int .u16 0, .int .u8 0, .int .i64 0, .slice none 0 0, .pointer none] 143)).cell? ⟨g, 278, none⟩ = some (.slice A n c) := (hX.st.cell 278).trans (stC_vips C hk hb A n c)
 have HL := qy (fun w h => cfgLen_any C hk hb A n c g w h)
 obtain ⟨bb, cur, rfl, hob, -⟩ := hX.row.bk (show 0 < n by omega)
 have hrg : (w.alloc (.cells #[.bool false, .int .u64 0, .int .u64 0, .int .u16 0, .int .u8 0, .int .i64 0, .slice none 0 0, .pointer none] 143)).rangeAt bb (i * 8) (veC x0) := by
  have := hX.row.rs.rangeE veC_len i hil
  rwa [Nat.zero_add, hxi] at this
 clear hi hil hxi hin hob
 go_enter Tryz.func56, Tryz.ntmps56
 go_upto_region 3 with (go_at_call 55; refine (HL.out _ hX.st).mono ?_; rintro e w1 ⟨rfl, rfl⟩)
 generalize w.alloc (.cells #[.bool false, .int .u64 0, .int .u64 0, .int .u16 0, .int .u8 0, .int .i64 0, .slice none 0 0, .pointer none] 143) = V at *
 refine wp_region_lit ?_
 iterate 6 (refine qw ?_)
 refine wpList_load_mid rfl 143 (.tmp 21) rfl bb (i * 8) rfl (veC x0) _ hrg vv1 vv2 (szVe _) ?_
 refine qw ?_
 refine wpList_stA (t := 143) 143 (.tmp 6) (.tmp 22) rfl rfl (veC x0) veZ rfl (veC_one _) rfl rfl (Bk.new _ _ _) (szVe _) ?_
 intro W4 h4 g4
 simp only [Act.put, qsT, qsZ, qsS]
 have b4 : Below V.heap.size V W4 := below_grown (Below.allocS (Below.refl _ _) _) g4 (Nat.le_refl _)
 replace b2 := b2.later b4
 replace be := be.trans (b4.mono be.size)
 replace h4 : Bk W4 V.heap.size 143 (veC x0) := h4
 have q6 : W4.cell? ⟨V.heap.size, 6, none⟩ = some (.slice x0.2.A x0.2.n x0.2.c) := h4.cell 6
 have hzv : w.heap.size < V.heap.size := by omega
 clear b4 g4 hX q0 HL hrg
 generalize V.heap.size = gv at *
 go_upto_region 4 with (fail)
 refine wp_region_lit ?_
 iterate 2 (refine qw ?_)
 refine wpq fun K hK => ?_
 go_simp
 refine (clip_any _ _ _ _ hx0n).mono ?_
 rintro e w1 ⟨rfl, rfl⟩
 with_reducible refine hK _ _ ?_
 clear hK K
 refine qw ?_
 refine wpList_st1 (t := 143) (cs := veC x0) (off := 6) (v := .slice x0.2.A x0.2.n x0.2.n) 65 (.tmp 26) (.tmp 25) rfl rfl rfl rfl h4 (by rw [veC_len]; decide) rfl (by kernel_rfl) ?_
 intro W5 h5 g5
 simp only [Act.put, qsT, qsZ, qsS]
 replace h5 : Bk W5 gv 143 (veC (clV x0)) := h5
 replace b2 := b2.grown g5 (fun e => by injection e with e; omega)
 replace be := below_grown be g5 (by omega)
 clear h4 g5 q6
 go_upto_region 5 with (fail)
 refine wp_region_lit ?_
 refine wpList_ldA (t := 143) 143 (.tmp 6) rfl rfl (veC (clV x0)) rfl h5 rfl vv1 vv2 (szVe _) ?_
 simp only [Act.put, qsT, qsZ, qsS]
 refine wpList_stA (t := 143) 143 (.tmp 4) (.tmp 27) rfl rfl (veC (clV x0)) veZ rfl (veC_one _) rfl rfl b2 (szVe _) ?_
 intro W6 h6 g6
 refine qw ?_
 go_wp2
 refine bodyPost_agg2 Tryz.results56 rfl rfl h6.range vv1 vv2 (szVe _) rfl (RetV.mk ?_)
 exact below_grown be g6 (by omega)
theorem copy_any (S : Stk) (T : Nat) (w : World) (hS : Bk w T 210 (stkC S)) : Calls Tryz.prog 67 #[.pointer (some ⟨T, 0, none⟩)] w fun e w' => ∃ T2, e = .returned (.pointer (some ⟨T2, 0, none⟩)) ∧ w.heap.size ≤ T2 ∧ Below w.heap.size w w' ∧ Bk w' T2 210 (stkC S) := by
 obtain ⟨dk, vk1, vk2⟩ := rowStk
 have hzs : ∀ w, (zeroValue 210).run Tryz.prog w = .ok (.agg (stkC stk0).toArray) w := fun _ => by kernel_rfl
 go_enter Tryz.func67, Tryz.ntmps67
 go_upto_region 3 with (fail)
 refine wp_region_lit ?_
 iterate 2 (refine qw ?_)
 refine wpList_ldA (t := 210) 210 (.tmp 7) rfl rfl (stkC S) rfl hS (whole_ _) vk1 vk2 (szStk S) ?_
 refine qw ?_
 refine wpList_stA (t := 210) 210 (.tmp 3) (.tmp 8) rfl rfl (stkC S) (stkC stk0) (by rw [stkC_len, stkC_len]) (stkC_one S) rfl rfl (Bk.new _ _ _) (szStk S) ?_
 intro W4 h4 g4
 simp only [Act.put, qsT, qsZ, qsS]
 go_wp2
 go_ret
 exact ⟨w.heap.size, rfl, Nat.le_refl _, below_grown (Below.allocS (Below.refl _ _) _) g4 (Nat.le_refl _), h4⟩
section
variable {G D : Nat → Prop} {w w' : World} {g : Nat} {C : Cf} {A : Option Addr} {n c : Nat} {E : List Ve}
end
theorem refRight_any (k v b e : Int) (six : Bool) (ah al pt pr : Nat) (wy : Int) (ms : List (Int × Int)) (A : Option Addr) (n c : Nat) (w : World) (ha : al < 18446744073709551616) (hr : Rs 2 w A n c (prs .i64 ms)) (hn : n ≤ 2000000) : Calls Tryz.prog 44 #[.agg (opC k v b e six ah al pt pr wy A n c).toArray] w (RetV w (.bool (rightB k v b e six ah al wy ms))) := by
 obtain ⟨da, a1, a2⟩ : ∃ d, Tryz.prog.underlying 53 = some d ∧ d.isRow = true := ⟨_, Tryz.underlying53, rfl⟩
 have hml : ms.length = n := by have := hr.1; rw [prs_length] at this; omega
 have HAR := qy (fun w => refAdrRightC six ah al w ha)
 replace hr := hr.alloc (.cells (opC k v b e six ah al pt pr wy A n c).toArray 57)
 obtain ⟨dv1, v1, v2⟩ := rowRo
 obtain ⟨b1, be, zV⟩ := box1 w 57 (opC k v b e six ah al pt pr wy A n c)
 go_enter Tryz.func44, Tryz.ntmps44
 go_upto_region 1 with (fail)
 generalize w.alloc (.cells (opC k v b e six ah al pt pr wy A n c).toArray 57) = V at *
 have q0 : V.cell? ⟨w.heap.size, 0, none⟩ = some (.int .i64 k) := b1.cell 0
 have q1 : V.cell? ⟨w.heap.size, 1, none⟩ = some (.int .i64 v) := b1.cell 1
 have q2 : V.cell? ⟨w.heap.size, 2, none⟩ = some (.int .i64 b) := b1.cell 2
 have q3 : V.cell? ⟨w.heap.size, 3, none⟩ = some (.int .i64 e) := b1.cell 3
 have q10' : V.cell? ⟨w.heap.size, 10, none⟩ = some (.slice A n c) := b1.cell 10
 have q9 : V.cell? ⟨w.heap.size, 9, none⟩ = some (.int .i64 wy) := b1.cell 9
 have q4 : V.cell? ⟨w.heap.size, 4, none⟩ = some (.bool six) := b1.cell 4
 have q5 : V.cell? ⟨w.heap.size, 5, none⟩ = some (.int .u64 (ah : Int)) := b1.cell 5
 have q6 : V.cell? ⟨w.heap.size, 6, none⟩ = some (.int .u64 (al : Int)) := b1.cell 6
 have hc0 := qy (small_any k)
 go_wp2_with fail
 refine (hc0.out _).mono ?_
 rintro e1 w1 ⟨rfl, rfl⟩
 clear hc0
 cases hk : shB k with
 | false =>
  have hno : Hid (rightB k v b e six ah al wy ms = false) := qy (by simp [rightB, hk])
  go_upto_region 3 with (fail)
  go_loop [3, 4] (fun O I => O = .bool false ∧ I = .int .i64 0) (fun _ _ => 0)
  case atStart => exact ⟨by first | rfl | (simp; omega), rfl⟩
  case round =>
   obtain ⟨rfl, rfl⟩ := hrel
   by_cases h0 : 0 < n
   ·have i0 : (0 : Int) < (n : Int) := by omega
    go_wp2
    go_ret
    exact RetV.is_ (by rw [hno.out]; rfl) be
   ·first
    | (exfalso; omega)
    |
     have i0 : ¬ (0 : Int) < (n : Int) := by omega
     go_wp2
     go_ret
     exact RetV.is_ (by rw [hno.out]; rfl) be
 | true =>
  have hc1 := qy (small_any v)
  go_wp2_with fail
  refine (hc1.out _).mono ?_
  rintro e1 w1 ⟨rfl, rfl⟩
  clear hc1
  cases hv : shB v with
  | false =>
   have hno : Hid (rightB k v b e six ah al wy ms = false) := qy (by simp [rightB, hv])
   go_upto_region 3 with (fail)
   go_loop [3, 4] (fun O I => O = .bool false ∧ I = .int .i64 0) (fun _ _ => 0)
   case atStart => exact ⟨by first | rfl | (simp; omega), rfl⟩
   case round =>
    obtain ⟨rfl, rfl⟩ := hrel
    by_cases h0 : 0 < n
    ·have i0 : (0 : Int) < (n : Int) := by omega
     go_wp2
     go_ret
     exact RetV.is_ (by rw [hno.out]; rfl) be
    ·first
     | (exfalso; omega)
     |
      have i0 : ¬ (0 : Int) < (n : Int) := by omega
      go_wp2
      go_ret
      exact RetV.is_ (by rw [hno.out]; rfl) be
  | true =>
   have hc2 := qy (small_any b)
   go_wp2_with fail
   refine (hc2.out _).mono ?_
   rintro e1 w1 ⟨rfl, rfl⟩
   clear hc2
   cases hb : shB b with
   | false =>
    have hno : Hid (rightB k v b e six ah al wy ms = false) := qy (by simp [rightB, hb])
    go_upto_region 3 with (fail)
    go_loop [3, 4] (fun O I => O = .bool false ∧ I = .int .i64 0) (fun _ _ => 0)
    case atStart => exact ⟨by first | rfl | (simp; omega), rfl⟩
    case round =>
     obtain ⟨rfl, rfl⟩ := hrel
     by_cases h0 : 0 < n
     ·have i0 : (0 : Int) < (n : Int) := by omega
      go_wp2
      go_ret
      exact RetV.is_ (by rw [hno.out]; rfl) be
     ·first
      | (exfalso; omega)
      |
       have i0 : ¬ (0 : Int) < (n : Int) := by omega
       go_wp2
       go_ret
       exact RetV.is_ (by rw [hno.out]; rfl) be
   | true =>
    have hc3 := qy (small_any e)
    go_wp2_with fail
    refine (hc3.out _).mono ?_
    rintro e1 w1 ⟨rfl, rfl⟩
    clear hc3
    cases he : shB e with
    | false =>
     have hno : Hid (rightB k v b e six ah al wy ms = false) := qy (by simp [rightB, he])
     go_upto_region 3 with (fail)
     go_loop [3, 4] (fun O I => O = .bool false ∧ I = .int .i64 0) (fun _ _ => 0)
     case atStart => exact ⟨by first | rfl | (simp; omega), rfl⟩
     case round =>
      obtain ⟨rfl, rfl⟩ := hrel
      by_cases h0 : 0 < n
      ·have i0 : (0 : Int) < (n : Int) := by omega
       go_wp2
       go_ret
       exact RetV.is_ (by rw [hno.out]; rfl) be
      ·first
       | (exfalso; omega)
       |
        have i0 : ¬ (0 : Int) < (n : Int) := by omega
        go_wp2
        go_ret
        exact RetV.is_ (by rw [hno.out]; rfl) be
    | true =>
     have hc4 := qy (small_any wy)
     go_wp2_with fail
     refine (hc4.out _).mono ?_
     rintro e1 w1 ⟨rfl, rfl⟩
     clear hc4
     cases hw : shB wy with
     | false =>
      have hno : Hid (rightB k v b e six ah al wy ms = false) := qy (by simp [rightB, hw])
      go_upto_region 3 with (fail)
      go_loop [3, 4] (fun O I => O = .bool false ∧ I = .int .i64 0) (fun _ _ => 0)
      case atStart => exact ⟨by first | rfl | (simp; omega), rfl⟩
      case round =>
       obtain ⟨rfl, rfl⟩ := hrel
       by_cases h0 : 0 < n
       ·have i0 : (0 : Int) < (n : Int) := by omega
        go_wp2
        go_ret
        exact RetV.is_ (by rw [hno.out]; rfl) be
       ·first
        | (exfalso; omega)
        |
         have i0 : ¬ (0 : Int) < (n : Int) := by omega
         go_wp2
         go_ret
         exact RetV.is_ (by rw [hno.out]; rfl) be
     | true =>
      go_wp2_with fail
      refine (HAR.out _).mono ?_
      rintro e1 w1 ⟨bs1, d1, rfl, rfl⟩
      replace b1 := b1.later (below_plus V bs1 d1)
      replace hr := hr.later (below_plus V bs1 d1)
      replace be := belowP be bs1 d1
      have q10 : (plus V bs1 d1).cell? ⟨w.heap.size, 10, none⟩ = some (.slice A n c) := b1.cell 10
      clear HAR q10' q4 q5 q6 q0 q1 q2 q3 q9
      generalize plus V bs1 d1 = V2 at *
      cases had : adG six ah al with
      | false =>
       have hno : Hid (rightB k v b e six ah al wy ms = false) := qy (by simp [rightB, had])
       go_upto_region 3 with (fail)
       go_loop [3, 4] (fun O I => O = .bool false ∧ I = .int .i64 0) (fun _ _ => 0)
       case atStart => exact ⟨by first | rfl | (simp; omega), rfl⟩
       case round =>
        obtain ⟨rfl, rfl⟩ := hrel
        by_cases h0 : 0 < n
        ·have i0 : (0 : Int) < (n : Int) := by omega
         go_wp2
         go_ret
         exact RetV.is_ (by rw [hno.out]; rfl) be
        ·first
         | (exfalso; omega)
         |
          have i0 : ¬ (0 : Int) < (n : Int) := by omega
          go_wp2
          go_ret
          exact RetV.is_ (by rw [hno.out]; rfl) be
      | true =>
       by_cases h64 : n ≤ 64
       ·have i64 : (n : Int) ≤ 64 := by omega
        have HY : Hid (rightB k v b e six ah al wy ms = ms.all (fun p => shB p.1 && shB p.2)) := qy (by simp [rightB, hk, hv, hb, he, hw, had]; omega)
        clear hk hv hb he hw had
        go_upto_region 3 with (fail)
        go_loop [3, 4] (fun O I => ∃ (i : Nat) (ok : Bool), I = .int .i64 (i : Int) ∧ O = .bool ok ∧ i ≤ n ∧ (ms.take i).all (fun p => shB p.1 && shB p.2) = ok) (fun _ I => n - (intOf I).toNat)
        case atStart => exact ⟨0, true, rfl, rfl, Nat.zero_le _, rfl⟩
        case round =>
         obtain ⟨i, ok, rfl, rfl, hi, hall⟩ := hrel
         by_cases hlt : i < n
         ·have ii : (i : Int) < (n : Int) := by omega
          have hjL : i < ms.length := by omega
          cases ok with
          | false =>
           have hno : Hid (rightB k v b e six ah al wy ms = false) := qy (by
            rw [HY.out, List.all_eq_false]
            rw [List.all_eq_false] at hall
            obtain ⟨x, h1, h2⟩ := hall
            exact ⟨x, List.mem_of_mem_take h1, h2⟩)
           go_wp2
           go_ret
           exact RetV.is_ (by rw [hno.out]; rfl) be
          | true =>
           obtain ⟨bl, ol, rfl, hbl, -⟩ := hr.at_ (by omega) (by decide)
           obtain ⟨c0, c1⟩ := hr.range2 i hjL
           have hsn : ms.take (i + 1) = ms.take i ++ [ms[i]] := by simp
           generalize ms[i] = p at *
           obtain ⟨x, y⟩ := p
           replace hsn := qy hsn
           replace hall := qy hall
           have hx := qy (small_any x)
           have hy := qy (small_any y)
           simp only [] at c0 c1
           go_wp2_with fail
           refine (hx.out _).mono ?_
           rintro e1 w1 ⟨rfl, rfl⟩
           cases hbx : shB x with
           | false =>
            clear hx hy
            go_wp2
            go_round
            case rel => exact ⟨i + 1, false, by go_num, rfl, by omega, by rw [hsn.out, List.all_append]; simp [hbx]⟩
            case measure => simp [intOf]; omega
           | true =>
            go_wp2_with fail
            refine (hy.out _).mono ?_
            rintro e1 w1 ⟨rfl, rfl⟩
            clear hx hy
            go_wp2
            go_round
            case rel => exact ⟨i + 1, shB y, by go_num, rfl, by omega, by rw [hsn.out, List.all_append, hall.out]; simp [hbx]⟩
            case measure => simp [intOf]; omega
         ·obtain rfl : i = n := by omega
          have ii : ¬ (i : Int) < (i : Int) := by omega
          have hyes : Hid (rightB k v b e six ah al wy ms = ok) := qy (by rw [HY.out, ← hall, List.take_of_length_le (by omega)])
          go_wp2
          go_ret
          exact RetV.is_ (by rw [hyes.out]; rfl) be
       ·have i64 : ¬ (n : Int) ≤ 64 := by omega
        have hml9 : ¬ ms.length ≤ 64 := by omega
        have hno : Hid (rightB k v b e six ah al wy ms = false) := qy (by simp [rightB, hml9])
        go_upto_region 3 with (fail)
        go_loop [3, 4] (fun O I => O = .bool false ∧ I = .int .i64 0) (fun _ _ => 0)
        case atStart => exact ⟨by first | rfl | (simp; omega), rfl⟩
        case round =>
         obtain ⟨rfl, rfl⟩ := hrel
         by_cases h0 : 0 < n
         ·have i0 : (0 : Int) < (n : Int) := by omega
          go_wp2
          go_ret
          exact RetV.is_ (by rw [hno.out]; rfl) be
         ·first
          | (exfalso; omega)
          |
           have i0 : ¬ (0 : Int) < (n : Int) := by omega
           go_wp2
           go_ret
           exact RetV.is_ (by rw [hno.out]; rfl) be
def sizeA (six : Bool) : Nat := if six then 16 else 4
def placeB (six : Bool) (ah al : Nat) : List UInt8 := dig (sizeA six) 1 ++ adrB six ah al
def RetRb (w : World) (l : List UInt8) (e : Ending) (w' : World) : Prop := ∃ A n c bs d, e = .returned (.slice A n c) ∧ w' = plus w bs d ∧ Rb (plus w bs d) A n c l
theorem RetRb.mk {w w' : World} {l : List UInt8} {A : Option Addr} {n c : Nat} (ho : Rb w' A n c l) (hb : Below w.heap.size w w') : RetRb w l (.returned (.slice A n c)) w' := by
 obtain ⟨bs, d, rfl⟩ := plus_of hb
 exact ⟨A, n, c, bs, d, rfl, rfl, ho⟩
theorem addrSize_any (six : Bool) (ah al : Nat) (w : World) : Calls Tryz.prog 95 #[.agg (adC six ah al).toArray] w (RetV w (.int .i64 (sizeA six : Nat))) := by
 cases six
 ·have b1 : Bk (w.alloc (.cells (adC false ah al).toArray 53)) w.heap.size 53 (adC false ah al) := Bk.new w 53 _
  have q0 : (w.alloc (.cells (adC false ah al).toArray 53)).cell? ⟨w.heap.size, 0, none⟩ = some (.bool false) := b1.cell 0
  go_enter Tryz.func95, Tryz.ntmps95
  go_wp2
  go_ret
  exact RetV.is_ rfl (Below.allocS (Below.refl _ _) _)
 ·have b1 : Bk (w.alloc (.cells (adC true ah al).toArray 53)) w.heap.size 53 (adC true ah al) := Bk.new w 53 _
  have q0 : (w.alloc (.cells (adC true ah al).toArray 53)).cell? ⟨w.heap.size, 0, none⟩ = some (.bool true) := b1.cell 0
  go_enter Tryz.func95, Tryz.ntmps95
  go_wp2
  go_ret
  exact RetV.is_ rfl (Below.allocS (Below.refl _ _) _)
theorem address_any (six : Bool) (ah al : Nat) (w : World) (h1 : ah < 18446744073709551616) (h2 : al < 18446744073709551616) : Calls Tryz.prog 54 #[.agg (adC six ah al).toArray] w (RetRb w (placeB six ah al)) := by
 obtain ⟨da, a1, a2⟩ : ∃ d, Tryz.prog.underlying 53 = some d ∧ d.isRow = true := ⟨_, Tryz.underlying53, rfl⟩
 obtain ⟨z, hz⟩ : ∃ z, sizeA six = z := ⟨_, rfl⟩
 have hzz : z ≤ 16 := by rw [← hz]; cases six <;> simp [sizeA]
 have HSZ := qy (fun w => addrSize_any six ah al w)
 have hwz : IntKind.u64.wrap (z : Int) = (z : Int) := IntWalk.u64_in _ (by omega)
 have HPU : Hid (∀ w, Calls Tryz.prog 51 #[.slice none 0 0, .int .u64 (z : Int), .int .i64 1] w (RetF w (dig z 1))) := qy (fun w => put_full none 0 0 [] z 1 w Rb.nil_ (by omega) (by omega) (by omega) (by omega))
 have HAB := qy (fun w => adrBytes_any six ah al w h1 h2)
 unfold placeB
 rw [hz] at HSZ ⊢
 clear hz
 obtain ⟨b1, be, zV⟩ := box1 w 53 (adC six ah al)
 go_enter Tryz.func54, Tryz.ntmps54
 go_upto_region 1 with (fail)
 generalize w.alloc (.cells (adC six ah al).toArray 53) = V at *
 have zV1 := b1.lt
 go_wp2
 refine wp_relS 8 10 rfl (by kernel_rfl) (by kernel_rfl) ?_
 apply qm 1 rfl rfl
 ·intro FA x hO hD K hK
  have e1 := hO 1
  simp only [eval_tmp, qgT, qgS, qgZ, qoS] at e1
  have ev1 := qy ((eval_tmp FA 1).trans e1)
  clear hO hD
  refine wanted_if rfl ?_
  refine wp_ldA 53 (.tmp 1) rfl (adC six ah al) ev1.out (b1.later bpl) (whole_ _) a1 a2 (szAd _ _ _) ?_
  exact qk hK rfl
 apply qm 2 rfl rfl
 ·intro FA x hO hD K hK
  have e3 := qe (hD 0 3)
  clear hO hD
  go_simp
  refine (HSZ.out _).mono ?_
  rintro e w1 ⟨bs2, d2, rfl, rfl⟩
  exact hK.out _ _ (Ex.plus_ _ _ _) rfl
 refine qa 1 4 3 ?_
 apply qo (φ := (MP.of V.heap.size (dig z 1))) 4 rfl rfl
 ·intro FA x hO hD K hK
  have e5 := qe (hD 2 5)
  clear hO hD
  go_simp
  refine (HPU.out _).mono ?_
  rintro e w1 ⟨A2, n2, bs2, d2, rfl, rfl, ho2⟩
  exact hK.out _ _ (Ex.plus_ _ _ _) ⟨_, _, rfl, ho2.mono (by simp [size_plus])⟩
 apply qm 5 rfl rfl
 ·intro FA x hO hD K hK
  have e1 := hO 1
  simp only [eval_tmp, qgT, qgS, qgZ, qoS] at e1
  have ev1 := qy ((eval_tmp FA 1).trans e1)
  clear hO hD
  refine wanted_if rfl ?_
  refine wp_ldA 53 (.tmp 1) rfl (adC six ah al) ev1.out (b1.later bpl) (whole_ _) a1 a2 (szAd _ _ _) ?_
  exact qk hK rfl
 apply qo (φ := (MP.rb (adrB six ah al))) 6 rfl rfl
 ·intro FA x hO hD K hK
  have e7 := qe (hD 4 7)
  clear hO hD
  go_simp
  refine (HAB.out _).mono ?_
  rintro e w1 ⟨A2, n2, bs2, d2, rfl, rfl, ho2⟩
  exact hK.out _ _ (Ex.plus_ _ _ _) ⟨_, _, _, rfl, ho2.rb⟩
 apply qo (φ := (MP.rb (dig z 1 ++ adrB six ah al))) 7 rfl rfl
 ·intro FA x hO hD K hK
  obtain ⟨u6, f6, e6, ev6⟩ := qG (hD 3 6)
  obtain ⟨u8, f8, e8, ev8⟩ := qG (hD 5 8)
  clear hO hD
  obtain ⟨A1, n1, rfl, hr1⟩ := f6
  obtain ⟨A2, n2, c2, rfl, hr2⟩ := f8
  have hn1 : n1 = 1 := by have := hr1.rb.1; simp [dig_length] at this; omega
  have hn2 : n2 ≤ 16 := by have := hr2.1; have := adrB_length six ah al; omega
  refine wanted_if rfl ?_
  refine rel_app bt (.tmp 6) (.tmp 8) rfl ev6.out hr1.rb ev8.out hr2 (by omega) ?_
  intro A3 n3 c3 w3 hex hr3
  exact hK.out _ _ hex ⟨_, _, _, rfl, hr3⟩
 apply qo (φ := (MP.rb (dig z 1 ++ adrB six ah al))) 8 rfl rfl
 ·intro FA x hO hD K hK
  obtain ⟨u9, f9, e9, ev9⟩ := qG (hD 6 9)
  clear hO hD
  go_simp
  exact qk hK f9
 refine Steps.fin_ (fun vs x hp => ?_)
 have p3 := hp 3 qd
 have p5 := hp 5 qd
 have p6 := hp 6 qd
 have p7 := hp 7 qd
 simp only [qta, qtb, qda, qdb, putAll, Nat.zero_add, Nat.reduceAdd, Act.put, qsT, qsZ, qsS, qi (hp 0 qd), qi (hp 1 qd), qi (hp 2 qd), qi (hp 4 qd)]
 clear hp
 generalize vs 3 = y3 at *
 generalize vs 5 = y5 at *
 generalize vs 6 = y6 at *
 generalize vs 7 = y7 at *
 clear vs
 go_wp2
 obtain ⟨A3, n3, c3, rfl, h3⟩ := p7
 go_ret
 exact RetRb.mk h3 (belowP be _ _)
theorem bcs_dig1 (z : Nat) (h : z < 256) : bcs (dig z 1) = [.int .u8 (z : Int)] := by
 simp [dig, bcs]
 omega
def pairsB (ms : List (Int × Int)) : List UInt8 := ms.flatMap fun p => [UInt8.ofNat p.1.toNat, UInt8.ofNat p.2.toNat]
def membersB (ms : List (Int × Int)) : List UInt8 := dig ms.length 1 ++ pairsB ms
theorem pairsB_len : ∀ ms, (pairsB ms).length = 2 * ms.length
 | [] => rfl
 | p :: r => by have := pairsB_len r; simp [pairsB] at this ⊢; omega
theorem members_any (ms : List (Int × Int)) (A : Option Addr) (n c : Nat) (w : World) (hr : Rs 2 w A n c (prs .i64 ms)) (hn : n ≤ 64) (hg : ms.all (fun p => shB p.1 && shB p.2) = true) : Calls Tryz.prog 88 #[.slice A n c] w (RetRb w (membersB ms)) := by
 obtain ⟨dm, m1, m2⟩ : ∃ d, Tryz.prog.underlying 128 = some d ∧ d.isRow = true := ⟨_, Tryz.underlying128, rfl⟩
 have hml : ms.length = n := by have := hr.1; rw [prs_length] at this; omega
 have hwn : IntKind.u64.wrap (n : Int) = (n : Int) := IntWalk.u64_in _ (by omega)
 have HPU : Hid (∀ w, Calls Tryz.prog 51 #[.slice none 0 0, .int .u64 (n : Int), .int .i64 1] w (RetF w (dig n 1))) := qy (fun w => put_full none 0 0 [] n 1 w Rb.nil_ (by omega) (by omega) (by omega) (by omega))
 have hM : membersB ms = dig n 1 ++ pairsB ms := by unfold membersB; rw [hml]
 rw [hM]
 clear hM
 have hd1 : (dig n 1).length = 1 := dig_length _ _
 generalize dig n 1 = D at *
 go_enter Tryz.func88, Tryz.ntmps88
 go_wp2_with fail
 refine (HPU.out _).mono ?_
 rintro e w1 ⟨A2, n2, bs2, d2, rfl, rfl, ho⟩
 have hE0 := below_plus w bs2 d2
 generalize plus w bs2 d2 = V at *
 clear HPU hwn
 go_upto_region 3 with (fail)
 have hS0 := qy ho
 clear ho
 go_loopw [3, 12] (fun X I wr => ∃ i : Nat, ∃ B m d, I = .int .i64 (i : Int) ∧ i ≤ n ∧ X = .slice B m d ∧ Ob wr w.heap.size B m d (D ++ pairsB (ms.take i)) ∧ Below w.heap.size w wr) (fun _ I _ => n - (intOf I).toNat)
 case atStart => exact ⟨0, A2, n2, n2, rfl, Nat.zero_le _, rfl, by simpa [pairsB] using hS0.out, hE0⟩
 case round =>
  obtain ⟨i, B, m, d, rfl, hi, rfl, ho, hE⟩ := hrel
  have hmm : m ≤ 1 + 2 * i := by
   have := ho.rb.1
   rw [List.length_append, pairsB_len, hd1, List.length_take] at this
   omega
  by_cases hlt : i < n
  ·have ii : (i : Int) < (n : Int) := by omega
   have hjL : i < ms.length := by omega
   obtain ⟨bl, ol, rfl, hbl, -⟩ := (hr.later hE).at_ (by omega) (by decide)
   have hg7 := rng_pr ((hr.later hE).range2 i hjL)
   have hsn : pairsB (ms.take (i + 1)) = pairsB (ms.take i) ++ [UInt8.ofNat ms[i].1.toNat, UInt8.ofNat ms[i].2.toNat] := by
    have e : ms.take (i + 1) = ms.take i ++ [ms[i]] := by simp
    rw [e]
    unfold pairsB
    rw [List.flatMap_append]
    rfl
   have hmem : shB ms[i].1 = true ∧ shB ms[i].2 = true := by
    have := List.all_eq_true.1 hg ms[i] (List.getElem_mem hjL)
    simpa using this
   generalize ms[i] = p at *
   obtain ⟨x, y⟩ := p
   replace hsn := qy hsn
   have hxb : 0 ≤ x ∧ x < 256 := by simpa [shB] using hmem.1
   have hyb : 0 ≤ y ∧ y < 256 := by simpa [shB] using hmem.2
   clear hmem
   have wx : IntKind.u8.wrap x = x := IntWalk.u8_in _ (by omega)
   have wy : IntKind.u8.wrap y = y := IntWalk.u8_in _ (by omega)
   go_upto_region 5 with (first
    | (refine at_op (.load 128 (.tmp 14)) rfl ?_; refine wpList_load_mid rfl 128 (.tmp 14) rfl bl (ol + i * 2) rfl [.int .i64 x, .int .i64 y] _ hg7 m1 m2 (by kernel_rfl) ?_)
    | (refine at_op (.store 128 (.tmp 5) (.tmp 15)) rfl ?_; refine wpList_stA (t := 128) 128 (.tmp 5) (.tmp 15) rfl rfl [.int .i64 x, .int .i64 y] [.int .i64 0, .int .i64 0] rfl (by simp [Value.oneCell']) rfl rfl (Bk.new _ _ _) (by kernel_rfl) ?_; intro W4 h4 g4))
   have be4 : Below wr.heap.size wr W4 := below_grown (Below.allocS (Below.refl _ _) _) g4 (Nat.le_refl _)
   have q0 : W4.cell? ⟨wr.heap.size, 0, none⟩ = some (.int .i64 x) := h4.cell 0
   have q1 : W4.cell? ⟨wr.heap.size, 1, none⟩ = some (.int .i64 y) := h4.cell 1
   replace ho := ho.later be4
   replace hE := hE.trans (be4.mono hE.size)
   clear be4 h4 g4
   generalize wr.heap.size = g6 at *
   have zE := hE.size
   go_wp2_with (at_builtin; refine wpList_app bt rfl (.tmp 16) (.tmp 23) rfl rfl (ho.alloc _) rfl (Rb.litW _ [UInt8.ofNat x.toNat, UInt8.ofNat y.toNat] rfl rfl (by decide) (by simp [bcs]; omega)) (by omega) (by simp; omega) ?_; intro A3 n3 c3 w3 ho3 hb3 hg3)
   exact ⟨⟨i + 1, A3, n3, c3, by go_num, by omega, rfl, by rw [hsn.out, ← List.append_assoc]; exact ho3, hE.trans (((Below.refl W4.heap.size W4).alloc (Nat.le_refl _) _ |>.mono zE).trans hb3)⟩, by simp [intOf]; omega⟩
  ·obtain rfl : i = n := by omega
   have ii : ¬ (i : Int) < (i : Int) := by omega
   have ho9 : Ob wr w.heap.size B m d (D ++ pairsB ms) := by rw [List.take_of_length_le (by omega)] at ho; exact ho
   clear ho
   go_wp2
   go_ret
   exact RetRb.mk ho9.rb hE
theorem refMembers_any (ms : List (Int × Int)) (A : Option Addr) (n c : Nat) (w : World) (hr : Rs 2 w A n c (prs .i64 ms)) (hn : n ≤ 64) (hg : ms.all (fun p => shB p.1 && shB p.2) = true) : Calls Tryz.prog 63 #[.slice A n c] w (RetRb w (membersB ms)) := by
 have hml : ms.length = n := by have := hr.1; rw [prs_length] at this; omega
 have hwn : IntKind.u8.wrap (n : Int) = (n : Int) := IntWalk.u8_in _ (by omega)
 have hM : membersB ms = dig n 1 ++ pairsB ms := by unfold membersB; rw [hml]
 rw [hM]
 clear hM
 have hd1 : (dig n 1).length = 1 := dig_length _ _
 have hlit : Hid (Ob (w.alloc (.cells #[.int .u8 (n : Int)] 5)) w.heap.size (some ⟨w.heap.size, 0, none⟩) 1 1 (dig n 1)) := qy (Ob.of_bk (by rw [bcs_dig1 n (by omega)]; exact Bk.new _ _ _) (Nat.le_refl _) (by simp [dig_length]) (by simp [maxLen]))
 generalize dig n 1 = D at *
 have hE0 : Below w.heap.size w (w.alloc (.cells #[.int .u8 (n : Int)] 5)) := Below.allocS (Below.refl _ _) _
 go_enter Tryz.func63, Tryz.ntmps63
 go_upto_region 3 with (fail)
 go_loopw [3, 4] (fun X I wr => ∃ i : Nat, ∃ B m d, I = .int .i64 (i : Int) ∧ i ≤ n ∧ X = .slice B m d ∧ Ob wr w.heap.size B m d (D ++ pairsB (ms.take i)) ∧ Below w.heap.size w wr) (fun _ I _ => n - (intOf I).toNat)
 case atStart => exact ⟨0, _, 1, 1, rfl, Nat.zero_le _, rfl, by simpa [pairsB] using hlit.out, hE0⟩
 case round =>
  obtain ⟨i, B, m, d, rfl, hi, rfl, ho, hE⟩ := hrel
  have hmm : m ≤ 1 + 2 * i := by
   have := ho.rb.1
   rw [List.length_append, pairsB_len, hd1, List.length_take] at this
   omega
  by_cases hlt : i < n
  ·have ii : (i : Int) < (n : Int) := by omega
   have hjL : i < ms.length := by omega
   obtain ⟨bl, ol, rfl, hbl, -⟩ := (hr.later hE).at_ (by omega) (by decide)
   have HC := qy (fun (W : World) (h : Below wr.heap.size wr W) => (hr.later (hE.trans (h.mono hE.size))).range2 i hjL)
   have hsn : pairsB (ms.take (i + 1)) = pairsB (ms.take i) ++ [UInt8.ofNat ms[i].1.toNat, UInt8.ofNat ms[i].2.toNat] := by
    have e : ms.take (i + 1) = ms.take i ++ [ms[i]] := by simp
    rw [e]
    unfold pairsB
    rw [List.flatMap_append]
    rfl
   have hmem : shB ms[i].1 = true ∧ shB ms[i].2 = true := by
    have := List.all_eq_true.1 hg ms[i] (List.getElem_mem hjL)
    simpa using this
   generalize ms[i] = p at *
   obtain ⟨px, py⟩ := p
   replace hsn := qy hsn
   have hxb : 0 ≤ px ∧ px < 256 := by simpa [shB] using hmem.1
   have hyb : 0 ≤ py ∧ py < 256 := by simpa [shB] using hmem.2
   clear hmem
   simp only [] at HC
   have wx : IntKind.u8.wrap px = px := IntWalk.u8_in _ (by omega)
   have wy : IntKind.u8.wrap py = py := IntWalk.u8_in _ (by omega)
   go_upto_region 5 with (fail)
   go_wp2
   refine wp_relS 14 31 rfl (by kernel_rfl) (by kernel_rfl) ?_
   refine qb 3 1 ?_
   refine qb 0 2 ?_
   refine qb 4 3 ?_
   refine qc 1 16 2 17 4 ?_
   refine qa 3 18 5 ?_
   apply qm 6 rfl rfl
   ·intro FA x hO hD K hK
    have e19 := qe (hD 4 19)
    clear hO hD
    have q9 := (HC.out (plus wr x.bs x.d) bpl).1
    go_simp
    exact qk hK rfl
   refine qa 5 20 7 ?_
   refine qb 0 8 ?_
   refine qb 4 9 ?_
   refine qc 7 22 8 23 10 ?_
   refine qa 9 24 11 ?_
   apply qm 12 rfl rfl
   ·intro FA x hO hD K hK
    have e25 := qe (hD 10 25)
    clear hO hD
    have q9 := (HC.out (plus wr x.bs x.d) bpl).2
    go_simp
    exact qk hK rfl
   refine qa 11 26 13 ?_
   apply qo (φ := (MP.rb [UInt8.ofNat px.toNat, UInt8.ofNat py.toNat])) 14 rfl rfl
   ·intro FA x hO hD K hK
    have e21 := qe (hD 6 21)
    have e27 := qe (hD 12 27)
    clear hO hD
    go_simp
    refine hK.out _ _ (Ex.alloc _ _) ⟨_, _, _, rfl, ?_⟩
    exact Rb.litW _ [UInt8.ofNat px.toNat, UInt8.ofNat py.toNat] (by simp [size_plus]) rfl (by decide) (by simp [bcs]; omega)
   refine Steps.fin_ (fun vs x hp => ?_)
   have p13 := hp 13 qd
   simp only [qta, qtb, qda, qdb, putAll, Nat.zero_add, Nat.reduceAdd, Act.put, qsT, qsZ, qsS, qi (hp 0 qd), qi (hp 1 qd), qi (hp 2 qd), qi (hp 3 qd), qi (hp 4 qd), qi (hp 5 qd), qi (hp 6 qd), qi (hp 7 qd), qi (hp 8 qd), qi (hp 9 qd), qi (hp 10 qd), qi (hp 11 qd), qi (hp 12 qd)]
   clear hp
   generalize vs 13 = y13 at *
   clear vs
   obtain ⟨A8, n8, c8, rfl, h8⟩ := p13
   have hn8 : n8 ≤ 2 := by have := h8.1; simp at this; omega
   have b4 := below_plus wr x.bs x.d
   replace ho := ho.later b4
   replace hE := hE.trans (b4.mono hE.size)
   clear b4 HC
   have zE := hE.size
   generalize plus wr x.bs x.d = W4 at *
   go_wp2_with (at_builtin; refine wpList_app bt rfl (.tmp 15) (.tmp 28) rfl rfl ho rfl h8 (by omega) zE ?_; intro A3 n3 c3 w3 ho3 hb3 hg3)
   exact ⟨⟨i + 1, A3, n3, c3, by go_num, by omega, rfl, by rw [hsn.out, ← List.append_assoc]; exact ho3, hE.trans hb3⟩, by simp [intOf]; omega⟩
  ·obtain rfl : i = n := by omega
   have ii : ¬ (i : Int) < (i : Int) := by omega
   have ho9 : Ob wr w.heap.size B m d (D ++ pairsB ms) := by rw [List.take_of_length_le (by omega)] at ho; exact ho
   clear ho
   go_wp2
   go_ret
   exact RetRb.mk ho9.rb hE
def opB (k v b e : Nat) (six : Bool) (ah al pt pr wy : Nat) (ms : List (Int × Int)) : List UInt8 := dig k 1 ++ dig v 1 ++ dig b 1 ++ dig e 1 ++ placeB six ah al ++ dig pt 2 ++ dig pr 1 ++ dig wy 1 ++ membersB ms
theorem placeB_len (six : Bool) (ah al : Nat) : (placeB six ah al).length = 1 + (adrB six ah al).length := by simp [placeB, dig_length]
end

section
open Go.RowKit
def mv (p : Int × Int) : Value := .agg #[.int .i64 p.1, .int .i64 p.2]
abbrev MvE := (Int × Int) × Nat × Nat
def mvE (x : MvE) : MapEntry := { key := mv x.1, val := .int .u64 (x.2.1 : Int), born := x.2.2 }
def mvIx (p : Int × Int) : List MvE → Nat → Option (Nat × Value)
 | [], _ => none
 | x :: r, i => if p = x.1 then some (i, .int .u64 (x.2.1 : Int)) else mvIx p r (i + 1)
def mvAt (p : Int × Int) : List MvE → Nat
 | [] => 0
 | x :: r => if p = x.1 then x.2.1 else mvAt p r
def mvPut (p : Int × Int) (n k : Nat) : List MvE → List MvE
 | [] => [(p, n, k)]
 | x :: r => if p = x.1 then (x.1, n, x.2.2) :: r else x :: mvPut p n k r
theorem mvAt_put (p q : Int × Int) (n k : Nat) : ∀ L, mvAt q (mvPut p n k L) = if q = p then n else mvAt q L
 | [] => by simp [mvPut, mvAt]
 | x :: r => by
  have ih := mvAt_put p q n k r
  simp only [mvPut]
  by_cases h : p = x.1
  ·rw [if_pos h]
   simp only [mvAt]
   rw [h]
   split <;> rfl
  ·rw [if_neg h]
   simp only [mvAt]
   by_cases h2 : q = x.1
   ·have h3 : ¬ q = p := fun e => h (e.symm.trans h2)
    rw [if_pos h2, if_neg h3, if_pos h2]
   ·rw [if_neg h2, if_neg h2, ih]
structure MvT (P : Program) (MT KT : TypeId) : Prop where
 mt : ∃ et, P.underlying MT = some (.map KT et) ∧ ∀ w, (zeroValue et).run P w = .ok (.int .u64 0) w
 eq : ∀ w (p q : Int × Int), (Op.equal KT (mv p) (mv q)).run P w = .ok (decide (p = q)) w
 ck : ∀ w e (p : Int × Int), (Instr.checkKey e 10000 KT (mv p)).run P w = .ok () w
 kd : ∃ d, P.underlying KT = some d ∧ ∀ a b, Instr.sameNow d a b = none
section
variable {P : Program} {MT KT : TypeId} (H : MvT P MT KT)
include H
theorem run_findAsk (w : World) (p : Int × Int) : ∀ (L : List MvE) (i : Nat), (Instr.findAsking KT (mv p) (L.map mvE) i).run P w = .ok (mvIx p L i) w
 | [], i => by simp [Instr.findAsking, mvIx]
 | x :: r, i => by
  have ih := run_findAsk w p r (i + 1)
  have e := H.eq w p x.1
  have e' : (Op.equal KT (mv p) (mvE x).key).run P w = .ok (decide (p = x.1)) w := e
  simp only [List.map_cons, Instr.findAsking, Sem.run_bind, e', Result.andThen_ok, mvIx]
  by_cases h : p = x.1
  ·simp [h, mvE]
  ·simp [h, ih]
theorem run_findKeyV (w : World) (p : Int × Int) (L : List MvE) : (Instr.findKey KT (mv p) (L.map mvE)).run P w = .ok (mvIx p L 0) w := by
 obtain ⟨d, hd, hn⟩ := H.kd
 have ha := run_findAsk H w p L 0
 cases L with
 | nil => simp [Instr.findKey, run_underlying hd, Result.andThen, Instr.findNow, mvIx]
 | cons x r =>
  have : Instr.findNow d (mv p) ((x :: r).map mvE) 0 = none := by simp [Instr.findNow, hn]
  rw [List.map_cons] at this ha ⊢
  simp only [Instr.findKey, Sem.run_bind, run_underlying hd, Result.andThen_ok, this]
  exact ha
theorem run_lookupV (w : World) (r : Nat) (L : List MvE) (k : Nat) (hb : w.heap[r]? = some (.map (L.map mvE).toArray k)) (p : Int × Int) : (Instr.lookup MT (.map (some r)) (mv p) false).run P w = .ok (.int .u64 (mvAt p L : Int)) w := by
 obtain ⟨et, hm, hz⟩ := H.mt
 have hf := run_findKeyV H w p L
 have hx : ∀ (L : List MvE) (i : Nat), (∃ j v, mvIx p L i = some (j, v) ∧ v = .int .u64 (mvAt p L : Int)) ∨ (mvIx p L i = none ∧ mvAt p L = 0) := by
  intro L
  induction L with
  | nil => intro i; exact .inr ⟨rfl, rfl⟩
  | cons x r ih =>
   intro i
   simp only [mvIx, mvAt]
   by_cases h : p = x.1
   ·rw [if_pos h, if_pos h]
    exact .inl ⟨_, _, rfl, rfl⟩
   ·rw [if_neg h, if_neg h]
    exact ih (i + 1)
 have hg : (getObj r).run P w = .ok (.map (L.map mvE).toArray k) w := by simp [getObj, Sem.run, hb]
 unfold Instr.lookup
 simp only [Sem.run_bind, run_underlying hm, Result.andThen_ok, hg, H.ck, hf, Sem.run_pure]
 rcases hx L 0 with ⟨j, v, h1, h2⟩ | ⟨h1, h2⟩
 ·simp [h1, h2]
 ·simp [h1, h2, hz, Result.andThen]
theorem run_updateV (w : World) (r : Nat) (L : List MvE) (k : Nat) (hb : w.heap[r]? = some (.map (L.map mvE).toArray k)) (p : Int × Int) (n : Nat) : ∃ k', (Instr.mapUpdate MT (.map (some r)) (mv p) (.int .u64 (n : Int))).run P w = .ok () { w with heap := w.heap.setIfInBounds r (.map ((mvPut p n k L).map mvE).toArray k') } := by
 obtain ⟨et, hm, hz⟩ := H.mt
 have hf := run_findKeyV H w p L
 have hx : ∀ (L : List MvE) (i : Nat), (∃ j v, mvIx p L i = some (i + j, v) ∧ (∃ e, L[j]? = some e ∧ p = e.1 ∧ (mvPut p n k L).map mvE = (L.map mvE).modify j (fun e => { e with key := mv p, val := .int .u64 (n : Int) }))) ∨ (mvIx p L i = none ∧ (mvPut p n k L).map mvE = L.map mvE ++ [mvE (p, n, k)]) := by
  intro L
  induction L with
  | nil => intro i; exact .inr ⟨rfl, rfl⟩
  | cons x r ih =>
   intro i
   simp only [mvIx, mvPut]
   by_cases h : p = x.1
   ·rw [if_pos h, if_pos h]
    exact .inl ⟨0, _, rfl, x, rfl, h, by simp [mvE, h]⟩
   ·rw [if_neg h, if_neg h]
    rcases ih (i + 1) with ⟨j, v, h1, e, h2, h3, h4⟩ | ⟨h1, h2⟩
    ·exact .inl ⟨j + 1, v, by rw [h1]; congr 2; omega, e, by simpa using h2, h3, by simp [h4]⟩
    ·exact .inr ⟨h1, by simp [h2]⟩
 have hg : (getObj r).run P w = .ok (.map (L.map mvE).toArray k) w := by simp [getObj, Sem.run, hb]
 have hso : ∀ o, (setObj r o).run P w = .ok () { w with heap := w.heap.setIfInBounds r o } := fun o => by simp [setObj, Sem.run, hb]
 unfold Instr.mapUpdate
 simp only [Sem.run_bind, run_underlying hm, Result.andThen_ok, hg, H.ck, hf, Sem.run_pure]
 rcases hx L 0 with ⟨j, v, h1, e, h2, h3, h4⟩ | ⟨h1, h2⟩
 ·have hk : ((((L.map mvE).toArray[j]?).map (·.key)).getD (mv p)) = mv p := by simp [h2, mvE, h3]
  have hs : (Instr.keyThatStays (mv p) (mv p)).run P w = .ok (mv p) w := by
   unfold Instr.keyThatStays
   rw [if_pos (by simp [mv, Instr.sameBits])]
   simp
  rw [h1, Nat.zero_add]
  refine ⟨k, ?_⟩
  simp only [hk, Sem.run_bind, hs, Result.andThen_ok, hso, h4]
  congr 4
  simp [List.modify_toArray]
 ·rw [h1]
  refine ⟨k + 1, ?_⟩
  simp only [hso, h2]
  congr 3
  simp [mvE]
def MpB (w : World) (r : Nat) (L : List MvE) : Prop := ∃ k, w.heap[r]? = some (.map (L.map mvE).toArray k)
omit H in
theorem MpB.lt {w : World} {r : Nat} {L : List MvE} (h : MpB w r L) : r < w.heap.size := by
 obtain ⟨k, h⟩ := h
 exact (Array.getElem?_eq_some_iff.1 h).1
omit H in
theorem MpB.grown {w w' : World} {r : Nat} {L : List MvE} {row : Option Nat} (h : MpB w r L) (hg : w.grownBy w' row) (hr : row ≠ some r) : MpB w' r L := by
 have hl := h.lt
 obtain ⟨k, h⟩ := h
 exact ⟨k, (hg.block r hl (fun e => hr e.symm)).trans h⟩
omit H in
theorem MpB.later {w w' : World} {r : Nat} {L : List MvE} (h : MpB w r L) (hb : Below w.heap.size w w') : MpB w' r L := h.grown (grownBy_of_below hb) (by simp)
omit H in
theorem MpB.new (w : World) : MpB (w.alloc (.map #[] 0)) w.heap.size [] := ⟨0, (by show (w.heap.push _)[w.heap.size]? = _; simp)⟩
theorem wpList_mapU {Q : Exit → Act → World → Prop} {w : World} {ops : Array Oper} {rest : List Oper} {o : Oper} {a : Act} (m k x : Operand) (ho : o.op = .mapUpdate MT m k x) (hgd : o.guard = none) {r : Nat} {L : List MvE} {p : Int × Int} {n : Nat} (hm : a.eval m = .map (some r)) (hk : a.eval k = mv p) (hx : a.eval x = .int .u64 (n : Int)) (hb : MpB w r L)
  (h : ∀ w' c, MpB w' r (mvPut p n c L) → w.grownBy w' (some r) → wpList P ops Q rest (a.put o.dst undef) w') : wpList P ops Q (o :: rest) a w := by
 have hlt := hb.lt
 obtain ⟨c, hb⟩ := hb
 obtain ⟨c', hu⟩ := run_updateV H w r L c hb p n
 refine wpList_plain hgd fun _ hK => ?_
 unfold Oper.wp execOp
 simp only [ho, Sem.run_bind, hm, hk, hx, hu, Result.andThen_ok, Sem.run_pure]
 refine hK _ _ (h _ c ⟨c', by simp [hlt]⟩ ⟨rfl, rfl, rfl, by simp, fun i hi hne => Array.getElem?_setIfInBounds_ne (fun e => hne (by rw [e]))⟩)
end
end

section
def opBs (o : OpR) : List UInt8 := opB o.k.toNat o.v.toNat o.b.toNat o.e.toNat o.six o.ah o.al o.pt o.pr o.wy.toNat o.ms
def rgO (o : OpR) : Bool := rightB o.k o.v o.b o.e o.six o.ah o.al o.wy o.ms
def stL (key : List UInt8) (L : List OpR) : Cf := L.foldl apC (cf0 key)
def dlenL (L : List OpR) : Nat := (L.map fun o => 14 + (opBs o).length).sum
def busyL (L : List OpR) (p : Int × Int) : Bool := L.any fun x => decide (x.k = 4) && (decide (x.v = p.1) && decide (x.e = p.2))
def isE (key : List UInt8) (L : List OpR) (o : OpR) : Nat :=
 if rgO o = false then 1
 else if chE (stL key L) o ≠ 0 then chE (stL key L) o
 else if (decide (o.k = 5) && busyL L (o.v, o.e)) = true then 27
 else if 100000 < dlenL L + (14 + (opBs o).length) then 23 else 0
def isL (key : List UInt8) (L : List OpR) (o : OpR) : List OpR := if isE key L o = 0 then L ++ [o] else L
theorem stL_snoc (key : List UInt8) (L : List OpR) (o : OpR) : stL key (L ++ [o]) = apC (stL key L) o := by simp [stL]
theorem dlenL_snoc (L : List OpR) (o : OpR) : dlenL (L ++ [o]) = dlenL L + (14 + (opBs o).length) := by simp [dlenL]
theorem busyL_snoc (L : List OpR) (o : OpR) (p : Int × Int) : busyL (L ++ [o]) p = (busyL L p || (decide (o.k = 4) && (decide (o.v = p.1) && decide (o.e = p.2)))) := by simp [busyL]
theorem opB_le (k v b e : Nat) (six : Bool) (ah al pt pr wy : Nat) (ms : List (Int × Int)) (h : ms.length ≤ 64) : (opB k v b e six ah al pt pr wy ms).length ≤ 300 := by
 have h1 := adrB_length six ah al
 have h2 : (membersB ms).length ≤ 200 := by
  rw [membersB, List.length_append, dig_length, pairsB_len]
  omega
 simp only [opB, List.length_append, dig_length, placeB_len]
 omega
structure CnOk (key : List UInt8) (L : List OpR) : Prop where
 ok : ∀ o ∈ L, OpOk o ∧ rgO o = true
 ap : ∀ i, (h : i < L.length) → chE (stL key (L.take i)) L[i] = 0
 dl : dlenL L ≤ 100000
theorem CnOk.nil (key : List UInt8) : CnOk key [] := ⟨fun o h => (by cases h), fun i h => (by simp at h), (by simp [dlenL])⟩
theorem rgO_len {o : OpR} (h : rgO o = true) : o.ms.length ≤ 64 := by
 simp only [rgO, rightB, Bool.and_eq_true, decide_eq_true_eq] at h
 exact h.2.2.1
theorem opBs_le {o : OpR} (h : rgO o = true) : (opBs o).length ≤ 300 := opB_le _ _ _ _ _ _ _ _ _ _ _ (rgO_len h)
theorem isE_zero {key : List UInt8} {L : List OpR} {o : OpR} (h : isE key L o = 0) : rgO o = true ∧ chE (stL key L) o = 0 ∧ (decide (o.k = 5) && busyL L (o.v, o.e)) = false ∧ dlenL L + (14 + (opBs o).length) ≤ 100000 := by
 unfold isE at h
 by_cases h1 : rgO o = false
 ·rw [if_pos h1] at h; cases h
 rw [if_neg h1] at h
 by_cases h2 : chE (stL key L) o = 0
 rotate_left
 ·rw [if_pos h2] at h; exact absurd h h2
 rw [if_neg (by simpa using h2)] at h
 by_cases h3 : (decide (o.k = 5) && busyL L (o.v, o.e)) = true
 ·rw [if_pos h3] at h; cases h
 rw [if_neg h3] at h
 by_cases h4 : 100000 < dlenL L + (14 + (opBs o).length)
 ·rw [if_pos h4] at h; cases h
 exact ⟨by simpa using h1, h2, by simpa using h3, by omega⟩
theorem CnOk.step {key : List UInt8} {L : List OpR} {o : OpR} (h : CnOk key L) (ho : OpOk o) (hE : isE key L o = 0) : CnOk key (L ++ [o]) := by
 obtain ⟨h1, h2, h3, h4⟩ := isE_zero hE
 refine ⟨fun x hx => ?_, fun i hi => ?_, by rw [dlenL_snoc]; exact h4⟩
 ·rcases List.mem_append.1 hx with hx | hx
  ·exact h.ok x hx
  ·rw [List.mem_singleton.1 hx]; exact ⟨ho, h1⟩
 ·by_cases hl : i < L.length
  ·have := h.ap i hl
   rw [List.getElem_append_left hl, List.take_append_of_le_length (by omega)]
   exact this
  ·have e : i = L.length := by simp at hi; omega
   subst e
   rw [List.getElem_append_right (by omega), List.take_left]
   simpa using h2
theorem CnOk.is_ {key : List UInt8} {L : List OpR} {o : OpR} (h : CnOk key L) (ho : OpOk o) : CnOk key (isL key L o) := by
 unfold isL
 split
 ·rename_i hE; exact h.step ho hE
 ·exact h
theorem stL_ok {key : List UInt8} (hk : key.length = 16) : ∀ {L : List OpR}, (∀ o ∈ L, OpOk o) → CfOk (stL key L) := by
 intro L
 have : ∀ (L : List OpR) (C : Cf), CfOk C → (∀ o ∈ L, OpOk o) → CfOk (L.foldl apC C) := by
  intro L
  induction L with
  | nil => intro C h _; exact h
  | cons o r ih => intro C h ho; exact ih _ (apC_ok h (ho o (.head _))) (fun x hx => ho x (.tail _ hx))
 exact fun h => this L _ (cf0_ok key hk) h
theorem CnOk.st {key : List UInt8} (hk : key.length = 16) {L : List OpR} (h : CnOk key L) (n : Nat) : CfOk (stL key (L.take n)) := stL_ok hk fun o ho => (h.ok o (List.mem_of_mem_take ho)).1
theorem stL_take {key : List UInt8} {L : List OpR} (i : Nat) (h : i < L.length) : stL key (L.take (i + 1)) = apC (stL key (L.take i)) L[i] := by
 rw [List.take_succ_eq_append_getElem h, stL_snoc]
def RetM (R : List MvE) (L : List OpR) : Prop := ∀ p, mvAt p R ≠ 0 ↔ busyL L p = true
theorem RetM.nil : RetM [] [] := fun p => by simp [mvAt, busyL]
theorem RetM.no {R : List MvE} {L : List OpR} {o : OpR} (h : RetM R L) (hk : ¬ o.k = 4) : RetM R (L ++ [o]) := fun p => by
 rw [h p, busyL_snoc]
 simp [hk]
theorem RetM.yes {R : List MvE} {L : List OpR} {o : OpR} (h : RetM R L) (hk : o.k = 4) (n c : Nat) (hn : n ≠ 0) : RetM (mvPut (o.v, o.e) n c R) (L ++ [o]) := fun p => by
 rw [mvAt_put, busyL_snoc]
 by_cases hp : p = (o.v, o.e)
 ·subst hp
  simp [hn, hk]
 ·rw [if_neg hp, h p]
  have : ¬ (o.v = p.1 ∧ o.e = p.2) := fun ⟨h1, h2⟩ => hp (by rw [h1, h2])
  have e : (decide (o.k = 4) && (decide (o.v = p.1) && decide (o.e = p.2))) = false := by
   simp only [Bool.and_eq_false_iff, decide_eq_false_iff_not]
   by_cases h1 : o.v = p.1
   ·exact .inr (.inr fun h2 => this ⟨h1, h2⟩)
   ·exact .inr (.inl h1)
  rw [e, Bool.or_false]
def ctzN : Nat → Nat → Nat
 | 0, _ => 0
 | f + 1, n => if n % 2 = 1 then 0 else ctzN f (n / 2) + 1
section
variable {F S : Int → Nat} {l : List Int} {p : Nat}
end
end

section
attribute [local go_sem ↓] sliced_cut
attribute [local go_sem] cutA_zero
open Go.RowKit
def deB : List UInt8 := Lib.deBruijn64tab.map UInt8.ofNat
theorem deB_len : deB.length = 64 := by decide +kernel
theorem deB_at : ∀ i, i < 64 → (deB.getD i 0).toNat = Lib.deBruijn64tab.getD i 0 := by decide +kernel
def TabB (w : World) : Prop := Rb w (some ⟨0, 0, none⟩) 64 64 deB
theorem TabB.later {w w' : World} (h : TabB w) (hb : Below w.heap.size w w') : TabB w' := Rb.later h hb
theorem TabB.at_ {w : World} (h : TabB w) (i : Nat) (hi : i < 64) : w.cell? ⟨0, i, none⟩ = some (.int .u8 (Lib.deBruijn64tab.getD i 0 : Nat)) := by
 obtain ⟨b, off, hA, _, hc⟩ := h.2.2.at_ (by rw [bcs_length, deB_len]; decide)
 injection hA with hA
 injection hA with h1 h2
 subst h1 h2
 have := hc i _ (bcs_get deB i (by rw [deB_len]; exact hi))
 rw [Nat.zero_add] at this
 rw [this]
 have h2 := deB_at i hi
 rw [List.getD_eq_getElem?_getD, List.getElem?_eq_getElem (by rw [deB_len]; exact hi), Option.getD_some] at h2
 rw [h2]
theorem tz_key (x a : Nat) (hx : x < 18446744073709551616) (hx0 : x ≠ 0) (hlow : x &&& (18446744073709551616 - x) = a) :
  IntKind.u64.wrap (bits BinOp.and IntKind.u64 (x : Int) (IntKind.u64.wrap (-(x : Int))) * 285870213051353865) / 288230376151711744 = ((a * 285870213051353865 % 18446744073709551616 / 288230376151711744 : Nat) : Int) := by
 have e1 : IntKind.u64.wrap (-(x : Int)) = ((18446744073709551616 - x : Nat) : Int) := by rw [IntKind.wrap_u64]; omega
 rw [e1, bits_and_u64_nat x _ hx (by omega), hlow, IntKind.wrap_u64]
 omega
theorem ctzN_eq : ∀ f x, ctzN f x = Lib.ctzFrom f x
 | 0, _ => rfl
 | f + 1, x => by
  simp only [ctzN, Lib.ctzFrom, ctzN_eq f]
  split <;> omega
theorem tz_core (x k idx : Nat) (w : World) (hx0 : ((x : Int) == 0) = false)
  (key : IntKind.u64.wrap (bits BinOp.and IntKind.u64 (x : Int) (IntKind.u64.wrap (-(x : Int))) * 285870213051353865) / 288230376151711744 = (idx : Int))
  (hi : idx < 64) (hk : k < 64) (hcell : w.cell? ⟨0, idx, none⟩ = some (.int .u8 (k : Int))) : Calls Tryz.prog 156 #[.int .u64 (x : Int)] w (RetV w (.int .i64 (k : Int))) := by
 go_enter Tryz.func156, Tryz.ntmps156
 go_wp2_with (simp only [key])
 go_ret
 exact RetV.is_ rfl (Below.refl _ _)
theorem tz_any (x : Nat) (w : World) (hx : x < 18446744073709551616) (hx0 : x ≠ 0) (hT : TabB w) : Calls Tryz.prog 156 #[.int .u64 (x : Int)] w (RetV w (.int .i64 ((ctzN 64 x : Nat) : Int))) := by
 obtain ⟨hlow, hk⟩ := Lib.lowest_bit 64 x hx0 hx
 obtain ⟨hi, htab⟩ := Lib.deBruijn64_at _ hk
 have e : ctzN 64 x = Lib.ctz 64 x := by rw [ctzN_eq]; unfold Lib.ctz; rw [if_neg hx0]
 rw [e]
 have hcell := hT.at_ _ hi
 rw [htab] at hcell
 exact tz_core x _ _ w (by simp; omega) (tz_key x _ hx hx0 hlow) hi hk hcell
end

section
theorem ctz_spec : ∀ (f x : Nat), x ≠ 0 → x < 2 ^ f → ctzN f x < f ∧ x.testBit (ctzN f x) = true ∧ ∀ i, i < ctzN f x → x.testBit i = false
 | 0, x, h0, h => by simp at h; exact absurd h h0
 | f + 1, x, h0, h => by
  unfold ctzN
  split
  ·rename_i h1
   refine ⟨by omega, ?_, fun i hi => by omega⟩
   simp [Nat.testBit_zero, h1]
  ·rename_i h1
   have hx2 : x / 2 ≠ 0 := by omega
   have hx3 : x / 2 < 2 ^ f := by rw [Nat.pow_succ] at h; omega
   obtain ⟨a, b, c⟩ := ctz_spec f (x / 2) hx2 hx3
   have hb : ∀ i, x.testBit (i + 1) = (x / 2).testBit i := fun i => by rw [Nat.testBit_succ]
   refine ⟨by omega, ?_, fun i hi => ?_⟩
   ·first
     | (rw [hb]; exact b)
     | (rw [Nat.add_comm, hb]; exact b)
   ·cases i with
    | zero => simp [Nat.testBit_zero]; omega
    | succ i => rw [hb]; exact c i (by omega)
theorem and_pred (y k : Nat) (hk : y.testBit k = true) (hlow : ∀ i, i < k → y.testBit i = false) (i : Nat) : (y &&& (y - 1)).testBit i = (y.testBit i && decide (i ≠ k)) := by
 have hm : y % 2 ^ (k + 1) = 2 ^ k := by
  apply Nat.eq_of_testBit_eq
  intro j
  rw [Nat.testBit_mod_two_pow, Nat.testBit_two_pow]
  by_cases h : j < k + 1
  ·by_cases hj : j = k
   ·subst hj; simp [hk]
   ·have h2 : ¬ k = j := fun e => hj e.symm
    rw [decide_eq_true h, decide_eq_false h2, hlow j (by omega)]
    rfl
  ·have h2 : ¬ k = j := by omega
   rw [decide_eq_false h, decide_eq_false h2]
   rfl
 have hy := Nat.div_add_mod y (2 ^ (k + 1))
 rw [hm] at hy
 have hp := Nat.two_pow_pos k
 have hlt : 2 ^ k < 2 ^ (k + 1) := Nat.pow_lt_pow_right (by decide) (by omega)
 generalize y / 2 ^ (k + 1) = a at hy
 have e1 : y - 1 = 2 ^ (k + 1) * a + (2 ^ k - 1) := by omega
 rw [Nat.testBit_and, e1, ← hy, Nat.testBit_two_pow_mul_add a hlt, Nat.testBit_two_pow_mul_add a (show 2 ^ k - 1 < 2 ^ (k + 1) by omega)]
 by_cases h : i < k + 1
 ·rw [if_pos h, if_pos h, Nat.testBit_two_pow, Nat.testBit_two_pow_sub_one]
  by_cases hj : i = k
  ·subst hj; simp
  ·have h2 : ¬ k = i := fun e => hj e.symm
   rw [decide_eq_false h2]
   simp
 ·rw [if_neg h, if_neg h, decide_eq_true (by omega)]
  simp
def setL (x f : Nat) : List Nat := ((List.range 64).filter fun i => x.testBit i).map (· + f)
theorem setL_len (x f : Nat) : (setL x f).length ≤ 64 := by
 unfold setL
 rw [List.length_map]
 exact Nat.le_trans (List.length_filter_le _ _) (by simp)
theorem setL_lt (x f : Nat) : ∀ n ∈ setL x f, n < 64 + f := by
 intro n hn
 obtain ⟨i, hi, rfl⟩ := List.mem_map.1 hn
 have := List.mem_range.1 (List.mem_filter.1 hi).1
 omega
theorem filter_range_skip (x p q : Nat) (h : ∀ i, p ≤ i → i < q → x.testBit i = false) (hpq : p ≤ q) : (List.range q).filter (fun i => x.testBit i) = (List.range p).filter (fun i => x.testBit i) := by
 induction q with
 | zero =>
  have : p = 0 := by omega
  rw [this]
 | succ q ih =>
  by_cases hp : p = q + 1
  ·rw [hp]
  ·rw [List.range_succ, List.filter_append, ih (fun i h1 h2 => h i h1 (by omega)) (by omega)]
   have := h q (by omega) (by omega)
   simp [this]
theorem filter_range_snoc (x p k : Nat) (hp : p ≤ k) (h : ∀ i, p ≤ i → i < k → x.testBit i = false) (hk : x.testBit k = true) : (List.range (k + 1)).filter (fun i => x.testBit i) = (List.range p).filter (fun i => x.testBit i) ++ [k] := by
 rw [List.range_succ, List.filter_append, filter_range_skip x p k h hp]
 simp [hk]
def slotB (s : Nat × Bool) : UInt8 := UInt8.ofNat (s.1 + if s.2 then 128 else 0)
def tabB (t : Tab) : List UInt8 := dig t.length 2 ++ t.map slotB
theorem tabB_len (t : Tab) : (tabB t).length = t.length + 2 := by simp [tabB, dig_length]; omega
def numsB (l : List Nat) : List UInt8 := l.flatMap (fun n => dig n 1)
theorem numsB_len (l : List Nat) : (numsB l).length = l.length := by
 induction l with
 | nil => rfl
 | cons a t ih => simp [numsB, dig_length] at ih ⊢; omega
def setB (l : List Nat) : List UInt8 := dig l.length 1 ++ numsB l
theorem setB_len (l : List Nat) : (setB l).length = l.length + 1 := by simp [setB, dig_length, numsB_len]; omega
def levB (e : Nat × Tab) : List UInt8 := dig e.1 1 ++ tabB e.2
def levsB (L : List (Nat × Tab)) : List UInt8 := L.flatMap levB
def stkB (S : Stk) : List UInt8 := dig S.lv.length 1 ++ levsB S.lv ++ setB (setL S.ev 1) ++ setB (setL S.bz 0)
theorem levB_len {e : Nat × Tab} (h : TabOk e.2) : (levB e).length ≤ 67 := by
 have := h.len
 simp [levB, dig_length, tabB_len]
 omega
theorem levsB_len {L : List (Nat × Tab)} (h : ∀ e ∈ L, TabOk e.2) : (levsB L).length ≤ 67 * L.length := by
 induction L with
 | nil => simp [levsB]
 | cons a t ih =>
  have h1 := levB_len (h a (by simp))
  have h2 := ih (fun e he => h e (by simp [he]))
  simp only [levsB, List.flatMap_cons, List.length_append, List.length_cons] at h2 ⊢
  omega
theorem stkB_len {S : Stk} (h : StkOk S) : (stkB S).length ≤ 700 := by
 have h1 := levsB_len (fun e he => (h.rg e he).2)
 have h2 := h.len
 have h3 := setL_len S.ev 1
 have h4 := setL_len S.bz 0
 simp only [stkB, List.length_append, dig_length, setB_len]
 omega
end

end Go.Proofs.YtjiiloffgipfhaaGreatDoor
