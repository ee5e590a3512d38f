/- conns: find, Len, Has, Get, Drop (chapter 31). -/
import Derived.Test.YtfmkndemkpecpaaConB
namespace Go.Proofs.Ytfmkndemkpecpaa
open Go.RowKit
set_option linter.unusedVariables false
set_option linter.unusedSimpArgs false
attribute [local go_sem ↓] sliced_cut
attribute [local go_sem] cutA_zero

theorem findL_get (f : Fw) : ∀ (L : List (Fw × Value)) (k j : Nat) (v : Value), findL f L k = some (j, v) → ∃ i, j = k + i ∧ L[i]? = some (f, v)
  | [], _, _, _, h => by simp [findL] at h
  | y :: t, k, j, v, h => by
    unfold findL at h
    split at h
    · next e =>
      injection h with h
      injection h with h1 h2
      subst h1 h2
      exact ⟨0, rfl, by rw [e]; rfl⟩
    · obtain ⟨i, h1, h2⟩ := findL_get f t (k + 1) j v h
      exact ⟨i + 1, by omega, h2⟩
theorem findL_none (f : Fw) : ∀ (L : List (Fw × Value)) (k : Nat), findL f L k = none ↔ ∀ y ∈ L, f ≠ y.1
  | [], _ => by simp [findL]
  | y :: t, k => by
    unfold findL
    split
    · next e => simp [e]
    · next e => rw [findL_none f t (k + 1)]; simp [e]
def enP (x : En) : Fw × Value := (x.f, pp (some x.b))
theorem find_hit {L : List (Fw × Value)} {p s : List En} {x : En} (hp : L.Perm ((p ++ x :: s).map enP)) (hn : ((p ++ x :: s).map (·.f)).Nodup) : ∃ i, findL x.f L 0 = some (i, pp (some x.b)) ∧ (L.eraseIdx i).Perm ((p ++ s).map enP) := by
  have hmem : enP x ∈ L := hp.mem_iff.2 (by simp)
  cases hf : findL x.f L 0 with
  | none => exact absurd rfl ((findL_none x.f L 0).1 hf _ hmem)
  | some r =>
    obtain ⟨j, v⟩ := r
    obtain ⟨i, h1, h2⟩ := findL_get _ _ _ _ _ hf
    obtain rfl : j = i := by omega
    have h3 : (x.f, v) ∈ (p ++ x :: s).map enP := hp.mem_iff.1 (List.mem_of_getElem? h2)
    obtain ⟨y, hy, e⟩ := List.mem_map.1 h3
    simp only [enP, Prod.mk.injEq] at e
    have hyx : y = x := by
      simp only [List.map_append, List.map_cons, List.nodup_append, List.nodup_cons, List.mem_map, List.mem_cons] at hn
      rcases List.mem_append.1 hy with h | h
      · exact absurd e.1 (hn.2.2 _ ⟨y, h, rfl⟩ _ (.inl rfl))
      · rcases List.mem_cons.1 h with h | h
        · exact h
        · exact absurd ⟨y, h, e.1⟩ hn.2.1.1
    subst hyx
    refine ⟨j, by rw [e.2], ?_⟩
    have hlt : j < L.length := (List.getElem?_eq_some_iff.1 h2).1
    have h4 : L[j] = enP y := by
      have := (List.getElem?_eq_some_iff.1 h2).2
      rw [this, ← e.2]; rfl
    have h5 : (enP y :: L.eraseIdx j).Perm L := by
      have e1 : L = L.take j ++ enP y :: L.drop (j + 1) := by rw [← h4]; simp
      rw [List.eraseIdx_eq_take_drop_succ]
      refine List.perm_middle.symm.trans ?_
      rw [← e1]
    have h6 : ((p ++ y :: s).map enP).Perm (enP y :: (p ++ s).map enP) := by
      rw [List.map_append, List.map_cons, List.map_append]
      exact List.perm_middle
    exact ((h5.trans hp).trans h6).cons_inv
theorem find_miss {L : List (Fw × Value)} {l : List En} {f : Fw} (hp : L.Perm (l.map enP)) (hn : ∀ x ∈ l, x.f ≠ f) : findL f L 0 = none := by
  rw [findL_none]
  intro y hy e
  obtain ⟨x, hx, rfl⟩ := List.mem_map.1 (hp.mem_iff.1 hy)
  exact hn x hx e.symm
/-- a table of connections -/
structure Co (w : World) (cb m : Nat) (most : Int) (l : List En) : Prop where
  li : Li w cb m most l
  mp : ∃ L, Mp w m L ∧ L.Perm (l.map enP)
  nf : (l.map (·.f)).Nodup
  nm : m ≠ cb ∧ ∀ x ∈ l, x.b ≠ m
theorem Li.later {w w' : World} {cb m : Nat} {most : Int} {l : List En} (h : Li w cb m most l) (hb : Below w.heap.size w w') : Li w' cb m most l :=
  ⟨h.blk.later hb, Seg.keep l _ h.seg fun x hx => hb.block _ (Seg.lt l _ h.seg x hx), h.nd⟩
theorem Co.later {w w' : World} {cb m : Nat} {most : Int} {l : List En} (h : Co w cb m most l) (hb : Below w.heap.size w w') : Co w' cb m most l := by
  obtain ⟨L, h1, h2⟩ := h.mp
  exact ⟨h.li.later hb, ⟨L, h1.later hb, h2⟩, h.nf, h.nm⟩
/-- the blocks that a call may change -/
def Dm (cb m : Nat) (l : List En) : Nat → Prop := fun b => b = cb ∨ b = m ∨ ∃ x ∈ l, x.b = b
theorem Dl.dm {cb m : Nat} {l l' : List En} (hs : ∀ x ∈ l, x ∈ l') : ∀ b, Dl cb l b → Dm cb m l' b := fun b h => h.elim .inl fun ⟨x, hx, e⟩ => .inr (.inr ⟨x, hs x hx, e⟩)
theorem Chg.wider {D D' : Nat → Prop} {w w' : World} (h : Chg D w w') (hd : ∀ b, D b → D' b) : Chg D' w w' := ⟨h.os, h.tape, h.output, h.size, fun b hb hn => h.block b hb (fun hD => hn (hd b hD))⟩
theorem rowFw : ∃ d, Try.prog.underlying 29 = some d ∧ d.isRow = true := ⟨_, Try.underlying29, rfl⟩
theorem wp_look {Q : Exit → Act → World → Prop} {o : Oper} {a : Act} {w : World} {K : Act → World → Prop} (x y : Operand) (hop : o.op = Op.lookup 133 x y false)
    {m : Nat} {L : List (Fw × Value)} (hx : a.eval x = .map (some m)) (f : Fw) (hy : a.eval y = f.v) (h : Mp w m L) {v : Value} (hv : atL f L = v) (hK : K (a.put o.dst v) w) : o.wp Try.prog a w K Q := by
  subst hv
  unfold Oper.wp
  simp [execOp, hop, hx, hy, h.look f, Result.andThen]
  exact hK

set_option maxHeartbeats 4000000 in
set_option maxRecDepth 100000 in
theorem find_at (w : World) (cb m : Nat) (most : Int) (l : List En) (f : Fw) (v : Value) (L : List (Fw × Value)) (h : Li w cb m most l) (hmp : Mp w m L) (hat : atL f L = v) : Calls Try.prog 104 #[.pointer (some ⟨cb, 0, none⟩), .agg f.c.toArray] w (RetV w v) := by
  have hcb := h.blk
  obtain ⟨dv1, v1, v2⟩ := rowFw
  have hf : Bk (w.alloc (.cells (f.c).toArray 29)) w.heap.size 29 (f.c) := Bk.new w 29 (f.c).toArray
  have be : Below w.heap.size w (w.alloc (.cells (f.c).toArray 29)) := Below.allocS (Below.refl _ _) _
  replace hcb := (hcb.alloc (.cells (f.c).toArray 29))
  replace hmp := (hmp.alloc (.cells (f.c).toArray 29))
  have zV : w.heap.size + 1 ≤ (w.alloc (.cells (f.c).toArray 29)).heap.size := by simp
  go_enter Try.func104, Try.ntmps104
  go_upto_region 1 with (fail)
  generalize w.alloc (.cells (f.c).toArray 29) = V at *
  clear h
  go_upto_region 3 with (fail)
  go_wp2
  refine wp_relS 7 13 rfl (by kernel_rfl) (by kernel_rfl) ?_
  apply Steps.one (MP.eq _) 1 rfl
  · intro o ho FA x hO hD K hK
    obtain rfl := Option.some.inj ho.symm
    clear ho
    have e0 := hO 0 (by kernel_rfl)
    simp only [eval_tmp, List.getElem?_toArray, List.getElem?_cons_succ, List.getElem?_cons_zero, Option.getD_some] at e0
    have ev0 := Lib.hid ((eval_tmp FA 0).trans e0)
    clear hO hD
    go_simp
    exact hK.out _ _ (Ex.refl _) rfl
  apply Steps.one (MP.eq _) 2 rfl
  · intro o ho FA x hO hD K hK
    obtain rfl := Option.some.inj ho.symm
    clear ho
    have ev7 : FA.eval (.tmp 7) = _ := hD 0 7 (by kernel_rfl)
    have e7 := (eval_tmp FA 7).symm.trans ev7
    replace ev7 := Lib.hid ev7
    clear hO hD
    go_simp
    exact hK.out _ _ (Ex.refl _) rfl
  apply Steps.one (MP.eq _) 3 rfl
  · intro o ho FA x hO hD K hK
    obtain rfl := Option.some.inj ho.symm
    clear ho
    have ev8 : FA.eval (.tmp 8) = _ := hD 1 8 (by kernel_rfl)
    have e8 := (eval_tmp FA 8).symm.trans ev8
    replace ev8 := Lib.hid ev8
    clear hO hD
    go_simp
    exact hK.out _ _ (Ex.refl _) rfl
  apply Steps.one (MP.eq _) 4 rfl
  · intro o ho FA x hO hD K hK
    obtain rfl := Option.some.inj ho.symm
    clear ho
    have ev9 : FA.eval (.tmp 9) = _ := hD 2 9 (by kernel_rfl)
    have e9 := (eval_tmp FA 9).symm.trans ev9
    replace ev9 := Lib.hid ev9
    clear hO hD
    refine wanted_if rfl ?_
    refine wp_ld1 133 (.tmp 9) rfl ev9.out (hcb.later (below_plus _ _ _)) rfl Try.underlying133 rfl ?_
    exact hK.out _ _ (Ex.refl _) rfl
  apply Steps.one (MP.eq _) 5 rfl
  · intro o ho FA x hO hD K hK
    obtain rfl := Option.some.inj ho.symm
    clear ho
    have e3 := hO 3 (by kernel_rfl)
    simp only [eval_tmp, List.getElem?_toArray, List.getElem?_cons_succ, List.getElem?_cons_zero, Option.getD_some] at e3
    have ev3 := Lib.hid ((eval_tmp FA 3).trans e3)
    clear hO hD
    refine wanted_if rfl ?_
    refine wp_ldA 29 (.tmp 3) rfl (f.c) ev3.out (hf.later (below_plus _ _ _)) (whole_ _) v1 v2 (szFw f) ?_
    exact hK.out _ _ (Ex.refl _) rfl
  apply Steps.one (MP.eq _) 6 rfl
  · intro o ho FA x hO hD K hK
    obtain rfl := Option.some.inj ho.symm
    clear ho
    have ev10 : FA.eval (.tmp 10) = _ := hD 3 10 (by kernel_rfl)
    have e10 := (eval_tmp FA 10).symm.trans ev10
    replace ev10 := Lib.hid ev10
    have ev11 : FA.eval (.tmp 11) = _ := hD 4 11 (by kernel_rfl)
    have e11 := (eval_tmp FA 11).symm.trans ev11
    replace ev11 := Lib.hid ev11
    clear hO hD
    refine wanted_if rfl ?_
    refine wp_look (.tmp 10) (.tmp 11) rfl ev10.out f ev11.out (hmp.later (below_plus _ _ _)) hat ?_
    exact hK.out _ _ (Ex.refl _) rfl
  apply Steps.one (MP.eq _) 7 rfl
  · intro o ho FA x hO hD K hK
    obtain rfl := Option.some.inj ho.symm
    clear ho
    have ev12 : FA.eval (.tmp 12) = _ := hD 5 12 (by kernel_rfl)
    have e12 := (eval_tmp FA 12).symm.trans ev12
    replace ev12 := Lib.hid ev12
    clear hO hD
    go_simp
    exact hK.out _ _ (Ex.refl _) rfl
  refine Steps.fin_ (fun vs x hp => ?_)
  have p0 : vs 0 = _ := hp 0 (by omega)
  have p1 : vs 1 = _ := hp 1 (by omega)
  have p2 : vs 2 = _ := hp 2 (by omega)
  have p3 : vs 3 = _ := hp 3 (by omega)
  have p4 : vs 4 = _ := hp 4 (by omega)
  have p5 : vs 5 = _ := hp 5 (by omega)
  have p6 : vs 6 = _ := hp 6 (by omega)
  clear hp
  simp only [List.take_succ_cons, List.take_zero, List.drop_succ_cons, List.drop_zero, putAll, Nat.zero_add, Nat.reduceAdd, Act.put, List.setIfInBounds_toArray, List.set_cons_zero, List.set_cons_succ, p0, p1, p2, p3, p4, p5, p6]
  clear p0 p1 p2 p3 p4 p5 p6
  clear vs
  go_wp2
  go_ret
  exact RetV.is_ (by simp) (belowP be _ _)
theorem Co.mid {w : World} {cb m : Nat} {most : Int} {l : List En} (h : Co w cb m most l) {x : En} {p s : List En} (e : l = p ++ x :: s) : ∃ L i, Mp w m L ∧ findL x.f L 0 = some (i, pp (some x.b)) ∧ atL x.f L = .pointer (some ⟨x.b, 0, none⟩) ∧ (L.eraseIdx i).Perm ((p ++ s).map enP) ∧ L.Perm (l.map enP) := by
  obtain ⟨L, h1, h2⟩ := h.mp
  subst e
  obtain ⟨i, h3, h4⟩ := find_hit h2 h.nf
  exact ⟨L, i, h1, h3, by unfold atL; rw [h3]; rfl, h4, h2⟩
theorem find_is (w : World) (cb m : Nat) (most : Int) (p s : List En) (x : En) (h : Co w cb m most (p ++ x :: s)) : Calls Try.prog 104 #[.pointer (some ⟨cb, 0, none⟩), .agg x.f.c.toArray] w (RetV w (.pointer (some ⟨x.b, 0, none⟩))) := by
  obtain ⟨L, i, h1, h2, h3, h4, h5⟩ := h.mid rfl
  exact find_at w cb m most _ x.f _ L h.li h1 h3
theorem find_no (w : World) (cb m : Nat) (most : Int) (l : List En) (f : Fw) (h : Co w cb m most l) (hn : ∀ x ∈ l, x.f ≠ f) : Calls Try.prog 104 #[.pointer (some ⟨cb, 0, none⟩), .agg f.c.toArray] w (RetV w (.pointer none)) := by
  obtain ⟨L, h1, h2⟩ := h.mp
  exact find_at w cb m most _ f _ L h.li h1 (by unfold atL; rw [find_miss h2 hn])
set_option maxHeartbeats 4000000 in
set_option maxRecDepth 100000 in
theorem find_nil (w : World) (f : Fw) : Calls Try.prog 104 #[.pointer none, .agg f.c.toArray] w (RetV w (.pointer none)) := by
  obtain ⟨dv1, v1, v2⟩ := rowFw
  have hf : Bk (w.alloc (.cells (f.c).toArray 29)) w.heap.size 29 (f.c) := Bk.new w 29 (f.c).toArray
  have be : Below w.heap.size w (w.alloc (.cells (f.c).toArray 29)) := Below.allocS (Below.refl _ _) _
  have zV : w.heap.size + 1 ≤ (w.alloc (.cells (f.c).toArray 29)).heap.size := by simp
  go_enter Try.func104, Try.ntmps104
  go_upto_region 1 with (fail)
  generalize w.alloc (.cells (f.c).toArray 29) = V at *
  go_wp2
  go_ret
  exact RetV.is_ rfl be
set_option maxHeartbeats 4000000 in
set_option maxRecDepth 100000 in
theorem len_nil (w : World) : Calls Try.prog 40 #[.pointer none] w (RetV w (.int .i64 0)) := by
  go_enter Try.func40, Try.ntmps40
  go_wp2
  go_ret
  exact RetV.is_ rfl (Below.refl _ _)
set_option maxHeartbeats 4000000 in
set_option maxRecDepth 100000 in
theorem len_any (w : World) (cb m : Nat) (most : Int) (l : List En) (h : Co w cb m most l) : Calls Try.prog 40 #[.pointer (some ⟨cb, 0, none⟩)] w (RetV w (.int .i64 (l.length : Int))) := by
  obtain ⟨L, h1, h2⟩ := h.mp
  have hl : L.length = l.length := by rw [h2.length_eq, List.length_map]
  have c1 : w.cell? ⟨cb, 1, none⟩ = some (.map (some m)) := h.li.blk.cell 1
  go_enter Try.func40, Try.ntmps40
  go_wp2_with (refine at_op (.call { callee := Callee.builtin Builtin.len, args := #[.tmp 8], argTypes := #[133] }) rfl ?_; refine wpList_lenM rfl (.tmp 8) rfl (m := m) rfl h1 ?_; rw [hl])
  go_ret
  exact RetV.is_ rfl (Below.refl _ _)
set_option maxHeartbeats 4000000 in
set_option maxRecDepth 100000 in
theorem has_at (w : World) (a v : Value) (r : Bool) (f : Fw) (hc : ∀ V, Below w.heap.size w V → Calls Try.prog 104 #[a, .agg f.c.toArray] V (RetV V v)) (hv : (v = .pointer none ∧ r = false) ∨ ((∃ b, v = .pointer (some ⟨b, 0, none⟩)) ∧ r = true)) :
    Calls Try.prog 47 #[a, .agg f.c.toArray] w (RetV w (.bool r)) := by
  have HC := Lib.hid hc
  clear hc
  obtain ⟨dv1, v1, v2⟩ := rowFw
  have hf : Bk (w.alloc (.cells (f.c).toArray 29)) w.heap.size 29 (f.c) := Bk.new w 29 (f.c).toArray
  have be : Below w.heap.size w (w.alloc (.cells (f.c).toArray 29)) := Below.allocS (Below.refl _ _) _
  have zV : w.heap.size + 1 ≤ (w.alloc (.cells (f.c).toArray 29)).heap.size := by simp
  go_enter Try.func47, Try.ntmps47
  go_upto_region 1 with (fail)
  generalize w.alloc (.cells (f.c).toArray 29) = V at *
  rcases hv with ⟨rfl, rfl⟩ | ⟨⟨b, rfl⟩, rfl⟩
  · go_wp2_with (first
      | (refine at_op (.load 29 (.tmp 3)) rfl ?_; refine wpList_ldA (t := 29) 29 (.tmp 3) rfl rfl (f.c) rfl (hf) (whole_ _) v1 v2 (szFw f) ?_)
      | (go_at_call 104; refine (HC.out _ be).mono ?_; rintro e w1 ⟨bs1, d1, rfl, rfl⟩))
    go_ret
    exact RetV.is_ rfl (belowP be _ _)
  · go_wp2_with (first
      | (refine at_op (.load 29 (.tmp 3)) rfl ?_; refine wpList_ldA (t := 29) 29 (.tmp 3) rfl rfl (f.c) rfl (hf) (whole_ _) v1 v2 (szFw f) ?_)
      | (go_at_call 104; refine (HC.out _ be).mono ?_; rintro e w1 ⟨bs1, d1, rfl, rfl⟩))
    go_ret
    exact RetV.is_ rfl (belowP be _ _)
theorem has_is (w : World) (cb m : Nat) (most : Int) (p s : List En) (x : En) (h : Co w cb m most (p ++ x :: s)) : Calls Try.prog 47 #[.pointer (some ⟨cb, 0, none⟩), .agg x.f.c.toArray] w (RetV w (.bool true)) :=
  has_at w _ _ true x.f (fun V hV => find_is V cb m most p s x (h.later hV)) (.inr ⟨⟨_, rfl⟩, rfl⟩)
theorem has_no (w : World) (cb m : Nat) (most : Int) (l : List En) (f : Fw) (h : Co w cb m most l) (hn : ∀ x ∈ l, x.f ≠ f) : Calls Try.prog 47 #[.pointer (some ⟨cb, 0, none⟩), .agg f.c.toArray] w (RetV w (.bool false)) :=
  has_at w _ _ false f (fun V hV => find_no V cb m most l f (h.later hV) hn) (.inl ⟨rfl, rfl⟩)
theorem has_nil (w : World) (f : Fw) : Calls Try.prog 47 #[.pointer none, .agg f.c.toArray] w (RetV w (.bool false)) :=
  has_at w _ _ false f (fun V hV => find_nil V f) (.inl ⟨rfl, rfl⟩)
theorem Dm.refl_ {cb m : Nat} {l : List En} : ∀ b, Dm cb m l b → Dm cb m l b := fun _ h => h
theorem Li.mem {w : World} {cb m : Nat} {most : Int} {p s : List En} {x : En} (h : Li w cb m most (p ++ x :: s)) : x.b ≠ cb ∧ ∀ y ∈ p ++ s, y.b ≠ x.b := by
  have hM := h.mid
  refine ⟨hM.cx.symm, fun y hy => ?_⟩
  rcases List.mem_append.1 hy with h1 | h1
  · exact (hM.cp y h1).2
  · exact (hM.cs y h1).2
theorem Li.lastB {w : World} {cb m : Nat} {most : Int} {l : List En} {x : En} (h : Li w cb m most (l ++ [x])) : Bk w x.b 216 (enC x.f x.wd (lsB none l) none) := ((Seg.app w none l [x] none).1 h.seg).2.1
theorem Li.lt {w : World} {cb m : Nat} {most : Int} {l : List En} (h : Li w cb m most l) : ∀ b, Dl cb l b → b < w.heap.size := by
  rintro b (rfl | ⟨x, hx, rfl⟩)
  · exact h.blk.lt
  · exact Seg.lt l _ h.seg x hx
theorem Li.chg {D : Nat → Prop} {w w' : World} {cb m : Nat} {most : Int} {l : List En} (h : Li w cb m most l) (hc : Chg D w w') (hd : ∀ b, Dl cb l b → ¬ D b) : Li w' cb m most l :=
  ⟨h.blk.chg hc (hd cb (.inl rfl)), Seg.keep l _ h.seg fun x hx => hc.block _ (Seg.lt l _ h.seg x hx) (hd _ (.inr ⟨x, hx, rfl⟩)), h.nd⟩
/-- behind unlink and link: the entry stands last -/
theorem Co.turned {w w' : World} {cb m : Nat} {most : Int} {p s : List En} {x x' : En} (h : Co w cb m most (p ++ x :: s)) (hx : x'.f = x.f ∧ x'.b = x.b) (hc : Chg (Dl cb (p ++ x :: s)) w w') (hl : Li w' cb m most (p ++ s ++ [x'])) : Co w' cb m most (p ++ s ++ [x']) := by
  obtain ⟨L, h1, h2⟩ := h.mp
  have hm : ¬ Dl cb (p ++ x :: s) m := by
    rintro (e | ⟨y, hy, e⟩)
    · exact h.nm.1 e
    · exact h.nm.2 y hy e
  have hp : (p ++ x :: s).Perm (p ++ s ++ [x]) := by
    refine List.perm_middle.trans ?_
    have := List.perm_append_comm (l₁ := [x]) (l₂ := p ++ s)
    simpa using this
  have e1 : enP x' = enP x := by simp only [enP, hx.1, hx.2]
  refine ⟨hl, ⟨L, h1.chg hc hm, ?_⟩, ?_, ⟨h.nm.1, fun y hy => ?_⟩⟩
  · have := h2.trans (hp.map enP)
    simpa [e1] using this
  · have := (hp.map (·.f)).nodup_iff.1 h.nf
    simpa [hx.1] using this
  · rcases List.mem_append.1 hy with h3 | h3
    · exact h.nm.2 y (by rcases List.mem_append.1 h3 with h4 | h4 <;> simp [h4])
    · simp only [List.mem_cons, List.not_mem_nil, or_false] at h3
      subst h3
      rw [hx.2]
      exact h.nm.2 x (by simp)
set_option maxHeartbeats 4000000 in
set_option maxRecDepth 100000 in
theorem get_no (w : World) (a : Value) (f : Fw) (hc : ∀ V, Below w.heap.size w V → Calls Try.prog 104 #[a, .agg f.c.toArray] V (RetV V (.pointer none))) : Calls Try.prog 41 #[a, .agg f.c.toArray] w (RetV w (.tuple #[.int .u16 0, .bool false])) := by
  have HC := Lib.hid hc
  clear hc
  obtain ⟨dv1, v1, v2⟩ := rowFw
  have hf : Bk (w.alloc (.cells (f.c).toArray 29)) w.heap.size 29 (f.c) := Bk.new w 29 (f.c).toArray
  have be : Below w.heap.size w (w.alloc (.cells (f.c).toArray 29)) := Below.allocS (Below.refl _ _) _
  have zV : w.heap.size + 1 ≤ (w.alloc (.cells (f.c).toArray 29)).heap.size := by simp
  go_enter Try.func41, Try.ntmps41
  go_upto_region 1 with (fail)
  generalize w.alloc (.cells (f.c).toArray 29) = V at *
  go_wp2_with (first
    | (refine at_op (.load 29 (.tmp 3)) rfl ?_; refine wpList_ldA (t := 29) 29 (.tmp 3) rfl rfl (f.c) rfl (hf) (whole_ _) v1 v2 (szFw f) ?_)
    | (go_at_call 104; refine (HC.out _ be).mono ?_; rintro e w1 ⟨bs1, d1, rfl, rfl⟩))
  go_ret2
  exact RetV.is_ rfl (belowP be _ _)
set_option maxHeartbeats 4000000 in
set_option maxRecDepth 100000 in
theorem get_is (w : World) (cb m : Nat) (most : Int) (p s : List En) (x : En) (h : Co w cb m most (p ++ x :: s)) :
    Calls Try.prog 41 #[.pointer (some ⟨cb, 0, none⟩), .agg x.f.c.toArray] w fun e w' => e = .returned (.tuple #[.int .u16 (x.wd : Int), .bool true]) ∧ Chg (Dm cb m (p ++ x :: s)) w w' ∧ Co w' cb m most (p ++ s ++ [x]) := by
  have HC := Lib.hid (fun V hV => find_is V cb m most p s x (h.later hV))
  obtain ⟨dv1, v1, v2⟩ := rowFw
  have hf : Bk (w.alloc (.cells (x.f.c).toArray 29)) w.heap.size 29 (x.f.c) := Bk.new w 29 (x.f.c).toArray
  have be : Below w.heap.size w (w.alloc (.cells (x.f.c).toArray 29)) := Below.allocS (Below.refl _ _) _
  have zV : w.heap.size + 1 ≤ (w.alloc (.cells (x.f.c).toArray 29)).heap.size := by simp
  go_enter Try.func41, Try.ntmps41
  go_upto_region 1 with (fail)
  generalize w.alloc (.cells (x.f.c).toArray 29) = V at *
  go_upto_region 4 with (first
    | (refine at_op (.load 29 (.tmp 3)) rfl ?_; refine wpList_ldA (t := 29) 29 (.tmp 3) rfl rfl (x.f.c) rfl (hf) (whole_ _) v1 v2 (szFw x.f) ?_)
    | (go_at_call 104; refine (HC.out _ be).mono ?_; rintro e w1 ⟨bs1, d1, rfl, rfl⟩))
  replace be := belowP be bs1 d1
  generalize plus V bs1 d1 = W at *
  have hco := h.later be
  have hmem := hco.li.mem
  go_upto_region 5 with (go_at_call 105; refine (unlink_any _ cb m most p s x hco.li).mono ?_; rintro e w1 ⟨rfl, hc1, hli1, hx1⟩)
  go_upto_region 6 with (go_at_call 106; refine (link_any _ cb m most (p ++ s) x none none hli1 hx1 hmem).mono ?_; rintro e w1 ⟨rfl, hc2, hli2⟩)
  have c9 : w1.cell? ⟨x.b, 9, none⟩ = some (.int .u16 (x.wd : Int)) := hli2.lastB.cell 9
  have hC : Chg (Dm cb m (p ++ x :: s)) w w1 := ((Chg.of_below be).trans (hc1.wider (Dl.dm fun _ h => h))).trans (hc2.wider (Dl.dm fun y hy => by simp only [List.mem_append, List.mem_cons, List.not_mem_nil, or_false] at hy ⊢; rcases hy with (h1 | h1) | h1 <;> simp [h1]))
  have hCo : Co w1 cb m most (p ++ s ++ [x]) := hco.turned ⟨rfl, rfl⟩ (hc1.trans (hc2.wider fun b hb => hb.elim .inl fun ⟨y, hy, e⟩ => .inr ⟨y, by simp only [List.mem_append, List.mem_cons, List.not_mem_nil, or_false] at hy ⊢; rcases hy with (h1 | h1) | h1 <;> simp [h1], e⟩)) hli2
  go_wp2
  go_ret2
  exact ⟨rfl, hC, hCo⟩
set_option maxHeartbeats 4000000 in
set_option maxRecDepth 100000 in
theorem drop_no (w : World) (a : Value) (f : Fw) (hc : ∀ V, Below w.heap.size w V → Calls Try.prog 104 #[a, .agg f.c.toArray] V (RetV V (.pointer none))) : Calls Try.prog 44 #[a, .agg f.c.toArray] w (RetV w (.bool false)) := by
  have HC := Lib.hid hc
  clear hc
  obtain ⟨dv1, v1, v2⟩ := rowFw
  have hf : Bk (w.alloc (.cells (f.c).toArray 29)) w.heap.size 29 (f.c) := Bk.new w 29 (f.c).toArray
  have be : Below w.heap.size w (w.alloc (.cells (f.c).toArray 29)) := Below.allocS (Below.refl _ _) _
  have zV : w.heap.size + 1 ≤ (w.alloc (.cells (f.c).toArray 29)).heap.size := by simp
  go_enter Try.func44, Try.ntmps44
  go_upto_region 1 with (fail)
  generalize w.alloc (.cells (f.c).toArray 29) = V at *
  go_wp2_with (first
    | (refine at_op (.load 29 (.tmp 3)) rfl ?_; refine wpList_ldA (t := 29) 29 (.tmp 3) rfl rfl (f.c) rfl (hf) (whole_ _) v1 v2 (szFw f) ?_)
    | (go_at_call 104; refine (HC.out _ be).mono ?_; rintro e w1 ⟨bs1, d1, rfl, rfl⟩))
  go_ret
  exact RetV.is_ rfl (belowP be _ _)
set_option maxHeartbeats 4000000 in
set_option maxRecDepth 100000 in
theorem drop_is (w : World) (cb m : Nat) (most : Int) (p s : List En) (en : En) (h : Co w cb m most (p ++ en :: s)) :
    Calls Try.prog 44 #[.pointer (some ⟨cb, 0, none⟩), .agg en.f.c.toArray] w fun e w' => e = .returned (.bool true) ∧ Chg (Dm cb m (p ++ en :: s)) w w' ∧ Co w' cb m most (p ++ s) ∧ Bk w' en.b 216 (enC en.f en.wd none none) := by
  have HC := Lib.hid (fun V hV => find_is V cb m most p s en (h.later hV))
  have hlt : ∀ b, Dl cb (p ++ en :: s) b → b < w.heap.size := h.li.lt
  have hmlt : m < w.heap.size := by obtain ⟨L, h1, _⟩ := h.mp; exact h1.lt
  have hmD : ¬ Dl cb (p ++ en :: s) m := by
    rintro (e | ⟨y, hy, e⟩)
    · exact h.nm.1 e
    · exact h.nm.2 y hy e
  obtain ⟨dv1, v1, v2⟩ := rowFw
  have hf : Bk (w.alloc (.cells (en.f.c).toArray 29)) w.heap.size 29 (en.f.c) := Bk.new w 29 (en.f.c).toArray
  have be : Below w.heap.size w (w.alloc (.cells (en.f.c).toArray 29)) := Below.allocS (Below.refl _ _) _
  have zV : w.heap.size + 1 ≤ (w.alloc (.cells (en.f.c).toArray 29)).heap.size := by simp
  go_enter Try.func44, Try.ntmps44
  go_upto_region 1 with (fail)
  generalize w.alloc (.cells (en.f.c).toArray 29) = V at *
  go_upto_region 4 with (first
    | (refine at_op (.load 29 (.tmp 3)) rfl ?_; refine wpList_ldA (t := 29) 29 (.tmp 3) rfl rfl (en.f.c) rfl (hf) (whole_ _) v1 v2 (szFw en.f) ?_)
    | (go_at_call 104; refine (HC.out _ be).mono ?_; rintro e w1 ⟨bs1, d1, rfl, rfl⟩))
  replace be := belowP be bs1 d1
  replace hf := hf.later (below_plus _ bs1 d1)
  generalize plus V bs1 d1 = W at *
  have hco := h.later be
  go_upto_region 5 with (go_at_call 105; refine (unlink_any _ cb m most p s en hco.li).mono ?_; rintro e w1 ⟨rfl, hc1, hli1, hx1⟩)
  obtain ⟨L, i, hmp, hfi, -, her, -⟩ := hco.mid rfl
  replace hmp := hmp.chg hc1 hmD
  replace hf := hf.chg hc1 (fun hd => absurd (hlt _ hd) (Nat.lt_irrefl _))
  have hcb1 := hli1.blk
  have hC : Chg (Dm cb m (p ++ en :: s)) w w1 := (Chg.of_below be).trans (hc1.wider (Dl.dm fun _ h => h))
  have HN := Lib.hid hco
  clear hco hc1
  go_wp2
  refine wp_relS 5 19 rfl (by kernel_rfl) (by kernel_rfl) ?_
  apply Steps.one (MP.eq _) 1 rfl
  · intro o ho FA x hO hD K hK
    obtain rfl := Option.some.inj ho.symm
    clear ho
    have e0 := hO 0 (by kernel_rfl)
    simp only [eval_tmp, List.getElem?_toArray, List.getElem?_cons_succ, List.getElem?_cons_zero, Option.getD_some] at e0
    have ev0 := Lib.hid ((eval_tmp FA 0).trans e0)
    clear hO hD
    go_simp
    exact hK.out _ _ (Ex.refl _) rfl
  apply Steps.one (MP.eq _) 2 rfl
  · intro o ho FA x hO hD K hK
    obtain rfl := Option.some.inj ho.symm
    clear ho
    have ev14 : FA.eval (.tmp 14) = _ := hD 0 14 (by kernel_rfl)
    have e14 := (eval_tmp FA 14).symm.trans ev14
    replace ev14 := Lib.hid ev14
    clear hO hD
    go_simp
    exact hK.out _ _ (Ex.refl _) rfl
  apply Steps.one (MP.eq _) 3 rfl
  · intro o ho FA x hO hD K hK
    obtain rfl := Option.some.inj ho.symm
    clear ho
    have ev15 : FA.eval (.tmp 15) = _ := hD 1 15 (by kernel_rfl)
    have e15 := (eval_tmp FA 15).symm.trans ev15
    replace ev15 := Lib.hid ev15
    clear hO hD
    go_simp
    exact hK.out _ _ (Ex.refl _) rfl
  apply Steps.one (MP.eq _) 4 rfl
  · intro o ho FA x hO hD K hK
    obtain rfl := Option.some.inj ho.symm
    clear ho
    have ev16 : FA.eval (.tmp 16) = _ := hD 2 16 (by kernel_rfl)
    have e16 := (eval_tmp FA 16).symm.trans ev16
    replace ev16 := Lib.hid ev16
    clear hO hD
    refine wanted_if rfl ?_
    refine wp_ld1 133 (.tmp 16) rfl ev16.out (hcb1.later (below_plus _ _ _)) rfl Try.underlying133 rfl ?_
    exact hK.out _ _ (Ex.refl _) rfl
  apply Steps.one (MP.eq _) 5 rfl
  · intro o ho FA x hO hD K hK
    obtain rfl := Option.some.inj ho.symm
    clear ho
    have e3 := hO 3 (by kernel_rfl)
    simp only [eval_tmp, List.getElem?_toArray, List.getElem?_cons_succ, List.getElem?_cons_zero, Option.getD_some] at e3
    have ev3 := Lib.hid ((eval_tmp FA 3).trans e3)
    clear hO hD
    refine wanted_if rfl ?_
    refine wp_ldA 29 (.tmp 3) rfl (en.f.c) ev3.out (hf.later (below_plus _ _ _)) (whole_ _) v1 v2 (szFw en.f) ?_
    exact hK.out _ _ (Ex.refl _) rfl
  refine Steps.fin_ (fun vs x hp => ?_)
  have p0 : vs 0 = _ := hp 0 (by omega)
  have p1 : vs 1 = _ := hp 1 (by omega)
  have p2 : vs 2 = _ := hp 2 (by omega)
  have p3 : vs 3 = _ := hp 3 (by omega)
  have p4 : vs 4 = _ := hp 4 (by omega)
  clear hp
  simp only [List.take_succ_cons, List.take_zero, List.drop_succ_cons, List.drop_zero, putAll, Nat.zero_add, Nat.reduceAdd, Act.put, List.setIfInBounds_toArray, List.set_cons_zero, List.set_cons_succ, p0, p1, p2, p3, p4]
  clear p0 p1 p2 p3 p4
  clear vs
  go_upto_region 6 with (refine at_op (.call { callee := Callee.builtin Builtin.delete, args := #[.tmp 17, .tmp 18], argTypes := #[133, 29] }) rfl ?_; refine wpList_drop rfl (.tmp 17) (.tmp 18) rfl (m := m) rfl en.f rfl (hmp.later (below_plus _ _ _)) hfi ?_; intro w3 hmp3 hg3)
  have hC3 : Chg (Dm cb m (p ++ en :: s)) w w3 := (hC.trans (Chg.of_below (below_plus _ _ _))).trans (Chg.grown hg3 (fun k hk => by injection hk with hk; subst hk; exact .inr (.inl rfl)))
  have hli3 : Li w3 cb m most (p ++ s) := (hli1.later (below_plus _ _ _)).chg (D := fun b => b = m) (Chg.grown hg3 (fun k hk => by injection hk with hk; exact hk.symm)) (fun b hb e => hmD (by subst e; exact hb.elim .inl fun ⟨y, hy, e⟩ => .inr ⟨y, by rcases List.mem_append.1 hy with h1 | h1 <;> simp [h1], e⟩))
  have hx3 := (hx1.later (below_plus w1 x.bs x.d)).chg (D := fun b => b = m) (Chg.grown hg3 (fun k hk => by injection hk with hk; exact hk.symm)) (fun e => hmD (.inr ⟨en, by simp, e⟩))
  go_wp2
  go_ret
  refine ⟨rfl, hC3, ⟨hli3, ⟨_, hmp3, her⟩, ?_, ⟨h.nm.1, fun y hy => h.nm.2 y (by rcases List.mem_append.1 hy with h1 | h1 <;> simp [h1])⟩⟩, hx3⟩
  have := h.nf
  simp only [List.map_append, List.map_cons, List.nodup_append, List.nodup_cons, List.mem_map, List.mem_cons] at this ⊢
  exact ⟨this.1, this.2.1.2, fun a ha b hb => this.2.2 a ha b (.inr hb)⟩
end Go.Proofs.Ytfmkndemkpecpaa
