/- Texts of the law ConnsPlay, part 2. -/
import Derived.Test.YtenaiojddohbkaaZConnsPlay1
/- conns: Put, New (chapter 31). -/
namespace Go.Proofs.Ytenaiojddohbkaa
open Go.RowKit
set_option linter.unusedVariables false
set_option linter.unusedSimpArgs false
attribute [local go_sem ↓] sliced_cut

attribute [local go_sem] cutA_zero

theorem eqm0 (w : World) : (binOp .eql 49 (.map none) (.map none)).run Try.prog w = .ok (.bool true) w := by kernel_rfl
theorem eqm1 (w : World) (m : Nat) : (binOp .eql 49 (.map (some m)) (.map none)).run Try.prog w = .ok (.bool false) w := by kernel_rfl
theorem mkm (w : World) : (Instr.makeMap 49 none).run Try.prog w = .ok (.map (some w.heap.size)) (w.alloc (.map #[] 0)) := rfl
attribute [local go_sem] eqm0 eqm1 mkm

def fw0 : Fw := ⟨false, 0, 0, false, 0, 0, 0, 0, 0⟩
theorem run_buildFw0 (w : World) : (Instr.build 28 #[]).run Try.prog w = .ok (.agg fw0.c.toArray) w := by kernel_rfl
set_option maxRecDepth 100000 in
theorem run_buildEn (w : World) (f : Fw) (wd : Nat) : (Instr.build 168 #[(0, .agg f.c.toArray), (1, .int .u16 (wd : Int))]).run Try.prog w = .ok (.agg (enC f wd none none).toArray) w := by
  obtain ⟨a1, a2, a3, a4, a5, a6, a7, a8, a9⟩ := f
  kernel_rfl
theorem Chg.fresh {D : Nat → Prop} {w w1 w2 : World} {g : Nat} (h : Chg D w w1) (hg : w1.grownBy w2 (some g)) (hl : w.heap.size ≤ g) : Chg D w w2 :=
  ⟨hg.os.trans h.os, hg.tape.trans h.tape, hg.output.trans h.output, Nat.le_trans h.size hg.size, fun b hb hd => (hg.block b (Nat.lt_of_lt_of_le hb h.size) (fun e => by injection e with e; omega)).trans (h.block b hb hd)⟩
theorem Co.chg {D : Nat → Prop} {w w' : World} {cb m : Nat} {most : Int} {l : List En} (h : Co w cb m most l) (hc : Chg D w w') (hd : ∀ b, Dm cb m l b → ¬ D b) : Co w' cb m most l := by
  obtain ⟨L, h1, h2⟩ := h.mp
  exact ⟨h.li.chg hc (fun b hb => hd b (Dl.dm (fun _ h => h) b hb)), ⟨L, h1.chg hc (hd m (.inr (.inl rfl))), h2⟩, h.nf, h.nm⟩
theorem Co.lt {w : World} {cb m : Nat} {most : Int} {l : List En} (h : Co w cb m most l) : ∀ b, Dm cb m l b → b < w.heap.size := by
  obtain ⟨L, h1, h2⟩ := h.mp
  rintro b (rfl | rfl | ⟨x, hx, rfl⟩)
  · exact h.li.lt _ (.inl rfl)
  · exact h1.lt
  · exact h.li.lt _ (.inr ⟨x, hx, rfl⟩)
/-- the result's cell, or another new one, is written -/
theorem Co.aside {w w' : World} {cb m g : Nat} {most : Int} {l : List En} (h : Co w cb m most l) (hg : w.grownBy w' (some g)) (hn : ¬ Dm cb m l g) : Co w' cb m most l :=
  h.chg (D := fun b => b = g) (Chg.grown hg (fun k hk => by injection hk with hk; exact hk.symm)) (fun b hb e => hn (e ▸ hb))
theorem Mid.li_in {w : World} {cb m : Nat} {most : Int} {p s : List En} {x : En} (h : Mid w cb m most (pp (hdB none (p ++ x :: s))) (pp (lsB none (p ++ x :: s))) p (some x.b) x (lsB none p) (hdB none s) s (some x.b)) : Li w cb m most (p ++ x :: s) := by
  refine ⟨h.blk, (Seg.app w none p (x :: s) none).2 ⟨h.sp, h.bx, h.ss⟩, ?_⟩
  simp only [List.nodup_cons, List.map_append, List.nodup_append, List.mem_map, List.mem_append, List.map_cons, List.mem_cons]
  refine ⟨?_, h.np_, ⟨?_, h.ns_⟩, ?_⟩
  · rintro (⟨y, hy, e⟩ | e | ⟨y, hy, e⟩)
    · exact (h.cp y hy).1 e
    · exact h.cx e
    · exact (h.cs y hy).1 e
  · rintro ⟨y, hy, e⟩
    exact (h.cs y hy).2 e
  · rintro _ ⟨y, hy, rfl⟩ b (rfl | ⟨z, hz, rfl⟩)
    · exact (h.cp y hy).2
    · exact h.ps y hy z hz
theorem lsB_same (p s : List En) (x x' : En) (hb : x'.b = x.b) : lsB none (p ++ x' :: s) = lsB none (p ++ x :: s) := by
  rw [lsB_app, lsB_app]
  simp only [lsB, hb]
theorem hdB_same (p s : List En) (x x' : En) (hb : x'.b = x.b) : hdB none (p ++ x' :: s) = hdB none (p ++ x :: s) := by
  cases p
  · simp only [List.nil_append, hdB, hb]
  · rfl
theorem Li.word {w : World} {cb m : Nat} {most : Int} {p s : List En} {x : En} (h : Li w cb m most (p ++ x :: s)) (wd : Nat) : Li (w.setCell ⟨x.b, 9, none⟩ (.int .u16 (wd : Int))) cb m most (p ++ ⟨x.f, wd, x.b⟩ :: s) := by
  have hM := h.mid
  have h9 : Bk (w.setCell ⟨x.b, 9, none⟩ (.int .u16 (wd : Int))) x.b 168 (enC x.f wd (lsB none p) (hdB none s)) := by
    have := hM.bx.set_ 9 (.int .u16 (wd : Int))
    exact this
  refine Mid.li_in (x := ⟨x.f, wd, x.b⟩) ?_
  rw [lsB_same p s x (⟨x.f, wd, x.b⟩ : En) rfl, hdB_same p s x (⟨x.f, wd, x.b⟩ : En) rfl]
  exact ⟨hM.blk.far hM.cx _, Seg.keep p _ hM.sp fun y hy => Below.heap_setCell w _ _ _ (hM.cp y hy).2, h9, Seg.keep s _ hM.ss fun y hy => Below.heap_setCell w _ _ _ (hM.cs y hy).2, hM.cx, hM.cp, hM.cs, hM.ps, hM.np_, hM.ns_⟩
set_option maxHeartbeats 4000000 in
set_option maxRecDepth 100000 in
theorem put_nil (w : World) (a : Value) (ha : a = .pointer none ∨ ∃ cb, a = .pointer (some ⟨cb, 0, none⟩) ∧ w.cell? ⟨cb, 1, none⟩ = some (.map none)) (f : Fw) (wd : Nat) : Calls Try.prog 19 #[a, .agg f.c.toArray, .int .u16 (wd : Int)] w (RetV w (.tuple #[.agg fw0.c.toArray, .bool false])) := by
  rcases ha with rfl | ⟨cb, rfl, hcb⟩
  · obtain ⟨dv1, v1, v2⟩ := rowFw
    have hf : Bk ((w.alloc (.cells (f.c).toArray 28)).alloc (.cells ([.bool false, .int .u64 0, .int .u64 0, .bool false, .int .u64 0, .int .u64 0, .int .u16 0, .int .u16 0, .int .u8 0]).toArray 28)) w.heap.size 28 (f.c) := (Bk.new w 28 (f.c).toArray).alloc _
    have hg : Bk ((w.alloc (.cells (f.c).toArray 28)).alloc (.cells ([.bool false, .int .u64 0, .int .u64 0, .bool false, .int .u64 0, .int .u64 0, .int .u16 0, .int .u16 0, .int .u8 0]).toArray 28)) (w.heap.size + 1) 28 ([.bool false, .int .u64 0, .int .u64 0, .bool false, .int .u64 0, .int .u64 0, .int .u16 0, .int .u16 0, .int .u8 0]) := Bk.newK _ _ _ (by simp) rfl
    have be : Below w.heap.size w ((w.alloc (.cells (f.c).toArray 28)).alloc (.cells ([.bool false, .int .u64 0, .int .u64 0, .bool false, .int .u64 0, .int .u64 0, .int .u16 0, .int .u16 0, .int .u8 0]).toArray 28)) := Below.allocS (Below.allocS (Below.refl _ _) _) _
    have zV : w.heap.size + 2 ≤ ((w.alloc (.cells (f.c).toArray 28)).alloc (.cells ([.bool false, .int .u64 0, .int .u64 0, .bool false, .int .u64 0, .int .u64 0, .int .u16 0, .int .u16 0, .int .u8 0]).toArray 28)).heap.size := by simp
    go_enter Try.func19, Try.ntmps19
    go_upto_region 1 with (fail)
    generalize (w.alloc (.cells (f.c).toArray 28)).alloc (.cells ([.bool false, .int .u64 0, .int .u64 0, .bool false, .int .u64 0, .int .u64 0, .int .u16 0, .int .u16 0, .int .u8 0]).toArray 28) = V at *
    go_wp2_with (first
      | (refine at_op (.build 28 #[]) rfl ?_; refine wpList_build 28 [] rfl rfl (.agg fw0.c.toArray) ?_ ?_; exact run_buildFw0 _)
      | (refine at_op (.store 28 (.tmp 6) (.tmp 21)) rfl ?_; refine wpList_stA (t := 28) 28 (.tmp 6) (.tmp 21) rfl rfl (fw0.c) ([.bool false, .int .u64 0, .int .u64 0, .bool false, .int .u64 0, .int .u64 0, .int .u16 0, .int .u16 0, .int .u8 0]) rfl (Fw.c_one _) rfl rfl (hg) (szFw _) ?_; intro W9 hg9 hgr9))
    refine bodyPost_agg2 Try.results19 rfl rfl (Bk.range hg9) v1 v2 (szFw _) rfl ?_
    exact RetV.is_ rfl (below_grown be hgr9 (by omega))
  · have hcbL : cb < w.heap.size := lt_of_cell hcb
    obtain ⟨dv1, v1, v2⟩ := rowFw
    have hf : Bk ((w.alloc (.cells (f.c).toArray 28)).alloc (.cells ([.bool false, .int .u64 0, .int .u64 0, .bool false, .int .u64 0, .int .u64 0, .int .u16 0, .int .u16 0, .int .u8 0]).toArray 28)) w.heap.size 28 (f.c) := (Bk.new w 28 (f.c).toArray).alloc _
    have hg : Bk ((w.alloc (.cells (f.c).toArray 28)).alloc (.cells ([.bool false, .int .u64 0, .int .u64 0, .bool false, .int .u64 0, .int .u64 0, .int .u16 0, .int .u16 0, .int .u8 0]).toArray 28)) (w.heap.size + 1) 28 ([.bool false, .int .u64 0, .int .u64 0, .bool false, .int .u64 0, .int .u64 0, .int .u16 0, .int .u16 0, .int .u8 0]) := Bk.newK _ _ _ (by simp) rfl
    have be : Below w.heap.size w ((w.alloc (.cells (f.c).toArray 28)).alloc (.cells ([.bool false, .int .u64 0, .int .u64 0, .bool false, .int .u64 0, .int .u64 0, .int .u16 0, .int .u16 0, .int .u8 0]).toArray 28)) := Below.allocS (Below.allocS (Below.refl _ _) _) _
    have zV : w.heap.size + 2 ≤ ((w.alloc (.cells (f.c).toArray 28)).alloc (.cells ([.bool false, .int .u64 0, .int .u64 0, .bool false, .int .u64 0, .int .u64 0, .int .u16 0, .int .u16 0, .int .u8 0]).toArray 28)).heap.size := by simp
    go_enter Try.func19, Try.ntmps19
    go_upto_region 1 with (fail)
    generalize (w.alloc (.cells (f.c).toArray 28)).alloc (.cells ([.bool false, .int .u64 0, .int .u64 0, .bool false, .int .u64 0, .int .u64 0, .int .u16 0, .int .u16 0, .int .u8 0]).toArray 28) = V at *
    have c1 : V.cell? ⟨cb, 1, none⟩ = some (.map none) := (be.cell (p := ⟨cb, 1, none⟩) hcbL).trans hcb
    go_wp2_with (first
      | (refine at_op (.build 28 #[]) rfl ?_; refine wpList_build 28 [] rfl rfl (.agg fw0.c.toArray) ?_ ?_; exact run_buildFw0 _)
      | (refine at_op (.store 28 (.tmp 6) (.tmp 21)) rfl ?_; refine wpList_stA (t := 28) 28 (.tmp 6) (.tmp 21) rfl rfl (fw0.c) ([.bool false, .int .u64 0, .int .u64 0, .bool false, .int .u64 0, .int .u64 0, .int .u16 0, .int .u16 0, .int .u8 0]) rfl (Fw.c_one _) rfl rfl (hg) (szFw _) ?_; intro W9 hg9 hgr9))
    refine bodyPost_agg2 Try.results19 rfl rfl (Bk.range hg9) v1 v2 (szFw _) rfl ?_
    exact RetV.is_ rfl (below_grown be hgr9 (by omega))
set_option maxHeartbeats 4000000 in
set_option maxRecDepth 100000 in
theorem put_is (w : World) (cb m : Nat) (most : Int) (p s : List En) (en : En) (wd : Nat) (h : Co w cb m most (p ++ en :: s)) :
    Calls Try.prog 19 #[.pointer (some ⟨cb, 0, none⟩), .agg en.f.c.toArray, .int .u16 (wd : Int)] w fun e w' => e = .returned (.tuple #[.agg fw0.c.toArray, .bool false]) ∧ Chg (Dm cb m (p ++ en :: s)) w w' ∧ Co w' cb m most (p ++ s ++ [⟨en.f, wd, en.b⟩]) := by
  have HC := Lib.hid (fun V hV => find_is V cb m most p s en (h.later hV))
  have hlt := h.lt
  obtain ⟨dv1, v1, v2⟩ := rowFw
  have hf : Bk ((w.alloc (.cells (en.f.c).toArray 28)).alloc (.cells ([.bool false, .int .u64 0, .int .u64 0, .bool false, .int .u64 0, .int .u64 0, .int .u16 0, .int .u16 0, .int .u8 0]).toArray 28)) w.heap.size 28 (en.f.c) := (Bk.new w 28 (en.f.c).toArray).alloc _
  have hg : Bk ((w.alloc (.cells (en.f.c).toArray 28)).alloc (.cells ([.bool false, .int .u64 0, .int .u64 0, .bool false, .int .u64 0, .int .u64 0, .int .u16 0, .int .u16 0, .int .u8 0]).toArray 28)) (w.heap.size + 1) 28 ([.bool false, .int .u64 0, .int .u64 0, .bool false, .int .u64 0, .int .u64 0, .int .u16 0, .int .u16 0, .int .u8 0]) := Bk.newK _ _ _ (by simp) rfl
  have be : Below w.heap.size w ((w.alloc (.cells (en.f.c).toArray 28)).alloc (.cells ([.bool false, .int .u64 0, .int .u64 0, .bool false, .int .u64 0, .int .u64 0, .int .u16 0, .int .u16 0, .int .u8 0]).toArray 28)) := Below.allocS (Below.allocS (Below.refl _ _) _) _
  have zV : w.heap.size + 2 ≤ ((w.alloc (.cells (en.f.c).toArray 28)).alloc (.cells ([.bool false, .int .u64 0, .int .u64 0, .bool false, .int .u64 0, .int .u64 0, .int .u16 0, .int .u16 0, .int .u8 0]).toArray 28)).heap.size := by simp
  go_enter Try.func19, Try.ntmps19
  go_upto_region 1 with (fail)
  generalize (w.alloc (.cells (en.f.c).toArray 28)).alloc (.cells ([.bool false, .int .u64 0, .int .u64 0, .bool false, .int .u64 0, .int .u64 0, .int .u16 0, .int .u16 0, .int .u8 0]).toArray 28) = V at *
  have c1 : V.cell? ⟨cb, 1, none⟩ = some (.map (some m)) := (h.later be).li.blk.cell 1
  go_upto_region 5 with (first
    | (refine at_op (.load 28 (.tmp 4)) rfl ?_; refine wpList_ldA (t := 28) 28 (.tmp 4) rfl rfl (en.f.c) rfl (hf) (whole_ _) v1 v2 (szFw _) ?_)
    | (go_at_call 71; refine (HC.out _ be).mono ?_; rintro e w1 ⟨bs1, d1, rfl, rfl⟩))
  replace be := belowP be bs1 d1
  replace hf := hf.later (below_plus _ bs1 d1)
  replace hg := hg.later (below_plus _ bs1 d1)
  have hgW : w.heap.size + 2 ≤ (plus V bs1 d1).heap.size := by simp only [size_plus]; omega
  generalize plus V bs1 d1 = W at *
  have hco := h.later be
  clear c1
  have c9 : W.cell? ⟨en.b, 9, none⟩ = some (.int .u16 (en.wd : Int)) := hco.li.mid.bx.cell 9
  have f9 := hco.li.mid.bx.frozen 9
  go_upto_region 6 with (fail)
  clear c9 f9
  have den : Dl cb (p ++ en :: s) en.b := .inr ⟨en, by simp, rfl⟩
  have hc0 : Chg (Dl cb (p ++ en :: s)) W (W.setCell ⟨en.b, 9, none⟩ (.int .u16 (wd : Int))) := Chg.set (p := ⟨en.b, 9, none⟩) W den _
  have hli0 := hco.li.word wd
  generalize W.setCell ⟨en.b, 9, none⟩ (.int .u16 (wd : Int)) = W2 at *
  have hmem := hli0.mem
  have dsame : ∀ b, Dl cb (p ++ (⟨en.f, wd, en.b⟩ : En) :: s) b → Dl cb (p ++ en :: s) b := by
    rintro b (e | ⟨y, hy, e⟩)
    · exact .inl e
    · rcases List.mem_append.1 hy with h1 | h1
      · exact .inr ⟨y, by simp [h1], e⟩
      · rcases List.mem_cons.1 h1 with rfl | h1
        · exact .inr ⟨en, by simp, e⟩
        · exact .inr ⟨y, by simp [h1], e⟩
  have dsame2 : ∀ b, Dl cb (p ++ s ++ [(⟨en.f, wd, en.b⟩ : En)]) b → Dl cb (p ++ en :: s) b := by
    rintro b (e | ⟨y, hy, e⟩)
    · exact .inl e
    · simp only [List.mem_append, List.mem_cons, List.not_mem_nil, or_false] at hy
      rcases hy with (h1 | h1) | rfl
      · exact .inr ⟨y, by simp [h1], e⟩
      · exact .inr ⟨y, by simp [h1], e⟩
      · exact .inr ⟨en, by simp, e⟩
  go_upto_region 7 with (go_at_call 72; refine (unlink_any _ cb m most p s ⟨en.f, wd, en.b⟩ hli0).mono ?_; rintro e w1 ⟨rfl, hc1, hli1, hx1⟩)
  go_upto_region 8 with (go_at_call 73; refine (link_any _ cb m most (p ++ s) ⟨en.f, wd, en.b⟩ none none hli1 hx1 hmem).mono ?_; rintro e w1 ⟨rfl, hc2, hli2⟩)
  have hcA := (hc0.trans (hc1.wider dsame)).trans (hc2.wider dsame2)
  have hco2 := hco.turned (x' := ⟨en.f, wd, en.b⟩) ⟨rfl, rfl⟩ hcA hli2
  have hg2 := hg.chg hcA (fun hd => by have := hlt _ (Dl.dm (fun _ h => h) _ hd); omega)
  have hC := (Chg.of_below (D := Dm cb m (p ++ en :: s)) be).trans (hcA.wider (Dl.dm fun _ h => h))
  go_wp2_with (first
    | (refine at_op (.build 28 #[]) rfl ?_; refine wpList_build 28 [] rfl rfl (.agg fw0.c.toArray) ?_ ?_; exact run_buildFw0 _)
    | (refine at_op (.store 28 (.tmp 6) (.tmp 37)) rfl ?_; refine wpList_stA (t := 28) 28 (.tmp 6) (.tmp 37) rfl rfl (fw0.c) ([.bool false, .int .u64 0, .int .u64 0, .bool false, .int .u64 0, .int .u64 0, .int .u16 0, .int .u16 0, .int .u8 0]) rfl (Fw.c_one _) rfl rfl (hg2) (szFw _) ?_; intro W9 hg9 hgr9))
  refine bodyPost_agg2 Try.results19 rfl rfl (Bk.range hg9) v1 v2 (szFw _) rfl ?_
  refine ⟨rfl, hC.fresh hgr9 (by omega), hco2.aside hgr9 ?_⟩
  rintro (e | e | ⟨y, hy, e⟩)
  · have := hlt _ (.inl rfl); omega
  · have := hlt _ (.inr (.inl rfl)); omega
  · simp only [List.mem_append, List.mem_cons, List.not_mem_nil, or_false] at hy
    rcases hy with (h1 | h1) | rfl
    · have := hlt y.b (.inr (.inr ⟨y, by simp [h1], rfl⟩)); omega
    · have := hlt y.b (.inr (.inr ⟨y, by simp [h1], rfl⟩)); omega
    · have := hlt en.b (.inr (.inr ⟨en, by simp, rfl⟩)); simp only [] at e; omega
theorem wp_lenM {Q : Exit → Act → World → Prop} {o : Oper} {a : Act} {w : World} {K : Act → World → Prop} (x : Operand)
    (hop : o.op = Op.call { callee := Callee.builtin Builtin.len, args := #[x], argTypes := #[49] })
    {m : Nat} {L : List (Fw × Value)} (hx : a.eval x = .map (some m)) (h : Mp w m L) {k : Int} (hk : (L.length : Int) = k) (hK : K (a.put o.dst (.int .i64 k)) w) : o.wp Try.prog a w K Q := by
  subst hk
  unfold Oper.wp
  simp [execOp, hop, resolve, invoke, builtin, hx, h.len o.type, Result.andThen]
  exact hK
/-- behind the update and link: the new entry stands last -/
theorem Co.more {w' : World} {cb m b : Nat} {most : Int} {l : List En} {f : Fw} {wd : Nat} {L : List (Fw × Value)} (hp : L.Perm (l.map enP)) (nf : (l.map (·.f)).Nodup) (hn : ∀ x ∈ l, x.f ≠ f) (nm : m ≠ cb ∧ ∀ x ∈ l, x.b ≠ m) (hb : b ≠ m) (hm : Mp w' m (L ++ [(f, pp (some b))])) (hl : Li w' cb m most (l ++ [⟨f, wd, b⟩])) : Co w' cb m most (l ++ [⟨f, wd, b⟩]) := by
  refine ⟨hl, ⟨_, hm, ?_⟩, ?_, ⟨nm.1, fun y hy => ?_⟩⟩
  · rw [List.map_append]
    exact hp.append_right _
  · simp only [List.map_append, List.map_cons, List.map_nil, List.nodup_append, List.mem_map, List.mem_cons, List.not_mem_nil, or_false]
    refine ⟨nf, by simp, ?_⟩
    rintro _ ⟨y, hy, rfl⟩ _ rfl
    exact hn y hy
  · rcases List.mem_append.1 hy with h3 | h3
    · exact nm.2 y h3
    · simp only [List.mem_cons, List.not_mem_nil, or_false] at h3
      subst h3
      exact hb
theorem Chg.mix {D D' : Nat → Prop} {w w1 w2 : World} (h : Chg D w w1) (h' : Chg D' w1 w2) (hd : ∀ b, D' b → D b ∨ w.heap.size ≤ b) : Chg D w w2 :=
  ⟨h'.os.trans h.os, h'.tape.trans h.tape, h'.output.trans h.output, Nat.le_trans h.size h'.size, fun b hb hn => (h'.block b (Nat.lt_of_lt_of_le hb h.size) (fun e => (hd b e).elim hn (fun h3 => by omega))).trans (h.block b hb hn)⟩
set_option maxHeartbeats 4000000 in
set_option maxRecDepth 100000 in
theorem put_adds (w : World) (cb m : Nat) (most : Int) (l : List En) (f : Fw) (wd : Nat) (h : Co w cb m most (l)) (hn : ∀ x ∈ l, x.f ≠ f) (hroom : ¬ most ≤ (l.length : Int)) (hll : (l : List En).length ≤ 1099511627776) :
    Calls Try.prog 19 #[.pointer (some ⟨cb, 0, none⟩), .agg f.c.toArray, .int .u16 (wd : Int)] w fun e w' => e = .returned (.tuple #[.agg fw0.c.toArray, .bool false]) ∧ Chg (Dm cb m (l)) w w' ∧ ∃ b, w.heap.size ≤ b ∧ Co w' cb m most (l ++ [⟨f, wd, b⟩]) := by
  have HC := Lib.hid (fun V hV => find_no V cb m most (l) f (h.later hV) hn)
  have hlt := h.lt
  obtain ⟨dv1, v1, v2⟩ := rowFw
  have hf : Bk ((w.alloc (.cells (f.c).toArray 28)).alloc (.cells ([.bool false, .int .u64 0, .int .u64 0, .bool false, .int .u64 0, .int .u64 0, .int .u16 0, .int .u16 0, .int .u8 0]).toArray 28)) w.heap.size 28 (f.c) := (Bk.new w 28 (f.c).toArray).alloc _
  have hg : Bk ((w.alloc (.cells (f.c).toArray 28)).alloc (.cells ([.bool false, .int .u64 0, .int .u64 0, .bool false, .int .u64 0, .int .u64 0, .int .u16 0, .int .u16 0, .int .u8 0]).toArray 28)) (w.heap.size + 1) 28 ([.bool false, .int .u64 0, .int .u64 0, .bool false, .int .u64 0, .int .u64 0, .int .u16 0, .int .u16 0, .int .u8 0]) := Bk.newK _ _ _ (by simp) rfl
  have be : Below w.heap.size w ((w.alloc (.cells (f.c).toArray 28)).alloc (.cells ([.bool false, .int .u64 0, .int .u64 0, .bool false, .int .u64 0, .int .u64 0, .int .u16 0, .int .u16 0, .int .u8 0]).toArray 28)) := Below.allocS (Below.allocS (Below.refl _ _) _) _
  have zV : w.heap.size + 2 ≤ ((w.alloc (.cells (f.c).toArray 28)).alloc (.cells ([.bool false, .int .u64 0, .int .u64 0, .bool false, .int .u64 0, .int .u64 0, .int .u16 0, .int .u16 0, .int .u8 0]).toArray 28)).heap.size := by simp
  go_enter Try.func19, Try.ntmps19
  go_upto_region 1 with (fail)
  generalize (w.alloc (.cells (f.c).toArray 28)).alloc (.cells ([.bool false, .int .u64 0, .int .u64 0, .bool false, .int .u64 0, .int .u64 0, .int .u16 0, .int .u16 0, .int .u8 0]).toArray 28) = V at *
  have c1 : V.cell? ⟨cb, 1, none⟩ = some (.map (some m)) := (h.later be).li.blk.cell 1
  go_upto_region 9 with (first
    | (refine at_op (.load 28 (.tmp 4)) rfl ?_; refine wpList_ldA (t := 28) 28 (.tmp 4) rfl rfl (f.c) rfl (hf) (whole_ _) v1 v2 (szFw _) ?_)
    | (go_at_call 71; refine (HC.out _ be).mono ?_; rintro e w1 ⟨bs1, d1, rfl, rfl⟩))
  replace be := belowP be bs1 d1
  replace hf := hf.later (below_plus _ bs1 d1)
  replace hg := hg.later (below_plus _ bs1 d1)
  have hgW : w.heap.size + 2 ≤ (plus V bs1 d1).heap.size := by simp only [size_plus]; omega
  generalize plus V bs1 d1 = W at *
  have hco := h.later be
  clear c1
  go_upto_region 10 with (fail)
  have zW := be.size
  have hg3 : Bk (W.alloc (.cells ([.bool false, .int .u64 0, .int .u64 0, .bool false, .int .u64 0, .int .u64 0, .int .u16 0, .int .u16 0, .int .u8 0]).toArray 28)) W.heap.size 28 [.bool false, .int .u64 0, .int .u64 0, .bool false, .int .u64 0, .int .u64 0, .int .u16 0, .int .u16 0, .int .u8 0] := Bk.new _ _ _
  replace be := Below.allocS be (.cells ([.bool false, .int .u64 0, .int .u64 0, .bool false, .int .u64 0, .int .u64 0, .int .u16 0, .int .u16 0, .int .u8 0]).toArray 28)
  replace hf := hf.alloc (.cells ([.bool false, .int .u64 0, .int .u64 0, .bool false, .int .u64 0, .int .u64 0, .int .u16 0, .int .u16 0, .int .u8 0]).toArray 28)
  replace hg := hg.alloc (.cells ([.bool false, .int .u64 0, .int .u64 0, .bool false, .int .u64 0, .int .u64 0, .int .u16 0, .int .u16 0, .int .u8 0]).toArray 28)
  obtain ⟨g3, hg3e⟩ : ∃ g, g = W.heap.size := ⟨_, rfl⟩
  rw [← hg3e] at hg3 ⊢
  have zg3 : w.heap.size + 2 ≤ g3 := by have := hg.lt; have := hg3.lt; have h4 : w.heap.size + 2 ≤ W.heap.size := by have := hgW; omega
                                        omega
  generalize W.alloc (.cells ([.bool false, .int .u64 0, .int .u64 0, .bool false, .int .u64 0, .int .u64 0, .int .u16 0, .int .u16 0, .int .u8 0]).toArray 28) = W at *
  clear hg3e hco
  have hco := h.later be
  obtain ⟨L, hmp, hperm⟩ := hco.mp
  have hlL : (L.length : Int) = (l.length : Int) := by rw [hperm.length_eq, List.length_map]
  have hcbW := hco.li.blk
  go_wp2
  refine wp_relS 11 74 rfl (by kernel_rfl) (by kernel_rfl) ?_
  apply Steps.one (MP.eq _) 1 rfl
  · intro o ho FA x hO hD K hK
    obtain rfl := Option.some.inj ho.symm
    clear ho
    have e0 := hO 0 (by kernel_rfl)
    simp only [eval_tmp, List.getElem?_toArray, List.getElem?_cons_succ, List.getElem?_cons_zero, Option.getD_some] at e0
    have ev0 := Lib.hid ((eval_tmp FA 0).trans e0)
    clear hO hD
    go_simp
    exact hK.out _ _ (Ex.refl _) rfl
  apply Steps.one (MP.eq _) 2 rfl
  · intro o ho FA x hO hD K hK
    obtain rfl := Option.some.inj ho.symm
    clear ho
    have ev38 : FA.eval (.tmp 38) = _ := hD 0 38 (by kernel_rfl)
    have e38 := (eval_tmp FA 38).symm.trans ev38
    replace ev38 := Lib.hid ev38
    clear hO hD
    go_simp
    exact hK.out _ _ (Ex.refl _) rfl
  apply Steps.one (MP.eq _) 3 rfl
  · intro o ho FA x hO hD K hK
    obtain rfl := Option.some.inj ho.symm
    clear ho
    have ev39 : FA.eval (.tmp 39) = _ := hD 1 39 (by kernel_rfl)
    have e39 := (eval_tmp FA 39).symm.trans ev39
    replace ev39 := Lib.hid ev39
    clear hO hD
    go_simp
    exact hK.out _ _ (Ex.refl _) rfl
  apply Steps.one (MP.eq _) 4 rfl
  · intro o ho FA x hO hD K hK
    obtain rfl := Option.some.inj ho.symm
    clear ho
    have ev40 : FA.eval (.tmp 40) = _ := hD 2 40 (by kernel_rfl)
    have e40 := (eval_tmp FA 40).symm.trans ev40
    replace ev40 := Lib.hid ev40
    clear hO hD
    refine wanted_if rfl ?_
    refine wp_ld1 49 (.tmp 40) rfl ev40.out (hcbW.later (below_plus _ _ _)) rfl Try.underlying49 rfl ?_
    exact hK.out _ _ (Ex.refl _) rfl
  apply Steps.one (MP.eq _) 5 rfl
  · intro o ho FA x hO hD K hK
    obtain rfl := Option.some.inj ho.symm
    clear ho
    have ev41 : FA.eval (.tmp 41) = _ := hD 3 41 (by kernel_rfl)
    have e41 := (eval_tmp FA 41).symm.trans ev41
    replace ev41 := Lib.hid ev41
    clear hO hD
    refine wanted_if rfl ?_
    refine wp_lenM (.tmp 41) rfl ev41.out (hmp.later (below_plus _ _ _)) hlL ?_
    exact hK.out _ _ (Ex.refl _) rfl
  apply Steps.one (MP.eq _) 6 rfl
  · intro o ho FA x hO hD K hK
    obtain rfl := Option.some.inj ho.symm
    clear ho
    have e0 := hO 0 (by kernel_rfl)
    simp only [eval_tmp, List.getElem?_toArray, List.getElem?_cons_succ, List.getElem?_cons_zero, Option.getD_some] at e0
    have ev0 := Lib.hid ((eval_tmp FA 0).trans e0)
    clear hO hD
    go_simp
    exact hK.out _ _ (Ex.refl _) rfl
  apply Steps.one (MP.eq _) 7 rfl
  · intro o ho FA x hO hD K hK
    obtain rfl := Option.some.inj ho.symm
    clear ho
    have ev43 : FA.eval (.tmp 43) = _ := hD 5 43 (by kernel_rfl)
    have e43 := (eval_tmp FA 43).symm.trans ev43
    replace ev43 := Lib.hid ev43
    clear hO hD
    go_simp
    exact hK.out _ _ (Ex.refl _) rfl
  apply Steps.one (MP.eq _) 8 rfl
  · intro o ho FA x hO hD K hK
    obtain rfl := Option.some.inj ho.symm
    clear ho
    have ev44 : FA.eval (.tmp 44) = _ := hD 6 44 (by kernel_rfl)
    have e44 := (eval_tmp FA 44).symm.trans ev44
    replace ev44 := Lib.hid ev44
    clear hO hD
    go_simp
    exact hK.out _ _ (Ex.refl _) rfl
  apply Steps.one (MP.eq _) 9 rfl
  · intro o ho FA x hO hD K hK
    obtain rfl := Option.some.inj ho.symm
    clear ho
    have ev45 : FA.eval (.tmp 45) = _ := hD 7 45 (by kernel_rfl)
    have e45 := (eval_tmp FA 45).symm.trans ev45
    replace ev45 := Lib.hid ev45
    clear hO hD
    refine wanted_if rfl ?_
    refine wp_ld1 3 (.tmp 45) rfl ev45.out (hcbW.later (below_plus _ _ _)) rfl Try.underlying3 rfl ?_
    exact hK.out _ _ (Ex.refl _) rfl
  apply Steps.one (MP.eq _) 10 rfl
  · intro o ho FA x hO hD K hK
    obtain rfl := Option.some.inj ho.symm
    clear ho
    have ev42 : FA.eval (.tmp 42) = _ := hD 4 42 (by kernel_rfl)
    have e42 := (eval_tmp FA 42).symm.trans ev42
    replace ev42 := Lib.hid ev42
    have ev46 : FA.eval (.tmp 46) = _ := hD 8 46 (by kernel_rfl)
    have e46 := (eval_tmp FA 46).symm.trans ev46
    replace ev46 := Lib.hid ev46
    clear hO hD
    go_simp
    exact hK.out _ _ (Ex.refl _) rfl
  apply Steps.one (MP.eq _) 11 rfl
  · intro o ho FA x hO hD K hK
    obtain rfl := Option.some.inj ho.symm
    clear ho
    have ev47 : FA.eval (.tmp 47) = _ := hD 9 47 (by kernel_rfl)
    have e47 := (eval_tmp FA 47).symm.trans ev47
    replace ev47 := Lib.hid ev47
    clear hO hD
    go_simp
    exact hK.out _ _ (Ex.refl _) rfl
  refine Steps.fin_ (fun vs x hp => ?_)
  have p0 : vs 0 = _ := hp 0 (by omega)
  have p1 : vs 1 = _ := hp 1 (by omega)
  have p2 : vs 2 = _ := hp 2 (by omega)
  have p3 : vs 3 = _ := hp 3 (by omega)
  have p4 : vs 4 = _ := hp 4 (by omega)
  have p5 : vs 5 = _ := hp 5 (by omega)
  have p6 : vs 6 = _ := hp 6 (by omega)
  have p7 : vs 7 = _ := hp 7 (by omega)
  have p8 : vs 8 = _ := hp 8 (by omega)
  have p9 : vs 9 = _ := hp 9 (by omega)
  have p10 : vs 10 = _ := hp 10 (by omega)
  clear hp
  simp only [List.take_succ_cons, List.take_zero, List.drop_succ_cons, List.drop_zero, putAll, Nat.zero_add, Nat.reduceAdd, Act.put, List.setIfInBounds_toArray, List.set_cons_zero, List.set_cons_succ, p0, p1, p2, p3, p4, p5, p6, p7, p8, p9, p10]
  clear p0 p1 p2 p3 p4 p5 p6 p7 p8 p9 p10
  clear vs
  go_upto_region 14 with (fail)
  replace hf := hf.later (below_plus W x.bs x.d)
  replace hg := hg.later (below_plus W x.bs x.d)
  replace hg3 := hg3.later (below_plus W x.bs x.d)
  replace hmp := hmp.later (below_plus W x.bs x.d)
  replace hco := hco.later (below_plus W x.bs x.d)
  replace be := belowP be x.bs x.d
  generalize plus W x.bs x.d = W at *
  have hcbW := hco.li.blk
  have hC : Chg (Dm cb m l) w W := Chg.of_below be
  have zW3 : g3 < W.heap.size := hg3.lt
  have hn2 := hn
  go_upto_region 15 with (first
    | (refine at_op (.load 28 (.tmp 4)) rfl ?_; refine wpList_ldA (t := 28) 28 (.tmp 4) rfl rfl (f.c) rfl (hf) (whole_ _) v1 v2 (szFw _) ?_)
    | (refine at_op (.build 168 #[(0, .tmp 59), (1, .tmp 60)]) rfl ?_; refine wpList_build 168 [(0, .tmp 59), (1, .tmp 60)] rfl rfl (.agg (enC f wd none none).toArray) ?_ ?_; exact run_buildEn _ f wd))
  have hnw : Bk (W.alloc (.cells (enC f wd none none).toArray 168)) W.heap.size 168 (enC f wd none none) := Bk.new _ _ _
  replace hC := hC.trans (Chg.of_below (Below.allocS (Below.refl W.heap.size W) (.cells (enC f wd none none).toArray 168)))
  replace hf := hf.alloc (.cells (enC f wd none none).toArray 168)
  replace hg := hg.alloc (.cells (enC f wd none none).toArray 168)
  replace hg3 := hg3.alloc (.cells (enC f wd none none).toArray 168)
  replace hmp := hmp.alloc (.cells (enC f wd none none).toArray 168)
  replace hco := hco.later (Below.allocS (Below.refl W.heap.size W) (.cells (enC f wd none none).toArray 168))
  obtain ⟨g4, hg4e⟩ : ∃ g, g = W.heap.size := ⟨_, rfl⟩
  rw [← hg4e] at hnw ⊢ zW3
  generalize W.alloc (.cells (enC f wd none none).toArray 168) = W at *
  clear hg4e
  have hcbW := hco.li.blk
  go_wp2
  refine wp_relS 6 74 rfl (by kernel_rfl) (by kernel_rfl) ?_
  apply Steps.one (MP.eq _) 1 rfl
  · intro o ho FA x hO hD K hK
    obtain rfl := Option.some.inj ho.symm
    clear ho
    have e0 := hO 0 (by kernel_rfl)
    simp only [eval_tmp, List.getElem?_toArray, List.getElem?_cons_succ, List.getElem?_cons_zero, Option.getD_some] at e0
    have ev0 := Lib.hid ((eval_tmp FA 0).trans e0)
    clear hO hD
    go_simp
    exact hK.out _ _ (Ex.refl _) rfl
  apply Steps.one (MP.eq _) 2 rfl
  · intro o ho FA x hO hD K hK
    obtain rfl := Option.some.inj ho.symm
    clear ho
    have ev63 : FA.eval (.tmp 63) = _ := hD 0 63 (by kernel_rfl)
    have e63 := (eval_tmp FA 63).symm.trans ev63
    replace ev63 := Lib.hid ev63
    clear hO hD
    go_simp
    exact hK.out _ _ (Ex.refl _) rfl
  apply Steps.one (MP.eq _) 3 rfl
  · intro o ho FA x hO hD K hK
    obtain rfl := Option.some.inj ho.symm
    clear ho
    have ev64 : FA.eval (.tmp 64) = _ := hD 1 64 (by kernel_rfl)
    have e64 := (eval_tmp FA 64).symm.trans ev64
    replace ev64 := Lib.hid ev64
    clear hO hD
    go_simp
    exact hK.out _ _ (Ex.refl _) rfl
  apply Steps.one (MP.eq _) 4 rfl
  · intro o ho FA x hO hD K hK
    obtain rfl := Option.some.inj ho.symm
    clear ho
    have ev65 : FA.eval (.tmp 65) = _ := hD 2 65 (by kernel_rfl)
    have e65 := (eval_tmp FA 65).symm.trans ev65
    replace ev65 := Lib.hid ev65
    clear hO hD
    refine wanted_if rfl ?_
    refine wp_ld1 49 (.tmp 65) rfl ev65.out (hcbW.later (below_plus _ _ _)) rfl Try.underlying49 rfl ?_
    exact hK.out _ _ (Ex.refl _) rfl
  apply Steps.one (MP.eq _) 5 rfl
  · intro o ho FA x hO hD K hK
    obtain rfl := Option.some.inj ho.symm
    clear ho
    have e4 := hO 4 (by kernel_rfl)
    simp only [eval_tmp, List.getElem?_toArray, List.getElem?_cons_succ, List.getElem?_cons_zero, Option.getD_some] at e4
    have ev4 := Lib.hid ((eval_tmp FA 4).trans e4)
    clear hO hD
    refine wanted_if rfl ?_
    refine wp_ldA 28 (.tmp 4) rfl (f.c) ev4.out (hf.later (below_plus _ _ _)) (whole_ _) v1 v2 (szFw f) ?_
    exact hK.out _ _ (Ex.refl _) rfl
  apply Steps.one (MP.eq _) 6 rfl
  · intro o ho FA x hO hD K hK
    obtain rfl := Option.some.inj ho.symm
    clear ho
    have e11 := hO 11 (by kernel_rfl)
    simp only [eval_tmp, List.getElem?_toArray, List.getElem?_cons_succ, List.getElem?_cons_zero, Option.getD_some] at e11
    have ev11 := Lib.hid ((eval_tmp FA 11).trans e11)
    clear hO hD
    go_simp
    exact hK.out _ _ (Ex.refl _) rfl
  refine Steps.fin_ (fun vs x hp => ?_)
  have p0 : vs 0 = _ := hp 0 (by omega)
  have p1 : vs 1 = _ := hp 1 (by omega)
  have p2 : vs 2 = _ := hp 2 (by omega)
  have p3 : vs 3 = _ := hp 3 (by omega)
  have p4 : vs 4 = _ := hp 4 (by omega)
  have p5 : vs 5 = _ := hp 5 (by omega)
  clear hp
  simp only [List.take_succ_cons, List.take_zero, List.drop_succ_cons, List.drop_zero, putAll, Nat.zero_add, Nat.reduceAdd, Act.put, List.setIfInBounds_toArray, List.set_cons_zero, List.set_cons_succ, p0, p1, p2, p3, p4, p5]
  clear p0 p1 p2 p3 p4 p5
  clear vs
  go_upto_region 16 with (refine at_op (.mapUpdate 49 (.tmp 66) (.tmp 67) (.tmp 68)) rfl ?_; refine wpList_put rfl (.tmp 66) (.tmp 67) (.tmp 68) rfl (m := m) rfl f rfl (pp (some g4)) rfl (hmp.later (below_plus _ _ _)) (find_miss hperm hn2) ?_; intro w3 hmp3 hgr3)
  have hK : Chg (fun b => b = m) W w3 := (Chg.of_below (below_plus W x.bs x.d)).trans (Chg.grown hgr3 (fun k hk => by injection hk with hk; exact hk.symm))
  have hmlt : m < w.heap.size := hlt m (.inr (.inl rfl))
  have hcblt : cb < w.heap.size := hlt cb (.inl rfl)
  have hxlt : ∀ y ∈ l, y.b < w.heap.size := fun y hy => hlt y.b (.inr (.inr ⟨y, hy, rfl⟩))
  replace hC := hC.trans (hK.wider (fun b hb => .inr (.inl hb)))
  have hli3 := hco.li.chg hK (fun b hb e => by subst e; exact hb.elim (fun e => hco.nm.1 e) (fun ⟨y, hy, e⟩ => hco.nm.2 y hy e))
  replace hnw := hnw.chg hK (by omega)
  replace hg := hg.chg hK (by omega)
  replace hg3 := hg3.chg hK (by omega)
  go_upto_region 17 with (go_at_call 73; refine (link_any _ cb m most (l) ⟨f, wd, g4⟩ none none hli3 hnw ⟨by simp only []; omega, fun y hy => by have := hxlt y hy; simp only []; omega⟩).mono ?_; rintro e w1 ⟨rfl, hc2, hli2⟩)
  have hD : ∀ b, Dl cb (l ++ [(⟨f, wd, g4⟩ : En)]) b → (b < w.heap.size ∧ b ≠ m) ∨ b = g4 := by
    rintro b (rfl | ⟨y, hy, rfl⟩)
    · exact .inl ⟨hcblt, fun e => hco.nm.1 e.symm⟩
    · rcases List.mem_append.1 hy with h1 | h1
      · exact .inl ⟨hxlt y h1, hco.nm.2 y h1⟩
      · simp only [List.mem_cons, List.not_mem_nil, or_false] at h1
        subst h1
        exact .inr rfl
  replace hC := hC.mix hc2 (fun b hb => by
    rcases hb with e | ⟨y, hy, e⟩
    · exact .inl (.inl e)
    · rcases List.mem_append.1 hy with h1 | h1
      · exact .inl (.inr (.inr ⟨y, h1, e⟩))
      · simp only [List.mem_cons, List.not_mem_nil, or_false] at h1
        subst h1
        simp only [] at e
        exact .inr (by omega))
  replace hg := hg.chg hc2 (fun hd => by have := hD _ hd; omega)
  replace hg3 := hg3.chg hc2 (fun hd => by have := hD _ hd; omega)
  have hmp4 := hmp3.chg hc2 (fun hd => by have := hD _ hd; omega)
  have hco2 := Co.more (wd := wd) hperm hco.nf hn2 hco.nm (show g4 ≠ m by omega) hmp4 hli2
  go_wp2_with (first
    | (refine at_op (.load 28 (.tmp 9)) rfl ?_; refine wpList_ldA (t := 28) 28 (.tmp 9) rfl rfl (fw0.c) rfl (hg3) (whole_ _) v1 v2 (szFw _) ?_)
    | (refine at_op (.store 28 (.tmp 6) (.tmp 72)) rfl ?_; refine wpList_stA (t := 28) 28 (.tmp 6) (.tmp 72) rfl rfl (fw0.c) ([.bool false, .int .u64 0, .int .u64 0, .bool false, .int .u64 0, .int .u64 0, .int .u16 0, .int .u16 0, .int .u8 0]) rfl (Fw.c_one _) rfl rfl (hg) (szFw _) ?_; intro W9 hg9 hgr9))
  refine bodyPost_agg2 Try.results19 rfl rfl (Bk.range hg9) v1 v2 (szFw _) rfl ?_
  refine ⟨by simp [hroom], hC.fresh hgr9 (by omega), g4, by omega, hco2.aside hgr9 ?_⟩
  rintro (e | e | ⟨y, hy, e⟩)
  · omega
  · omega
  · rcases List.mem_append.1 hy with h1 | h1
    · have := hxlt y h1; omega
    · simp only [List.mem_cons, List.not_mem_nil, or_false] at h1
      subst h1
      simp only [] at e
      omega
set_option maxHeartbeats 4000000 in
set_option maxRecDepth 100000 in
theorem put_evicts (w : World) (cb m : Nat) (most : Int) (en : En) (s : List En) (f : Fw) (wd : Nat) (h : Co w cb m most (en :: s)) (hn : ∀ x ∈ en :: s, x.f ≠ f) (hroom : most ≤ (s.length : Int) + 1) (hll : (en :: s : List En).length ≤ 1099511627776) :
    Calls Try.prog 19 #[.pointer (some ⟨cb, 0, none⟩), .agg f.c.toArray, .int .u16 (wd : Int)] w fun e w' => e = .returned (.tuple #[.agg en.f.c.toArray, .bool true]) ∧ Chg (Dm cb m (en :: s)) w w' ∧ ∃ b, w.heap.size ≤ b ∧ Co w' cb m most (s ++ [⟨f, wd, b⟩]) := by
  have HC := Lib.hid (fun V hV => find_no V cb m most (en :: s) f (h.later hV) hn)
  have hlt := h.lt
  obtain ⟨dv1, v1, v2⟩ := rowFw
  have hf : Bk ((w.alloc (.cells (f.c).toArray 28)).alloc (.cells ([.bool false, .int .u64 0, .int .u64 0, .bool false, .int .u64 0, .int .u64 0, .int .u16 0, .int .u16 0, .int .u8 0]).toArray 28)) w.heap.size 28 (f.c) := (Bk.new w 28 (f.c).toArray).alloc _
  have hg : Bk ((w.alloc (.cells (f.c).toArray 28)).alloc (.cells ([.bool false, .int .u64 0, .int .u64 0, .bool false, .int .u64 0, .int .u64 0, .int .u16 0, .int .u16 0, .int .u8 0]).toArray 28)) (w.heap.size + 1) 28 ([.bool false, .int .u64 0, .int .u64 0, .bool false, .int .u64 0, .int .u64 0, .int .u16 0, .int .u16 0, .int .u8 0]) := Bk.newK _ _ _ (by simp) rfl
  have be : Below w.heap.size w ((w.alloc (.cells (f.c).toArray 28)).alloc (.cells ([.bool false, .int .u64 0, .int .u64 0, .bool false, .int .u64 0, .int .u64 0, .int .u16 0, .int .u16 0, .int .u8 0]).toArray 28)) := Below.allocS (Below.allocS (Below.refl _ _) _) _
  have zV : w.heap.size + 2 ≤ ((w.alloc (.cells (f.c).toArray 28)).alloc (.cells ([.bool false, .int .u64 0, .int .u64 0, .bool false, .int .u64 0, .int .u64 0, .int .u16 0, .int .u16 0, .int .u8 0]).toArray 28)).heap.size := by simp
  go_enter Try.func19, Try.ntmps19
  go_upto_region 1 with (fail)
  generalize (w.alloc (.cells (f.c).toArray 28)).alloc (.cells ([.bool false, .int .u64 0, .int .u64 0, .bool false, .int .u64 0, .int .u64 0, .int .u16 0, .int .u16 0, .int .u8 0]).toArray 28) = V at *
  have c1 : V.cell? ⟨cb, 1, none⟩ = some (.map (some m)) := (h.later be).li.blk.cell 1
  go_upto_region 9 with (first
    | (refine at_op (.load 28 (.tmp 4)) rfl ?_; refine wpList_ldA (t := 28) 28 (.tmp 4) rfl rfl (f.c) rfl (hf) (whole_ _) v1 v2 (szFw _) ?_)
    | (go_at_call 71; refine (HC.out _ be).mono ?_; rintro e w1 ⟨bs1, d1, rfl, rfl⟩))
  replace be := belowP be bs1 d1
  replace hf := hf.later (below_plus _ bs1 d1)
  replace hg := hg.later (below_plus _ bs1 d1)
  have hgW : w.heap.size + 2 ≤ (plus V bs1 d1).heap.size := by simp only [size_plus]; omega
  generalize plus V bs1 d1 = W at *
  have hco := h.later be
  clear c1
  go_upto_region 10 with (fail)
  have zW := be.size
  have hg3 : Bk (W.alloc (.cells ([.bool false, .int .u64 0, .int .u64 0, .bool false, .int .u64 0, .int .u64 0, .int .u16 0, .int .u16 0, .int .u8 0]).toArray 28)) W.heap.size 28 [.bool false, .int .u64 0, .int .u64 0, .bool false, .int .u64 0, .int .u64 0, .int .u16 0, .int .u16 0, .int .u8 0] := Bk.new _ _ _
  replace be := Below.allocS be (.cells ([.bool false, .int .u64 0, .int .u64 0, .bool false, .int .u64 0, .int .u64 0, .int .u16 0, .int .u16 0, .int .u8 0]).toArray 28)
  replace hf := hf.alloc (.cells ([.bool false, .int .u64 0, .int .u64 0, .bool false, .int .u64 0, .int .u64 0, .int .u16 0, .int .u16 0, .int .u8 0]).toArray 28)
  replace hg := hg.alloc (.cells ([.bool false, .int .u64 0, .int .u64 0, .bool false, .int .u64 0, .int .u64 0, .int .u16 0, .int .u16 0, .int .u8 0]).toArray 28)
  obtain ⟨g3, hg3e⟩ : ∃ g, g = W.heap.size := ⟨_, rfl⟩
  rw [← hg3e] at hg3 ⊢
  have zg3 : w.heap.size + 2 ≤ g3 := by have := hg.lt; have := hg3.lt; have h4 : w.heap.size + 2 ≤ W.heap.size := by have := hgW; omega
                                        omega
  generalize W.alloc (.cells ([.bool false, .int .u64 0, .int .u64 0, .bool false, .int .u64 0, .int .u64 0, .int .u16 0, .int .u16 0, .int .u8 0]).toArray 28) = W at *
  clear hg3e hco
  have hco := h.later be
  obtain ⟨L, hmp, hperm⟩ := hco.mp
  have hlL : (L.length : Int) = (s.length : Int) + 1 := by rw [hperm.length_eq, List.length_map]; simp
  have hcbW := hco.li.blk
  go_wp2
  refine wp_relS 11 74 rfl (by kernel_rfl) (by kernel_rfl) ?_
  apply Steps.one (MP.eq _) 1 rfl
  · intro o ho FA x hO hD K hK
    obtain rfl := Option.some.inj ho.symm
    clear ho
    have e0 := hO 0 (by kernel_rfl)
    simp only [eval_tmp, List.getElem?_toArray, List.getElem?_cons_succ, List.getElem?_cons_zero, Option.getD_some] at e0
    have ev0 := Lib.hid ((eval_tmp FA 0).trans e0)
    clear hO hD
    go_simp
    exact hK.out _ _ (Ex.refl _) rfl
  apply Steps.one (MP.eq _) 2 rfl
  · intro o ho FA x hO hD K hK
    obtain rfl := Option.some.inj ho.symm
    clear ho
    have ev38 : FA.eval (.tmp 38) = _ := hD 0 38 (by kernel_rfl)
    have e38 := (eval_tmp FA 38).symm.trans ev38
    replace ev38 := Lib.hid ev38
    clear hO hD
    go_simp
    exact hK.out _ _ (Ex.refl _) rfl
  apply Steps.one (MP.eq _) 3 rfl
  · intro o ho FA x hO hD K hK
    obtain rfl := Option.some.inj ho.symm
    clear ho
    have ev39 : FA.eval (.tmp 39) = _ := hD 1 39 (by kernel_rfl)
    have e39 := (eval_tmp FA 39).symm.trans ev39
    replace ev39 := Lib.hid ev39
    clear hO hD
    go_simp
    exact hK.out _ _ (Ex.refl _) rfl
  apply Steps.one (MP.eq _) 4 rfl
  · intro o ho FA x hO hD K hK
    obtain rfl := Option.some.inj ho.symm
    clear ho
    have ev40 : FA.eval (.tmp 40) = _ := hD 2 40 (by kernel_rfl)
    have e40 := (eval_tmp FA 40).symm.trans ev40
    replace ev40 := Lib.hid ev40
    clear hO hD
    refine wanted_if rfl ?_
    refine wp_ld1 49 (.tmp 40) rfl ev40.out (hcbW.later (below_plus _ _ _)) rfl Try.underlying49 rfl ?_
    exact hK.out _ _ (Ex.refl _) rfl
  apply Steps.one (MP.eq _) 5 rfl
  · intro o ho FA x hO hD K hK
    obtain rfl := Option.some.inj ho.symm
    clear ho
    have ev41 : FA.eval (.tmp 41) = _ := hD 3 41 (by kernel_rfl)
    have e41 := (eval_tmp FA 41).symm.trans ev41
    replace ev41 := Lib.hid ev41
    clear hO hD
    refine wanted_if rfl ?_
    refine wp_lenM (.tmp 41) rfl ev41.out (hmp.later (below_plus _ _ _)) hlL ?_
    exact hK.out _ _ (Ex.refl _) rfl
  apply Steps.one (MP.eq _) 6 rfl
  · intro o ho FA x hO hD K hK
    obtain rfl := Option.some.inj ho.symm
    clear ho
    have e0 := hO 0 (by kernel_rfl)
    simp only [eval_tmp, List.getElem?_toArray, List.getElem?_cons_succ, List.getElem?_cons_zero, Option.getD_some] at e0
    have ev0 := Lib.hid ((eval_tmp FA 0).trans e0)
    clear hO hD
    go_simp
    exact hK.out _ _ (Ex.refl _) rfl
  apply Steps.one (MP.eq _) 7 rfl
  · intro o ho FA x hO hD K hK
    obtain rfl := Option.some.inj ho.symm
    clear ho
    have ev43 : FA.eval (.tmp 43) = _ := hD 5 43 (by kernel_rfl)
    have e43 := (eval_tmp FA 43).symm.trans ev43
    replace ev43 := Lib.hid ev43
    clear hO hD
    go_simp
    exact hK.out _ _ (Ex.refl _) rfl
  apply Steps.one (MP.eq _) 8 rfl
  · intro o ho FA x hO hD K hK
    obtain rfl := Option.some.inj ho.symm
    clear ho
    have ev44 : FA.eval (.tmp 44) = _ := hD 6 44 (by kernel_rfl)
    have e44 := (eval_tmp FA 44).symm.trans ev44
    replace ev44 := Lib.hid ev44
    clear hO hD
    go_simp
    exact hK.out _ _ (Ex.refl _) rfl
  apply Steps.one (MP.eq _) 9 rfl
  · intro o ho FA x hO hD K hK
    obtain rfl := Option.some.inj ho.symm
    clear ho
    have ev45 : FA.eval (.tmp 45) = _ := hD 7 45 (by kernel_rfl)
    have e45 := (eval_tmp FA 45).symm.trans ev45
    replace ev45 := Lib.hid ev45
    clear hO hD
    refine wanted_if rfl ?_
    refine wp_ld1 3 (.tmp 45) rfl ev45.out (hcbW.later (below_plus _ _ _)) rfl Try.underlying3 rfl ?_
    exact hK.out _ _ (Ex.refl _) rfl
  apply Steps.one (MP.eq _) 10 rfl
  · intro o ho FA x hO hD K hK
    obtain rfl := Option.some.inj ho.symm
    clear ho
    have ev42 : FA.eval (.tmp 42) = _ := hD 4 42 (by kernel_rfl)
    have e42 := (eval_tmp FA 42).symm.trans ev42
    replace ev42 := Lib.hid ev42
    have ev46 : FA.eval (.tmp 46) = _ := hD 8 46 (by kernel_rfl)
    have e46 := (eval_tmp FA 46).symm.trans ev46
    replace ev46 := Lib.hid ev46
    clear hO hD
    go_simp
    exact hK.out _ _ (Ex.refl _) rfl
  apply Steps.one (MP.eq _) 11 rfl
  · intro o ho FA x hO hD K hK
    obtain rfl := Option.some.inj ho.symm
    clear ho
    have ev47 : FA.eval (.tmp 47) = _ := hD 9 47 (by kernel_rfl)
    have e47 := (eval_tmp FA 47).symm.trans ev47
    replace ev47 := Lib.hid ev47
    clear hO hD
    go_simp
    exact hK.out _ _ (Ex.refl _) rfl
  refine Steps.fin_ (fun vs x hp => ?_)
  have p0 : vs 0 = _ := hp 0 (by omega)
  have p1 : vs 1 = _ := hp 1 (by omega)
  have p2 : vs 2 = _ := hp 2 (by omega)
  have p3 : vs 3 = _ := hp 3 (by omega)
  have p4 : vs 4 = _ := hp 4 (by omega)
  have p5 : vs 5 = _ := hp 5 (by omega)
  have p6 : vs 6 = _ := hp 6 (by omega)
  have p7 : vs 7 = _ := hp 7 (by omega)
  have p8 : vs 8 = _ := hp 8 (by omega)
  have p9 : vs 9 = _ := hp 9 (by omega)
  have p10 : vs 10 = _ := hp 10 (by omega)
  clear hp
  simp only [List.take_succ_cons, List.take_zero, List.drop_succ_cons, List.drop_zero, putAll, Nat.zero_add, Nat.reduceAdd, Act.put, List.setIfInBounds_toArray, List.set_cons_zero, List.set_cons_succ, p0, p1, p2, p3, p4, p5, p6, p7, p8, p9, p10]
  clear p0 p1 p2 p3 p4 p5 p6 p7 p8 p9 p10
  clear vs
  go_upto_region 12 with (fail)
  replace hf := hf.later (below_plus W x.bs x.d)
  replace hg := hg.later (below_plus W x.bs x.d)
  replace hg3 := hg3.later (below_plus W x.bs x.d)
  replace hmp := hmp.later (below_plus W x.bs x.d)
  replace hco := hco.later (below_plus W x.bs x.d)
  replace be := belowP be x.bs x.d
  generalize plus W x.bs x.d = W at *
  have hcbW := hco.li.blk
  have hC : Chg (Dm cb m (en :: s)) w W := Chg.of_below be
  have hen : Bk W en.b 168 (enC en.f en.wd none (hdB none s)) := hco.li.seg.1
  have c2 : W.cell? ⟨cb, 2, none⟩ = some (.pointer (some ⟨en.b, 0, none⟩)) := hcbW.cell 2
  go_upto_region 13 with (first
    | (refine at_op (.load 28 (.tmp 54)) rfl ?_; refine wpList_ldA (t := 168) 28 (.tmp 54) rfl rfl (en.f.c) rfl hen (by rw [List.drop_zero]; exact List.take_left) v1 v2 (szFw _) ?_)
    | (refine at_op (.store 28 (.tmp 9) (.tmp 55)) rfl ?_; refine wpList_stA (t := 28) 28 (.tmp 9) (.tmp 55) rfl rfl (en.f.c) ([.bool false, .int .u64 0, .int .u64 0, .bool false, .int .u64 0, .int .u64 0, .int .u16 0, .int .u16 0, .int .u8 0]) rfl (Fw.c_one _) rfl rfl (hg3) (szFw _) ?_; intro W8 hg8 hgr8))
  clear c2 hen
  replace hC := hC.fresh hgr8 (by omega)
  replace hf := hf.grown hgr8 (fun e => by injection e with e; omega)
  replace hg := hg.grown hgr8 (fun e => by injection e with e; omega)
  replace hco := hco.aside hgr8 (fun hd => by have := hlt _ hd; omega)
  go_upto_region 14 with (first
    | (refine at_op (.load 28 (.tmp 9)) rfl ?_; refine wpList_ldA (t := 28) 28 (.tmp 9) rfl rfl (en.f.c) rfl (hg8) (whole_ _) v1 v2 (szFw _) ?_)
    | (go_at_call 16; refine (drop_is _ cb m most [] s en hco).mono ?_; rintro e W ⟨rfl, hc1, hco1, -⟩))
  replace hC := hC.trans hc1
  replace hf := hf.chg hc1 (fun hd => by have := hlt _ hd; omega)
  replace hg := hg.chg hc1 (fun hd => by have := hlt _ hd; omega)
  have hg3 := hg8.chg hc1 (fun hd => by have := hlt _ hd; omega)
  clear hg8 hco hmp hperm hcbW hlL
  have hco : Co W cb m most s := hco1
  obtain ⟨L, hmp, hperm⟩ := hco.mp
  have hcbW := hco.li.blk
  have zW3 : g3 < W.heap.size := hg3.lt
  have hn2 : ∀ x ∈ s, x.f ≠ f := fun x hx => hn x (List.mem_cons_of_mem _ hx)
  go_upto_region 15 with (first
    | (refine at_op (.load 28 (.tmp 4)) rfl ?_; refine wpList_ldA (t := 28) 28 (.tmp 4) rfl rfl (f.c) rfl (hf) (whole_ _) v1 v2 (szFw _) ?_)
    | (refine at_op (.build 168 #[(0, .tmp 59), (1, .tmp 60)]) rfl ?_; refine wpList_build 168 [(0, .tmp 59), (1, .tmp 60)] rfl rfl (.agg (enC f wd none none).toArray) ?_ ?_; exact run_buildEn _ f wd))
  have hnw : Bk (W.alloc (.cells (enC f wd none none).toArray 168)) W.heap.size 168 (enC f wd none none) := Bk.new _ _ _
  replace hC := hC.trans (Chg.of_below (Below.allocS (Below.refl W.heap.size W) (.cells (enC f wd none none).toArray 168)))
  replace hf := hf.alloc (.cells (enC f wd none none).toArray 168)
  replace hg := hg.alloc (.cells (enC f wd none none).toArray 168)
  replace hg3 := hg3.alloc (.cells (enC f wd none none).toArray 168)
  replace hmp := hmp.alloc (.cells (enC f wd none none).toArray 168)
  replace hco := hco.later (Below.allocS (Below.refl W.heap.size W) (.cells (enC f wd none none).toArray 168))
  obtain ⟨g4, hg4e⟩ : ∃ g, g = W.heap.size := ⟨_, rfl⟩
  rw [← hg4e] at hnw ⊢ zW3
  generalize W.alloc (.cells (enC f wd none none).toArray 168) = W at *
  clear hg4e
  have hcbW := hco.li.blk
  go_wp2
  refine wp_relS 6 74 rfl (by kernel_rfl) (by kernel_rfl) ?_
  apply Steps.one (MP.eq _) 1 rfl
  · intro o ho FA x hO hD K hK
    obtain rfl := Option.some.inj ho.symm
    clear ho
    have e0 := hO 0 (by kernel_rfl)
    simp only [eval_tmp, List.getElem?_toArray, List.getElem?_cons_succ, List.getElem?_cons_zero, Option.getD_some] at e0
    have ev0 := Lib.hid ((eval_tmp FA 0).trans e0)
    clear hO hD
    go_simp
    exact hK.out _ _ (Ex.refl _) rfl
  apply Steps.one (MP.eq _) 2 rfl
  · intro o ho FA x hO hD K hK
    obtain rfl := Option.some.inj ho.symm
    clear ho
    have ev63 : FA.eval (.tmp 63) = _ := hD 0 63 (by kernel_rfl)
    have e63 := (eval_tmp FA 63).symm.trans ev63
    replace ev63 := Lib.hid ev63
    clear hO hD
    go_simp
    exact hK.out _ _ (Ex.refl _) rfl
  apply Steps.one (MP.eq _) 3 rfl
  · intro o ho FA x hO hD K hK
    obtain rfl := Option.some.inj ho.symm
    clear ho
    have ev64 : FA.eval (.tmp 64) = _ := hD 1 64 (by kernel_rfl)
    have e64 := (eval_tmp FA 64).symm.trans ev64
    replace ev64 := Lib.hid ev64
    clear hO hD
    go_simp
    exact hK.out _ _ (Ex.refl _) rfl
  apply Steps.one (MP.eq _) 4 rfl
  · intro o ho FA x hO hD K hK
    obtain rfl := Option.some.inj ho.symm
    clear ho
    have ev65 : FA.eval (.tmp 65) = _ := hD 2 65 (by kernel_rfl)
    have e65 := (eval_tmp FA 65).symm.trans ev65
    replace ev65 := Lib.hid ev65
    clear hO hD
    refine wanted_if rfl ?_
    refine wp_ld1 49 (.tmp 65) rfl ev65.out (hcbW.later (below_plus _ _ _)) rfl Try.underlying49 rfl ?_
    exact hK.out _ _ (Ex.refl _) rfl
  apply Steps.one (MP.eq _) 5 rfl
  · intro o ho FA x hO hD K hK
    obtain rfl := Option.some.inj ho.symm
    clear ho
    have e4 := hO 4 (by kernel_rfl)
    simp only [eval_tmp, List.getElem?_toArray, List.getElem?_cons_succ, List.getElem?_cons_zero, Option.getD_some] at e4
    have ev4 := Lib.hid ((eval_tmp FA 4).trans e4)
    clear hO hD
    refine wanted_if rfl ?_
    refine wp_ldA 28 (.tmp 4) rfl (f.c) ev4.out (hf.later (below_plus _ _ _)) (whole_ _) v1 v2 (szFw f) ?_
    exact hK.out _ _ (Ex.refl _) rfl
  apply Steps.one (MP.eq _) 6 rfl
  · intro o ho FA x hO hD K hK
    obtain rfl := Option.some.inj ho.symm
    clear ho
    have e11 := hO 11 (by kernel_rfl)
    simp only [eval_tmp, List.getElem?_toArray, List.getElem?_cons_succ, List.getElem?_cons_zero, Option.getD_some] at e11
    have ev11 := Lib.hid ((eval_tmp FA 11).trans e11)
    clear hO hD
    go_simp
    exact hK.out _ _ (Ex.refl _) rfl
  refine Steps.fin_ (fun vs x hp => ?_)
  have p0 : vs 0 = _ := hp 0 (by omega)
  have p1 : vs 1 = _ := hp 1 (by omega)
  have p2 : vs 2 = _ := hp 2 (by omega)
  have p3 : vs 3 = _ := hp 3 (by omega)
  have p4 : vs 4 = _ := hp 4 (by omega)
  have p5 : vs 5 = _ := hp 5 (by omega)
  clear hp
  simp only [List.take_succ_cons, List.take_zero, List.drop_succ_cons, List.drop_zero, putAll, Nat.zero_add, Nat.reduceAdd, Act.put, List.setIfInBounds_toArray, List.set_cons_zero, List.set_cons_succ, p0, p1, p2, p3, p4, p5]
  clear p0 p1 p2 p3 p4 p5
  clear vs
  go_upto_region 16 with (refine at_op (.mapUpdate 49 (.tmp 66) (.tmp 67) (.tmp 68)) rfl ?_; refine wpList_put rfl (.tmp 66) (.tmp 67) (.tmp 68) rfl (m := m) rfl f rfl (pp (some g4)) rfl (hmp.later (below_plus _ _ _)) (find_miss hperm hn2) ?_; intro w3 hmp3 hgr3)
  have hK : Chg (fun b => b = m) W w3 := (Chg.of_below (below_plus W x.bs x.d)).trans (Chg.grown hgr3 (fun k hk => by injection hk with hk; exact hk.symm))
  have hmlt : m < w.heap.size := hlt m (.inr (.inl rfl))
  have hcblt : cb < w.heap.size := hlt cb (.inl rfl)
  have hxlt : ∀ y ∈ s, y.b < w.heap.size := fun y hy => hlt y.b (.inr (.inr ⟨y, List.mem_cons_of_mem _ hy, rfl⟩))
  replace hC := hC.trans (hK.wider (fun b hb => .inr (.inl hb)))
  have hli3 := hco.li.chg hK (fun b hb e => by subst e; exact hb.elim (fun e => hco.nm.1 e) (fun ⟨y, hy, e⟩ => hco.nm.2 y hy e))
  replace hnw := hnw.chg hK (by omega)
  replace hg := hg.chg hK (by omega)
  replace hg3 := hg3.chg hK (by omega)
  go_upto_region 17 with (go_at_call 73; refine (link_any _ cb m most (s) ⟨f, wd, g4⟩ none none hli3 hnw ⟨by simp only []; omega, fun y hy => by have := hxlt y hy; simp only []; omega⟩).mono ?_; rintro e w1 ⟨rfl, hc2, hli2⟩)
  have hD : ∀ b, Dl cb (s ++ [(⟨f, wd, g4⟩ : En)]) b → (b < w.heap.size ∧ b ≠ m) ∨ b = g4 := by
    rintro b (rfl | ⟨y, hy, rfl⟩)
    · exact .inl ⟨hcblt, fun e => hco.nm.1 e.symm⟩
    · rcases List.mem_append.1 hy with h1 | h1
      · exact .inl ⟨hxlt y h1, hco.nm.2 y h1⟩
      · simp only [List.mem_cons, List.not_mem_nil, or_false] at h1
        subst h1
        exact .inr rfl
  replace hC := hC.mix hc2 (fun b hb => by
    rcases hb with e | ⟨y, hy, e⟩
    · exact .inl (.inl e)
    · rcases List.mem_append.1 hy with h1 | h1
      · exact .inl (.inr (.inr ⟨y, List.mem_cons_of_mem _ h1, e⟩))
      · simp only [List.mem_cons, List.not_mem_nil, or_false] at h1
        subst h1
        simp only [] at e
        exact .inr (by omega))
  replace hg := hg.chg hc2 (fun hd => by have := hD _ hd; omega)
  replace hg3 := hg3.chg hc2 (fun hd => by have := hD _ hd; omega)
  have hmp4 := hmp3.chg hc2 (fun hd => by have := hD _ hd; omega)
  have hco2 := Co.more (wd := wd) hperm hco.nf hn2 hco.nm (show g4 ≠ m by omega) hmp4 hli2
  go_wp2_with (first
    | (refine at_op (.load 28 (.tmp 9)) rfl ?_; refine wpList_ldA (t := 28) 28 (.tmp 9) rfl rfl (en.f.c) rfl (hg3) (whole_ _) v1 v2 (szFw _) ?_)
    | (refine at_op (.store 28 (.tmp 6) (.tmp 72)) rfl ?_; refine wpList_stA (t := 28) 28 (.tmp 6) (.tmp 72) rfl rfl (en.f.c) ([.bool false, .int .u64 0, .int .u64 0, .bool false, .int .u64 0, .int .u64 0, .int .u16 0, .int .u16 0, .int .u8 0]) rfl (Fw.c_one _) rfl rfl (hg) (szFw _) ?_; intro W9 hg9 hgr9))
  refine bodyPost_agg2 Try.results19 rfl rfl (Bk.range hg9) v1 v2 (szFw _) rfl ?_
  refine ⟨by simp [hroom], hC.fresh hgr9 (by omega), g4, by omega, hco2.aside hgr9 ?_⟩
  rintro (e | e | ⟨y, hy, e⟩)
  · omega
  · omega
  · rcases List.mem_append.1 hy with h1 | h1
    · have := hxlt y h1; omega
    · simp only [List.mem_cons, List.not_mem_nil, or_false] at h1
      subst h1
      simp only [] at e
      omega
/-- a new table -/
def RetTab (w : World) (most : Int) (e : Ending) (w' : World) : Prop := ∃ cb m, e = .returned (.pointer (some ⟨cb, 0, none⟩)) ∧ Below w.heap.size w w' ∧ Co w' cb m (min (max most 1) 1024) [] ∧ w.heap.size ≤ cb ∧ w.heap.size ≤ m
set_option maxHeartbeats 4000000 in
set_option maxRecDepth 100000 in
theorem new_any (w : World) (most : Int) (hb : -9223372036854775808 ≤ most ∧ most ≤ 9223372036854775807) :
    Calls Try.prog 12 #[.int .i64 most] w (RetTab w most) := by
  by_cases h1 : most < 1
  · go_enter Try.func12, Try.ntmps12
    go_wp2
    go_ret
    have hb2 : Bk ((w.alloc (.map #[] 0)).alloc (.cells #[.int .i64 (1), .map (some w.heap.size), .pointer none, .pointer none] 52)) (w.heap.size + 1) 52 (cnC (1) w.heap.size (pp none) (pp none)) := Bk.newK _ _ _ (by simp) rfl
    refine ⟨w.heap.size + 1, w.heap.size, rfl, Below.allocS (Below.allocS (Below.refl _ _) _) _, ?_, by omega, Nat.le_refl _⟩
    rw [show min (max most 1) 1024 = 1 by omega]
    exact ⟨⟨hb2, trivial, by simp⟩, ⟨[], (Mp.new w).alloc _, List.Perm.refl _⟩, by simp, by omega, by simp⟩
  have h2 : 1 ≤ most := by omega
  by_cases h3 : most ≤ 1024
  · go_enter Try.func12, Try.ntmps12
    go_wp2
    go_ret
    have hb2 : Bk ((w.alloc (.map #[] 0)).alloc (.cells #[.int .i64 (most), .map (some w.heap.size), .pointer none, .pointer none] 52)) (w.heap.size + 1) 52 (cnC (most) w.heap.size (pp none) (pp none)) := Bk.newK _ _ _ (by simp) rfl
    refine ⟨w.heap.size + 1, w.heap.size, rfl, Below.allocS (Below.allocS (Below.refl _ _) _) _, ?_, by omega, Nat.le_refl _⟩
    rw [show min (max most 1) 1024 = most by omega]
    exact ⟨⟨hb2, trivial, by simp⟩, ⟨[], (Mp.new w).alloc _, List.Perm.refl _⟩, by simp, by omega, by simp⟩
  · go_enter Try.func12, Try.ntmps12
    go_wp2
    go_ret
    have hb2 : Bk ((w.alloc (.map #[] 0)).alloc (.cells #[.int .i64 (1024), .map (some w.heap.size), .pointer none, .pointer none] 52)) (w.heap.size + 1) 52 (cnC (1024) w.heap.size (pp none) (pp none)) := Bk.newK _ _ _ (by simp) rfl
    refine ⟨w.heap.size + 1, w.heap.size, rfl, Below.allocS (Below.allocS (Below.refl _ _) _) _, ?_, by omega, Nat.le_refl _⟩
    rw [show min (max most 1) 1024 = 1024 by omega]
    exact ⟨⟨hb2, trivial, by simp⟩, ⟨[], (Mp.new w).alloc _, List.Perm.refl _⟩, by simp, by omega, by simp⟩
end Go.Proofs.Ytenaiojddohbkaa

/- Rows of structs: append, with what becomes of the row's block; rows of encoded elements; rows that stay while other blocks change. -/
namespace Go.Proofs.Ytenaiojddohbkaa
open Go.RowKit
set_option linter.unusedVariables false

theorem run_appS2 {P : Program} (w : World) {ts ty e : TypeId} {z : Value} {s by_ : Nat} (et : ET P ts e z s by_) {base : Nat} {A : Option Addr} {n c : Nat} {l : List Value} (hown : Os e s w base A n c l)
    {A2 : Option Addr} {n2 c2 : Nat} {l2 : List Value} (hr : Rs s w A2 n2 c2 l2) (h1 : ∀ u ∈ l2, u.oneCell' = true) (hm : n + n2 ≤ 1099511627776) (hbase : base ≤ w.heap.size) :
    ∃ A' n' c' w', (Builtin.append_ #[ts, ts] ty #[.slice A n c, .slice A2 n2 c2]).run P w = .ok (.slice A' n' c') w' ∧ n' = n + n2 ∧ Os e s w' base A' n' c' (l ++ l2) ∧ Below base w w' ∧ w.grownBy w' (Value.slice A n c).ownBlock ∧
      ((Value.slice A' n' c').ownBlock = (Value.slice A n c).ownBlock ∨ (Value.slice A' n' c').ownBlock = some w.heap.size) := by
  obtain ⟨i, hi, hz0, hz1, hz2⟩ := info_parts et.info
  have hbel : ∀ {w'}, w.grownBy w' (Value.slice A n c).ownBlock → Below base w w' := fun hg => below_of_grown hg hbase fun k hk => (hown.blk k hk).1
  have fin : ∀ v' w', w'.ownsRow base e s v' (n + n2) (l ++ l2) → ∃ A' n' c', v' = .slice A' n' c' ∧ n' = n + n2 ∧ Os e s w' base A' n' c' (l ++ l2) := by
    intro v' w' h
    have h2 := h.2
    rcases h2 with ⟨hv, h0⟩ | ⟨g, cap, cur, hv, _⟩
    · refine ⟨none, 0, 0, hv, h0.symm, ?_⟩
      rw [hv, h0] at h
      exact h
    · refine ⟨_, _, _, hv, rfl, ?_⟩
      rw [hv] at h
      exact h
  cases A2 with
  | none =>
    have hl2 : l2 = [] := by
      rcases hr.2.2 with h | ⟨b, off, h, _⟩
      · exact h
      · cases h
    have hn2 : n2 = 0 := by
      have h3 := hr.1
      rw [hl2] at h3
      rcases Nat.eq_zero_or_pos n2 with h | h
      · exact h
      · have := Nat.mul_pos h et.pos
        simp at h3
        omega
    subst hn2
    subst hl2
    refine ⟨A, n, c, w, ?_, rfl, by simpa using hown, Below.refl _ _, World.grownBy.refl w _, .inl rfl⟩
    rcases hown.2 with ⟨hv, h0⟩ | ⟨g, cap, cur, hv, _, _, hnc, _⟩
    · injection hv with h1 h2 h3
      subst h1 h2 h3
      simp [Builtin.append_, run_underlying et.sl, sizeOf, typeInfo, hi, Builtin.lenOf, Builtin.firstCells]
    · injection hv with h1 h2 h3
      subst h1 h3
      simp [Builtin.append_, run_underlying et.sl, sizeOf, typeInfo, hi, Builtin.lenOf, Builtin.firstCells, hnc, storeCells]
  | some ad =>
    have hcells : ∀ j u, l2[j]? = some u → w.cell? (ad.add j) = some u := by
      intro j u hu
      rcases hr.2.2 with h | ⟨b, off, h, _, hc⟩
      · rw [h] at hu; simp at hu
      · injection h with h
        subst h
        rw [add_plain]
        exact hc j u hu
    have hby : (n + n2) * by_ ≤ 140737488355328 := Nat.le_trans (Nat.mul_le_mul hm et.small) (by decide)
    obtain ⟨v', w', hrun, h2, h3, _, h5⟩ := run_append_own_at (P := P) w base ts ty e i z s by_ et.sl hi hz0 hz1 hz2 et.zs et.pos (.slice A n c) n l hown ad n2 c2 l2
      hr.1 hcells h1 (by simp only [maxLen]; omega) hby hbase
    obtain ⟨A', n', c', rfl, hn', hob⟩ := fin v' w' h2
    exact ⟨A', n', c', w', hrun, hn', hob, hbel h3, h3, h5⟩
theorem Rs.chg {D : Nat → Prop} {s : Nat} {w w' : World} {A : Option Addr} {n c : Nat} {cs : List Value} (h : Rs s w A n c cs) (hc : Chg D w w') (hd : ∀ a, A = some a → ¬ D a.block) : Rs s w' A n c cs := by
  refine ⟨h.1, h.2.1, ?_⟩
  rcases h.2.2 with h' | ⟨b, off, hA, hb, hcell⟩
  · exact .inl h'
  · refine .inr ⟨b, off, hA, Nat.lt_of_lt_of_le hb hc.size, fun i u hu => ?_⟩
    rw [World.cell?_of_block (w := w) (hc.block b hb (hd _ hA))]
    exact hcell i u hu
theorem Os.chg {D : Nat → Prop} {e : TypeId} {s base : Nat} {w w' : World} {A : Option Addr} {n c : Nat} {cs : List Value} (h : Os e s w base A n c cs) (hc : Chg D w w') (hd : ∀ k, (Value.slice A n c).ownBlock = some k → ¬ D k) : Os e s w' base A n c cs := by
  refine ⟨h.1, ?_⟩
  rcases h.2 with h' | ⟨g, cap, cur, hv, hb, hg, hr⟩
  · exact .inl h'
  · have hk : (Value.slice A n c).ownBlock = some g := by rw [hv]; rfl
    exact .inr ⟨g, cap, cur, hv, hb, (hc.block g (h.blk g hk).2 (hd g hk)).trans hg, hr⟩
/-- a row of encoded elements -/
theorem flat_at {X : Type} (enc : X → List Value) (s : Nat) (hs : ∀ x, (enc x).length = s) : ∀ (L : List X) (j : Nat) (hj : j < L.length) (i : Nat) (u : Value), (enc L[j])[i]? = some u → (L.flatMap enc)[j * s + i]? = some u
  | x :: t, 0, _, i, u, h => by
    have hi : i < (enc x).length := (List.getElem?_eq_some_iff.1 h).1
    simp only [List.flatMap_cons, Nat.zero_mul, Nat.zero_add]
    rw [List.getElem?_append_left hi]
    exact h
  | x :: t, j + 1, hj, i, u, h => by
    have h2 := flat_at enc s hs t j (by simpa using hj) i u h
    simp only [List.flatMap_cons]
    rw [List.getElem?_append_right (by rw [hs, Nat.add_mul]; omega), hs, show (j + 1) * s + i - s = j * s + i by rw [Nat.add_mul]; omega]
    exact h2
theorem flat_len {X : Type} (enc : X → List Value) (s : Nat) (hs : ∀ x, (enc x).length = s) : ∀ L : List X, (L.flatMap enc).length = L.length * s
  | [] => by simp
  | x :: t => by simp [hs, flat_len enc s hs t, Nat.add_mul, Nat.add_comm]
theorem flat_take {X : Type} (enc : X → List Value) (s : Nat) (hs : ∀ x, (enc x).length = s) : ∀ (L : List X) (k : Nat), (L.flatMap enc).take (k * s) = (L.take k).flatMap enc
  | [], k => by simp
  | x :: t, 0 => by simp
  | x :: t, k + 1 => by
    simp only [List.flatMap_cons, List.take_succ_cons]
    rw [List.take_append, hs, List.take_of_length_le (by rw [hs, Nat.add_mul]; omega), show (k + 1) * s - s = k * s by rw [Nat.add_mul]; omega, flat_take enc s hs t k]
theorem flat_drop {X : Type} (enc : X → List Value) (s : Nat) (hs : ∀ x, (enc x).length = s) : ∀ (L : List X) (k : Nat), (L.flatMap enc).drop (k * s) = (L.drop k).flatMap enc
  | [], k => by simp
  | x :: t, 0 => by simp
  | x :: t, k + 1 => by
    simp only [List.flatMap_cons, List.drop_succ_cons]
    rw [List.drop_append, hs, List.drop_of_length_le (by rw [hs, Nat.add_mul]; omega), show (k + 1) * s - s = k * s by rw [Nat.add_mul]; omega, flat_drop enc s hs t k, List.nil_append]
theorem flat_one {X : Type} (enc : X → List Value) (h1 : ∀ x, ∀ u ∈ enc x, u.oneCell' = true) (L : List X) : ∀ u ∈ L.flatMap enc, u.oneCell' = true := by
  intro u hu
  obtain ⟨x, _, hx⟩ := List.mem_flatMap.1 hu
  exact h1 x u hx
/-- an element's cells -/
theorem Rs.rangeE {X : Type} {enc : X → List Value} {s : Nat} (hs : ∀ x, (enc x).length = s) {w : World} {b off n c : Nat} {L : List X} (h : Rs s w (some ⟨b, off, none⟩) n c (L.flatMap enc)) (j : Nat) (hj : j < L.length) :
    w.rangeAt b (off + j * s) (enc L[j]) := by
  intro i u hu
  have hp := flat_at enc s hs L j hj i u hu
  rcases h.2.2 with h0 | ⟨b', off', hA, hb, hc⟩
  · rw [h0] at hp; simp at hp
  · injection hA with hA
    injection hA with e1 e2
    subst e1 e2
    rw [Nat.add_assoc]
    exact hc _ _ hp
end Go.Proofs.Ytenaiojddohbkaa

/- awake, ConnsKeep (chapter 31). -/
namespace Go.Proofs.Ytenaiojddohbkaa
open Go.RowKit
set_option linter.unusedVariables false
set_option linter.unusedSimpArgs false
attribute [local go_sem ↓] sliced_cut

attribute [local go_sem] cutA_zero

theorem eql_fv (w : World) (f g : Fw) : (binOp .eql 28 (.agg f.c.toArray) (.agg g.c.toArray)).run Try.prog w = .ok (.bool (decide (f = g))) w := eql_fw w f g
theorem eqI_fv (w : World) (f g : Fw) : (Op.equalIn 10000 28 (.agg f.c.toArray) (.agg g.c.toArray)).run Try.prog w = .ok (decide (f = g)) w := eqI_fw 9999 (.inr rfl) w f g
attribute [local go_sem] eql_fv eqI_fv

def fw1 : Fw := ⟨false, 0, 0, false, 0, 0, 1, 0, 0⟩
def fw2 : Fw := ⟨false, 0, 0, false, 0, 0, 2, 0, 0⟩
theorem run_buildF1 (w : World) : (Instr.build 28 #[(2, .int .u16 1)]).run Try.prog w = .ok (.agg fw1.c.toArray) w := by kernel_rfl
theorem run_buildF2 (w : World) : (Instr.build 28 #[(2, .int .u16 2)]).run Try.prog w = .ok (.agg fw2.c.toArray) w := by kernel_rfl
theorem fw12 : fw1 ≠ fw2 := by intro h; have := congrArg Fw.sp h; simp [fw1, fw2] at this

set_option maxHeartbeats 4000000 in
set_option maxRecDepth 100000 in
theorem awake31 (w : World) : Calls Try.prog 11 #[] w (RetV w (.bool true)) := by
  obtain ⟨dv1, v1, v2⟩ := rowFw
  have h11 : decide (fw1 = fw1) = true := by simp
  go_enter Try.func11, Try.ntmps11
  go_upto_region 2 with (go_at_call 12; refine (new_any _ 1 (by omega)).mono ?_; rintro e w1 ⟨cb, m, rfl, be, hco, hcb, hm⟩)
  rw [show min (max (1 : Int) 1) 1024 = 1 by decide] at hco
  have hlt := hco.lt
  have dcb := hlt cb (.inl rfl)
  have dm := hlt m (.inr (.inl rfl))
  go_upto_region 3 with (first
    | (refine at_op (.build 28 #[(2, .const (.int .u16 1))]) rfl ?_; refine wpList_build 28 [(2, .const (.int .u16 1))] rfl rfl (.agg fw1.c.toArray) ?_ ?_; exact run_buildF1 _)
    | (refine at_op (.build 28 #[(2, .const (.int .u16 2))]) rfl ?_; refine wpList_build 28 [(2, .const (.int .u16 2))] rfl rfl (.agg fw2.c.toArray) ?_ ?_; exact run_buildF2 _)
    | (refine at_op (.store 28 (.tmp 2) (.tmp 9)) rfl ?_; refine wpList_stA (t := 28) 28 (.tmp 2) (.tmp 9) rfl rfl (fw1.c) ([.bool false, .int .u64 0, .int .u64 0, .bool false, .int .u64 0, .int .u64 0, .int .u16 0, .int .u16 0, .int .u8 0]) rfl (Fw.c_one _) rfl rfl (((Bk.new w1 28 ([.bool false, .int .u64 0, .int .u64 0, .bool false, .int .u64 0, .int .u64 0, .int .u16 0, .int .u16 0, .int .u8 0]).toArray).alloc (.cells ([.bool false, .int .u64 0, .int .u64 0, .bool false, .int .u64 0, .int .u64 0, .int .u16 0, .int .u16 0, .int .u8 0]).toArray 28))) (szFw _) ?_; intro W2 ha hga)
    | (refine at_op (.store 28 (.tmp 3) (.tmp 10)) rfl ?_; refine wpList_stA (t := 28) 28 (.tmp 3) (.tmp 10) rfl rfl (fw2.c) ([.bool false, .int .u64 0, .int .u64 0, .bool false, .int .u64 0, .int .u64 0, .int .u16 0, .int .u16 0, .int .u8 0]) rfl (Fw.c_one _) rfl rfl (((Bk.newK (W := w1.alloc (.cells ([.bool false, .int .u64 0, .int .u64 0, .bool false, .int .u64 0, .int .u64 0, .int .u16 0, .int .u16 0, .int .u8 0]).toArray 28)) (k := w1.heap.size + 1) 28 ([.bool false, .int .u64 0, .int .u64 0, .bool false, .int .u64 0, .int .u64 0, .int .u16 0, .int .u16 0, .int .u8 0]).toArray [.bool false, .int .u64 0, .int .u64 0, .bool false, .int .u64 0, .int .u64 0, .int .u16 0, .int .u16 0, .int .u8 0] (by simp) rfl).grown hga (by simp))) (szFw _) ?_; intro W3 hb hgb))
  replace ha := ha.grown hgb (by simp)
  have hb2 : Below w1.heap.size w1 ((w1.alloc (.cells ([.bool false, .int .u64 0, .int .u64 0, .bool false, .int .u64 0, .int .u64 0, .int .u16 0, .int .u16 0, .int .u8 0]).toArray 28)).alloc (.cells ([.bool false, .int .u64 0, .int .u64 0, .bool false, .int .u64 0, .int .u64 0, .int .u16 0, .int .u16 0, .int .u8 0]).toArray 28)) := Below.allocS (Below.allocS (Below.refl _ _) _) _
  have be3 : Below w1.heap.size w1 W3 := below_grown (below_grown hb2 hga (Nat.le_refl _)) hgb (by omega)
  replace hco := hco.later be3
  replace be := be.trans (be3.mono be.size)
  obtain ⟨ga, hga0⟩ : ∃ g, g = w1.heap.size := ⟨_, rfl⟩
  rw [← hga0] at ha hb hlt dcb dm ⊢
  clear hb2 be3 hga hgb
  have zga : w.heap.size ≤ ga := by omega
  clear hga0
  have hb1lt := hb.lt
  go_upto_region 4 with (first
    | (refine at_op (.load 28 (.tmp 2)) rfl ?_; refine wpList_ldA (t := 28) 28 (.tmp 2) rfl rfl (fw1.c) rfl (ha) (whole_ _) v1 v2 (szFw _) ?_)
    | (go_at_call 19; refine (put_adds W3 cb m 1 [] fw1 5 hco (by simp) (by simp) (by simp)).mono ?_; rintro e w1 ⟨rfl, hc1, b1, hb1, hco1⟩)
    | (refine at_op (.store 28 (.tmp 4) (.tmp 15)) rfl ?_; refine wpList_stA (t := 28) 28 (.tmp 4) (.tmp 15) rfl rfl (fw0.c) ([.bool false, .int .u64 0, .int .u64 0, .bool false, .int .u64 0, .int .u64 0, .int .u16 0, .int .u16 0, .int .u8 0]) rfl (Fw.c_one _) rfl rfl ((Bk.new w1 28 ([.bool false, .int .u64 0, .int .u64 0, .bool false, .int .u64 0, .int .u64 0, .int .u16 0, .int .u16 0, .int .u8 0]).toArray)) (szFw _) ?_; intro W5 hx hgx))
  have be5 : Below w1.heap.size w1 W5 := below_grown (Below.allocS (Below.refl _ _) (.cells ([.bool false, .int .u64 0, .int .u64 0, .bool false, .int .u64 0, .int .u64 0, .int .u16 0, .int .u16 0, .int .u8 0]).toArray 28)) hgx (Nat.le_refl _)
  replace ha := (ha.chg hc1 (fun hd => by have := hlt _ hd; omega)).later be5
  replace hb := (hb.chg hc1 (fun hd => by have := hlt _ hd; omega)).later be5
  have hco2 := hco1.later be5
  have z1 := be.size
  have hD1 : ∀ b, Dm cb m [] b → w.heap.size ≤ b := by
    rintro b (rfl | rfl | ⟨x, hx, rfl⟩)
    · exact hcb
    · exact hm
    · simp at hx
  replace be := (be.trans (hc1.below hD1 z1)).trans (be5.mono (Nat.le_trans z1 hc1.size))
  clear hx hgx be5
  simp only [List.nil_append] at hco2
  have hD2 : ∀ b, Dm cb m [(⟨fw1, 5, b1⟩ : En)] b → w.heap.size ≤ b ∧ b ≠ ga ∧ b ≠ ga + 1 := by
    rintro b (rfl | rfl | ⟨x, hx, rfl⟩)
    · omega
    · omega
    · simp only [List.mem_cons, List.not_mem_nil, or_false] at hx
      subst hx
      simp only []
      omega
  go_upto_region 5 with (first
    | (refine at_op (.load 28 (.tmp 3)) rfl ?_; refine wpList_ldA (t := 28) 28 (.tmp 3) rfl rfl (fw2.c) rfl (hb) (whole_ _) v1 v2 (szFw _) ?_)
    | (go_at_call 19; refine (put_evicts W5 cb m 1 ⟨fw1, 5, b1⟩ [] fw2 6 hco2 (by simp; exact fw12) (by simp) (by simp)).mono ?_; rintro e w1 ⟨rfl, hc2, b2, hb2, hco3⟩)
    | (refine at_op (.store 28 (.tmp 6) (.tmp 21)) rfl ?_; refine wpList_stA (t := 28) 28 (.tmp 6) (.tmp 21) rfl rfl (fw1.c) ([.bool false, .int .u64 0, .int .u64 0, .bool false, .int .u64 0, .int .u64 0, .int .u16 0, .int .u16 0, .int .u8 0]) rfl (Fw.c_one _) rfl rfl ((Bk.new w1 28 ([.bool false, .int .u64 0, .int .u64 0, .bool false, .int .u64 0, .int .u64 0, .int .u16 0, .int .u16 0, .int .u8 0]).toArray)) (szFw _) ?_; intro W6 hx hgx))
  have be6 : Below w1.heap.size w1 W6 := below_grown (Below.allocS (Below.refl _ _) (.cells ([.bool false, .int .u64 0, .int .u64 0, .bool false, .int .u64 0, .int .u64 0, .int .u16 0, .int .u16 0, .int .u8 0]).toArray 28)) hgx (Nat.le_refl _)
  have z2 := be.size
  replace ha := (ha.chg hc2 (fun hd => by have := hD2 _ hd; omega)).later be6
  replace be := (be.trans (hc2.below (fun b hd => (hD2 b hd).1) z2)).trans (be6.mono (Nat.le_trans z2 hc2.size))
  go_wp2_with (first
    | (refine at_op (.load 28 (.tmp 6)) rfl ?_; refine wpList_ldG (t := 28) 28 (.tmp 6) rfl rfl (fw1.c) rfl (hx) (whole_ _) v1 v2 (szFw _) ?_)
    | (refine at_op (.load 28 (.tmp 2)) rfl ?_; refine wpList_ldG (t := 28) 28 (.tmp 2) rfl rfl (fw1.c) rfl (ha) (whole_ _) v1 v2 (szFw _) ?_))
  go_ret
  exact RetV.is_ (by simp) be
/-- what holds at the loop's head -/
structure KS (w wr : World) (cb m : Nat) (N : Int) (f : Fw) (wd : Nat) (A' : Option Addr) (n' c' : Nat) (M : List Fw) (lst : List En) : Prop where
  os : Os 28 9 wr w.heap.size A' n' c' (M.flatMap Fw.c)
  ob : ∀ k, (Value.slice A' n' c').ownBlock = some k → w.heap.size + 1 ≤ k ∧ ¬ Dm cb m lst k
  co : Co wr cb m N lst
  pm : (lst.map (·.f)).Perm (f :: M)
  en : ∃ en ∈ lst, en.f = f ∧ en.wd = wd
  ml : (M.length : Int) < N
  dw : ∀ b, Dm cb m lst b → w.heap.size + 1 ≤ b
  hf : Bk wr w.heap.size 28 f.c
  be : Below w.heap.size w wr
theorem KS.later {w wr w2 : World} {cb m : Nat} {N : Int} {f : Fw} {wd : Nat} {A' : Option Addr} {n' c' : Nat} {M : List Fw} {lst : List En} (h : KS w wr cb m N f wd A' n' c' M lst) (hb : Below wr.heap.size wr w2) : KS w w2 cb m N f wd A' n' c' M lst :=
  ⟨h.os.later hb, h.ob, h.co.later hb, h.pm, h.en, h.ml, h.dw, h.hf.later hb, h.be.trans (hb.mono h.be.size)⟩
set_option maxRecDepth 100000 in
theorem foldFw (f : Fw) : List.foldl (fun (cs : Array Value) (x : Value × Nat) => cs.setIfInBounds x.snd x.fst) ([.bool false, .int .u64 0, .int .u64 0, .bool false, .int .u64 0, .int .u64 0, .int .u16 0, .int .u16 0, .int .u8 0]).toArray f.c.zipIdx = f.c.toArray := by
  obtain ⟨a1, a2, a3, a4, a5, a6, a7, a8, a9⟩ := f
  kernel_rfl
attribute [local go_sem] foldFw Fw.c_len

end Go.Proofs.Ytenaiojddohbkaa

/- Rows of structs as words that own blocks (wp_own). -/
namespace Go.Proofs.Ytenaiojddohbkaa
open Go.RowKit
set_option linter.unusedVariables false

theorem Rs.kept {F : Nat → Prop} {s : Nat} {w w' : World} {A : Option Addr} {n c : Nat} {cs : List Value} (h : Rs s w A n c cs) (hk : Kept F w w') (hf : ∀ a, A = some a → a.block < w.heap.size → F a.block) : Rs s w' A n c cs := by
  refine ⟨h.1, h.2.1, ?_⟩
  rcases h.2.2 with h' | ⟨b, off, hA, hb, hc⟩
  · exact .inl h'
  · exact .inr ⟨b, off, hA, Nat.lt_of_lt_of_le hb hk.size, fun i u hu => (World.cell?_of_block (hk.block b hb (hf _ hA hb))).trans (hc i u hu)⟩
theorem Os.kept {F : Nat → Prop} {e : TypeId} {s base : Nat} {w w' : World} {A : Option Addr} {n c : Nat} {cs : List Value} (h : Os e s w base A n c cs) (hk : Kept F w w') (hf : ∀ b, (Value.slice A n c).ownBlock = some b → F b) : Os e s w' base A n c cs := by
  refine ⟨h.1, ?_⟩
  rcases h.2 with h' | ⟨g, cap, cur, hv, hb, hg, hr⟩
  · exact .inl h'
  · have ho : (Value.slice A n c).ownBlock = some g := by rw [hv]; rfl
    exact .inr ⟨g, cap, cur, hv, hb, (hk.block g (h.blk g ho).2 (hf g ho)).trans hg, hr⟩
/-- own rows of structs, from base on -/
def Own.osr {prot : Nat → Prop} (e : TypeId) (s base : Nat) (cs : List Value) : Own prot := ⟨fun v _ w => ∃ A n c, v = .slice A n c ∧ Os e s w base A n c cs, fun v _ b => v.ownBlock = some b,
  fun v u w b ⟨A, n, c, h1, h2⟩ h3 => (by subst h1; exact (h2.blk b h3).2),
  fun v u w w' ⟨A, n, c, h1, h2⟩ hk => ⟨A, n, c, h1, h2.kept hk (fun b hb => .inl (by subst h1; exact hb))⟩⟩
theorem own_appS {P : Program} {Q : Exit → Act → World → Prop} {w : World} {o : Oper} {a : Act} {K : Act → World → Prop} {ts e : TypeId} {z : Value} {sz by_ : Nat} (et : ET P ts e z sz by_) (s x : Operand)
    (ho : o.op = .call { callee := .builtin .append, args := #[s, x], argTypes := #[ts, ts] }) {base : Nat} {A : Option Addr} {n c : Nat} {l : List Value} (hs : a.eval s = .slice A n c) (hown : Os e sz w base A n c l)
    {A2 : Option Addr} {n2 c2 : Nat} {l2 : List Value} (hx : a.eval x = .slice A2 n2 c2) (hr2 : Rs sz w A2 n2 c2 l2) (h1 : ∀ u ∈ l2, u.oneCell' = true) (hm : n + n2 ≤ 1099511627776) (hbase : base ≤ w.heap.size)
    (h : ∀ A' n' c' w', n' = n + n2 → Os e sz w' base A' n' c' (l ++ l2) → w.grownBy w' (Value.slice A n c).ownBlock → (∀ b, (Value.slice A' n' c').ownBlock = some b → (Value.slice A n c).ownBlock = some b ∨ w.heap.size ≤ b) → K (a.put o.dst (.slice A' n' c')) w') : o.wp P a w K Q := by
  obtain ⟨A', n', c', w', hrun, h0, h2, h3, h4, h5⟩ := run_appS2 (P := P) w (ty := o.type) et hown hr2 h1 hm hbase
  unfold Oper.wp execOp
  simp only [ho, resolve, invoke, builtin, Sem.run_bind, Sem.run_pure, Result.andThen_ok, List.map_toArray, List.map_cons, List.map_nil, hs, hx, hrun]
  refine h A' n' c' w' h0 h2 h4 (fun b hb => ?_)
  rcases h5 with h5 | h5
  · exact .inl (by rw [← h5]; exact hb)
  · rw [h5] at hb
    injection hb with hb
    exact .inr (by omega)
/-- a call hands back a new row -/
def RetOs (e : TypeId) (s : Nat) (w : World) (cs : List Value) (en : Ending) (w' : World) : Prop := ∃ A n c bs d, en = .returned (.slice A n c) ∧ w' = plus w bs d ∧ Os e s (plus w bs d) w.heap.size A n c cs
theorem RetOs.mk {e : TypeId} {s : Nat} {w w' : World} {cs : List Value} {A : Option Addr} {n c : Nat} (h : Os e s w' w.heap.size A n c cs) (hb : Below w.heap.size w w') : RetOs e s w cs (.returned (.slice A n c)) w' := by
  obtain ⟨bs, d, rfl⟩ := plus_of hb
  exact ⟨A, n, c, bs, d, rfl, rfl, h⟩
end Go.Proofs.Ytenaiojddohbkaa

/- The reference's Index, Cut, Put, Get (chapter 31). -/
namespace Go.Proofs.Ytenaiojddohbkaa
open Go.RowKit
set_option linter.unusedVariables false
set_option linter.unusedSimpArgs false
attribute [local go_sem ↓] sliced_cut

attribute [local go_sem] cutA_zero

attribute [local go_sem] eql_fv eqI_fv

/-- a connection: its flow and its word -/
def cnR (x : Fw × Nat) : List Value := x.1.c ++ [.int .u16 (x.2 : Int)]
theorem cnR_len (x : Fw × Nat) : (cnR x).length = 10 := rfl
theorem cnR_one (x : Fw × Nat) : ∀ u ∈ cnR x, u.oneCell' = true := by
  intro u hu
  rcases List.mem_append.1 hu with h | h
  · exact Fw.c_one _ u h
  · simp only [List.mem_cons, List.not_mem_nil, or_false] at h
    subst h
    rfl
theorem szCn (x : Fw × Nat) : (Try.prog.info? 45).map (·.size) = some (cnR x).length := by rw [cnR_len]; kernel_rfl
theorem rowCn : ∃ d, Try.prog.underlying 45 = some d ∧ d.isRow = true := ⟨_, Try.underlying45, rfl⟩
theorem etCn : ET Try.prog 32 45 (.agg ([.bool false, .int .u64 0, .int .u64 0, .bool false, .int .u64 0, .int .u64 0, .int .u16 0, .int .u16 0, .int .u8 0, .int .u16 0]).toArray) 10 64 := ⟨Try.underlying32, by kernel_rfl, rfl, by decide, by decide⟩
set_option maxRecDepth 100000 in
theorem foldCn (x : Fw × Nat) : List.foldl (fun (cs : Array Value) (x : Value × Nat) => cs.setIfInBounds x.snd x.fst) ([.bool false, .int .u64 0, .int .u64 0, .bool false, .int .u64 0, .int .u64 0, .int .u16 0, .int .u16 0, .int .u8 0, .int .u16 0]).toArray (cnR x).zipIdx = (cnR x).toArray := by
  obtain ⟨⟨a1, a2, a3, a4, a5, a6, a7, a8, a9⟩, y⟩ := x
  kernel_rfl
attribute [local go_sem] foldCn cnR_len

/-- the flow at the head of a connection's cells -/
theorem rangeAt.fst {w : World} {b o : Nat} {x : Fw × Nat} (h : w.rangeAt b o (cnR x)) : w.rangeAt b o x.1.c := fun i u hu => h i u (by unfold cnR; rw [List.getElem?_append_left (List.getElem?_eq_some_iff.1 hu).1]; exact hu)
theorem rangeAt.snd {w : World} {b o : Nat} {x : Fw × Nat} (h : w.rangeAt b o (cnR x)) : w.cell? ⟨b, o + 9, none⟩ = some (.int .u16 (x.2 : Int)) := h 9 _ rfl
abbrev fC (R : List (Fw × Nat)) : List Value := R.flatMap cnR
set_option maxHeartbeats 4000000 in
set_option maxRecDepth 100000 in
theorem index_at (f : Fw) (R : List (Fw × Nat)) (A : Option Addr) (n c : Nat) (w : World) (hr : Rs 10 w A n c (fC R)) (hm : n ≤ 1000) (v : Int) (hv : (v = -1 ∧ ∀ x ∈ R, x.1 ≠ f) ∨ (∃ P y S, R = P ++ y :: S ∧ y.1 = f ∧ (∀ x ∈ P, x.1 ≠ f) ∧ v = (P.length : Int))) :
    Calls Try.prog 15 #[.slice A n c, .agg f.c.toArray] w (RetV w (.int .i64 v)) := by
  have hln : R.length = n := by have := hr.1; rw [flat_len cnR 10 cnR_len] at this; omega
  have HV := Lib.hid hv
  clear hv
  obtain ⟨dv1, v1, v2⟩ := rowFw
  have hf : Bk (w.alloc (.cells (f.c).toArray 28)) w.heap.size 28 (f.c) := Bk.new w 28 (f.c).toArray
  have be : Below w.heap.size w (w.alloc (.cells (f.c).toArray 28)) := Below.allocS (Below.refl _ _) _
  have zV : w.heap.size + 1 ≤ (w.alloc (.cells (f.c).toArray 28)).heap.size := by simp
  go_enter Try.func15, Try.ntmps15
  go_upto_region 1 with (fail)
  generalize w.alloc (.cells (f.c).toArray 28) = V at *
  go_upto_region 2 with (fail)
  have HF := Lib.hid hf
  have HB := Lib.hid be
  clear hf be
  go_loopw [5] (fun i wr => ∃ j : Nat, j ≤ n ∧ i = .int .i64 (j : Int) ∧ (∀ x ∈ R.take j, x.1 ≠ f) ∧ Below w.heap.size w wr ∧ Bk wr w.heap.size 28 f.c) (fun i _ => n - (intOf i).toNat)
  case atStart => exact ⟨0, Nat.zero_le _, rfl, by simp, HB.out, HF.out⟩
  case round =>
    clear HF HB
    obtain ⟨j, hj, rfl, hnot, hE, hf⟩ := hrel
    by_cases hlt : j < n
    · have ij : (j : Int) < (n : Int) := by omega
      have hjR : j < R.length := by omega
      obtain ⟨b, o, rfl, hbl, -⟩ := hr.at_ (by omega) (by decide)
      have hrg := fun W (h : Below w.heap.size w W) => (hr.later h).rangeE cnR_len j hjR
      have htk : R.take (j + 1) = R.take j ++ [R[j]] := by simp
      have hsp : R = R.take j ++ R[j] :: R.drop (j + 1) := by simp
      generalize R[j] = x1 at hrg htk hsp
      have HRG := Lib.hid hrg
      have HTK := Lib.hid htk
      have HSP := Lib.hid hsp
      have HNT := Lib.hid hnot
      clear hrg htk hsp hnot
      by_cases hx : x1.1 = f
      · have hd : decide (x1.1 = f) = true := by simp [hx]
        have hval : v = (j : Int) := by
          rcases HV.out with ⟨_, h2⟩ | ⟨P, y, S, e, h2, h3, h4⟩
          · exact absurd hx (h2 x1 (by rw [HSP.out]; simp))
          · rw [h4]
            have e2 : P ++ y :: S = R.take j ++ x1 :: R.drop (j + 1) := e.symm.trans HSP.out
            rcases Nat.lt_trichotomy P.length j with h | h | h
            · have hy : y ∈ R.take j := by
                have h5 : (P ++ y :: S)[P.length]? = some y := by simp
                rw [e2, List.getElem?_append_left (by rw [List.length_take]; omega)] at h5
                exact List.mem_of_getElem? h5
              exact absurd h2 (HNT.out y hy)
            · omega
            · have hy : x1 ∈ P := by
                have h5 : (R.take j ++ x1 :: R.drop (j + 1))[j]? = some x1 := by rw [List.getElem?_append_right (by rw [List.length_take]; omega), List.length_take, Nat.min_eq_left (by omega)]; simp
                rw [← e2, List.getElem?_append_left h] at h5
                exact List.mem_of_getElem? h5
              exact absurd hx (h3 x1 hy)
        have HVV := Lib.hid hval
        clear hval hx
        go_upto_region 4 with (fail)
        go_wp2
        refine wp_relS 7 20 rfl (by kernel_rfl) (by kernel_rfl) ?_
        apply Steps.one (MP.eq _) 1 rfl
        · intro o ho FA x hO hD K hK
          obtain rfl := Option.some.inj ho.symm
          clear ho
          have e0 := hO 0 (by kernel_rfl)
          simp only [eval_tmp, List.getElem?_toArray, List.getElem?_cons_succ, List.getElem?_cons_zero, Option.getD_some] at e0
          have ev0 := Lib.hid ((eval_tmp FA 0).trans e0)
          clear hO hD
          go_simp
          exact hK.out _ _ (Ex.refl _) rfl
        apply Steps.one (MP.eq _) 2 rfl
        · intro o ho FA x hO hD K hK
          obtain rfl := Option.some.inj ho.symm
          clear ho
          have e5 := hO 5 (by kernel_rfl)
          simp only [eval_tmp, List.getElem?_toArray, List.getElem?_cons_succ, List.getElem?_cons_zero, Option.getD_some] at e5
          have ev5 := Lib.hid ((eval_tmp FA 5).trans e5)
          clear hO hD
          go_simp
          exact hK.out _ _ (Ex.refl _) rfl
        apply Steps.one (MP.eq _) 3 rfl
        · intro o ho FA x hO hD K hK
          obtain rfl := Option.some.inj ho.symm
          clear ho
          have ev12 : FA.eval (.tmp 12) = _ := hD 0 12 (by kernel_rfl)
          have e12 := (eval_tmp FA 12).symm.trans ev12
          replace ev12 := Lib.hid ev12
          have ev13 : FA.eval (.tmp 13) = _ := hD 1 13 (by kernel_rfl)
          have e13 := (eval_tmp FA 13).symm.trans ev13
          replace ev13 := Lib.hid ev13
          clear hO hD
          go_simp
          exact hK.out _ _ (Ex.refl _) rfl
        apply Steps.one (MP.eq _) 4 rfl
        · intro o ho FA x hO hD K hK
          obtain rfl := Option.some.inj ho.symm
          clear ho
          have ev14 : FA.eval (.tmp 14) = _ := hD 2 14 (by kernel_rfl)
          have e14 := (eval_tmp FA 14).symm.trans ev14
          replace ev14 := Lib.hid ev14
          clear hO hD
          go_simp
          exact hK.out _ _ (Ex.refl _) rfl
        apply Steps.one (MP.eq _) 5 rfl
        · intro o ho FA x hO hD K hK
          obtain rfl := Option.some.inj ho.symm
          clear ho
          have ev15 : FA.eval (.tmp 15) = _ := hD 3 15 (by kernel_rfl)
          have e15 := (eval_tmp FA 15).symm.trans ev15
          replace ev15 := Lib.hid ev15
          clear hO hD
          refine wanted_if rfl ?_
          refine wp_load_mid 28 (.tmp 15) rfl (b) (o + j * 10) ev15.out (x1.1.c) _ (rangeAt.fst (HRG.out (plus wr x.bs x.d) ((belowP hE x.bs x.d)))) v1 v2 (szFw _) ?_
          exact hK.out _ _ (Ex.refl _) rfl
        apply Steps.one (MP.eq _) 6 rfl
        · intro o ho FA x hO hD K hK
          obtain rfl := Option.some.inj ho.symm
          clear ho
          have e3 := hO 3 (by kernel_rfl)
          simp only [eval_tmp, List.getElem?_toArray, List.getElem?_cons_succ, List.getElem?_cons_zero, Option.getD_some] at e3
          have ev3 := Lib.hid ((eval_tmp FA 3).trans e3)
          clear hO hD
          refine wanted_if rfl ?_
          refine wp_ldA 28 (.tmp 3) rfl (f.c) ev3.out (hf.later (below_plus _ _ _)) (whole_ _) v1 v2 (szFw f) ?_
          exact hK.out _ _ (Ex.refl _) rfl
        apply Steps.one (MP.eq _) 7 rfl
        · intro o ho FA x hO hD K hK
          obtain rfl := Option.some.inj ho.symm
          clear ho
          have ev16 : FA.eval (.tmp 16) = _ := hD 4 16 (by kernel_rfl)
          have e16 := (eval_tmp FA 16).symm.trans ev16
          replace ev16 := Lib.hid ev16
          have ev17 : FA.eval (.tmp 17) = _ := hD 5 17 (by kernel_rfl)
          have e17 := (eval_tmp FA 17).symm.trans ev17
          replace ev17 := Lib.hid ev17
          clear hO hD
          go_simp
          exact hK.out _ _ (Ex.refl _) rfl
        refine Steps.fin_ (fun vs x hp => ?_)
        have p0 : vs 0 = _ := hp 0 (by omega)
        have p1 : vs 1 = _ := hp 1 (by omega)
        have p2 : vs 2 = _ := hp 2 (by omega)
        have p3 : vs 3 = _ := hp 3 (by omega)
        have p4 : vs 4 = _ := hp 4 (by omega)
        have p5 : vs 5 = _ := hp 5 (by omega)
        have p6 : vs 6 = _ := hp 6 (by omega)
        clear hp
        simp only [List.take_succ_cons, List.take_zero, List.drop_succ_cons, List.drop_zero, putAll, Nat.zero_add, Nat.reduceAdd, Act.put, List.setIfInBounds_toArray, List.set_cons_zero, List.set_cons_succ, p0, p1, p2, p3, p4, p5, p6]
        clear p0 p1 p2 p3 p4 p5 p6
        clear vs
        go_wp2
        go_ret
        rw [HVV.out]
        exact RetV.is_ rfl (belowP hE _ _)
      · have hd : decide (x1.1 = f) = false := by simp [hx]
        have HX := Lib.hid hx
        clear hx
        go_upto_region 4 with (fail)
        go_wp2
        refine wp_relS 7 20 rfl (by kernel_rfl) (by kernel_rfl) ?_
        apply Steps.one (MP.eq _) 1 rfl
        · intro o ho FA x hO hD K hK
          obtain rfl := Option.some.inj ho.symm
          clear ho
          have e0 := hO 0 (by kernel_rfl)
          simp only [eval_tmp, List.getElem?_toArray, List.getElem?_cons_succ, List.getElem?_cons_zero, Option.getD_some] at e0
          have ev0 := Lib.hid ((eval_tmp FA 0).trans e0)
          clear hO hD
          go_simp
          exact hK.out _ _ (Ex.refl _) rfl
        apply Steps.one (MP.eq _) 2 rfl
        · intro o ho FA x hO hD K hK
          obtain rfl := Option.some.inj ho.symm
          clear ho
          have e5 := hO 5 (by kernel_rfl)
          simp only [eval_tmp, List.getElem?_toArray, List.getElem?_cons_succ, List.getElem?_cons_zero, Option.getD_some] at e5
          have ev5 := Lib.hid ((eval_tmp FA 5).trans e5)
          clear hO hD
          go_simp
          exact hK.out _ _ (Ex.refl _) rfl
        apply Steps.one (MP.eq _) 3 rfl
        · intro o ho FA x hO hD K hK
          obtain rfl := Option.some.inj ho.symm
          clear ho
          have ev12 : FA.eval (.tmp 12) = _ := hD 0 12 (by kernel_rfl)
          have e12 := (eval_tmp FA 12).symm.trans ev12
          replace ev12 := Lib.hid ev12
          have ev13 : FA.eval (.tmp 13) = _ := hD 1 13 (by kernel_rfl)
          have e13 := (eval_tmp FA 13).symm.trans ev13
          replace ev13 := Lib.hid ev13
          clear hO hD
          go_simp
          exact hK.out _ _ (Ex.refl _) rfl
        apply Steps.one (MP.eq _) 4 rfl
        · intro o ho FA x hO hD K hK
          obtain rfl := Option.some.inj ho.symm
          clear ho
          have ev14 : FA.eval (.tmp 14) = _ := hD 2 14 (by kernel_rfl)
          have e14 := (eval_tmp FA 14).symm.trans ev14
          replace ev14 := Lib.hid ev14
          clear hO hD
          go_simp
          exact hK.out _ _ (Ex.refl _) rfl
        apply Steps.one (MP.eq _) 5 rfl
        · intro o ho FA x hO hD K hK
          obtain rfl := Option.some.inj ho.symm
          clear ho
          have ev15 : FA.eval (.tmp 15) = _ := hD 3 15 (by kernel_rfl)
          have e15 := (eval_tmp FA 15).symm.trans ev15
          replace ev15 := Lib.hid ev15
          clear hO hD
          refine wanted_if rfl ?_
          refine wp_load_mid 28 (.tmp 15) rfl (b) (o + j * 10) ev15.out (x1.1.c) _ (rangeAt.fst (HRG.out (plus wr x.bs x.d) ((belowP hE x.bs x.d)))) v1 v2 (szFw _) ?_
          exact hK.out _ _ (Ex.refl _) rfl
        apply Steps.one (MP.eq _) 6 rfl
        · intro o ho FA x hO hD K hK
          obtain rfl := Option.some.inj ho.symm
          clear ho
          have e3 := hO 3 (by kernel_rfl)
          simp only [eval_tmp, List.getElem?_toArray, List.getElem?_cons_succ, List.getElem?_cons_zero, Option.getD_some] at e3
          have ev3 := Lib.hid ((eval_tmp FA 3).trans e3)
          clear hO hD
          refine wanted_if rfl ?_
          refine wp_ldA 28 (.tmp 3) rfl (f.c) ev3.out (hf.later (below_plus _ _ _)) (whole_ _) v1 v2 (szFw f) ?_
          exact hK.out _ _ (Ex.refl _) rfl
        apply Steps.one (MP.eq _) 7 rfl
        · intro o ho FA x hO hD K hK
          obtain rfl := Option.some.inj ho.symm
          clear ho
          have ev16 : FA.eval (.tmp 16) = _ := hD 4 16 (by kernel_rfl)
          have e16 := (eval_tmp FA 16).symm.trans ev16
          replace ev16 := Lib.hid ev16
          have ev17 : FA.eval (.tmp 17) = _ := hD 5 17 (by kernel_rfl)
          have e17 := (eval_tmp FA 17).symm.trans ev17
          replace ev17 := Lib.hid ev17
          clear hO hD
          go_simp
          exact hK.out _ _ (Ex.refl _) rfl
        refine Steps.fin_ (fun vs x hp => ?_)
        have p0 : vs 0 = _ := hp 0 (by omega)
        have p1 : vs 1 = _ := hp 1 (by omega)
        have p2 : vs 2 = _ := hp 2 (by omega)
        have p3 : vs 3 = _ := hp 3 (by omega)
        have p4 : vs 4 = _ := hp 4 (by omega)
        have p5 : vs 5 = _ := hp 5 (by omega)
        have p6 : vs 6 = _ := hp 6 (by omega)
        clear hp
        simp only [List.take_succ_cons, List.take_zero, List.drop_succ_cons, List.drop_zero, putAll, Nat.zero_add, Nat.reduceAdd, Act.put, List.setIfInBounds_toArray, List.set_cons_zero, List.set_cons_succ, p0, p1, p2, p3, p4, p5, p6]
        clear p0 p1 p2 p3 p4 p5 p6
        clear vs
        go_wp2
        exact ⟨⟨j + 1, by omega, by go_num, fun z hz => by
          rw [HTK.out] at hz
          rcases List.mem_append.1 hz with h | h
          · exact HNT.out z h
          · simp only [List.mem_cons, List.not_mem_nil, or_false] at h
            subst h
            exact HX.out, belowP hE _ _, hf.later (below_plus _ _ _)⟩, by simp [intOf]; omega⟩
    · have ij : ¬ (j : Int) < (n : Int) := by omega
      rw [List.take_of_length_le (by omega)] at hnot
      have hval : v = -1 := by
        rcases HV.out with ⟨h2, _⟩ | ⟨P, y, S, e, h2, h3, h4⟩
        · exact h2
        · exact absurd h2 (hnot y (by rw [e]; simp))
      subst hval
      go_wp2
      go_ret
      exact RetV.is_ rfl hE
set_option maxHeartbeats 4000000 in
set_option maxRecDepth 100000 in
theorem cut_any (R : List (Fw × Nat)) (k : Nat) (hk : k < R.length) (A : Option Addr) (n c : Nat) (w : World) (hr : Rs 10 w A n c (fC R)) (hm : n ≤ 1000) : Calls Try.prog 17 #[.slice A n c, .int .i64 (k : Int)] w (RetOs 45 10 w (fC (R.take k ++ R.drop (k + 1)))) := by
  have hln : R.length = n := by have := hr.1; rw [flat_len cnR 10 cnR_len] at this; omega
  have hcx := hr.2.1
  obtain ⟨xb, xo, rfl, hxb, -⟩ := hr.at_ (by omega) (by decide)
  have htake : Rs 10 w (some ⟨xb, xo, none⟩) k c (fC (R.take k)) := by have h := hr.take (k := k) (by omega); rw [flat_take cnR 10 cnR_len] at h; exact h
  have hcut1 : Rs 10 w (cutA (some ⟨xb, xo, none⟩) c (k + 1) 10) (n - (k + 1)) (c - (k + 1)) (fC (R.drop (k + 1))) := by have h := hr.cut (k := k + 1) (by omega); rw [flat_drop cnR 10 cnR_len] at h; exact h
  have l1 : k ≤ n := by omega
  have l2 : (k : Int) ≤ (n : Int) := by omega
  have l3 : (n : Int) ≤ (c : Int) := by omega
  have l4 : k ≤ c := by omega
  have l5 : (k : Int) ≤ (c : Int) := by omega
  have l6 : k + 1 ≤ n := by omega
  have l7 : ((k + 1 : Nat) : Int) ≤ (n : Int) := by omega
  have l8 : IntKind.i64.wrap ((k : Int) + 1) = ((k + 1 : Nat) : Int) := by rw [IntWalk.i64_in _ (by omega)]; simp
  have l9 : ((k + 1 : Nat) : Int) ≤ (c : Int) := by omega
  have l10 : k + 1 ≤ c := by omega
  have l11 : 0 ≤ (k : Int) + 1 := by omega
  have l12 : (k : Int) + 1 ≤ (n : Int) := by omega
  replace hln := Lib.hid hln
  go_enter Try.func17, Try.ntmps17
  go_upto_region 1 with (fail)
  go_wp2
  refine wp_relS 9 15 rfl (by kernel_rfl) (by kernel_rfl) ?_
  apply Steps.one (MP.ofs 45 10 w.heap.size []) 1 rfl
  · intro o ho FA x hO hD K hK
    obtain rfl := Option.some.inj ho.symm
    clear ho
    clear hO hD
    go_simp
    refine hK.out _ _ (Ex.alloc _ _) ⟨_, _, rfl, ?_⟩
    have h := Os.lit (s := 10) (e := 45) (base := w.heap.size) (plus w x.bs x.d) (by simp [size_plus]) #[] 0 rfl (Nat.zero_le _)
    rw [size_plus] at h
    exact h
  apply Steps.one (MP.eq _) 2 rfl
  · intro o ho FA x hO hD K hK
    obtain rfl := Option.some.inj ho.symm
    clear ho
    have e0 := hO 0 (by kernel_rfl)
    simp only [eval_tmp, List.getElem?_toArray, List.getElem?_cons_succ, List.getElem?_cons_zero, Option.getD_some] at e0
    have ev0 := Lib.hid ((eval_tmp FA 0).trans e0)
    clear hO hD
    go_simp
    exact hK.out _ _ (Ex.refl _) rfl
  apply Steps.one (MP.eq _) 3 rfl
  · intro o ho FA x hO hD K hK
    obtain rfl := Option.some.inj ho.symm
    clear ho
    have e1 := hO 1 (by kernel_rfl)
    simp only [eval_tmp, List.getElem?_toArray, List.getElem?_cons_succ, List.getElem?_cons_zero, Option.getD_some] at e1
    have ev1 := Lib.hid ((eval_tmp FA 1).trans e1)
    clear hO hD
    go_simp
    exact hK.out _ _ (Ex.refl _) rfl
  apply Steps.one (MP.eq _) 4 rfl
  · intro o ho FA x hO hD K hK
    obtain rfl := Option.some.inj ho.symm
    clear ho
    have ev6 : FA.eval (.tmp 6) = _ := hD 1 6 (by kernel_rfl)
    have e6 := (eval_tmp FA 6).symm.trans ev6
    replace ev6 := Lib.hid ev6
    have ev7 : FA.eval (.tmp 7) = _ := hD 2 7 (by kernel_rfl)
    have e7 := (eval_tmp FA 7).symm.trans ev7
    replace ev7 := Lib.hid ev7
    clear hO hD
    go_simp
    exact hK.out _ _ (Ex.refl _) rfl
  apply Steps.one (MP.os 45 10 w.heap.size ([] ++ fC (R.take k))) 5 rfl
  · intro o ho FA x hO hD K hK
    obtain rfl := Option.some.inj ho.symm
    clear ho
    have f5 := hD 0 5 (by kernel_rfl)
    generalize eu5 : FA.eval (.tmp 5) = u5 at f5
    have e5 := (eval_tmp FA 5).symm.trans eu5
    have ev5 := Lib.hid eu5
    clear eu5
    have ev8 : FA.eval (.tmp 8) = _ := hD 3 8 (by kernel_rfl)
    have e8 := (eval_tmp FA 8).symm.trans ev8
    replace ev8 := Lib.hid ev8
    clear hO hD
    obtain ⟨A1, n1, hv1, h1⟩ := f5
    have hn1 : n1 = 0 := by have := h1.rs.1; simp at this; omega
    subst hn1
    refine wanted_if rfl ?_
    refine wp_appFS etCn (.tmp 5) (.tmp 8) rfl (ev5.out.trans hv1) h1 ev8.out (htake.plus_ x.bs x.d) (flat_one cnR cnR_one _) (by omega) (by simp [size_plus]) ?_
    intro A3 n3 c3 w3 hn3 ho3 hex
    exact hK.out _ _ hex ⟨_, _, _, rfl, ho3⟩
  apply Steps.one (MP.eq _) 6 rfl
  · intro o ho FA x hO hD K hK
    obtain rfl := Option.some.inj ho.symm
    clear ho
    have e0 := hO 0 (by kernel_rfl)
    simp only [eval_tmp, List.getElem?_toArray, List.getElem?_cons_succ, List.getElem?_cons_zero, Option.getD_some] at e0
    have ev0 := Lib.hid ((eval_tmp FA 0).trans e0)
    clear hO hD
    go_simp
    exact hK.out _ _ (Ex.refl _) rfl
  apply Steps.one (MP.eq _) 7 rfl
  · intro o ho FA x hO hD K hK
    obtain rfl := Option.some.inj ho.symm
    clear ho
    have e1 := hO 1 (by kernel_rfl)
    simp only [eval_tmp, List.getElem?_toArray, List.getElem?_cons_succ, List.getElem?_cons_zero, Option.getD_some] at e1
    have ev1 := Lib.hid ((eval_tmp FA 1).trans e1)
    clear hO hD
    go_simp
    exact hK.out _ _ (Ex.refl _) rfl
  apply Steps.one (MP.eq _) 8 rfl
  · intro o ho FA x hO hD K hK
    obtain rfl := Option.some.inj ho.symm
    clear ho
    have ev11 : FA.eval (.tmp 11) = _ := hD 6 11 (by kernel_rfl)
    have e11 := (eval_tmp FA 11).symm.trans ev11
    replace ev11 := Lib.hid ev11
    clear hO hD
    go_simp
    exact hK.out _ _ (Ex.refl _) rfl
  apply Steps.one (MP.eq _) 9 rfl
  · intro o ho FA x hO hD K hK
    obtain rfl := Option.some.inj ho.symm
    clear ho
    have ev10 : FA.eval (.tmp 10) = _ := hD 5 10 (by kernel_rfl)
    have e10 := (eval_tmp FA 10).symm.trans ev10
    replace ev10 := Lib.hid ev10
    have ev12 : FA.eval (.tmp 12) = _ := hD 7 12 (by kernel_rfl)
    have e12 := (eval_tmp FA 12).symm.trans ev12
    replace ev12 := Lib.hid ev12
    clear hO hD
    go_simp
    exact hK.out _ _ (Ex.refl _) rfl
  refine Steps.fin_ (fun vs x hp => ?_)
  have p0 := hp 0 (by omega)
  have p1 : vs 1 = _ := hp 1 (by omega)
  have p2 : vs 2 = _ := hp 2 (by omega)
  have p3 : vs 3 = _ := hp 3 (by omega)
  have p4 := hp 4 (by omega)
  have p5 : vs 5 = _ := hp 5 (by omega)
  have p6 : vs 6 = _ := hp 6 (by omega)
  have p7 : vs 7 = _ := hp 7 (by omega)
  have p8 : vs 8 = _ := hp 8 (by omega)
  clear hp
  simp only [List.take_succ_cons, List.take_zero, List.drop_succ_cons, List.drop_zero, putAll, Nat.zero_add, Nat.reduceAdd, Act.put, List.setIfInBounds_toArray, List.set_cons_zero, List.set_cons_succ, p1, p2, p3, p5, p6, p7, p8]
  clear p1 p2 p3 p5 p6 p7 p8
  generalize vs 0 = y0 at *
  generalize vs 4 = y4 at *
  clear vs
  obtain ⟨A4, n4, c4, rfl, h4⟩ := p4
  have hl4 := h4.rs.1
  have hb4 : w.heap.size ≤ (plus w x.bs x.d).heap.size := by simp [size_plus]
  simp only [List.nil_append] at h4 hl4
  rw [flat_len cnR 10 cnR_len] at hl4
  have hn4 : n4 ≤ 1000 := by simp at hl4; omega
  clear hl4
  go_wp2_with (at_builtin; refine wpList_appS etCn rfl (.tmp 9) (.tmp 13) rfl rfl h4 rfl (hcut1.plus_ x.bs x.d) (flat_one cnR cnR_one _) (by omega) hb4 ?_; intro A5 n5 c5 w5 hn5 hO5 hb5 hg5; subst hn5)
  go_ret
  refine RetOs.mk ?_ ((below_plus w x.bs x.d).trans hb5)
  rw [show fC (R.take k ++ R.drop (k + 1)) = fC (R.take k) ++ fC (R.drop (k + 1)) from List.flatMap_append]
  exact hO5
theorem bodyPost_aggMM {P : Program} {fn : Func} {R : Ending → World → Prop} {a : Act} {w : World} {slot slot2 slot3 ty g : Nat} {d : TypeDesc} {cs : List Value} {u u' : Value} (hfr : fn.results = #[.tmp slot, .cell slot2 ty, .tmp slot3]) (hs : a.tmps.getD slot undef = u) (hs2 : a.tmps.getD slot2 undef = .pointer (some ⟨g, 0, none⟩)) (hs3 : a.tmps.getD slot3 undef = u')
    (hb : w.rangeAt g 0 cs) (hu : P.underlying ty = some d) (hd : d.isRow = true) (hi : (P.info? ty).map (·.size) = some cs.length) (hdf : a.defers = []) (hR : R (.returned (.tuple #[u, .agg cs.toArray, u'])) w) : bodyPost P fn R .ret a w := by
  refine bodyPost_ret (v := .tuple #[u, .agg cs.toArray, u']) ?_ hdf hR
  have h1 := run_loadVar_mid (P := P) w g 0 ty cs d hb hu hd hi
  have hs' : a.tmps[slot]?.getD undef = u := by simpa using hs
  have hs2' : a.tmps[slot2]?.getD undef = .pointer (some ⟨g, 0, none⟩) := by simpa using hs2
  have hs3' : a.tmps[slot3]?.getD undef = u' := by simpa using hs3
  simp [results, hfr, hs', hs2', hs3', asAddr, h1]
/-- a row and a flow and a flag -/
def RetPut (w : World) (R' : List (Fw × Nat)) (g : Fw) (fl : Bool) (e : Ending) (w' : World) : Prop := ∃ A n c bs d, e = .returned (.tuple #[.slice A n c, .agg g.c.toArray, .bool fl]) ∧ w' = plus w bs d ∧ Os 45 10 (plus w bs d) w.heap.size A n c (fC R')
theorem Rs.at_lt {s : Nat} {w : World} {A : Option Addr} {n c : Nat} {cs : List Value} (h : Rs s w A n c cs) (hn : 0 < n) (hs : 0 < s) : ∀ a, A = some a → a.block < w.heap.size := by
  obtain ⟨b, off, rfl, hb, -⟩ := h.at_ hn hs
  intro a e
  injection e with e
  subst e
  exact hb
set_option maxHeartbeats 4000000 in
set_option maxRecDepth 100000 in
theorem rput_is (P S : List (Fw × Nat)) (y : Fw × Nat) (R : List (Fw × Nat)) (hR : R = P ++ y :: S) (hP : ∀ x ∈ P, x.1 ≠ y.1) (A : Option Addr) (n c : Nat) (most : Int) (f : Fw) (wd : Nat) (w : World) (hr : Rs 10 w A n c (fC R)) (hm : n ≤ 1000) (hf : y.1 = f) : Calls Try.prog 18 #[.slice A n c, .int .i64 most, .agg (cnR (f, wd)).toArray] w (RetPut w (P ++ S ++ [(f, wd)]) fw0 false) := by
  generalize hRR : P ++ S ++ [(f, wd)] = R2
  replace hRR := Lib.hid hRR
  have hn0 : 0 < n := by have := hr.1; rw [flat_len cnR 10 cnR_len, hR] at this; simp at this; omega
  have hrl := hr.at_lt hn0 (by decide)
  have hln : R.length = n := by have := hr.1; rw [flat_len cnR 10 cnR_len] at this; omega
  obtain ⟨dv, v1, v2⟩ := rowFw
  obtain ⟨du1, u1, u2⟩ := rowCn
  have hc : Bk ((w.alloc (.cells (cnR (f, wd)).toArray 45)).alloc (.cells ([.bool false, .int .u64 0, .int .u64 0, .bool false, .int .u64 0, .int .u64 0, .int .u16 0, .int .u16 0, .int .u8 0]).toArray 28)) w.heap.size 45 (cnR (f, wd)) := (Bk.new w 45 (cnR (f, wd)).toArray).alloc _
  have hg : Bk ((w.alloc (.cells (cnR (f, wd)).toArray 45)).alloc (.cells ([.bool false, .int .u64 0, .int .u64 0, .bool false, .int .u64 0, .int .u64 0, .int .u16 0, .int .u16 0, .int .u8 0]).toArray 28)) (w.heap.size + 1) 28 ([.bool false, .int .u64 0, .int .u64 0, .bool false, .int .u64 0, .int .u64 0, .int .u16 0, .int .u16 0, .int .u8 0]) := Bk.newK _ _ _ (by simp) rfl
  have be : Below w.heap.size w ((w.alloc (.cells (cnR (f, wd)).toArray 45)).alloc (.cells ([.bool false, .int .u64 0, .int .u64 0, .bool false, .int .u64 0, .int .u64 0, .int .u16 0, .int .u16 0, .int .u8 0]).toArray 28)) := Below.allocS (Below.allocS (Below.refl _ _) _) _
  replace hr := ((hr.alloc (.cells (cnR (f, wd)).toArray 45)).alloc (.cells ([.bool false, .int .u64 0, .int .u64 0, .bool false, .int .u64 0, .int .u64 0, .int .u16 0, .int .u16 0, .int .u8 0]).toArray 28))
  have zV : w.heap.size + 2 ≤ ((w.alloc (.cells (cnR (f, wd)).toArray 45)).alloc (.cells ([.bool false, .int .u64 0, .int .u64 0, .bool false, .int .u64 0, .int .u64 0, .int .u16 0, .int .u16 0, .int .u8 0]).toArray 28)).heap.size := by simp
  go_enter Try.func18, Try.ntmps18
  go_upto_region 1 with (fail)
  generalize (w.alloc (.cells (cnR (f, wd)).toArray 45)).alloc (.cells ([.bool false, .int .u64 0, .int .u64 0, .bool false, .int .u64 0, .int .u64 0, .int .u16 0, .int .u16 0, .int .u8 0]).toArray 28) = V at *
  have HIX := Lib.hid (index_at f R A n c V hr hm (P.length : Int) (.inr ⟨P, y, S, hR, hf, fun x hx => hf ▸ hP x hx, rfl⟩) : Calls Try.prog 15 #[.slice A n c, .agg f.c.toArray] V (RetV V (.int .i64 (P.length : Int))))
  obtain ⟨k, hk⟩ : ∃ k, k = P.length := ⟨_, rfl⟩
  rw [← hk] at HIX
  have hkR : k < R.length := by rw [hk, hR]; simp
  have hres : R.take k ++ R.drop (k + 1) = P ++ S := by rw [hk, hR]; simp
  have HCUT := Lib.hid (fun w (h : Rs 10 w A n c (fC R)) => cut_any R k hkR A n c w h hm)
  clear hk
  have hk0 : ¬ (k : Int) < 0 := by omega
  have hk1 : 0 ≤ (k : Int) := by omega
  go_upto_region 3 with (first
    | (refine at_op (.load 28 (.tmp 11)) rfl ?_; refine wpList_load_mid rfl _ (.tmp 11) rfl w.heap.size 0 rfl (f.c) _ (rangeAt.fst (x := (f, wd)) (Bk.range hc)) v1 v2 (szFw _) ?_)
    | (go_at_call 15; refine (HIX.out).mono ?_; rintro e w1 ⟨bs1, d1, rfl, rfl⟩))
  replace hr := hr.plus_ bs1 d1
  replace hc := hc.later (below_plus _ bs1 d1)
  replace hg := hg.later (below_plus _ bs1 d1)
  replace be := belowP be bs1 d1
  generalize plus V bs1 d1 = W at *
  have hcP : w.heap.size ≠ w.heap.size + 1 ∧ w.heap.size < W.heap.size := ⟨by omega, hc.lt⟩
  have hgl := hg.lt
  have hrP : ∀ a, A = some a → a.block < W.heap.size → a.block ≠ w.heap.size + 1 ∧ a.block < W.heap.size := fun a e h => ⟨by have := hrl a e; omega, h⟩
  clear HIX
  go_wp2
  refine wp_own (fun b => b ≠ w.heap.size + 1 ∧ b < W.heap.size) 10 1 43 2 (fun i => match i with | 8 => 10 | i => i) (fun i => match i with | 5 => [2] | 7 => [5] | 8 => [10] | _ => []) (fun i => match i with | 10 => .pointer (some ⟨w.heap.size + 1, 0, none⟩) | _ => undef) rfl (by kernel_rfl) (by kernel_rfl) (fun i => match i with | 0 => Own.eq (.slice A n c) | 1 => Own.eq (.int .i64 (k : Int)) | 2 => Own.osr 45 10 W.heap.size (fC (R.take k ++ R.drop (k + 1))) | 3 => Own.eq (.agg (cnR (f, wd)).toArray) | 4 => Own.osr 45 10 W.heap.size (cnR (f, wd)) | 5 => Own.osr 45 10 W.heap.size (fC (R.take k ++ R.drop (k + 1)) ++ cnR (f, wd)) | 6 => Own.eq (.agg (fw0.c).toArray) | 7 => Own.osr 45 10 W.heap.size (fC (R.take k ++ R.drop (k + 1)) ++ cnR (f, wd)) | 8 => Own.into 28 (fun cs _ => cs = fw0.c) (fun _ _ _ h _ => h) | 9 => Own.eq (.bool false) | 10 => Own.blk 28 [.bool false, .int .u64 0, .int .u64 0, .bool false, .int .u64 0, .int .u64 0, .int .u16 0, .int .u16 0, .int .u8 0] | _ => Own.any) (fun b h => h.2) ?_ ?_ ?_ ?_ ?_
  · exact fun t ht => by obtain rfl : t = 0 := (by omega); exact ⟨_, rfl, hg⟩
  · exact fun t t' h1 h2 hne => absurd (show t = t' by omega) hne
  · exact fun t ht b hb hp => by obtain rfl : t = 0 := (by omega); exact hp.1 (own_ptr hb).symm
  · intro i hi o ho FA w' vs H K hK
    match i, hi, ho, H, hK with
    | 0, _, ho, H, hK => 
      obtain rfl := Option.some.inj ho.symm
      clear ho
      have ev0 : FA.eval (.tmp 0) = .slice A n c := H.out 0 (by kernel_rfl)
      have e0 : FA.tmps[0]?.getD undef = .slice A n c := by simpa [Act.eval] using ev0
      replace ev0 := Lib.hid ev0
      go_simp
      exact hK.out _ _ (chgX (Ex.refl _)) rfl (fun _ h => h.elim)
    | 1, _, ho, H, hK => 
      obtain rfl := Option.some.inj ho.symm
      clear ho
      have ev9 : FA.eval (.tmp 9) = .int .i64 (k : Int) := H.out 9 (by kernel_rfl)
      have e9 : FA.tmps[9]?.getD undef = .int .i64 (k : Int) := by simpa [Act.eval] using ev9
      replace ev9 := Lib.hid ev9
      go_simp
      exact hK.out _ _ (chgX (Ex.refl _)) rfl (fun _ h => h.elim)
    | 2, _, ho, H, hK => 
      obtain rfl := Option.some.inj ho.symm
      clear ho
      have ev16 : FA.eval (.tmp 16) = .slice A n c := (H.dep 0 16 (by kernel_rfl)).trans (H.word 0 (by omega) (by kernel_rfl))
      have e16 : FA.tmps[16]?.getD undef = .slice A n c := by simpa [Act.eval] using ev16
      replace ev16 := Lib.hid ev16
      have ev17 : FA.eval (.tmp 17) = .int .i64 (k : Int) := (H.dep 1 17 (by kernel_rfl)).trans (H.word 1 (by omega) (by kernel_rfl))
      have e17 : FA.tmps[17]?.getD undef = .int .i64 (k : Int) := by simpa [Act.eval] using ev17
      replace ev17 := Lib.hid ev17
      go_simp
      refine (HCUT.out w' (hr.kept H.kept hrP)).mono ?_
      rintro e w1 ⟨A1, n1, c1, bs2, d2, rfl, rfl, ho⟩
      exact hK.out _ _ (chgX (Ex.plus_ _ _ _)) ⟨_, _, _, rfl, ho.mono H.kept.size⟩ (fun b hb => .inr (ho.blk b hb).1)
    | 3, _, ho, H, hK => 
      obtain rfl := Option.some.inj ho.symm
      clear ho
      have ev5 : FA.eval (.tmp 5) = .pointer (some ⟨w.heap.size, 0, none⟩) := H.out 5 (by kernel_rfl)
      have e5 : FA.tmps[5]?.getD undef = .pointer (some ⟨w.heap.size, 0, none⟩) := by simpa [Act.eval] using ev5
      replace ev5 := Lib.hid ev5
      refine wanted_if rfl ?_
      refine wp_load_mid 45 (.tmp 5) rfl (w.heap.size) 0 ev5.out (cnR (f, wd)) _ (Bk.range (hc.kept H.kept hcP)) u1 u2 (szCn _) ?_
      exact hK.out _ _ (chgX (Ex.refl _)) rfl (fun _ h => h.elim)
    | 4, _, ho, H, hK => 
      obtain rfl := Option.some.inj ho.symm
      clear ho
      have ev19 : FA.eval (.tmp 19) = .agg (cnR (f, wd)).toArray := (H.dep 3 19 (by kernel_rfl)).trans (H.word 3 (by omega) (by kernel_rfl))
      have e19 : FA.tmps[19]?.getD undef = .agg (cnR (f, wd)).toArray := by simpa [Act.eval] using ev19
      replace ev19 := Lib.hid ev19
      go_simp
      have ho1 := Os.lit (s := 10) (e := 45) w' (Nat.le_refl _) (cnR (f, wd)).toArray 1 rfl (by decide)
      exact hK.out _ _ (chgX (Ex.alloc _ _)) ⟨_, _, _, rfl, ho1.mono H.kept.size⟩ (fun b hb => .inr (ho1.blk b hb).1)
    | 5, _, ho, H, hK => 
      obtain rfl := Option.some.inj ho.symm
      clear ho
      have ev18 := H.dep 2 18 (by kernel_rfl)
      have e18 : FA.tmps[18]?.getD undef = vs 2 := by simpa [Act.eval] using ev18
      replace ev18 := Lib.hid ev18
      have ev20 := H.dep 4 20 (by kernel_rfl)
      have e20 : FA.tmps[20]?.getD undef = vs 4 := by simpa [Act.eval] using ev20
      replace ev20 := Lib.hid ev20
      obtain ⟨A1, n1, c1, hv1, h1⟩ := H.word 2 (by omega) (by kernel_rfl)
      obtain ⟨A2, n2, c2, hv2, h2⟩ := H.word 4 (by omega) (by kernel_rfl)
      have hn1 : n1 ≤ 2000 := by have := h1.rs.1; (try rw [List.nil_append] at this); rw [flat_len cnR 10 cnR_len] at this; (try simp at this); omega
      have hn2 : n2 ≤ 2000 := by have := h2.rs.1; rw [cnR_len] at this; omega
      refine wanted_if rfl ?_
      refine own_appS etCn (.tmp 18) (.tmp 20) rfl (ev18.out.trans hv1) h1 (ev20.out.trans hv2) h2.rs (cnR_one _) (by omega) H.kept.size ?_
      intro A3 n3 c3 w3 hn3 ho3 hg3 hf3
      refine hK.out _ _ (Chg.grown hg3 (fun k hk => ⟨2, rfl, by show (vs 2).ownBlock = some k; rw [hv1]; exact hk⟩)) ⟨_, _, _, rfl, ho3⟩ (fun b hb => ?_)
      rcases hf3 b hb with h | h
      · exact .inl ⟨2, rfl, by show (vs 2).ownBlock = some b; rw [hv1]; exact h⟩
      · exact .inr h
    | 6, _, ho, H, hK => 
      obtain rfl := Option.some.inj ho.symm
      clear ho
      go_simp
      exact hK.out _ _ (chgX (Ex.refl _)) rfl (fun _ h => h.elim)
    | 7, _, ho, H, hK => 
      obtain rfl := Option.some.inj ho.symm
      clear ho
      have ev21 := H.dep 5 21 (by kernel_rfl)
      have e21 : FA.tmps[21]?.getD undef = vs 5 := by simpa [Act.eval] using ev21
      replace ev21 := Lib.hid ev21
      have hw := H.word 5 (by omega) (by kernel_rfl)
      go_simp
      exact hK.out _ _ (chgX (Ex.refl _)) hw (fun b hb => .inl ⟨5, rfl, hb⟩)
    | 8, _, ho, H, hK => 
      obtain rfl := Option.some.inj ho.symm
      clear ho
      have ev7 : FA.eval (.tmp 7) = .pointer (some ⟨w.heap.size + 1, 0, none⟩) := H.out 7 (by kernel_rfl)
      have e7 : FA.tmps[7]?.getD undef = .pointer (some ⟨w.heap.size + 1, 0, none⟩) := by simpa [Act.eval] using ev7
      replace ev7 := Lib.hid ev7
      have ev22 : FA.eval (.tmp 22) = .agg (fw0.c).toArray := (H.dep 6 22 (by kernel_rfl)).trans (H.word 6 (by omega) (by kernel_rfl))
      have e22 : FA.tmps[22]?.getD undef = .agg (fw0.c).toArray := by simpa [Act.eval] using ev22
      replace ev22 := Lib.hid ev22
      obtain ⟨g0, hg0, hb0⟩ := H.word 10 (by omega) (by kernel_rfl)
      have hv0 : vs 10 = .pointer (some ⟨w.heap.size + 1, 0, none⟩) := H.virt 10 (by omega)
      obtain rfl := own_ptr (hv0.symm.trans hg0)
      refine wanted_if rfl ?_
      refine wp_stA 28 (.tmp 7) (.tmp 22) rfl (fw0.c) [.bool false, .int .u64 0, .int .u64 0, .bool false, .int .u64 0, .int .u64 0, .int .u16 0, .int .u16 0, .int .u8 0] rfl (Fw.c_one _) ev7.out ev22.out hb0 (szFw _) ?_
      intro w'' hn hgr
      exact hK.out undef _ (Chg.one hgr ⟨10, rfl, hv0⟩) ⟨_, _, hv0, hn, rfl⟩ (fun b hb => .inl ⟨10, rfl, hb⟩)
    | 9, _, ho, H, hK => 
      obtain rfl := Option.some.inj ho.symm
      clear ho
      go_simp
      exact hK.out _ _ (chgX (Ex.refl _)) rfl (fun _ h => h.elim)
    | (k + 10), hi, _, _, _ => exact absurd hi (by omega)
  intro vs w' hC hV hW hDis hFr
  have p0 : vs 0 = .slice A n c := hW 0 (by omega) (by kernel_rfl)
  have p1 : vs 1 = .int .i64 (k : Int) := hW 1 (by omega) (by kernel_rfl)
  have p3 : vs 3 = .agg (cnR (f, wd)).toArray := hW 3 (by omega) (by kernel_rfl)
  have p4 := hW 4 (by omega) (by kernel_rfl)
  have p6 : vs 6 = .agg (fw0.c).toArray := hW 6 (by omega) (by kernel_rfl)
  have p7 := hW 7 (by omega) (by kernel_rfl)
  have p8 := hW 8 (by omega) (by kernel_rfl)
  have p9 : vs 9 = .bool false := hW 9 (by omega) (by kernel_rfl)
  clear hW
  simp only [List.take_succ_cons, List.take_zero, List.drop_succ_cons, List.drop_zero, putAll, Nat.zero_add, Nat.reduceAdd, Act.put, List.setIfInBounds_toArray, List.set_cons_zero, List.set_cons_succ, p0, p1, p3, p6, p9]
  obtain ⟨A5, n5, c5, hA5, ho5⟩ := p7
  obtain ⟨g0, cs0, hg0, hb0, rfl⟩ := p8
  replace hA5 : vs 7 = .slice A5 n5 c5 := hA5
  replace hg0 : vs 10 = .pointer (some ⟨g0, 0, none⟩) := hg0
  have hv0 : vs 10 = .pointer (some ⟨w.heap.size + 1, 0, none⟩) := hV 10 (by omega)
  obtain rfl := own_ptr (hv0.symm.trans hg0)
  rw [hA5]
  have hbw := hC.below (B := w.heap.size) be.size (fun b hb => ⟨by omega, by have := be.size; omega⟩)
  replace hbw := be.trans hbw
  replace ho5 := ho5.mono be.size
  rw [show fC (R.take k ++ R.drop (k + 1)) ++ cnR (f, wd) = fC R2 by rw [hres, ← hRR.out]; simp [fC, List.flatMap_append]] at ho5
  go_wp2
  obtain ⟨bs9, d9, hw9⟩ := plus_of hbw
  refine bodyPost_aggMM Try.results18 rfl rfl rfl (Bk.range hb0) v1 v2 (szFw _) rfl ?_
  refine ⟨A5, n5, c5, bs9, d9, rfl, hw9, ?_⟩
  rw [← hw9]
  exact ho5
set_option maxHeartbeats 4000000 in
set_option maxRecDepth 100000 in
theorem rput_adds (R : List (Fw × Nat)) (A : Option Addr) (n c : Nat) (most : Int) (f : Fw) (wd : Nat) (w : World) (hr : Rs 10 w A n c (fC R)) (hm : n ≤ 1000) (hno : ∀ x ∈ R, x.1 ≠ f) (hroom : (n : Int) < most) (hrl : ∀ a, A = some a → a.block < w.heap.size) : Calls Try.prog 18 #[.slice A n c, .int .i64 most, .agg (cnR (f, wd)).toArray] w (RetPut w (R ++ [(f, wd)]) fw0 false) := by
  generalize hRR : R ++ [(f, wd)] = R2
  replace hRR := Lib.hid hRR
  have hln : R.length = n := by have := hr.1; rw [flat_len cnR 10 cnR_len] at this; omega
  obtain ⟨dv, v1, v2⟩ := rowFw
  obtain ⟨du1, u1, u2⟩ := rowCn
  have hc : Bk ((w.alloc (.cells (cnR (f, wd)).toArray 45)).alloc (.cells ([.bool false, .int .u64 0, .int .u64 0, .bool false, .int .u64 0, .int .u64 0, .int .u16 0, .int .u16 0, .int .u8 0]).toArray 28)) w.heap.size 45 (cnR (f, wd)) := (Bk.new w 45 (cnR (f, wd)).toArray).alloc _
  have hg : Bk ((w.alloc (.cells (cnR (f, wd)).toArray 45)).alloc (.cells ([.bool false, .int .u64 0, .int .u64 0, .bool false, .int .u64 0, .int .u64 0, .int .u16 0, .int .u16 0, .int .u8 0]).toArray 28)) (w.heap.size + 1) 28 ([.bool false, .int .u64 0, .int .u64 0, .bool false, .int .u64 0, .int .u64 0, .int .u16 0, .int .u16 0, .int .u8 0]) := Bk.newK _ _ _ (by simp) rfl
  have be : Below w.heap.size w ((w.alloc (.cells (cnR (f, wd)).toArray 45)).alloc (.cells ([.bool false, .int .u64 0, .int .u64 0, .bool false, .int .u64 0, .int .u64 0, .int .u16 0, .int .u16 0, .int .u8 0]).toArray 28)) := Below.allocS (Below.allocS (Below.refl _ _) _) _
  replace hr := ((hr.alloc (.cells (cnR (f, wd)).toArray 45)).alloc (.cells ([.bool false, .int .u64 0, .int .u64 0, .bool false, .int .u64 0, .int .u64 0, .int .u16 0, .int .u16 0, .int .u8 0]).toArray 28))
  have zV : w.heap.size + 2 ≤ ((w.alloc (.cells (cnR (f, wd)).toArray 45)).alloc (.cells ([.bool false, .int .u64 0, .int .u64 0, .bool false, .int .u64 0, .int .u64 0, .int .u16 0, .int .u16 0, .int .u8 0]).toArray 28)).heap.size := by simp
  go_enter Try.func18, Try.ntmps18
  go_upto_region 1 with (fail)
  generalize (w.alloc (.cells (cnR (f, wd)).toArray 45)).alloc (.cells ([.bool false, .int .u64 0, .int .u64 0, .bool false, .int .u64 0, .int .u64 0, .int .u16 0, .int .u16 0, .int .u8 0]).toArray 28) = V at *
  have HIX := Lib.hid (index_at f R A n c V hr hm (-1) (.inl ⟨rfl, hno⟩) : Calls Try.prog 15 #[.slice A n c, .agg f.c.toArray] V (RetV V (.int .i64 (-1))))
  go_upto_region 5 with (first
    | (refine at_op (.load 28 (.tmp 11)) rfl ?_; refine wpList_load_mid rfl _ (.tmp 11) rfl w.heap.size 0 rfl (f.c) _ (rangeAt.fst (x := (f, wd)) (Bk.range hc)) v1 v2 (szFw _) ?_)
    | (go_at_call 15; refine (HIX.out).mono ?_; rintro e w1 ⟨bs1, d1, rfl, rfl⟩))
  replace hr := hr.plus_ bs1 d1
  replace hc := hc.later (below_plus _ bs1 d1)
  replace hg := hg.later (below_plus _ bs1 d1)
  replace be := belowP be bs1 d1
  generalize plus V bs1 d1 = W at *
  have hcP : w.heap.size ≠ w.heap.size + 1 ∧ w.heap.size < W.heap.size := ⟨by omega, hc.lt⟩
  have hgl := hg.lt
  have hrP : ∀ a, A = some a → a.block < W.heap.size → a.block ≠ w.heap.size + 1 ∧ a.block < W.heap.size := fun a e h => ⟨by have := hrl a e; omega, h⟩
  clear HIX
  go_wp2
  refine wp_own (fun b => b ≠ w.heap.size + 1 ∧ b < W.heap.size) 10 1 43 2 (fun i => match i with | 8 => 10 | i => i) (fun i => match i with | 2 => [0] | 5 => [2] | 7 => [5] | 8 => [10] | _ => []) (fun i => match i with | 10 => .pointer (some ⟨w.heap.size + 1, 0, none⟩) | _ => undef) rfl (by kernel_rfl) (by kernel_rfl) (fun i => match i with | 0 => Own.osr 45 10 W.heap.size ([]) | 1 => Own.eq (.slice A n c) | 2 => Own.osr 45 10 W.heap.size ([] ++ fC R) | 3 => Own.eq (.agg (cnR (f, wd)).toArray) | 4 => Own.osr 45 10 W.heap.size (cnR (f, wd)) | 5 => Own.osr 45 10 W.heap.size (([] ++ fC R) ++ cnR (f, wd)) | 6 => Own.eq (.agg (fw0.c).toArray) | 7 => Own.osr 45 10 W.heap.size (([] ++ fC R) ++ cnR (f, wd)) | 8 => Own.into 28 (fun cs _ => cs = fw0.c) (fun _ _ _ h _ => h) | 9 => Own.eq (.bool false) | 10 => Own.blk 28 [.bool false, .int .u64 0, .int .u64 0, .bool false, .int .u64 0, .int .u64 0, .int .u16 0, .int .u16 0, .int .u8 0] | _ => Own.any) (fun b h => h.2) ?_ ?_ ?_ ?_ ?_
  · exact fun t ht => by obtain rfl : t = 0 := (by omega); exact ⟨_, rfl, hg⟩
  · exact fun t t' h1 h2 hne => absurd (show t = t' by omega) hne
  · exact fun t ht b hb hp => by obtain rfl : t = 0 := (by omega); exact hp.1 (own_ptr hb).symm
  · intro i hi o ho FA w' vs H K hK
    match i, hi, ho, H, hK with
    | 0, _, ho, H, hK => 
      obtain rfl := Option.some.inj ho.symm
      clear ho
      go_simp
      have ho1 := Os.lit (s := 10) (e := 45) w' (Nat.le_refl _) #[] 0 rfl (Nat.zero_le _)
      exact hK.out _ _ (chgX (Ex.alloc _ _)) ⟨_, _, _, rfl, ho1.mono H.kept.size⟩ (fun b hb => .inr (ho1.blk b hb).1)
    | 1, _, ho, H, hK => 
      obtain rfl := Option.some.inj ho.symm
      clear ho
      have ev0 : FA.eval (.tmp 0) = .slice A n c := H.out 0 (by kernel_rfl)
      have e0 : FA.tmps[0]?.getD undef = .slice A n c := by simpa [Act.eval] using ev0
      replace ev0 := Lib.hid ev0
      go_simp
      exact hK.out _ _ (chgX (Ex.refl _)) rfl (fun _ h => h.elim)
    | 2, _, ho, H, hK => 
      obtain rfl := Option.some.inj ho.symm
      clear ho
      have ev27 := H.dep 0 27 (by kernel_rfl)
      have e27 : FA.tmps[27]?.getD undef = vs 0 := by simpa [Act.eval] using ev27
      replace ev27 := Lib.hid ev27
      have ev28 : FA.eval (.tmp 28) = .slice A n c := (H.dep 1 28 (by kernel_rfl)).trans (H.word 1 (by omega) (by kernel_rfl))
      have e28 : FA.tmps[28]?.getD undef = .slice A n c := by simpa [Act.eval] using ev28
      replace ev28 := Lib.hid ev28
      obtain ⟨A1, n1, c1, hv1, h1⟩ := H.word 0 (by omega) (by kernel_rfl)
      have hn1 : n1 = 0 := by have := h1.rs.1; simp at this; omega
      subst hn1
      refine wanted_if rfl ?_
      refine own_appS etCn (.tmp 27) (.tmp 28) rfl (ev27.out.trans hv1) h1 ev28.out (hr.kept H.kept hrP) (flat_one cnR cnR_one _) (by omega) H.kept.size ?_
      intro A3 n3 c3 w3 hn3 ho3 hg3 hf3
      refine hK.out _ _ (Chg.grown hg3 (fun k hk => ⟨0, rfl, by show (vs 0).ownBlock = some k; rw [hv1]; exact hk⟩)) ⟨_, _, _, rfl, ho3⟩ (fun b hb => ?_)
      rcases hf3 b hb with h | h
      · exact .inl ⟨0, rfl, by show (vs 0).ownBlock = some b; rw [hv1]; exact h⟩
      · exact .inr h
    | 3, _, ho, H, hK => 
      obtain rfl := Option.some.inj ho.symm
      clear ho
      have ev5 : FA.eval (.tmp 5) = .pointer (some ⟨w.heap.size, 0, none⟩) := H.out 5 (by kernel_rfl)
      have e5 : FA.tmps[5]?.getD undef = .pointer (some ⟨w.heap.size, 0, none⟩) := by simpa [Act.eval] using ev5
      replace ev5 := Lib.hid ev5
      refine wanted_if rfl ?_
      refine wp_load_mid 45 (.tmp 5) rfl (w.heap.size) 0 ev5.out (cnR (f, wd)) _ (Bk.range (hc.kept H.kept hcP)) u1 u2 (szCn _) ?_
      exact hK.out _ _ (chgX (Ex.refl _)) rfl (fun _ h => h.elim)
    | 4, _, ho, H, hK => 
      obtain rfl := Option.some.inj ho.symm
      clear ho
      have ev30 : FA.eval (.tmp 30) = .agg (cnR (f, wd)).toArray := (H.dep 3 30 (by kernel_rfl)).trans (H.word 3 (by omega) (by kernel_rfl))
      have e30 : FA.tmps[30]?.getD undef = .agg (cnR (f, wd)).toArray := by simpa [Act.eval] using ev30
      replace ev30 := Lib.hid ev30
      go_simp
      have ho1 := Os.lit (s := 10) (e := 45) w' (Nat.le_refl _) (cnR (f, wd)).toArray 1 rfl (by decide)
      exact hK.out _ _ (chgX (Ex.alloc _ _)) ⟨_, _, _, rfl, ho1.mono H.kept.size⟩ (fun b hb => .inr (ho1.blk b hb).1)
    | 5, _, ho, H, hK => 
      obtain rfl := Option.some.inj ho.symm
      clear ho
      have ev29 := H.dep 2 29 (by kernel_rfl)
      have e29 : FA.tmps[29]?.getD undef = vs 2 := by simpa [Act.eval] using ev29
      replace ev29 := Lib.hid ev29
      have ev31 := H.dep 4 31 (by kernel_rfl)
      have e31 : FA.tmps[31]?.getD undef = vs 4 := by simpa [Act.eval] using ev31
      replace ev31 := Lib.hid ev31
      obtain ⟨A1, n1, c1, hv1, h1⟩ := H.word 2 (by omega) (by kernel_rfl)
      obtain ⟨A2, n2, c2, hv2, h2⟩ := H.word 4 (by omega) (by kernel_rfl)
      have hn1 : n1 ≤ 2000 := by have := h1.rs.1; (try rw [List.nil_append] at this); rw [flat_len cnR 10 cnR_len] at this; (try simp at this); omega
      have hn2 : n2 ≤ 2000 := by have := h2.rs.1; rw [cnR_len] at this; omega
      refine wanted_if rfl ?_
      refine own_appS etCn (.tmp 29) (.tmp 31) rfl (ev29.out.trans hv1) h1 (ev31.out.trans hv2) h2.rs (cnR_one _) (by omega) H.kept.size ?_
      intro A3 n3 c3 w3 hn3 ho3 hg3 hf3
      refine hK.out _ _ (Chg.grown hg3 (fun k hk => ⟨2, rfl, by show (vs 2).ownBlock = some k; rw [hv1]; exact hk⟩)) ⟨_, _, _, rfl, ho3⟩ (fun b hb => ?_)
      rcases hf3 b hb with h | h
      · exact .inl ⟨2, rfl, by show (vs 2).ownBlock = some b; rw [hv1]; exact h⟩
      · exact .inr h
    | 6, _, ho, H, hK => 
      obtain rfl := Option.some.inj ho.symm
      clear ho
      go_simp
      exact hK.out _ _ (chgX (Ex.refl _)) rfl (fun _ h => h.elim)
    | 7, _, ho, H, hK => 
      obtain rfl := Option.some.inj ho.symm
      clear ho
      have ev32 := H.dep 5 32 (by kernel_rfl)
      have e32 : FA.tmps[32]?.getD undef = vs 5 := by simpa [Act.eval] using ev32
      replace ev32 := Lib.hid ev32
      have hw := H.word 5 (by omega) (by kernel_rfl)
      go_simp
      exact hK.out _ _ (chgX (Ex.refl _)) hw (fun b hb => .inl ⟨5, rfl, hb⟩)
    | 8, _, ho, H, hK => 
      obtain rfl := Option.some.inj ho.symm
      clear ho
      have ev7 : FA.eval (.tmp 7) = .pointer (some ⟨w.heap.size + 1, 0, none⟩) := H.out 7 (by kernel_rfl)
      have e7 : FA.tmps[7]?.getD undef = .pointer (some ⟨w.heap.size + 1, 0, none⟩) := by simpa [Act.eval] using ev7
      replace ev7 := Lib.hid ev7
      have ev33 : FA.eval (.tmp 33) = .agg (fw0.c).toArray := (H.dep 6 33 (by kernel_rfl)).trans (H.word 6 (by omega) (by kernel_rfl))
      have e33 : FA.tmps[33]?.getD undef = .agg (fw0.c).toArray := by simpa [Act.eval] using ev33
      replace ev33 := Lib.hid ev33
      obtain ⟨g0, hg0, hb0⟩ := H.word 10 (by omega) (by kernel_rfl)
      have hv0 : vs 10 = .pointer (some ⟨w.heap.size + 1, 0, none⟩) := H.virt 10 (by omega)
      obtain rfl := own_ptr (hv0.symm.trans hg0)
      refine wanted_if rfl ?_
      refine wp_stA 28 (.tmp 7) (.tmp 33) rfl (fw0.c) [.bool false, .int .u64 0, .int .u64 0, .bool false, .int .u64 0, .int .u64 0, .int .u16 0, .int .u16 0, .int .u8 0] rfl (Fw.c_one _) ev7.out ev33.out hb0 (szFw _) ?_
      intro w'' hn hgr
      exact hK.out undef _ (Chg.one hgr ⟨10, rfl, hv0⟩) ⟨_, _, hv0, hn, rfl⟩ (fun b hb => .inl ⟨10, rfl, hb⟩)
    | 9, _, ho, H, hK => 
      obtain rfl := Option.some.inj ho.symm
      clear ho
      go_simp
      exact hK.out _ _ (chgX (Ex.refl _)) rfl (fun _ h => h.elim)
    | (k + 10), hi, _, _, _ => exact absurd hi (by omega)
  intro vs w' hC hV hW hDis hFr
  have p1 : vs 1 = .slice A n c := hW 1 (by omega) (by kernel_rfl)
  have p3 : vs 3 = .agg (cnR (f, wd)).toArray := hW 3 (by omega) (by kernel_rfl)
  have p4 := hW 4 (by omega) (by kernel_rfl)
  have p6 : vs 6 = .agg (fw0.c).toArray := hW 6 (by omega) (by kernel_rfl)
  have p7 := hW 7 (by omega) (by kernel_rfl)
  have p8 := hW 8 (by omega) (by kernel_rfl)
  have p9 : vs 9 = .bool false := hW 9 (by omega) (by kernel_rfl)
  clear hW
  simp only [List.take_succ_cons, List.take_zero, List.drop_succ_cons, List.drop_zero, putAll, Nat.zero_add, Nat.reduceAdd, Act.put, List.setIfInBounds_toArray, List.set_cons_zero, List.set_cons_succ, p1, p3, p6, p9]
  obtain ⟨A5, n5, c5, hA5, ho5⟩ := p7
  obtain ⟨g0, cs0, hg0, hb0, rfl⟩ := p8
  replace hA5 : vs 7 = .slice A5 n5 c5 := hA5
  replace hg0 : vs 10 = .pointer (some ⟨g0, 0, none⟩) := hg0
  have hv0 : vs 10 = .pointer (some ⟨w.heap.size + 1, 0, none⟩) := hV 10 (by omega)
  obtain rfl := own_ptr (hv0.symm.trans hg0)
  rw [hA5]
  have hbw := hC.below (B := w.heap.size) be.size (fun b hb => ⟨by omega, by have := be.size; omega⟩)
  replace hbw := be.trans hbw
  replace ho5 := ho5.mono be.size
  rw [show [] ++ fC R ++ cnR (f, wd) = fC R2 by rw [← hRR.out]; simp [fC, List.flatMap_append]] at ho5
  go_wp2
  obtain ⟨bs9, d9, hw9⟩ := plus_of hbw
  refine bodyPost_aggMM Try.results18 rfl rfl rfl (Bk.range hb0) v1 v2 (szFw _) rfl ?_
  refine ⟨A5, n5, c5, bs9, d9, rfl, hw9, ?_⟩
  rw [← hw9]
  exact ho5
set_option maxHeartbeats 4000000 in
set_option maxRecDepth 100000 in
theorem rput_evicts (y : Fw × Nat) (S R : List (Fw × Nat)) (hR : R = y :: S) (A : Option Addr) (n c : Nat) (most : Int) (f : Fw) (wd : Nat) (w : World) (hr : Rs 10 w A n c (fC R)) (hm : n ≤ 1000) (hno : ∀ x ∈ R, x.1 ≠ f) (hroom : ¬ (n : Int) < most) : Calls Try.prog 18 #[.slice A n c, .int .i64 most, .agg (cnR (f, wd)).toArray] w (RetPut w (S ++ [(f, wd)]) y.1 true) := by
  generalize hRR : S ++ [(f, wd)] = R2
  replace hRR := Lib.hid hRR
  have hn0 : 0 < n := by have := hr.1; rw [flat_len cnR 10 cnR_len, hR] at this; simp at this; omega
  have hrl := hr.at_lt hn0 (by decide)
  have hres : R.take 0 ++ R.drop (0 + 1) = S := by rw [hR]; simp
  have hkR : 0 < R.length := by rw [hR]; simp
  have HCUT := Lib.hid (fun w (h : Rs 10 w A n c (fC R)) => cut_any R 0 hkR A n c w h hm)
  obtain ⟨xb, xo, rfl, hxb, -⟩ := hr.at_ hn0 (by decide)
  have HRG := Lib.hid (fun (W : World) (h : Rs 10 W (some ⟨xb, xo, none⟩) n c (fC R)) => show W.rangeAt xb xo y.1.c by
    have := rangeAt.fst (h.rangeE cnR_len 0 hkR)
    simpa [hR] using this)
  have hln : R.length = n := by have := hr.1; rw [flat_len cnR 10 cnR_len] at this; omega
  obtain ⟨dv, v1, v2⟩ := rowFw
  obtain ⟨du1, u1, u2⟩ := rowCn
  have hc : Bk ((w.alloc (.cells (cnR (f, wd)).toArray 45)).alloc (.cells ([.bool false, .int .u64 0, .int .u64 0, .bool false, .int .u64 0, .int .u64 0, .int .u16 0, .int .u16 0, .int .u8 0]).toArray 28)) w.heap.size 45 (cnR (f, wd)) := (Bk.new w 45 (cnR (f, wd)).toArray).alloc _
  have hg : Bk ((w.alloc (.cells (cnR (f, wd)).toArray 45)).alloc (.cells ([.bool false, .int .u64 0, .int .u64 0, .bool false, .int .u64 0, .int .u64 0, .int .u16 0, .int .u16 0, .int .u8 0]).toArray 28)) (w.heap.size + 1) 28 ([.bool false, .int .u64 0, .int .u64 0, .bool false, .int .u64 0, .int .u64 0, .int .u16 0, .int .u16 0, .int .u8 0]) := Bk.newK _ _ _ (by simp) rfl
  have be : Below w.heap.size w ((w.alloc (.cells (cnR (f, wd)).toArray 45)).alloc (.cells ([.bool false, .int .u64 0, .int .u64 0, .bool false, .int .u64 0, .int .u64 0, .int .u16 0, .int .u16 0, .int .u8 0]).toArray 28)) := Below.allocS (Below.allocS (Below.refl _ _) _) _
  replace hr := ((hr.alloc (.cells (cnR (f, wd)).toArray 45)).alloc (.cells ([.bool false, .int .u64 0, .int .u64 0, .bool false, .int .u64 0, .int .u64 0, .int .u16 0, .int .u16 0, .int .u8 0]).toArray 28))
  have zV : w.heap.size + 2 ≤ ((w.alloc (.cells (cnR (f, wd)).toArray 45)).alloc (.cells ([.bool false, .int .u64 0, .int .u64 0, .bool false, .int .u64 0, .int .u64 0, .int .u16 0, .int .u16 0, .int .u8 0]).toArray 28)).heap.size := by simp
  go_enter Try.func18, Try.ntmps18
  go_upto_region 1 with (fail)
  generalize (w.alloc (.cells (cnR (f, wd)).toArray 45)).alloc (.cells ([.bool false, .int .u64 0, .int .u64 0, .bool false, .int .u64 0, .int .u64 0, .int .u16 0, .int .u16 0, .int .u8 0]).toArray 28) = V at *
  have HIX := Lib.hid (index_at f R (some ⟨xb, xo, none⟩) n c V hr hm (-1) (.inl ⟨rfl, hno⟩) : Calls Try.prog 15 #[.slice (some ⟨xb, xo, none⟩) n c, .agg f.c.toArray] V (RetV V (.int .i64 (-1))))
  go_upto_region 6 with (first
    | (refine at_op (.load 28 (.tmp 11)) rfl ?_; refine wpList_load_mid rfl _ (.tmp 11) rfl w.heap.size 0 rfl (f.c) _ (rangeAt.fst (x := (f, wd)) (Bk.range hc)) v1 v2 (szFw _) ?_)
    | (go_at_call 15; refine (HIX.out).mono ?_; rintro e w1 ⟨bs1, d1, rfl, rfl⟩))
  replace hr := hr.plus_ bs1 d1
  replace hc := hc.later (below_plus _ bs1 d1)
  replace hg := hg.later (below_plus _ bs1 d1)
  replace be := belowP be bs1 d1
  generalize plus V bs1 d1 = W at *
  have hcP : w.heap.size ≠ w.heap.size + 1 ∧ w.heap.size < W.heap.size := ⟨by omega, hc.lt⟩
  have hgl := hg.lt
  have hrP : ∀ a, (some ⟨xb, xo, none⟩ : Option Addr) = some a → a.block < W.heap.size → a.block ≠ w.heap.size + 1 ∧ a.block < W.heap.size := fun a e h => ⟨by have := hrl a e; omega, h⟩
  clear HIX
  go_wp2
  refine wp_own (fun b => b ≠ w.heap.size + 1 ∧ b < W.heap.size) 12 1 43 2 (fun i => match i with | 10 => 12 | i => i) (fun i => match i with | 4 => [1] | 9 => [4] | 10 => [12] | _ => []) (fun i => match i with | 12 => .pointer (some ⟨w.heap.size + 1, 0, none⟩) | _ => undef) rfl (by kernel_rfl) (by kernel_rfl) (fun i => match i with | 0 => Own.eq (.slice (some ⟨xb, xo, none⟩) n c) | 1 => Own.osr 45 10 W.heap.size (fC (R.take 0 ++ R.drop (0 + 1))) | 2 => Own.eq (.agg (cnR (f, wd)).toArray) | 3 => Own.osr 45 10 W.heap.size (cnR (f, wd)) | 4 => Own.osr 45 10 W.heap.size (fC (R.take 0 ++ R.drop (0 + 1)) ++ cnR (f, wd)) | 5 => Own.eq (.slice (some ⟨xb, xo, none⟩) n c) | 6 => Own.eq (.pointer (some ⟨xb, xo, none⟩)) | 7 => Own.eq (.pointer (some ⟨xb, xo, none⟩)) | 8 => Own.eq (.agg (y.1.c).toArray) | 9 => Own.osr 45 10 W.heap.size (fC (R.take 0 ++ R.drop (0 + 1)) ++ cnR (f, wd)) | 10 => Own.into 28 (fun cs _ => cs = y.1.c) (fun _ _ _ h _ => h) | 11 => Own.eq (.bool true) | 12 => Own.blk 28 [.bool false, .int .u64 0, .int .u64 0, .bool false, .int .u64 0, .int .u64 0, .int .u16 0, .int .u16 0, .int .u8 0] | _ => Own.any) (fun b h => h.2) ?_ ?_ ?_ ?_ ?_
  · exact fun t ht => by obtain rfl : t = 0 := (by omega); exact ⟨_, rfl, hg⟩
  · exact fun t t' h1 h2 hne => absurd (show t = t' by omega) hne
  · exact fun t ht b hb hp => by obtain rfl : t = 0 := (by omega); exact hp.1 (own_ptr hb).symm
  · intro i hi o ho FA w' vs H K hK
    match i, hi, ho, H, hK with
    | 0, _, ho, H, hK => 
      obtain rfl := Option.some.inj ho.symm
      clear ho
      have ev0 : FA.eval (.tmp 0) = .slice (some ⟨xb, xo, none⟩) n c := H.out 0 (by kernel_rfl)
      have e0 : FA.tmps[0]?.getD undef = .slice (some ⟨xb, xo, none⟩) n c := by simpa [Act.eval] using ev0
      replace ev0 := Lib.hid ev0
      go_simp
      exact hK.out _ _ (chgX (Ex.refl _)) rfl (fun _ h => h.elim)
    | 1, _, ho, H, hK => 
      obtain rfl := Option.some.inj ho.symm
      clear ho
      have ev34 : FA.eval (.tmp 34) = .slice (some ⟨xb, xo, none⟩) n c := (H.dep 0 34 (by kernel_rfl)).trans (H.word 0 (by omega) (by kernel_rfl))
      have e34 : FA.tmps[34]?.getD undef = .slice (some ⟨xb, xo, none⟩) n c := by simpa [Act.eval] using ev34
      replace ev34 := Lib.hid ev34
      go_simp
      refine (HCUT.out w' (hr.kept H.kept hrP)).mono ?_
      rintro e w1 ⟨A1, n1, c1, bs2, d2, rfl, rfl, ho⟩
      exact hK.out _ _ (chgX (Ex.plus_ _ _ _)) ⟨_, _, _, rfl, ho.mono H.kept.size⟩ (fun b hb => .inr (ho.blk b hb).1)
    | 2, _, ho, H, hK => 
      obtain rfl := Option.some.inj ho.symm
      clear ho
      have ev5 : FA.eval (.tmp 5) = .pointer (some ⟨w.heap.size, 0, none⟩) := H.out 5 (by kernel_rfl)
      have e5 : FA.tmps[5]?.getD undef = .pointer (some ⟨w.heap.size, 0, none⟩) := by simpa [Act.eval] using ev5
      replace ev5 := Lib.hid ev5
      refine wanted_if rfl ?_
      refine wp_load_mid 45 (.tmp 5) rfl (w.heap.size) 0 ev5.out (cnR (f, wd)) _ (Bk.range (hc.kept H.kept hcP)) u1 u2 (szCn _) ?_
      exact hK.out _ _ (chgX (Ex.refl _)) rfl (fun _ h => h.elim)
    | 3, _, ho, H, hK => 
      obtain rfl := Option.some.inj ho.symm
      clear ho
      have ev36 : FA.eval (.tmp 36) = .agg (cnR (f, wd)).toArray := (H.dep 2 36 (by kernel_rfl)).trans (H.word 2 (by omega) (by kernel_rfl))
      have e36 : FA.tmps[36]?.getD undef = .agg (cnR (f, wd)).toArray := by simpa [Act.eval] using ev36
      replace ev36 := Lib.hid ev36
      go_simp
      have ho1 := Os.lit (s := 10) (e := 45) w' (Nat.le_refl _) (cnR (f, wd)).toArray 1 rfl (by decide)
      exact hK.out _ _ (chgX (Ex.alloc _ _)) ⟨_, _, _, rfl, ho1.mono H.kept.size⟩ (fun b hb => .inr (ho1.blk b hb).1)
    | 4, _, ho, H, hK => 
      obtain rfl := Option.some.inj ho.symm
      clear ho
      have ev35 := H.dep 1 35 (by kernel_rfl)
      have e35 : FA.tmps[35]?.getD undef = vs 1 := by simpa [Act.eval] using ev35
      replace ev35 := Lib.hid ev35
      have ev37 := H.dep 3 37 (by kernel_rfl)
      have e37 : FA.tmps[37]?.getD undef = vs 3 := by simpa [Act.eval] using ev37
      replace ev37 := Lib.hid ev37
      obtain ⟨A1, n1, c1, hv1, h1⟩ := H.word 1 (by omega) (by kernel_rfl)
      obtain ⟨A2, n2, c2, hv2, h2⟩ := H.word 3 (by omega) (by kernel_rfl)
      have hn1 : n1 ≤ 2000 := by have := h1.rs.1; (try rw [List.nil_append] at this); rw [flat_len cnR 10 cnR_len] at this; (try simp at this); omega
      have hn2 : n2 ≤ 2000 := by have := h2.rs.1; rw [cnR_len] at this; omega
      refine wanted_if rfl ?_
      refine own_appS etCn (.tmp 35) (.tmp 37) rfl (ev35.out.trans hv1) h1 (ev37.out.trans hv2) h2.rs (cnR_one _) (by omega) H.kept.size ?_
      intro A3 n3 c3 w3 hn3 ho3 hg3 hf3
      refine hK.out _ _ (Chg.grown hg3 (fun k hk => ⟨1, rfl, by show (vs 1).ownBlock = some k; rw [hv1]; exact hk⟩)) ⟨_, _, _, rfl, ho3⟩ (fun b hb => ?_)
      rcases hf3 b hb with h | h
      · exact .inl ⟨1, rfl, by show (vs 1).ownBlock = some b; rw [hv1]; exact h⟩
      · exact .inr h
    | 5, _, ho, H, hK => 
      obtain rfl := Option.some.inj ho.symm
      clear ho
      have ev0 : FA.eval (.tmp 0) = .slice (some ⟨xb, xo, none⟩) n c := H.out 0 (by kernel_rfl)
      have e0 : FA.tmps[0]?.getD undef = .slice (some ⟨xb, xo, none⟩) n c := by simpa [Act.eval] using ev0
      replace ev0 := Lib.hid ev0
      go_simp
      exact hK.out _ _ (chgX (Ex.refl _)) rfl (fun _ h => h.elim)
    | 6, _, ho, H, hK => 
      obtain rfl := Option.some.inj ho.symm
      clear ho
      have ev39 : FA.eval (.tmp 39) = .slice (some ⟨xb, xo, none⟩) n c := (H.dep 5 39 (by kernel_rfl)).trans (H.word 5 (by omega) (by kernel_rfl))
      have e39 : FA.tmps[39]?.getD undef = .slice (some ⟨xb, xo, none⟩) n c := by simpa [Act.eval] using ev39
      replace ev39 := Lib.hid ev39
      go_simp
      exact hK.out _ _ (chgX (Ex.refl _)) rfl (fun _ h => h.elim)
    | 7, _, ho, H, hK => 
      obtain rfl := Option.some.inj ho.symm
      clear ho
      have ev40 : FA.eval (.tmp 40) = .pointer (some ⟨xb, xo, none⟩) := (H.dep 6 40 (by kernel_rfl)).trans (H.word 6 (by omega) (by kernel_rfl))
      have e40 : FA.tmps[40]?.getD undef = .pointer (some ⟨xb, xo, none⟩) := by simpa [Act.eval] using ev40
      replace ev40 := Lib.hid ev40
      go_simp
      exact hK.out _ _ (chgX (Ex.refl _)) rfl (fun _ h => h.elim)
    | 8, _, ho, H, hK => 
      obtain rfl := Option.some.inj ho.symm
      clear ho
      have ev41 : FA.eval (.tmp 41) = .pointer (some ⟨xb, xo, none⟩) := (H.dep 7 41 (by kernel_rfl)).trans (H.word 7 (by omega) (by kernel_rfl))
      have e41 : FA.tmps[41]?.getD undef = .pointer (some ⟨xb, xo, none⟩) := by simpa [Act.eval] using ev41
      replace ev41 := Lib.hid ev41
      refine wanted_if rfl ?_
      refine wp_load_mid 28 (.tmp 41) rfl xb xo ev41.out (y.1.c) _ (HRG.out w' (hr.kept H.kept hrP)) v1 v2 (szFw _) ?_
      exact hK.out _ _ (chgX (Ex.refl _)) rfl (fun _ h => h.elim)
    | 9, _, ho, H, hK => 
      obtain rfl := Option.some.inj ho.symm
      clear ho
      have ev38 := H.dep 4 38 (by kernel_rfl)
      have e38 : FA.tmps[38]?.getD undef = vs 4 := by simpa [Act.eval] using ev38
      replace ev38 := Lib.hid ev38
      have hw := H.word 4 (by omega) (by kernel_rfl)
      go_simp
      exact hK.out _ _ (chgX (Ex.refl _)) hw (fun b hb => .inl ⟨4, rfl, hb⟩)
    | 10, _, ho, H, hK => 
      obtain rfl := Option.some.inj ho.symm
      clear ho
      have ev7 : FA.eval (.tmp 7) = .pointer (some ⟨w.heap.size + 1, 0, none⟩) := H.out 7 (by kernel_rfl)
      have e7 : FA.tmps[7]?.getD undef = .pointer (some ⟨w.heap.size + 1, 0, none⟩) := by simpa [Act.eval] using ev7
      replace ev7 := Lib.hid ev7
      have ev42 : FA.eval (.tmp 42) = .agg (y.1.c).toArray := (H.dep 8 42 (by kernel_rfl)).trans (H.word 8 (by omega) (by kernel_rfl))
      have e42 : FA.tmps[42]?.getD undef = .agg (y.1.c).toArray := by simpa [Act.eval] using ev42
      replace ev42 := Lib.hid ev42
      obtain ⟨g0, hg0, hb0⟩ := H.word 12 (by omega) (by kernel_rfl)
      have hv0 : vs 12 = .pointer (some ⟨w.heap.size + 1, 0, none⟩) := H.virt 12 (by omega)
      obtain rfl := own_ptr (hv0.symm.trans hg0)
      refine wanted_if rfl ?_
      refine wp_stA 28 (.tmp 7) (.tmp 42) rfl (y.1.c) [.bool false, .int .u64 0, .int .u64 0, .bool false, .int .u64 0, .int .u64 0, .int .u16 0, .int .u16 0, .int .u8 0] rfl (Fw.c_one _) ev7.out ev42.out hb0 (szFw _) ?_
      intro w'' hn hgr
      exact hK.out undef _ (Chg.one hgr ⟨12, rfl, hv0⟩) ⟨_, _, hv0, hn, rfl⟩ (fun b hb => .inl ⟨12, rfl, hb⟩)
    | 11, _, ho, H, hK => 
      obtain rfl := Option.some.inj ho.symm
      clear ho
      go_simp
      exact hK.out _ _ (chgX (Ex.refl _)) rfl (fun _ h => h.elim)
    | (k + 12), hi, _, _, _ => exact absurd hi (by omega)
  intro vs w' hC hV hW hDis hFr
  have p0 : vs 0 = .slice (some ⟨xb, xo, none⟩) n c := hW 0 (by omega) (by kernel_rfl)
  have p2 : vs 2 = .agg (cnR (f, wd)).toArray := hW 2 (by omega) (by kernel_rfl)
  have p3 := hW 3 (by omega) (by kernel_rfl)
  have p5 : vs 5 = .slice (some ⟨xb, xo, none⟩) n c := hW 5 (by omega) (by kernel_rfl)
  have p6 : vs 6 = .pointer (some ⟨xb, xo, none⟩) := hW 6 (by omega) (by kernel_rfl)
  have p7 : vs 7 = .pointer (some ⟨xb, xo, none⟩) := hW 7 (by omega) (by kernel_rfl)
  have p8 : vs 8 = .agg (y.1.c).toArray := hW 8 (by omega) (by kernel_rfl)
  have p9 := hW 9 (by omega) (by kernel_rfl)
  have p10 := hW 10 (by omega) (by kernel_rfl)
  have p11 : vs 11 = .bool true := hW 11 (by omega) (by kernel_rfl)
  clear hW
  simp only [List.take_succ_cons, List.take_zero, List.drop_succ_cons, List.drop_zero, putAll, Nat.zero_add, Nat.reduceAdd, Act.put, List.setIfInBounds_toArray, List.set_cons_zero, List.set_cons_succ, p0, p2, p5, p6, p7, p8, p11]
  obtain ⟨A5, n5, c5, hA5, ho5⟩ := p9
  obtain ⟨g0, cs0, hg0, hb0, rfl⟩ := p10
  replace hA5 : vs 9 = .slice A5 n5 c5 := hA5
  replace hg0 : vs 12 = .pointer (some ⟨g0, 0, none⟩) := hg0
  have hv0 : vs 12 = .pointer (some ⟨w.heap.size + 1, 0, none⟩) := hV 12 (by omega)
  obtain rfl := own_ptr (hv0.symm.trans hg0)
  rw [hA5]
  have hbw := hC.below (B := w.heap.size) be.size (fun b hb => ⟨by omega, by have := be.size; omega⟩)
  replace hbw := be.trans hbw
  replace ho5 := ho5.mono be.size
  rw [show fC (R.take 0 ++ R.drop (0 + 1)) ++ cnR (f, wd) = fC R2 by rw [hres, ← hRR.out]; simp [fC, List.flatMap_append]] at ho5
  go_wp2
  obtain ⟨bs9, d9, hw9⟩ := plus_of hbw
  refine bodyPost_aggMM Try.results18 rfl rfl rfl (Bk.range hb0) v1 v2 (szFw _) rfl ?_
  refine ⟨A5, n5, c5, bs9, d9, rfl, hw9, ?_⟩
  rw [← hw9]
  exact ho5
end Go.Proofs.Ytenaiojddohbkaa

/- The reference's Get; Index and Has as plain words (chapter 31). -/
namespace Go.Proofs.Ytenaiojddohbkaa
open Go.RowKit
set_option linter.unusedVariables false
set_option linter.unusedSimpArgs false
attribute [local go_sem ↓] sliced_cut

attribute [local go_sem] cutA_zero

attribute [local go_sem] eql_fv eqI_fv foldCn cnR_len

/-- a row, a word and true -/
def RetGet (w : World) (R' : List (Fw × Nat)) (wd : Nat) (e : Ending) (w' : World) : Prop := ∃ A n c bs d, e = .returned (.tuple #[.slice A n c, .int .u16 (wd : Int), .bool true]) ∧ w' = plus w bs d ∧ Os 45 10 (plus w bs d) w.heap.size A n c (fC R')
set_option maxHeartbeats 4000000 in
set_option maxRecDepth 100000 in
theorem rget_is (P S : List (Fw × Nat)) (y : Fw × Nat) (R : List (Fw × Nat)) (hR : R = P ++ y :: S) (hP : ∀ x ∈ P, x.1 ≠ y.1) (A : Option Addr) (n c : Nat) (f : Fw) (w : World) (hr : Rs 10 w A n c (fC R)) (hm : n ≤ 1000) (hf : y.1 = f) : Calls Try.prog 13 #[.slice A n c, .agg f.c.toArray] w (RetGet w (P ++ S ++ [y]) y.2) := by
  generalize hRR : P ++ S ++ [y] = R2
  replace hRR := Lib.hid hRR
  have hn0 : 0 < n := by have := hr.1; rw [flat_len cnR 10 cnR_len, hR] at this; simp at this; omega
  have hrl := hr.at_lt hn0 (by decide)
  have hln : R.length = n := by have := hr.1; rw [flat_len cnR 10 cnR_len] at this; omega
  obtain ⟨k, hk⟩ : ∃ k, k = P.length := ⟨_, rfl⟩
  have hkR : k < R.length := by rw [hk, hR]; simp
  have hky : R[k] = y := by subst hk; subst hR; simp
  have hres : R.take k ++ R.drop (k + 1) = P ++ S := by rw [hk, hR]; simp
  have HCUT := Lib.hid (fun w (h : Rs 10 w A n c (fC R)) => cut_any R k hkR A n c w h hm)
  obtain ⟨xb, xo, rfl, hxb, -⟩ := hr.at_ hn0 (by decide)
  have HRG := Lib.hid (fun (W : World) (h : Rs 10 W (some ⟨xb, xo, none⟩) n c (fC R)) => show W.rangeAt xb (xo + k * 10) (cnR y) by
    have := h.rangeE cnR_len k hkR
    rw [hky] at this
    exact this)
  obtain ⟨du1, u1, u2⟩ := rowCn
  have HIA := Lib.hid (fun V (h : Rs 10 V (some ⟨xb, xo, none⟩) n c (fC R)) => index_at f R (some ⟨xb, xo, none⟩) n c V h hm (P.length : Int) (.inr ⟨P, y, S, hR, hf, fun x hx => hf ▸ hP x hx, rfl⟩))
  rw [← hk] at HIA
  clear hk
  replace hf := Lib.hid hf
  replace hky := Lib.hid hky
  have hk0 : ¬ (k : Int) < 0 := by omega
  have hk1 : 0 ≤ (k : Int) := by omega
  have hk2 : k < n := by omega
  have hk3 : (k : Int) < (n : Int) := by omega
  have hff := hf
  clear hf
  obtain ⟨dv1, v1, v2⟩ := rowFw
  have hf : Bk (w.alloc (.cells (f.c).toArray 28)) w.heap.size 28 (f.c) := Bk.new w 28 (f.c).toArray
  have be : Below w.heap.size w (w.alloc (.cells (f.c).toArray 28)) := Below.allocS (Below.refl _ _) _
  replace hr := (hr.alloc (.cells (f.c).toArray 28))
  have zV : w.heap.size + 1 ≤ (w.alloc (.cells (f.c).toArray 28)).heap.size := by simp
  go_enter Try.func13, Try.ntmps13
  go_upto_region 1 with (fail)
  generalize w.alloc (.cells (f.c).toArray 28) = V at *
  have HIX := Lib.hid (HIA.out V hr)
  go_upto_region 4 with (first
    | (refine at_op (.load 28 (.tmp 3)) rfl ?_; refine wpList_ldA (t := 28) 28 (.tmp 3) rfl rfl (f.c) rfl (hf) (whole_ _) v1 v2 (szFw _) ?_)
    | (go_at_call 15; refine (HIX.out).mono ?_; rintro e w1 ⟨bs1, d1, rfl, rfl⟩))
  replace hr := hr.plus_ bs1 d1
  replace be := belowP be bs1 d1
  clear hf HIX
  generalize plus V bs1 d1 = W at *
  have hrP : ∀ a, (some ⟨xb, xo, none⟩ : Option Addr) = some a → a.block < W.heap.size → a.block < W.heap.size := fun a e h => h
  go_wp2
  refine wp_own (fun b => b < W.heap.size) 17 0 28 2 (fun i => match i with | i => i) (fun i => match i with | 8 => [2] | 14 => [8] | _ => []) (fun i => match i with | _ => undef) rfl (by kernel_rfl) (by kernel_rfl) (fun i => match i with | 0 => Own.eq (.slice (some ⟨xb, xo, none⟩) n c) | 1 => Own.eq (.int .i64 (k : Int)) | 2 => Own.osr 45 10 W.heap.size (fC (R.take k ++ R.drop (k + 1))) | 3 => Own.eq (.slice (some ⟨xb, xo, none⟩) n c) | 4 => Own.eq (.int .i64 (k : Int)) | 5 => Own.eq (.pointer (some ⟨xb, xo + k * 10, none⟩)) | 6 => Own.eq (.agg (cnR y).toArray) | 7 => Own.osr 45 10 W.heap.size (cnR y) | 8 => Own.osr 45 10 W.heap.size (fC (R.take k ++ R.drop (k + 1)) ++ cnR y) | 9 => Own.eq (.slice (some ⟨xb, xo, none⟩) n c) | 10 => Own.eq (.int .i64 (k : Int)) | 11 => Own.eq (.pointer (some ⟨xb, xo + k * 10, none⟩)) | 12 => Own.eq (.pointer (some ⟨xb, xo + k * 10 + 9, none⟩)) | 13 => Own.eq (.int .u16 (y.2 : Int)) | 14 => Own.osr 45 10 W.heap.size (fC (R.take k ++ R.drop (k + 1)) ++ cnR y) | 15 => Own.eq (.int .u16 (y.2 : Int)) | 16 => Own.eq (.bool true) | _ => Own.any) (fun b h => h) ?_ ?_ ?_ ?_ ?_
  · exact fun t ht => absurd ht (by omega)
  · exact fun t t' ht => absurd ht (by omega)
  · exact fun t ht => absurd ht (by omega)
  · intro i hi o ho FA w' vs H K hK
    match i, hi, ho, H, hK with
    | 0, _, ho, H, hK => 
      obtain rfl := Option.some.inj ho.symm
      clear ho
      have ev0 : FA.eval (.tmp 0) = .slice (some ⟨xb, xo, none⟩) n c := H.out 0 (by kernel_rfl)
      have e0 : FA.tmps[0]?.getD undef = .slice (some ⟨xb, xo, none⟩) n c := by simpa [Act.eval] using ev0
      replace ev0 := Lib.hid ev0
      go_simp
      exact hK.out _ _ (chgX (Ex.refl _)) rfl (fun _ h => h.elim)
    | 1, _, ho, H, hK => 
      obtain rfl := Option.some.inj ho.symm
      clear ho
      have ev7 : FA.eval (.tmp 7) = .int .i64 (k : Int) := H.out 7 (by kernel_rfl)
      have e7 : FA.tmps[7]?.getD undef = .int .i64 (k : Int) := by simpa [Act.eval] using ev7
      replace ev7 := Lib.hid ev7
      go_simp
      exact hK.out _ _ (chgX (Ex.refl _)) rfl (fun _ h => h.elim)
    | 2, _, ho, H, hK => 
      obtain rfl := Option.some.inj ho.symm
      clear ho
      have ev14 : FA.eval (.tmp 14) = .slice (some ⟨xb, xo, none⟩) n c := (H.dep 0 14 (by kernel_rfl)).trans (H.word 0 (by omega) (by kernel_rfl))
      have e14 : FA.tmps[14]?.getD undef = .slice (some ⟨xb, xo, none⟩) n c := by simpa [Act.eval] using ev14
      replace ev14 := Lib.hid ev14
      have ev15 : FA.eval (.tmp 15) = .int .i64 (k : Int) := (H.dep 1 15 (by kernel_rfl)).trans (H.word 1 (by omega) (by kernel_rfl))
      have e15 : FA.tmps[15]?.getD undef = .int .i64 (k : Int) := by simpa [Act.eval] using ev15
      replace ev15 := Lib.hid ev15
      go_simp
      refine (HCUT.out w' (hr.kept H.kept hrP)).mono ?_
      rintro e w1 ⟨A1, n1, c1, bs2, d2, rfl, rfl, ho⟩
      exact hK.out _ _ (chgX (Ex.plus_ _ _ _)) ⟨_, _, _, rfl, ho.mono H.kept.size⟩ (fun b hb => .inr (ho.blk b hb).1)
    | 3, _, ho, H, hK => 
      obtain rfl := Option.some.inj ho.symm
      clear ho
      have ev0 : FA.eval (.tmp 0) = .slice (some ⟨xb, xo, none⟩) n c := H.out 0 (by kernel_rfl)
      have e0 : FA.tmps[0]?.getD undef = .slice (some ⟨xb, xo, none⟩) n c := by simpa [Act.eval] using ev0
      replace ev0 := Lib.hid ev0
      go_simp
      exact hK.out _ _ (chgX (Ex.refl _)) rfl (fun _ h => h.elim)
    | 4, _, ho, H, hK => 
      obtain rfl := Option.some.inj ho.symm
      clear ho
      have ev7 : FA.eval (.tmp 7) = .int .i64 (k : Int) := H.out 7 (by kernel_rfl)
      have e7 : FA.tmps[7]?.getD undef = .int .i64 (k : Int) := by simpa [Act.eval] using ev7
      replace ev7 := Lib.hid ev7
      go_simp
      exact hK.out _ _ (chgX (Ex.refl _)) rfl (fun _ h => h.elim)
    | 5, _, ho, H, hK => 
      obtain rfl := Option.some.inj ho.symm
      clear ho
      have ev17 : FA.eval (.tmp 17) = .slice (some ⟨xb, xo, none⟩) n c := (H.dep 3 17 (by kernel_rfl)).trans (H.word 3 (by omega) (by kernel_rfl))
      have e17 : FA.tmps[17]?.getD undef = .slice (some ⟨xb, xo, none⟩) n c := by simpa [Act.eval] using ev17
      replace ev17 := Lib.hid ev17
      have ev18 : FA.eval (.tmp 18) = .int .i64 (k : Int) := (H.dep 4 18 (by kernel_rfl)).trans (H.word 4 (by omega) (by kernel_rfl))
      have e18 : FA.tmps[18]?.getD undef = .int .i64 (k : Int) := by simpa [Act.eval] using ev18
      replace ev18 := Lib.hid ev18
      go_simp
      exact hK.out _ _ (chgX (Ex.refl _)) rfl (fun _ h => h.elim)
    | 6, _, ho, H, hK => 
      obtain rfl := Option.some.inj ho.symm
      clear ho
      have ev19 : FA.eval (.tmp 19) = .pointer (some ⟨xb, xo + k * 10, none⟩) := (H.dep 5 19 (by kernel_rfl)).trans (H.word 5 (by omega) (by kernel_rfl))
      have e19 : FA.tmps[19]?.getD undef = .pointer (some ⟨xb, xo + k * 10, none⟩) := by simpa [Act.eval] using ev19
      replace ev19 := Lib.hid ev19
      refine wanted_if rfl ?_
      refine wp_load_mid 45 (.tmp 19) rfl xb (xo + k * 10) ev19.out (cnR y) _ (HRG.out w' (hr.kept H.kept hrP)) u1 u2 (szCn _) ?_
      exact hK.out _ _ (chgX (Ex.refl _)) rfl (fun _ h => h.elim)
    | 7, _, ho, H, hK => 
      obtain rfl := Option.some.inj ho.symm
      clear ho
      have ev20 : FA.eval (.tmp 20) = .agg (cnR y).toArray := (H.dep 6 20 (by kernel_rfl)).trans (H.word 6 (by omega) (by kernel_rfl))
      have e20 : FA.tmps[20]?.getD undef = .agg (cnR y).toArray := by simpa [Act.eval] using ev20
      replace ev20 := Lib.hid ev20
      go_simp
      have ho1 := Os.lit (s := 10) (e := 45) w' (Nat.le_refl _) (cnR y).toArray 1 rfl (by decide)
      exact hK.out _ _ (chgX (Ex.alloc _ _)) ⟨_, _, _, rfl, ho1.mono H.kept.size⟩ (fun b hb => .inr (ho1.blk b hb).1)
    | 8, _, ho, H, hK => 
      obtain rfl := Option.some.inj ho.symm
      clear ho
      have ev16 := H.dep 2 16 (by kernel_rfl)
      have e16 : FA.tmps[16]?.getD undef = vs 2 := by simpa [Act.eval] using ev16
      replace ev16 := Lib.hid ev16
      have ev21 := H.dep 7 21 (by kernel_rfl)
      have e21 : FA.tmps[21]?.getD undef = vs 7 := by simpa [Act.eval] using ev21
      replace ev21 := Lib.hid ev21
      obtain ⟨A1, n1, c1, hv1, h1⟩ := H.word 2 (by omega) (by kernel_rfl)
      obtain ⟨A2, n2, c2, hv2, h2⟩ := H.word 7 (by omega) (by kernel_rfl)
      have hn1 : n1 ≤ 2000 := by have := h1.rs.1; (try rw [List.nil_append] at this); rw [flat_len cnR 10 cnR_len] at this; (try simp at this); omega
      have hn2 : n2 ≤ 2000 := by have := h2.rs.1; rw [cnR_len] at this; omega
      refine wanted_if rfl ?_
      refine own_appS etCn (.tmp 16) (.tmp 21) rfl (ev16.out.trans hv1) h1 (ev21.out.trans hv2) h2.rs (cnR_one _) (by omega) H.kept.size ?_
      intro A3 n3 c3 w3 hn3 ho3 hg3 hf3
      refine hK.out _ _ (Chg.grown hg3 (fun k hk => ⟨2, rfl, by show (vs 2).ownBlock = some k; rw [hv1]; exact hk⟩)) ⟨_, _, _, rfl, ho3⟩ (fun b hb => ?_)
      rcases hf3 b hb with h | h
      · exact .inl ⟨2, rfl, by show (vs 2).ownBlock = some b; rw [hv1]; exact h⟩
      · exact .inr h
    | 9, _, ho, H, hK => 
      obtain rfl := Option.some.inj ho.symm
      clear ho
      have ev0 : FA.eval (.tmp 0) = .slice (some ⟨xb, xo, none⟩) n c := H.out 0 (by kernel_rfl)
      have e0 : FA.tmps[0]?.getD undef = .slice (some ⟨xb, xo, none⟩) n c := by simpa [Act.eval] using ev0
      replace ev0 := Lib.hid ev0
      go_simp
      exact hK.out _ _ (chgX (Ex.refl _)) rfl (fun _ h => h.elim)
    | 10, _, ho, H, hK => 
      obtain rfl := Option.some.inj ho.symm
      clear ho
      have ev7 : FA.eval (.tmp 7) = .int .i64 (k : Int) := H.out 7 (by kernel_rfl)
      have e7 : FA.tmps[7]?.getD undef = .int .i64 (k : Int) := by simpa [Act.eval] using ev7
      replace ev7 := Lib.hid ev7
      go_simp
      exact hK.out _ _ (chgX (Ex.refl _)) rfl (fun _ h => h.elim)
    | 11, _, ho, H, hK => 
      obtain rfl := Option.some.inj ho.symm
      clear ho
      have ev23 : FA.eval (.tmp 23) = .slice (some ⟨xb, xo, none⟩) n c := (H.dep 9 23 (by kernel_rfl)).trans (H.word 9 (by omega) (by kernel_rfl))
      have e23 : FA.tmps[23]?.getD undef = .slice (some ⟨xb, xo, none⟩) n c := by simpa [Act.eval] using ev23
      replace ev23 := Lib.hid ev23
      have ev24 : FA.eval (.tmp 24) = .int .i64 (k : Int) := (H.dep 10 24 (by kernel_rfl)).trans (H.word 10 (by omega) (by kernel_rfl))
      have e24 : FA.tmps[24]?.getD undef = .int .i64 (k : Int) := by simpa [Act.eval] using ev24
      replace ev24 := Lib.hid ev24
      go_simp
      exact hK.out _ _ (chgX (Ex.refl _)) rfl (fun _ h => h.elim)
    | 12, _, ho, H, hK => 
      obtain rfl := Option.some.inj ho.symm
      clear ho
      have ev25 : FA.eval (.tmp 25) = .pointer (some ⟨xb, xo + k * 10, none⟩) := (H.dep 11 25 (by kernel_rfl)).trans (H.word 11 (by omega) (by kernel_rfl))
      have e25 : FA.tmps[25]?.getD undef = .pointer (some ⟨xb, xo + k * 10, none⟩) := by simpa [Act.eval] using ev25
      replace ev25 := Lib.hid ev25
      go_simp
      exact hK.out _ _ (chgX (Ex.refl _)) rfl (fun _ h => h.elim)
    | 13, _, ho, H, hK => 
      obtain rfl := Option.some.inj ho.symm
      clear ho
      have ev26 : FA.eval (.tmp 26) = .pointer (some ⟨xb, xo + k * 10 + 9, none⟩) := (H.dep 12 26 (by kernel_rfl)).trans (H.word 12 (by omega) (by kernel_rfl))
      have e26 : FA.tmps[26]?.getD undef = .pointer (some ⟨xb, xo + k * 10 + 9, none⟩) := by simpa [Act.eval] using ev26
      replace ev26 := Lib.hid ev26
      have hc13 := rangeAt.snd (HRG.out w' (hr.kept H.kept hrP))
      go_simp
      exact hK.out _ _ (chgX (Ex.refl _)) rfl (fun _ h => h.elim)
    | 14, _, ho, H, hK => 
      obtain rfl := Option.some.inj ho.symm
      clear ho
      have ev22 := H.dep 8 22 (by kernel_rfl)
      have e22 : FA.tmps[22]?.getD undef = vs 8 := by simpa [Act.eval] using ev22
      replace ev22 := Lib.hid ev22
      have hw := H.word 8 (by omega) (by kernel_rfl)
      go_simp
      exact hK.out _ _ (chgX (Ex.refl _)) hw (fun b hb => .inl ⟨8, rfl, hb⟩)
    | 15, _, ho, H, hK => 
      obtain rfl := Option.some.inj ho.symm
      clear ho
      have ev27 : FA.eval (.tmp 27) = .int .u16 (y.2 : Int) := (H.dep 13 27 (by kernel_rfl)).trans (H.word 13 (by omega) (by kernel_rfl))
      have e27 : FA.tmps[27]?.getD undef = .int .u16 (y.2 : Int) := by simpa [Act.eval] using ev27
      replace ev27 := Lib.hid ev27
      go_simp
      exact hK.out _ _ (chgX (Ex.refl _)) rfl (fun _ h => h.elim)
    | 16, _, ho, H, hK => 
      obtain rfl := Option.some.inj ho.symm
      clear ho
      go_simp
      exact hK.out _ _ (chgX (Ex.refl _)) rfl (fun _ h => h.elim)
    | (k + 17), hi, _, _, _ => exact absurd hi (by omega)
  intro vs w' hC hV hW hDis hFr
  have p0 : vs 0 = .slice (some ⟨xb, xo, none⟩) n c := hW 0 (by omega) (by kernel_rfl)
  have p1 : vs 1 = .int .i64 (k : Int) := hW 1 (by omega) (by kernel_rfl)
  have p3 : vs 3 = .slice (some ⟨xb, xo, none⟩) n c := hW 3 (by omega) (by kernel_rfl)
  have p4 : vs 4 = .int .i64 (k : Int) := hW 4 (by omega) (by kernel_rfl)
  have p5 : vs 5 = .pointer (some ⟨xb, xo + k * 10, none⟩) := hW 5 (by omega) (by kernel_rfl)
  have p6 : vs 6 = .agg (cnR y).toArray := hW 6 (by omega) (by kernel_rfl)
  have p7 := hW 7 (by omega) (by kernel_rfl)
  have p9 : vs 9 = .slice (some ⟨xb, xo, none⟩) n c := hW 9 (by omega) (by kernel_rfl)
  have p10 : vs 10 = .int .i64 (k : Int) := hW 10 (by omega) (by kernel_rfl)
  have p11 : vs 11 = .pointer (some ⟨xb, xo + k * 10, none⟩) := hW 11 (by omega) (by kernel_rfl)
  have p12 : vs 12 = .pointer (some ⟨xb, xo + k * 10 + 9, none⟩) := hW 12 (by omega) (by kernel_rfl)
  have p13 : vs 13 = .int .u16 (y.2 : Int) := hW 13 (by omega) (by kernel_rfl)
  have p14 := hW 14 (by omega) (by kernel_rfl)
  have p15 : vs 15 = .int .u16 (y.2 : Int) := hW 15 (by omega) (by kernel_rfl)
  have p16 : vs 16 = .bool true := hW 16 (by omega) (by kernel_rfl)
  clear hW
  simp only [List.take_succ_cons, List.take_zero, List.drop_succ_cons, List.drop_zero, putAll, Nat.zero_add, Nat.reduceAdd, Act.put, List.setIfInBounds_toArray, List.set_cons_zero, List.set_cons_succ, p0, p1, p3, p4, p5, p6, p9, p10, p11, p12, p13, p15, p16]
  obtain ⟨A5, n5, c5, hA5, ho5⟩ := p14
  replace hA5 : vs 14 = .slice A5 n5 c5 := hA5
  rw [hA5]
  have hbw := hC.below (B := w.heap.size) be.size (fun b hb => by have := be.size; omega)
  replace hbw := be.trans hbw
  replace ho5 := ho5.mono be.size
  rw [show fC (R.take k ++ R.drop (k + 1)) ++ cnR y = fC R2 by rw [hres, ← hRR.out]; simp [fC, List.flatMap_append]] at ho5
  go_wp2
  obtain ⟨bs9, d9, hw9⟩ := plus_of hbw
  go_ret3
  refine ⟨A5, n5, c5, bs9, d9, rfl, hw9, ?_⟩
  rw [← hw9]
  exact ho5
set_option maxHeartbeats 4000000 in
set_option maxRecDepth 100000 in
theorem rget_no (R : List (Fw × Nat)) (A : Option Addr) (n c : Nat) (f : Fw) (w : World) (hr : Rs 10 w A n c (fC R)) (hm : n ≤ 1000) (hno : ∀ x ∈ R, x.1 ≠ f) : Calls Try.prog 13 #[.slice A n c, .agg f.c.toArray] w (RetV w (.tuple #[.slice A n c, .int .u16 0, .bool false])) := by
  obtain ⟨dv1, v1, v2⟩ := rowFw
  have hf : Bk (w.alloc (.cells (f.c).toArray 28)) w.heap.size 28 (f.c) := Bk.new w 28 (f.c).toArray
  have be : Below w.heap.size w (w.alloc (.cells (f.c).toArray 28)) := Below.allocS (Below.refl _ _) _
  replace hr := (hr.alloc (.cells (f.c).toArray 28))
  have zV : w.heap.size + 1 ≤ (w.alloc (.cells (f.c).toArray 28)).heap.size := by simp
  go_enter Try.func13, Try.ntmps13
  go_upto_region 1 with (fail)
  generalize w.alloc (.cells (f.c).toArray 28) = V at *
  have HIX := Lib.hid (index_at f R A n c V hr hm (-1) (.inl ⟨rfl, hno⟩))
  go_upto_region 3 with (first
    | (refine at_op (.load 28 (.tmp 3)) rfl ?_; refine wpList_ldA (t := 28) 28 (.tmp 3) rfl rfl (f.c) rfl (hf) (whole_ _) v1 v2 (szFw _) ?_)
    | (go_at_call 15; refine (HIX.out).mono ?_; rintro e w1 ⟨bs1, d1, rfl, rfl⟩))
  go_wp2
  go_ret3
  exact RetV.is_ rfl (belowP be _ _)
theorem first_split (f : Fw) : ∀ R : List (Fw × Nat), (∀ x ∈ R, x.1 ≠ f) ∨ ∃ P y S, R = P ++ y :: S ∧ y.1 = f ∧ ∀ x ∈ P, x.1 ≠ f
  | [] => .inl (by simp)
  | x :: t => by
    by_cases hx : x.1 = f
    · exact .inr ⟨[], x, t, rfl, hx, by simp⟩
    · rcases first_split f t with h | ⟨P, y, S, e, h1, h2⟩
      · exact .inl (fun z hz => (List.mem_cons.1 hz).elim (fun e => e ▸ hx) (h z))
      · exact .inr ⟨x :: P, y, S, by rw [e]; rfl, h1, fun z hz => (List.mem_cons.1 hz).elim (fun e => e ▸ hx) (h2 z)⟩
/-- the reference's Index: a number that is no less than 0 just where the flow is known -/
theorem index_is (f : Fw) (R : List (Fw × Nat)) : ∃ v : Int, decide (0 ≤ v) = decide (∃ x ∈ R, x.1 = f) ∧ ∀ (A : Option Addr) (n c : Nat) (w : World), Rs 10 w A n c (fC R) → n ≤ 1000 → Calls Try.prog 15 #[.slice A n c, .agg f.c.toArray] w (RetV w (.int .i64 v)) := by
  rcases first_split f R with h | ⟨P, y, S, e, h1, h2⟩
  · exact ⟨-1, by rw [decide_eq_decide]; constructor; (· intro h; omega); (· rintro ⟨x, hx, e⟩; exact absurd e (h x hx)), fun A n c w hr hm => index_at f R A n c w hr hm (-1) (.inl ⟨rfl, h⟩)⟩
  · exact ⟨(P.length : Int), by rw [decide_eq_decide]; constructor; (· intro _; exact ⟨y, by rw [e]; simp, h1⟩); (· intro _; omega), fun A n c w hr hm => index_at f R A n c w hr hm _ (.inr ⟨P, y, S, e, h1, h2, rfl⟩)⟩
/-- the program's Has -/
theorem has_any (w : World) (cb m : Nat) (most : Int) (l : List En) (f : Fw) (h : Co w cb m most l) : Calls Try.prog 21 #[.pointer (some ⟨cb, 0, none⟩), .agg f.c.toArray] w (RetV w (.bool (decide (∃ x ∈ l, x.f = f)))) := by
  by_cases hx : ∃ x ∈ l, x.f = f
  · obtain ⟨x, h1, h2⟩ := hx
    obtain ⟨p, s, rfl⟩ := List.append_of_mem h1
    subst h2
    rw [show decide (∃ z ∈ p ++ x :: s, z.f = x.f) = true from decide_eq_true ⟨x, h1, rfl⟩]
    exact has_is w cb m most p s x h
  · rw [show decide (∃ z ∈ l, z.f = f) = false by simpa using hx]
    exact has_no w cb m most l f h (fun x h1 h2 => hx ⟨x, h1, h2⟩)
end Go.Proofs.Ytenaiojddohbkaa

/- Addresses that came in; lists of a known length. -/
namespace Go.Proofs.Ytenaiojddohbkaa
open Go.RowKit Go.ChangeShapes Go.WideShapes
set_option linter.unusedVariables false

theorem list3 {α : Type} {l : List α} (h : l.length = 3) : ∃ a b c, l = [a, b, c] := by
  match l, h with
  | [a, b, c], _ => exact ⟨a, b, c, rfl⟩
set_option maxRecDepth 100000 in
theorem open_adr_cells {H : Type} {enc : TypeId × Value → H} {W : World} {m : Nat} {cs : List Value} {y : DataW H × List MemPlace}
    (hf : DataW.trod enc Try.prog W 0 (fun _ => true) true m 25 cs = some y) : ∃ six, ∃ ah al : Nat, cs = [.bool six, .int .u64 ah, .int .u64 al] ∧ ah < 18446744073709551616 ∧ al < 18446744073709551616 := by
  obtain ⟨xs, n, _, _, hl, hlen, hg⟩ := DataW.trod_struct Try.underlying25 hf
  have hC0 : Try.prog.cellsOf 4 = 1 := by kernel_rfl
  have hC1 : Try.prog.cellsOf 23 = 1 := by kernel_rfl
  have hCR : Try.prog.cellsOf 25 = 3 := by kernel_rfl
  rw [hCR] at hl
  obtain ⟨c0, c1, c2, rfl⟩ := list3 hl
  have hx : xs.length = 3 := by rw [hlen]; rfl
  obtain ⟨x0, x1, x2, rfl⟩ := list3 hx
  have h0 := hg 0 _ rfl
  have h1 := hg 1 _ rfl
  have h2 := hg 2 _ rfl
  simp only [List.getElem_toArray, List.getElem_cons_zero, List.getElem_cons_succ, hC0, hC1, List.drop_zero, List.drop_succ_cons, List.take_succ_cons, List.take_zero, List.getElem?_cons_zero, List.getElem?_cons_succ] at h0 h1 h2
  obtain ⟨b, hb, _⟩ := DataW.trod_bool Try.underlying4 h0
  obtain ⟨z1, hz1, _, hw1⟩ := DataW.trod_int Try.underlying23 h1
  obtain ⟨z2, hz2, _, hw2⟩ := DataW.trod_int Try.underlying23 h2
  have b1 := bounds_u64 hw1
  have b2 := bounds_u64 hw2
  simp only [List.cons.injEq, and_true] at hb hz1 hz2
  subst hb hz1 hz2
  exact ⟨b, z1.toNat, z2.toNat, by simp; omega, by omega, by omega⟩
end Go.Proofs.Ytenaiojddohbkaa

/- Slices of structs of any kind that came in; flows and acts that came in. -/
namespace Go.Proofs.Ytenaiojddohbkaa
open Go.RowKit Go.ChangeShapes Go.WideShapes Go.Deep
set_option linter.unusedVariables false
set_option linter.unusedSimpArgs false

theorem open_rows {X : Type} [Inhabited X] (encX : X → List Value) (ok : X → Prop) (c : Nat) (hlen : ∀ x, (encX x).length = c) (hpos : 0 < c) {H : Type} {enc : TypeId × Value → H} {P : Program} {W : World} {base : Nat} {t e : TypeId} {v : Value} {d : DataW H} {p : List MemPlace}
    (ht : P.underlying t = some (.slice e)) (ce : P.cellsOf e = c) (each : ∀ m cs y, DataW.trod enc P W 0 (fun _ => true) true m e cs = some y → ∃ x, cs = encX x ∧ ok x) (hv : Value.okWide P W .any base t v)
    (h : DataW.Trod enc P W 0 (fun _ => true) true t v d p) :
    ∃ A k, ∃ L : List X, v = .slice A L.length k ∧ L.length ≤ k ∧ k ≤ maxLen ∧ Rd W W.heap.size A (L.flatMap encX) ∧ ∀ x ∈ L, ok x := by
  obtain ⟨a0, len, cap, rfl⟩ := okWide_slice ht hv
  obtain ⟨fuel, hf⟩ := h
  rcases open_slice ht hf with ⟨hcs, _⟩ | ⟨a, l', c', m, n, D, Pl, hcs, _, hl, hm, hmm, _, hx⟩
  · simp [Value.cells] at hcs
    obtain ⟨rfl, rfl, rfl⟩ := hcs
    exact ⟨none, 0, [], rfl, by simp, by simp, .inl rfl, fun q hq => by simp at hq⟩
  · simp [Value.cells] at hcs
    obtain ⟨rfl, rfl, rfl⟩ := hcs
    have hlm : len ≤ m := by rw [hmm]; split <;> omega
    have each2 : ∀ i, i < len → ∃ q : X, ok q ∧ ∀ j, j < c → W.cell? ((a.add (i * c)).add j) = (encX q)[j]? := by
      intro i hi
      obtain ⟨cs', h1, h2⟩ := hx i (by omega)
      rw [ce] at h1
      obtain ⟨_, hlen', hcell⟩ := World.cells?_some h1
      obtain ⟨q, rfl, hq⟩ := each _ _ _ h2
      exact ⟨q, hq, hcell⟩
    obtain ⟨F, hF⟩ := choose_lt each2
    have hFl : ∀ (n i : Nat) (u : Value), (((List.range n).map F).flatMap encX)[i]? = some u → i / c < n ∧ (encX (F (i / c)))[i % c]? = some u := by
      intro n
      induction n with
      | zero => intro i u hu; simp at hu
      | succ n ih =>
        intro i u hu
        rw [List.range_succ, List.map_append, List.flatMap_append] at hu
        have hln : (((List.range n).map F).flatMap encX).length = n * c := by
          clear hu ih
          induction n with
          | zero => simp
          | succ n ih => rw [List.range_succ, List.map_append, List.flatMap_append, List.length_append, ih]; simp [hlen, Nat.add_mul]
        by_cases hi : i < n * c
        · rw [List.getElem?_append_left (by rw [hln]; exact hi)] at hu
          have := ih i u hu
          exact ⟨by omega, this.2⟩
        · rw [List.getElem?_append_right (by rw [hln]; omega), hln] at hu
          simp only [List.map_cons, List.map_nil, List.flatMap_cons, List.flatMap_nil, List.append_nil] at hu
          have h3 := (List.getElem?_eq_some_iff.1 hu).1
          rw [hlen] at h3
          obtain ⟨r, rfl⟩ : ∃ r, i = n * c + r := ⟨i - n * c, by omega⟩
          have e0 : n * c + r - n * c = r := by omega
          rw [e0] at hu h3
          have e1 : (n * c + r) / c = n := by
            rw [Nat.add_comm, Nat.add_mul_div_right _ _ hpos, Nat.div_eq_of_lt h3]; omega
          have e2 : (n * c + r) % c = r := by rw [Nat.add_comm, Nat.add_mul_mod_self_right, Nat.mod_eq_of_lt h3]
          rw [e1, e2]
          exact ⟨by omega, hu⟩
    refine ⟨some a, cap, (List.range len).map F, by simp, by simpa using hl, hm, ?_, ?_⟩
    · rcases Nat.eq_zero_or_pos len with h0 | h0
      · exact .inl (by simp [h0])
      · have hc0 := (hF 0 h0).2 0 hpos
        obtain ⟨b, off, spot⟩ := a
        have h1 : 0 < (encX (F 0)).length := by rw [hlen]; exact hpos
        rw [List.getElem?_eq_getElem h1] at hc0
        have hspot : spot = none := by simpa [Addr.add] using World.cell?_spot hc0
        subst hspot
        refine .inr ⟨b, off, rfl, by have := lt_of_cell hc0; simpa [Addr.add] using this, fun i u hu => ?_⟩
        obtain ⟨hi, h⟩ := hFl len i u hu
        have hF' := (hF (i / c) hi).2 (i % c) (Nat.mod_lt _ hpos)
        rw [add_plain, add_plain, h] at hF'
        rw [← hF']
        congr 2
        have := Nat.div_add_mod i c
        rw [Nat.mul_comm] at this
        omega
    · intro q hq
      obtain ⟨i, hi, rfl⟩ := List.mem_map.1 hq
      exact (hF i (List.mem_range.1 hi)).1
theorem list9 {α : Type} {l : List α} (h : l.length = 9) : ∃ a b c d e f g i j, l = [a, b, c, d, e, f, g, i, j] := by
  match l, h with
  | [a, b, c, d, e, f, g, i, j], _ => exact ⟨a, b, c, d, e, f, g, i, j, rfl⟩
theorem list11 {α : Type} {l : List α} (h : l.length = 11) : ∃ a b c d e f g i j k m, l = [a, b, c, d, e, f, g, i, j, k, m] := by
  match l, h with
  | [a, b, c, d, e, f, g, i, j, k, m], _ => exact ⟨a, b, c, d, e, f, g, i, j, k, m, rfl⟩
set_option maxRecDepth 100000 in
theorem open_fw_cells {H : Type} {enc : TypeId × Value → H} {W : World} {m : Nat} {cs : List Value} {y : DataW H × List MemPlace}
    (hf : DataW.trod enc Try.prog W 0 (fun _ => true) true m 28 cs = some y) : ∃ f : Fw, cs = f.c := by
  obtain ⟨xs, n, _, _, hl, hlen, hg⟩ := DataW.trod_struct Try.underlying28 hf
  have hC0 : Try.prog.cellsOf 25 = 3 := by kernel_rfl
  have hC1 : Try.prog.cellsOf 26 = 1 := by kernel_rfl
  have hC2 : Try.prog.cellsOf 5 = 1 := by kernel_rfl
  have hCR : Try.prog.cellsOf 28 = 9 := by kernel_rfl
  rw [hCR] at hl
  obtain ⟨c0, c1, c2, c3, c4, c5, c6, c7, c8, rfl⟩ := list9 hl
  have hx : xs.length = 5 := by rw [hlen]; rfl
  obtain ⟨x0, x1, x2, x3, x4, rfl⟩ : ∃ a b c d e, xs = [a, b, c, d, e] := by
    match xs, hx with
    | [a, b, c, d, e], _ => exact ⟨a, b, c, d, e, rfl⟩
  have h0 := hg 0 _ rfl
  have h1 := hg 1 _ rfl
  have h2 := hg 2 _ rfl
  have h3 := hg 3 _ rfl
  have h4 := hg 4 _ rfl
  simp only [List.getElem_toArray, List.getElem_cons_zero, List.getElem_cons_succ, hC0, hC1, hC2, List.drop_zero, List.drop_succ_cons, List.take_succ_cons, List.take_zero, List.getElem?_cons_zero, List.getElem?_cons_succ] at h0 h1 h2 h3 h4
  obtain ⟨s6, sh, sl, es, s1, s2⟩ := open_adr_cells h0
  obtain ⟨d6, dh, dl, ed, d1, d2⟩ := open_adr_cells h1
  obtain ⟨z2, hz2, _, hw2⟩ := DataW.trod_int Try.underlying26 h2
  obtain ⟨z3, hz3, _, hw3⟩ := DataW.trod_int Try.underlying26 h3
  obtain ⟨z4, hz4, _, hw4⟩ := DataW.trod_int Try.underlying5 h4
  have b2 := bounds_u16 hw2
  have b3 := bounds_u16 hw3
  have b4 := bounds_u8 hw4
  simp only [List.cons.injEq, and_true] at es ed hz2 hz3 hz4
  obtain ⟨rfl, rfl, rfl⟩ := es
  obtain ⟨rfl, rfl, rfl⟩ := ed
  subst hz2 hz3 hz4
  refine ⟨⟨s6, sh, sl, d6, dh, dl, z2.toNat, z3.toNat, z4.toNat⟩, by simp [Fw.c, flC]; omega⟩
set_option maxRecDepth 100000 in
theorem open_fw {H : Type} {enc : TypeId × Value → H} {W : World} {base : Nat} {v : Value} {d : DataW H} {p : List MemPlace} (hv : Value.okWide Try.prog W .any base 28 v)
    (h : DataW.Trod enc Try.prog W 0 (fun _ => true) true 28 v d p) : ∃ f : Fw, v = f.v := by
  obtain ⟨cs, rfl, hsz⟩ := okWide_struct Try.underlying28 hv
  obtain ⟨fuel, hf⟩ := h
  obtain ⟨f, hc⟩ := open_fw_cells hf
  refine ⟨f, ?_⟩
  simp only [Value.cells] at hc
  unfold Fw.v
  congr 1
  exact Array.toList_inj.1 hc
instance : Inhabited Fw := ⟨⟨false, 0, 0, false, 0, 0, 0, 0, 0⟩⟩
/-- an act: its kind, its flow, its word -/
structure Ac where
  k : Int
  f : Fw
  wd : Nat
def Ac.c (a : Ac) : List Value := .int .i64 a.k :: a.f.c ++ [.int .u16 (a.wd : Int)]
theorem Ac.c_len (a : Ac) : a.c.length = 11 := rfl
instance : Inhabited Ac := ⟨⟨0, default, 0⟩⟩
set_option maxRecDepth 100000 in
theorem open_ac_cells {H : Type} {enc : TypeId × Value → H} {W : World} {m : Nat} {cs : List Value} {y : DataW H × List MemPlace}
    (hf : DataW.trod enc Try.prog W 0 (fun _ => true) true m 34 cs = some y) : ∃ a : Ac, cs = a.c ∧ ((-9223372036854775808 ≤ a.k ∧ a.k ≤ 9223372036854775807) ∧ a.wd < 65536) := by
  obtain ⟨xs, n, _, _, hl, hlen, hg⟩ := DataW.trod_struct Try.underlying34 hf
  have hC0 : Try.prog.cellsOf 28 = 9 := by kernel_rfl
  have hC1 : Try.prog.cellsOf 26 = 1 := by kernel_rfl
  have hC2 : Try.prog.cellsOf 3 = 1 := by kernel_rfl
  have hCR : Try.prog.cellsOf 34 = 11 := by kernel_rfl
  rw [hCR] at hl
  obtain ⟨c0, c1, c2, c3, c4, c5, c6, c7, c8, c9, c10, rfl⟩ := list11 hl
  have hx : xs.length = 3 := by rw [hlen]; rfl
  obtain ⟨x0, x1, x2, rfl⟩ : ∃ a b c, xs = [a, b, c] := by
    match xs, hx with
    | [a, b, c], _ => exact ⟨a, b, c, rfl⟩
  have h0 := hg 0 _ rfl
  have h1 := hg 1 _ rfl
  have h2 := hg 2 _ rfl
  simp only [List.getElem_toArray, List.getElem_cons_zero, List.getElem_cons_succ, hC0, hC1, hC2, List.drop_zero, List.drop_succ_cons, List.take_succ_cons, List.take_zero, List.getElem?_cons_zero, List.getElem?_cons_succ] at h0 h1 h2
  obtain ⟨k, hk, _, hw0⟩ := DataW.trod_int Try.underlying3 h0
  obtain ⟨f, hfw⟩ := open_fw_cells h1
  obtain ⟨z2, hz2, _, hw2⟩ := DataW.trod_int Try.underlying26 h2
  have b0 := bounds_i64 hw0
  have b2 := bounds_u16 hw2
  simp only [List.cons.injEq, and_true] at hk hz2
  subst hk hz2
  refine ⟨⟨k, f, z2.toNat⟩, ?_, by simp only []; omega, by simp only []; omega⟩
  simp only [Ac.c, ← hfw]
  simp
  omega
set_option maxRecDepth 100000 in
theorem open_acs {H : Type} {enc : TypeId × Value → H} {W : World} {base : Nat} {v : Value} {d : DataW H} {p : List MemPlace} (hv : Value.okWide Try.prog W .any base 22 v)
    (h : DataW.Trod enc Try.prog W 0 (fun _ => true) true 22 v d p) :
    ∃ A k, ∃ L : List Ac, v = .slice A L.length k ∧ L.length ≤ k ∧ k ≤ maxLen ∧ Rd W W.heap.size A (L.flatMap Ac.c) ∧ ∀ a ∈ L, (-9223372036854775808 ≤ a.k ∧ a.k ≤ 9223372036854775807) ∧ a.wd < 65536 :=
  open_rows Ac.c (fun a => (-9223372036854775808 ≤ a.k ∧ a.k ≤ 9223372036854775807) ∧ a.wd < 65536) 11 Ac.c_len (by decide) Try.underlying22 (by kernel_rfl) (fun m cs y hy => open_ac_cells hy) hv h
end Go.Proofs.Ytenaiojddohbkaa

