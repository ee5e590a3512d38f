/- conns: Put, New (chapter 31). -/
import Derived.Test.YtfmkndemkpecpaaConC
namespace Go.Proofs.Ytfmkndemkpecpaa
open Go.RowKit
set_option linter.unusedVariables false
set_option linter.unusedSimpArgs false
attribute [local go_sem ↓] sliced_cut
attribute [local go_sem] cutA_zero

theorem eqm0 (w : World) : (binOp .eql 133 (.map none) (.map none)).run Try.prog w = .ok (.bool true) w := by kernel_rfl
theorem eqm1 (w : World) (m : Nat) : (binOp .eql 133 (.map (some m)) (.map none)).run Try.prog w = .ok (.bool false) w := by kernel_rfl
theorem mkm (w : World) : (Instr.makeMap 133 none).run Try.prog w = .ok (.map (some w.heap.size)) (w.alloc (.map #[] 0)) := rfl
attribute [local go_sem] eqm0 eqm1 mkm
def fw0 : Fw := ⟨false, 0, 0, false, 0, 0, 0, 0, 0⟩
theorem run_buildFw0 (w : World) : (Instr.build 29 #[]).run Try.prog w = .ok (.agg fw0.c.toArray) w := by kernel_rfl
set_option maxRecDepth 100000 in
theorem run_buildEn (w : World) (f : Fw) (wd : Nat) : (Instr.build 216 #[(0, .agg f.c.toArray), (1, .int .u16 (wd : Int))]).run Try.prog w = .ok (.agg (enC f wd none none).toArray) w := by
  obtain ⟨a1, a2, a3, a4, a5, a6, a7, a8, a9⟩ := f
  kernel_rfl
theorem Chg.fresh {D : Nat → Prop} {w w1 w2 : World} {g : Nat} (h : Chg D w w1) (hg : w1.grownBy w2 (some g)) (hl : w.heap.size ≤ g) : Chg D w w2 :=
  ⟨hg.os.trans h.os, hg.tape.trans h.tape, hg.output.trans h.output, Nat.le_trans h.size hg.size, fun b hb hd => (hg.block b (Nat.lt_of_lt_of_le hb h.size) (fun e => by injection e with e; omega)).trans (h.block b hb hd)⟩
theorem Co.chg {D : Nat → Prop} {w w' : World} {cb m : Nat} {most : Int} {l : List En} (h : Co w cb m most l) (hc : Chg D w w') (hd : ∀ b, Dm cb m l b → ¬ D b) : Co w' cb m most l := by
  obtain ⟨L, h1, h2⟩ := h.mp
  exact ⟨h.li.chg hc (fun b hb => hd b (Dl.dm (fun _ h => h) b hb)), ⟨L, h1.chg hc (hd m (.inr (.inl rfl))), h2⟩, h.nf, h.nm⟩
theorem Co.lt {w : World} {cb m : Nat} {most : Int} {l : List En} (h : Co w cb m most l) : ∀ b, Dm cb m l b → b < w.heap.size := by
  obtain ⟨L, h1, h2⟩ := h.mp
  rintro b (rfl | rfl | ⟨x, hx, rfl⟩)
  · exact h.li.lt _ (.inl rfl)
  · exact h1.lt
  · exact h.li.lt _ (.inr ⟨x, hx, rfl⟩)
/-- the result's cell, or another new one, is written -/
theorem Co.aside {w w' : World} {cb m g : Nat} {most : Int} {l : List En} (h : Co w cb m most l) (hg : w.grownBy w' (some g)) (hn : ¬ Dm cb m l g) : Co w' cb m most l :=
  h.chg (D := fun b => b = g) (Chg.grown hg (fun k hk => by injection hk with hk; exact hk.symm)) (fun b hb e => hn (e ▸ hb))
theorem Mid.li_in {w : World} {cb m : Nat} {most : Int} {p s : List En} {x : En} (h : Mid w cb m most (pp (hdB none (p ++ x :: s))) (pp (lsB none (p ++ x :: s))) p (some x.b) x (lsB none p) (hdB none s) s (some x.b)) : Li w cb m most (p ++ x :: s) := by
  refine ⟨h.blk, (Seg.app w none p (x :: s) none).2 ⟨h.sp, h.bx, h.ss⟩, ?_⟩
  simp only [List.nodup_cons, List.map_append, List.nodup_append, List.mem_map, List.mem_append, List.map_cons, List.mem_cons]
  refine ⟨?_, h.np_, ⟨?_, h.ns_⟩, ?_⟩
  · rintro (⟨y, hy, e⟩ | e | ⟨y, hy, e⟩)
    · exact (h.cp y hy).1 e
    · exact h.cx e
    · exact (h.cs y hy).1 e
  · rintro ⟨y, hy, e⟩
    exact (h.cs y hy).2 e
  · rintro _ ⟨y, hy, rfl⟩ b (rfl | ⟨z, hz, rfl⟩)
    · exact (h.cp y hy).2
    · exact h.ps y hy z hz
theorem lsB_same (p s : List En) (x x' : En) (hb : x'.b = x.b) : lsB none (p ++ x' :: s) = lsB none (p ++ x :: s) := by
  rw [lsB_app, lsB_app]
  simp only [lsB, hb]
theorem hdB_same (p s : List En) (x x' : En) (hb : x'.b = x.b) : hdB none (p ++ x' :: s) = hdB none (p ++ x :: s) := by
  cases p
  · simp only [List.nil_append, hdB, hb]
  · rfl
theorem Li.word {w : World} {cb m : Nat} {most : Int} {p s : List En} {x : En} (h : Li w cb m most (p ++ x :: s)) (wd : Nat) : Li (w.setCell ⟨x.b, 9, none⟩ (.int .u16 (wd : Int))) cb m most (p ++ ⟨x.f, wd, x.b⟩ :: s) := by
  have hM := h.mid
  have h9 : Bk (w.setCell ⟨x.b, 9, none⟩ (.int .u16 (wd : Int))) x.b 216 (enC x.f wd (lsB none p) (hdB none s)) := by
    have := hM.bx.set_ 9 (.int .u16 (wd : Int))
    exact this
  refine Mid.li_in (x := ⟨x.f, wd, x.b⟩) ?_
  rw [lsB_same p s x (⟨x.f, wd, x.b⟩ : En) rfl, hdB_same p s x (⟨x.f, wd, x.b⟩ : En) rfl]
  exact ⟨hM.blk.far hM.cx _, Seg.keep p _ hM.sp fun y hy => Below.heap_setCell w _ _ _ (hM.cp y hy).2, h9, Seg.keep s _ hM.ss fun y hy => Below.heap_setCell w _ _ _ (hM.cs y hy).2, hM.cx, hM.cp, hM.cs, hM.ps, hM.np_, hM.ns_⟩
set_option maxHeartbeats 4000000 in
set_option maxRecDepth 100000 in
theorem put_nil (w : World) (a : Value) (ha : a = .pointer none ∨ ∃ cb, a = .pointer (some ⟨cb, 0, none⟩) ∧ w.cell? ⟨cb, 1, none⟩ = some (.map none)) (f : Fw) (wd : Nat) : Calls Try.prog 39 #[a, .agg f.c.toArray, .int .u16 (wd : Int)] w (RetV w (.tuple #[.agg fw0.c.toArray, .bool false])) := by
  rcases ha with rfl | ⟨cb, rfl, hcb⟩
  · obtain ⟨dv1, v1, v2⟩ := rowFw
    have hf : Bk ((w.alloc (.cells (f.c).toArray 29)).alloc (.cells ([.bool false, .int .u64 0, .int .u64 0, .bool false, .int .u64 0, .int .u64 0, .int .u16 0, .int .u16 0, .int .u8 0]).toArray 29)) w.heap.size 29 (f.c) := (Bk.new w 29 (f.c).toArray).alloc _
    have hg : Bk ((w.alloc (.cells (f.c).toArray 29)).alloc (.cells ([.bool false, .int .u64 0, .int .u64 0, .bool false, .int .u64 0, .int .u64 0, .int .u16 0, .int .u16 0, .int .u8 0]).toArray 29)) (w.heap.size + 1) 29 ([.bool false, .int .u64 0, .int .u64 0, .bool false, .int .u64 0, .int .u64 0, .int .u16 0, .int .u16 0, .int .u8 0]) := Bk.newK _ _ _ (by simp) rfl
    have be : Below w.heap.size w ((w.alloc (.cells (f.c).toArray 29)).alloc (.cells ([.bool false, .int .u64 0, .int .u64 0, .bool false, .int .u64 0, .int .u64 0, .int .u16 0, .int .u16 0, .int .u8 0]).toArray 29)) := Below.allocS (Below.allocS (Below.refl _ _) _) _
    have zV : w.heap.size + 2 ≤ ((w.alloc (.cells (f.c).toArray 29)).alloc (.cells ([.bool false, .int .u64 0, .int .u64 0, .bool false, .int .u64 0, .int .u64 0, .int .u16 0, .int .u16 0, .int .u8 0]).toArray 29)).heap.size := by simp
    go_enter Try.func39, Try.ntmps39
    go_upto_region 1 with (fail)
    generalize (w.alloc (.cells (f.c).toArray 29)).alloc (.cells ([.bool false, .int .u64 0, .int .u64 0, .bool false, .int .u64 0, .int .u64 0, .int .u16 0, .int .u16 0, .int .u8 0]).toArray 29) = V at *
    go_wp2_with (first
      | (refine at_op (.build 29 #[]) rfl ?_; refine wpList_build 29 [] rfl rfl (.agg fw0.c.toArray) ?_ ?_; exact run_buildFw0 _)
      | (refine at_op (.store 29 (.tmp 6) (.tmp 21)) rfl ?_; refine wpList_stA (t := 29) 29 (.tmp 6) (.tmp 21) rfl rfl (fw0.c) ([.bool false, .int .u64 0, .int .u64 0, .bool false, .int .u64 0, .int .u64 0, .int .u16 0, .int .u16 0, .int .u8 0]) rfl (Fw.c_one _) rfl rfl (hg) (szFw _) ?_; intro W9 hg9 hgr9))
    refine bodyPost_agg2 Try.results39 rfl rfl (Bk.range hg9) v1 v2 (szFw _) rfl ?_
    exact RetV.is_ rfl (below_grown be hgr9 (by omega))
  · have hcbL : cb < w.heap.size := lt_of_cell hcb
    obtain ⟨dv1, v1, v2⟩ := rowFw
    have hf : Bk ((w.alloc (.cells (f.c).toArray 29)).alloc (.cells ([.bool false, .int .u64 0, .int .u64 0, .bool false, .int .u64 0, .int .u64 0, .int .u16 0, .int .u16 0, .int .u8 0]).toArray 29)) w.heap.size 29 (f.c) := (Bk.new w 29 (f.c).toArray).alloc _
    have hg : Bk ((w.alloc (.cells (f.c).toArray 29)).alloc (.cells ([.bool false, .int .u64 0, .int .u64 0, .bool false, .int .u64 0, .int .u64 0, .int .u16 0, .int .u16 0, .int .u8 0]).toArray 29)) (w.heap.size + 1) 29 ([.bool false, .int .u64 0, .int .u64 0, .bool false, .int .u64 0, .int .u64 0, .int .u16 0, .int .u16 0, .int .u8 0]) := Bk.newK _ _ _ (by simp) rfl
    have be : Below w.heap.size w ((w.alloc (.cells (f.c).toArray 29)).alloc (.cells ([.bool false, .int .u64 0, .int .u64 0, .bool false, .int .u64 0, .int .u64 0, .int .u16 0, .int .u16 0, .int .u8 0]).toArray 29)) := Below.allocS (Below.allocS (Below.refl _ _) _) _
    have zV : w.heap.size + 2 ≤ ((w.alloc (.cells (f.c).toArray 29)).alloc (.cells ([.bool false, .int .u64 0, .int .u64 0, .bool false, .int .u64 0, .int .u64 0, .int .u16 0, .int .u16 0, .int .u8 0]).toArray 29)).heap.size := by simp
    go_enter Try.func39, Try.ntmps39
    go_upto_region 1 with (fail)
    generalize (w.alloc (.cells (f.c).toArray 29)).alloc (.cells ([.bool false, .int .u64 0, .int .u64 0, .bool false, .int .u64 0, .int .u64 0, .int .u16 0, .int .u16 0, .int .u8 0]).toArray 29) = V at *
    have c1 : V.cell? ⟨cb, 1, none⟩ = some (.map none) := (be.cell (p := ⟨cb, 1, none⟩) hcbL).trans hcb
    go_wp2_with (first
      | (refine at_op (.build 29 #[]) rfl ?_; refine wpList_build 29 [] rfl rfl (.agg fw0.c.toArray) ?_ ?_; exact run_buildFw0 _)
      | (refine at_op (.store 29 (.tmp 6) (.tmp 21)) rfl ?_; refine wpList_stA (t := 29) 29 (.tmp 6) (.tmp 21) rfl rfl (fw0.c) ([.bool false, .int .u64 0, .int .u64 0, .bool false, .int .u64 0, .int .u64 0, .int .u16 0, .int .u16 0, .int .u8 0]) rfl (Fw.c_one _) rfl rfl (hg) (szFw _) ?_; intro W9 hg9 hgr9))
    refine bodyPost_agg2 Try.results39 rfl rfl (Bk.range hg9) v1 v2 (szFw _) rfl ?_
    exact RetV.is_ rfl (below_grown be hgr9 (by omega))
set_option maxHeartbeats 4000000 in
set_option maxRecDepth 100000 in
theorem put_is (w : World) (cb m : Nat) (most : Int) (p s : List En) (en : En) (wd : Nat) (h : Co w cb m most (p ++ en :: s)) :
    Calls Try.prog 39 #[.pointer (some ⟨cb, 0, none⟩), .agg en.f.c.toArray, .int .u16 (wd : Int)] w fun e w' => e = .returned (.tuple #[.agg fw0.c.toArray, .bool false]) ∧ Chg (Dm cb m (p ++ en :: s)) w w' ∧ Co w' cb m most (p ++ s ++ [⟨en.f, wd, en.b⟩]) := by
  have HC := Lib.hid (fun V hV => find_is V cb m most p s en (h.later hV))
  have hlt := h.lt
  obtain ⟨dv1, v1, v2⟩ := rowFw
  have hf : Bk ((w.alloc (.cells (en.f.c).toArray 29)).alloc (.cells ([.bool false, .int .u64 0, .int .u64 0, .bool false, .int .u64 0, .int .u64 0, .int .u16 0, .int .u16 0, .int .u8 0]).toArray 29)) w.heap.size 29 (en.f.c) := (Bk.new w 29 (en.f.c).toArray).alloc _
  have hg : Bk ((w.alloc (.cells (en.f.c).toArray 29)).alloc (.cells ([.bool false, .int .u64 0, .int .u64 0, .bool false, .int .u64 0, .int .u64 0, .int .u16 0, .int .u16 0, .int .u8 0]).toArray 29)) (w.heap.size + 1) 29 ([.bool false, .int .u64 0, .int .u64 0, .bool false, .int .u64 0, .int .u64 0, .int .u16 0, .int .u16 0, .int .u8 0]) := Bk.newK _ _ _ (by simp) rfl
  have be : Below w.heap.size w ((w.alloc (.cells (en.f.c).toArray 29)).alloc (.cells ([.bool false, .int .u64 0, .int .u64 0, .bool false, .int .u64 0, .int .u64 0, .int .u16 0, .int .u16 0, .int .u8 0]).toArray 29)) := Below.allocS (Below.allocS (Below.refl _ _) _) _
  have zV : w.heap.size + 2 ≤ ((w.alloc (.cells (en.f.c).toArray 29)).alloc (.cells ([.bool false, .int .u64 0, .int .u64 0, .bool false, .int .u64 0, .int .u64 0, .int .u16 0, .int .u16 0, .int .u8 0]).toArray 29)).heap.size := by simp
  go_enter Try.func39, Try.ntmps39
  go_upto_region 1 with (fail)
  generalize (w.alloc (.cells (en.f.c).toArray 29)).alloc (.cells ([.bool false, .int .u64 0, .int .u64 0, .bool false, .int .u64 0, .int .u64 0, .int .u16 0, .int .u16 0, .int .u8 0]).toArray 29) = V at *
  have c1 : V.cell? ⟨cb, 1, none⟩ = some (.map (some m)) := (h.later be).li.blk.cell 1
  go_upto_region 5 with (first
    | (refine at_op (.load 29 (.tmp 4)) rfl ?_; refine wpList_ldA (t := 29) 29 (.tmp 4) rfl rfl (en.f.c) rfl (hf) (whole_ _) v1 v2 (szFw _) ?_)
    | (go_at_call 104; refine (HC.out _ be).mono ?_; rintro e w1 ⟨bs1, d1, rfl, rfl⟩))
  replace be := belowP be bs1 d1
  replace hf := hf.later (below_plus _ bs1 d1)
  replace hg := hg.later (below_plus _ bs1 d1)
  have hgW : w.heap.size + 2 ≤ (plus V bs1 d1).heap.size := by simp only [size_plus]; omega
  generalize plus V bs1 d1 = W at *
  have hco := h.later be
  clear c1
  have c9 : W.cell? ⟨en.b, 9, none⟩ = some (.int .u16 (en.wd : Int)) := hco.li.mid.bx.cell 9
  have f9 := hco.li.mid.bx.frozen 9
  go_upto_region 6 with (fail)
  clear c9 f9
  have den : Dl cb (p ++ en :: s) en.b := .inr ⟨en, by simp, rfl⟩
  have hc0 : Chg (Dl cb (p ++ en :: s)) W (W.setCell ⟨en.b, 9, none⟩ (.int .u16 (wd : Int))) := Chg.set (p := ⟨en.b, 9, none⟩) W den _
  have hli0 := hco.li.word wd
  generalize W.setCell ⟨en.b, 9, none⟩ (.int .u16 (wd : Int)) = W2 at *
  have hmem := hli0.mem
  have dsame : ∀ b, Dl cb (p ++ (⟨en.f, wd, en.b⟩ : En) :: s) b → Dl cb (p ++ en :: s) b := by
    rintro b (e | ⟨y, hy, e⟩)
    · exact .inl e
    · rcases List.mem_append.1 hy with h1 | h1
      · exact .inr ⟨y, by simp [h1], e⟩
      · rcases List.mem_cons.1 h1 with rfl | h1
        · exact .inr ⟨en, by simp, e⟩
        · exact .inr ⟨y, by simp [h1], e⟩
  have dsame2 : ∀ b, Dl cb (p ++ s ++ [(⟨en.f, wd, en.b⟩ : En)]) b → Dl cb (p ++ en :: s) b := by
    rintro b (e | ⟨y, hy, e⟩)
    · exact .inl e
    · simp only [List.mem_append, List.mem_cons, List.not_mem_nil, or_false] at hy
      rcases hy with (h1 | h1) | rfl
      · exact .inr ⟨y, by simp [h1], e⟩
      · exact .inr ⟨y, by simp [h1], e⟩
      · exact .inr ⟨en, by simp, e⟩
  go_upto_region 7 with (go_at_call 105; refine (unlink_any _ cb m most p s ⟨en.f, wd, en.b⟩ hli0).mono ?_; rintro e w1 ⟨rfl, hc1, hli1, hx1⟩)
  go_upto_region 8 with (go_at_call 106; refine (link_any _ cb m most (p ++ s) ⟨en.f, wd, en.b⟩ none none hli1 hx1 hmem).mono ?_; rintro e w1 ⟨rfl, hc2, hli2⟩)
  have hcA := (hc0.trans (hc1.wider dsame)).trans (hc2.wider dsame2)
  have hco2 := hco.turned (x' := ⟨en.f, wd, en.b⟩) ⟨rfl, rfl⟩ hcA hli2
  have hg2 := hg.chg hcA (fun hd => by have := hlt _ (Dl.dm (fun _ h => h) _ hd); omega)
  have hC := (Chg.of_below (D := Dm cb m (p ++ en :: s)) be).trans (hcA.wider (Dl.dm fun _ h => h))
  go_wp2_with (first
    | (refine at_op (.build 29 #[]) rfl ?_; refine wpList_build 29 [] rfl rfl (.agg fw0.c.toArray) ?_ ?_; exact run_buildFw0 _)
    | (refine at_op (.store 29 (.tmp 6) (.tmp 37)) rfl ?_; refine wpList_stA (t := 29) 29 (.tmp 6) (.tmp 37) rfl rfl (fw0.c) ([.bool false, .int .u64 0, .int .u64 0, .bool false, .int .u64 0, .int .u64 0, .int .u16 0, .int .u16 0, .int .u8 0]) rfl (Fw.c_one _) rfl rfl (hg2) (szFw _) ?_; intro W9 hg9 hgr9))
  refine bodyPost_agg2 Try.results39 rfl rfl (Bk.range hg9) v1 v2 (szFw _) rfl ?_
  refine ⟨rfl, hC.fresh hgr9 (by omega), hco2.aside hgr9 ?_⟩
  rintro (e | e | ⟨y, hy, e⟩)
  · have := hlt _ (.inl rfl); omega
  · have := hlt _ (.inr (.inl rfl)); omega
  · simp only [List.mem_append, List.mem_cons, List.not_mem_nil, or_false] at hy
    rcases hy with (h1 | h1) | rfl
    · have := hlt y.b (.inr (.inr ⟨y, by simp [h1], rfl⟩)); omega
    · have := hlt y.b (.inr (.inr ⟨y, by simp [h1], rfl⟩)); omega
    · have := hlt en.b (.inr (.inr ⟨en, by simp, rfl⟩)); simp only [] at e; omega
theorem wp_lenM {Q : Exit → Act → World → Prop} {o : Oper} {a : Act} {w : World} {K : Act → World → Prop} (x : Operand)
    (hop : o.op = Op.call { callee := Callee.builtin Builtin.len, args := #[x], argTypes := #[133] })
    {m : Nat} {L : List (Fw × Value)} (hx : a.eval x = .map (some m)) (h : Mp w m L) {k : Int} (hk : (L.length : Int) = k) (hK : K (a.put o.dst (.int .i64 k)) w) : o.wp Try.prog a w K Q := by
  subst hk
  unfold Oper.wp
  simp [execOp, hop, resolve, invoke, builtin, hx, h.len o.type, Result.andThen]
  exact hK
/-- behind the update and link: the new entry stands last -/
theorem Co.more {w' : World} {cb m b : Nat} {most : Int} {l : List En} {f : Fw} {wd : Nat} {L : List (Fw × Value)} (hp : L.Perm (l.map enP)) (nf : (l.map (·.f)).Nodup) (hn : ∀ x ∈ l, x.f ≠ f) (nm : m ≠ cb ∧ ∀ x ∈ l, x.b ≠ m) (hb : b ≠ m) (hm : Mp w' m (L ++ [(f, pp (some b))])) (hl : Li w' cb m most (l ++ [⟨f, wd, b⟩])) : Co w' cb m most (l ++ [⟨f, wd, b⟩]) := by
  refine ⟨hl, ⟨_, hm, ?_⟩, ?_, ⟨nm.1, fun y hy => ?_⟩⟩
  · rw [List.map_append]
    exact hp.append_right _
  · simp only [List.map_append, List.map_cons, List.map_nil, List.nodup_append, List.mem_map, List.mem_cons, List.not_mem_nil, or_false]
    refine ⟨nf, by simp, ?_⟩
    rintro _ ⟨y, hy, rfl⟩ _ rfl
    exact hn y hy
  · rcases List.mem_append.1 hy with h3 | h3
    · exact nm.2 y h3
    · simp only [List.mem_cons, List.not_mem_nil, or_false] at h3
      subst h3
      exact hb
theorem Chg.mix {D D' : Nat → Prop} {w w1 w2 : World} (h : Chg D w w1) (h' : Chg D' w1 w2) (hd : ∀ b, D' b → D b ∨ w.heap.size ≤ b) : Chg D w w2 :=
  ⟨h'.os.trans h.os, h'.tape.trans h.tape, h'.output.trans h.output, Nat.le_trans h.size h'.size, fun b hb hn => (h'.block b (Nat.lt_of_lt_of_le hb h.size) (fun e => (hd b e).elim hn (fun h3 => by omega))).trans (h.block b hb hn)⟩
set_option maxHeartbeats 4000000 in
set_option maxRecDepth 100000 in
theorem put_adds (w : World) (cb m : Nat) (most : Int) (l : List En) (f : Fw) (wd : Nat) (h : Co w cb m most (l)) (hn : ∀ x ∈ l, x.f ≠ f) (hroom : ¬ most ≤ (l.length : Int)) (hll : (l : List En).length ≤ 1099511627776) :
    Calls Try.prog 39 #[.pointer (some ⟨cb, 0, none⟩), .agg f.c.toArray, .int .u16 (wd : Int)] w fun e w' => e = .returned (.tuple #[.agg fw0.c.toArray, .bool false]) ∧ Chg (Dm cb m (l)) w w' ∧ ∃ b, w.heap.size ≤ b ∧ Co w' cb m most (l ++ [⟨f, wd, b⟩]) := by
  have HC := Lib.hid (fun V hV => find_no V cb m most (l) f (h.later hV) hn)
  have hlt := h.lt
  obtain ⟨dv1, v1, v2⟩ := rowFw
  have hf : Bk ((w.alloc (.cells (f.c).toArray 29)).alloc (.cells ([.bool false, .int .u64 0, .int .u64 0, .bool false, .int .u64 0, .int .u64 0, .int .u16 0, .int .u16 0, .int .u8 0]).toArray 29)) w.heap.size 29 (f.c) := (Bk.new w 29 (f.c).toArray).alloc _
  have hg : Bk ((w.alloc (.cells (f.c).toArray 29)).alloc (.cells ([.bool false, .int .u64 0, .int .u64 0, .bool false, .int .u64 0, .int .u64 0, .int .u16 0, .int .u16 0, .int .u8 0]).toArray 29)) (w.heap.size + 1) 29 ([.bool false, .int .u64 0, .int .u64 0, .bool false, .int .u64 0, .int .u64 0, .int .u16 0, .int .u16 0, .int .u8 0]) := Bk.newK _ _ _ (by simp) rfl
  have be : Below w.heap.size w ((w.alloc (.cells (f.c).toArray 29)).alloc (.cells ([.bool false, .int .u64 0, .int .u64 0, .bool false, .int .u64 0, .int .u64 0, .int .u16 0, .int .u16 0, .int .u8 0]).toArray 29)) := Below.allocS (Below.allocS (Below.refl _ _) _) _
  have zV : w.heap.size + 2 ≤ ((w.alloc (.cells (f.c).toArray 29)).alloc (.cells ([.bool false, .int .u64 0, .int .u64 0, .bool false, .int .u64 0, .int .u64 0, .int .u16 0, .int .u16 0, .int .u8 0]).toArray 29)).heap.size := by simp
  go_enter Try.func39, Try.ntmps39
  go_upto_region 1 with (fail)
  generalize (w.alloc (.cells (f.c).toArray 29)).alloc (.cells ([.bool false, .int .u64 0, .int .u64 0, .bool false, .int .u64 0, .int .u64 0, .int .u16 0, .int .u16 0, .int .u8 0]).toArray 29) = V at *
  have c1 : V.cell? ⟨cb, 1, none⟩ = some (.map (some m)) := (h.later be).li.blk.cell 1
  go_upto_region 9 with (first
    | (refine at_op (.load 29 (.tmp 4)) rfl ?_; refine wpList_ldA (t := 29) 29 (.tmp 4) rfl rfl (f.c) rfl (hf) (whole_ _) v1 v2 (szFw _) ?_)
    | (go_at_call 104; refine (HC.out _ be).mono ?_; rintro e w1 ⟨bs1, d1, rfl, rfl⟩))
  replace be := belowP be bs1 d1
  replace hf := hf.later (below_plus _ bs1 d1)
  replace hg := hg.later (below_plus _ bs1 d1)
  have hgW : w.heap.size + 2 ≤ (plus V bs1 d1).heap.size := by simp only [size_plus]; omega
  generalize plus V bs1 d1 = W at *
  have hco := h.later be
  clear c1
  go_upto_region 10 with (fail)
  have zW := be.size
  have hg3 : Bk (W.alloc (.cells ([.bool false, .int .u64 0, .int .u64 0, .bool false, .int .u64 0, .int .u64 0, .int .u16 0, .int .u16 0, .int .u8 0]).toArray 29)) W.heap.size 29 [.bool false, .int .u64 0, .int .u64 0, .bool false, .int .u64 0, .int .u64 0, .int .u16 0, .int .u16 0, .int .u8 0] := Bk.new _ _ _
  replace be := Below.allocS be (.cells ([.bool false, .int .u64 0, .int .u64 0, .bool false, .int .u64 0, .int .u64 0, .int .u16 0, .int .u16 0, .int .u8 0]).toArray 29)
  replace hf := hf.alloc (.cells ([.bool false, .int .u64 0, .int .u64 0, .bool false, .int .u64 0, .int .u64 0, .int .u16 0, .int .u16 0, .int .u8 0]).toArray 29)
  replace hg := hg.alloc (.cells ([.bool false, .int .u64 0, .int .u64 0, .bool false, .int .u64 0, .int .u64 0, .int .u16 0, .int .u16 0, .int .u8 0]).toArray 29)
  obtain ⟨g3, hg3e⟩ : ∃ g, g = W.heap.size := ⟨_, rfl⟩
  rw [← hg3e] at hg3 ⊢
  have zg3 : w.heap.size + 2 ≤ g3 := by have := hg.lt; have := hg3.lt; have h4 : w.heap.size + 2 ≤ W.heap.size := by have := hgW; omega
                                        omega
  generalize W.alloc (.cells ([.bool false, .int .u64 0, .int .u64 0, .bool false, .int .u64 0, .int .u64 0, .int .u16 0, .int .u16 0, .int .u8 0]).toArray 29) = W at *
  clear hg3e hco
  have hco := h.later be
  obtain ⟨L, hmp, hperm⟩ := hco.mp
  have hlL : (L.length : Int) = (l.length : Int) := by rw [hperm.length_eq, List.length_map]
  have hcbW := hco.li.blk
  go_wp2
  refine wp_relS 11 74 rfl (by kernel_rfl) (by kernel_rfl) ?_
  apply Steps.one (MP.eq _) 1 rfl
  · intro o ho FA x hO hD K hK
    obtain rfl := Option.some.inj ho.symm
    clear ho
    have e0 := hO 0 (by kernel_rfl)
    simp only [eval_tmp, List.getElem?_toArray, List.getElem?_cons_succ, List.getElem?_cons_zero, Option.getD_some] at e0
    have ev0 := Lib.hid ((eval_tmp FA 0).trans e0)
    clear hO hD
    go_simp
    exact hK.out _ _ (Ex.refl _) rfl
  apply Steps.one (MP.eq _) 2 rfl
  · intro o ho FA x hO hD K hK
    obtain rfl := Option.some.inj ho.symm
    clear ho
    have ev38 : FA.eval (.tmp 38) = _ := hD 0 38 (by kernel_rfl)
    have e38 := (eval_tmp FA 38).symm.trans ev38
    replace ev38 := Lib.hid ev38
    clear hO hD
    go_simp
    exact hK.out _ _ (Ex.refl _) rfl
  apply Steps.one (MP.eq _) 3 rfl
  · intro o ho FA x hO hD K hK
    obtain rfl := Option.some.inj ho.symm
    clear ho
    have ev39 : FA.eval (.tmp 39) = _ := hD 1 39 (by kernel_rfl)
    have e39 := (eval_tmp FA 39).symm.trans ev39
    replace ev39 := Lib.hid ev39
    clear hO hD
    go_simp
    exact hK.out _ _ (Ex.refl _) rfl
  apply Steps.one (MP.eq _) 4 rfl
  · intro o ho FA x hO hD K hK
    obtain rfl := Option.some.inj ho.symm
    clear ho
    have ev40 : FA.eval (.tmp 40) = _ := hD 2 40 (by kernel_rfl)
    have e40 := (eval_tmp FA 40).symm.trans ev40
    replace ev40 := Lib.hid ev40
    clear hO hD
    refine wanted_if rfl ?_
    refine wp_ld1 133 (.tmp 40) rfl ev40.out (hcbW.later (below_plus _ _ _)) rfl Try.underlying133 rfl ?_
    exact hK.out _ _ (Ex.refl _) rfl
  apply Steps.one (MP.eq _) 5 rfl
  · intro o ho FA x hO hD K hK
    obtain rfl := Option.some.inj ho.symm
    clear ho
    have ev41 : FA.eval (.tmp 41) = _ := hD 3 41 (by kernel_rfl)
    have e41 := (eval_tmp FA 41).symm.trans ev41
    replace ev41 := Lib.hid ev41
    clear hO hD
    refine wanted_if rfl ?_
    refine wp_lenM (.tmp 41) rfl ev41.out (hmp.later (below_plus _ _ _)) hlL ?_
    exact hK.out _ _ (Ex.refl _) rfl
  apply Steps.one (MP.eq _) 6 rfl
  · intro o ho FA x hO hD K hK
    obtain rfl := Option.some.inj ho.symm
    clear ho
    have e0 := hO 0 (by kernel_rfl)
    simp only [eval_tmp, List.getElem?_toArray, List.getElem?_cons_succ, List.getElem?_cons_zero, Option.getD_some] at e0
    have ev0 := Lib.hid ((eval_tmp FA 0).trans e0)
    clear hO hD
    go_simp
    exact hK.out _ _ (Ex.refl _) rfl
  apply Steps.one (MP.eq _) 7 rfl
  · intro o ho FA x hO hD K hK
    obtain rfl := Option.some.inj ho.symm
    clear ho
    have ev43 : FA.eval (.tmp 43) = _ := hD 5 43 (by kernel_rfl)
    have e43 := (eval_tmp FA 43).symm.trans ev43
    replace ev43 := Lib.hid ev43
    clear hO hD
    go_simp
    exact hK.out _ _ (Ex.refl _) rfl
  apply Steps.one (MP.eq _) 8 rfl
  · intro o ho FA x hO hD K hK
    obtain rfl := Option.some.inj ho.symm
    clear ho
    have ev44 : FA.eval (.tmp 44) = _ := hD 6 44 (by kernel_rfl)
    have e44 := (eval_tmp FA 44).symm.trans ev44
    replace ev44 := Lib.hid ev44
    clear hO hD
    go_simp
    exact hK.out _ _ (Ex.refl _) rfl
  apply Steps.one (MP.eq _) 9 rfl
  · intro o ho FA x hO hD K hK
    obtain rfl := Option.some.inj ho.symm
    clear ho
    have ev45 : FA.eval (.tmp 45) = _ := hD 7 45 (by kernel_rfl)
    have e45 := (eval_tmp FA 45).symm.trans ev45
    replace ev45 := Lib.hid ev45
    clear hO hD
    refine wanted_if rfl ?_
    refine wp_ld1 3 (.tmp 45) rfl ev45.out (hcbW.later (below_plus _ _ _)) rfl Try.underlying3 rfl ?_
    exact hK.out _ _ (Ex.refl _) rfl
  apply Steps.one (MP.eq _) 10 rfl
  · intro o ho FA x hO hD K hK
    obtain rfl := Option.some.inj ho.symm
    clear ho
    have ev42 : FA.eval (.tmp 42) = _ := hD 4 42 (by kernel_rfl)
    have e42 := (eval_tmp FA 42).symm.trans ev42
    replace ev42 := Lib.hid ev42
    have ev46 : FA.eval (.tmp 46) = _ := hD 8 46 (by kernel_rfl)
    have e46 := (eval_tmp FA 46).symm.trans ev46
    replace ev46 := Lib.hid ev46
    clear hO hD
    go_simp
    exact hK.out _ _ (Ex.refl _) rfl
  apply Steps.one (MP.eq _) 11 rfl
  · intro o ho FA x hO hD K hK
    obtain rfl := Option.some.inj ho.symm
    clear ho
    have ev47 : FA.eval (.tmp 47) = _ := hD 9 47 (by kernel_rfl)
    have e47 := (eval_tmp FA 47).symm.trans ev47
    replace ev47 := Lib.hid ev47
    clear hO hD
    go_simp
    exact hK.out _ _ (Ex.refl _) rfl
  refine Steps.fin_ (fun vs x hp => ?_)
  have p0 : vs 0 = _ := hp 0 (by omega)
  have p1 : vs 1 = _ := hp 1 (by omega)
  have p2 : vs 2 = _ := hp 2 (by omega)
  have p3 : vs 3 = _ := hp 3 (by omega)
  have p4 : vs 4 = _ := hp 4 (by omega)
  have p5 : vs 5 = _ := hp 5 (by omega)
  have p6 : vs 6 = _ := hp 6 (by omega)
  have p7 : vs 7 = _ := hp 7 (by omega)
  have p8 : vs 8 = _ := hp 8 (by omega)
  have p9 : vs 9 = _ := hp 9 (by omega)
  have p10 : vs 10 = _ := hp 10 (by omega)
  clear hp
  simp only [List.take_succ_cons, List.take_zero, List.drop_succ_cons, List.drop_zero, putAll, Nat.zero_add, Nat.reduceAdd, Act.put, List.setIfInBounds_toArray, List.set_cons_zero, List.set_cons_succ, p0, p1, p2, p3, p4, p5, p6, p7, p8, p9, p10]
  clear p0 p1 p2 p3 p4 p5 p6 p7 p8 p9 p10
  clear vs
  go_upto_region 14 with (fail)
  replace hf := hf.later (below_plus W x.bs x.d)
  replace hg := hg.later (below_plus W x.bs x.d)
  replace hg3 := hg3.later (below_plus W x.bs x.d)
  replace hmp := hmp.later (below_plus W x.bs x.d)
  replace hco := hco.later (below_plus W x.bs x.d)
  replace be := belowP be x.bs x.d
  generalize plus W x.bs x.d = W at *
  have hcbW := hco.li.blk
  have hC : Chg (Dm cb m l) w W := Chg.of_below be
  have zW3 : g3 < W.heap.size := hg3.lt
  have hn2 := hn
  go_upto_region 15 with (first
    | (refine at_op (.load 29 (.tmp 4)) rfl ?_; refine wpList_ldA (t := 29) 29 (.tmp 4) rfl rfl (f.c) rfl (hf) (whole_ _) v1 v2 (szFw _) ?_)
    | (refine at_op (.build 216 #[(0, .tmp 59), (1, .tmp 60)]) rfl ?_; refine wpList_build 216 [(0, .tmp 59), (1, .tmp 60)] rfl rfl (.agg (enC f wd none none).toArray) ?_ ?_; exact run_buildEn _ f wd))
  have hnw : Bk (W.alloc (.cells (enC f wd none none).toArray 216)) W.heap.size 216 (enC f wd none none) := Bk.new _ _ _
  replace hC := hC.trans (Chg.of_below (Below.allocS (Below.refl W.heap.size W) (.cells (enC f wd none none).toArray 216)))
  replace hf := hf.alloc (.cells (enC f wd none none).toArray 216)
  replace hg := hg.alloc (.cells (enC f wd none none).toArray 216)
  replace hg3 := hg3.alloc (.cells (enC f wd none none).toArray 216)
  replace hmp := hmp.alloc (.cells (enC f wd none none).toArray 216)
  replace hco := hco.later (Below.allocS (Below.refl W.heap.size W) (.cells (enC f wd none none).toArray 216))
  obtain ⟨g4, hg4e⟩ : ∃ g, g = W.heap.size := ⟨_, rfl⟩
  rw [← hg4e] at hnw ⊢ zW3
  generalize W.alloc (.cells (enC f wd none none).toArray 216) = W at *
  clear hg4e
  have hcbW := hco.li.blk
  go_wp2
  refine wp_relS 6 74 rfl (by kernel_rfl) (by kernel_rfl) ?_
  apply Steps.one (MP.eq _) 1 rfl
  · intro o ho FA x hO hD K hK
    obtain rfl := Option.some.inj ho.symm
    clear ho
    have e0 := hO 0 (by kernel_rfl)
    simp only [eval_tmp, List.getElem?_toArray, List.getElem?_cons_succ, List.getElem?_cons_zero, Option.getD_some] at e0
    have ev0 := Lib.hid ((eval_tmp FA 0).trans e0)
    clear hO hD
    go_simp
    exact hK.out _ _ (Ex.refl _) rfl
  apply Steps.one (MP.eq _) 2 rfl
  · intro o ho FA x hO hD K hK
    obtain rfl := Option.some.inj ho.symm
    clear ho
    have ev63 : FA.eval (.tmp 63) = _ := hD 0 63 (by kernel_rfl)
    have e63 := (eval_tmp FA 63).symm.trans ev63
    replace ev63 := Lib.hid ev63
    clear hO hD
    go_simp
    exact hK.out _ _ (Ex.refl _) rfl
  apply Steps.one (MP.eq _) 3 rfl
  · intro o ho FA x hO hD K hK
    obtain rfl := Option.some.inj ho.symm
    clear ho
    have ev64 : FA.eval (.tmp 64) = _ := hD 1 64 (by kernel_rfl)
    have e64 := (eval_tmp FA 64).symm.trans ev64
    replace ev64 := Lib.hid ev64
    clear hO hD
    go_simp
    exact hK.out _ _ (Ex.refl _) rfl
  apply Steps.one (MP.eq _) 4 rfl
  · intro o ho FA x hO hD K hK
    obtain rfl := Option.some.inj ho.symm
    clear ho
    have ev65 : FA.eval (.tmp 65) = _ := hD 2 65 (by kernel_rfl)
    have e65 := (eval_tmp FA 65).symm.trans ev65
    replace ev65 := Lib.hid ev65
    clear hO hD
    refine wanted_if rfl ?_
    refine wp_ld1 133 (.tmp 65) rfl ev65.out (hcbW.later (below_plus _ _ _)) rfl Try.underlying133 rfl ?_
    exact hK.out _ _ (Ex.refl _) rfl
  apply Steps.one (MP.eq _) 5 rfl
  · intro o ho FA x hO hD K hK
    obtain rfl := Option.some.inj ho.symm
    clear ho
    have e4 := hO 4 (by kernel_rfl)
    simp only [eval_tmp, List.getElem?_toArray, List.getElem?_cons_succ, List.getElem?_cons_zero, Option.getD_some] at e4
    have ev4 := Lib.hid ((eval_tmp FA 4).trans e4)
    clear hO hD
    refine wanted_if rfl ?_
    refine wp_ldA 29 (.tmp 4) rfl (f.c) ev4.out (hf.later (below_plus _ _ _)) (whole_ _) v1 v2 (szFw f) ?_
    exact hK.out _ _ (Ex.refl _) rfl
  apply Steps.one (MP.eq _) 6 rfl
  · intro o ho FA x hO hD K hK
    obtain rfl := Option.some.inj ho.symm
    clear ho
    have e11 := hO 11 (by kernel_rfl)
    simp only [eval_tmp, List.getElem?_toArray, List.getElem?_cons_succ, List.getElem?_cons_zero, Option.getD_some] at e11
    have ev11 := Lib.hid ((eval_tmp FA 11).trans e11)
    clear hO hD
    go_simp
    exact hK.out _ _ (Ex.refl _) rfl
  refine Steps.fin_ (fun vs x hp => ?_)
  have p0 : vs 0 = _ := hp 0 (by omega)
  have p1 : vs 1 = _ := hp 1 (by omega)
  have p2 : vs 2 = _ := hp 2 (by omega)
  have p3 : vs 3 = _ := hp 3 (by omega)
  have p4 : vs 4 = _ := hp 4 (by omega)
  have p5 : vs 5 = _ := hp 5 (by omega)
  clear hp
  simp only [List.take_succ_cons, List.take_zero, List.drop_succ_cons, List.drop_zero, putAll, Nat.zero_add, Nat.reduceAdd, Act.put, List.setIfInBounds_toArray, List.set_cons_zero, List.set_cons_succ, p0, p1, p2, p3, p4, p5]
  clear p0 p1 p2 p3 p4 p5
  clear vs
  go_upto_region 16 with (refine at_op (.mapUpdate 133 (.tmp 66) (.tmp 67) (.tmp 68)) rfl ?_; refine wpList_put rfl (.tmp 66) (.tmp 67) (.tmp 68) rfl (m := m) rfl f rfl (pp (some g4)) rfl (hmp.later (below_plus _ _ _)) (find_miss hperm hn2) ?_; intro w3 hmp3 hgr3)
  have hK : Chg (fun b => b = m) W w3 := (Chg.of_below (below_plus W x.bs x.d)).trans (Chg.grown hgr3 (fun k hk => by injection hk with hk; exact hk.symm))
  have hmlt : m < w.heap.size := hlt m (.inr (.inl rfl))
  have hcblt : cb < w.heap.size := hlt cb (.inl rfl)
  have hxlt : ∀ y ∈ l, y.b < w.heap.size := fun y hy => hlt y.b (.inr (.inr ⟨y, hy, rfl⟩))
  replace hC := hC.trans (hK.wider (fun b hb => .inr (.inl hb)))
  have hli3 := hco.li.chg hK (fun b hb e => by subst e; exact hb.elim (fun e => hco.nm.1 e) (fun ⟨y, hy, e⟩ => hco.nm.2 y hy e))
  replace hnw := hnw.chg hK (by omega)
  replace hg := hg.chg hK (by omega)
  replace hg3 := hg3.chg hK (by omega)
  go_upto_region 17 with (go_at_call 106; refine (link_any _ cb m most (l) ⟨f, wd, g4⟩ none none hli3 hnw ⟨by simp only []; omega, fun y hy => by have := hxlt y hy; simp only []; omega⟩).mono ?_; rintro e w1 ⟨rfl, hc2, hli2⟩)
  have hD : ∀ b, Dl cb (l ++ [(⟨f, wd, g4⟩ : En)]) b → (b < w.heap.size ∧ b ≠ m) ∨ b = g4 := by
    rintro b (rfl | ⟨y, hy, rfl⟩)
    · exact .inl ⟨hcblt, fun e => hco.nm.1 e.symm⟩
    · rcases List.mem_append.1 hy with h1 | h1
      · exact .inl ⟨hxlt y h1, hco.nm.2 y h1⟩
      · simp only [List.mem_cons, List.not_mem_nil, or_false] at h1
        subst h1
        exact .inr rfl
  replace hC := hC.mix hc2 (fun b hb => by
    rcases hb with e | ⟨y, hy, e⟩
    · exact .inl (.inl e)
    · rcases List.mem_append.1 hy with h1 | h1
      · exact .inl (.inr (.inr ⟨y, h1, e⟩))
      · simp only [List.mem_cons, List.not_mem_nil, or_false] at h1
        subst h1
        simp only [] at e
        exact .inr (by omega))
  replace hg := hg.chg hc2 (fun hd => by have := hD _ hd; omega)
  replace hg3 := hg3.chg hc2 (fun hd => by have := hD _ hd; omega)
  have hmp4 := hmp3.chg hc2 (fun hd => by have := hD _ hd; omega)
  have hco2 := Co.more (wd := wd) hperm hco.nf hn2 hco.nm (show g4 ≠ m by omega) hmp4 hli2
  go_wp2_with (first
    | (refine at_op (.load 29 (.tmp 9)) rfl ?_; refine wpList_ldA (t := 29) 29 (.tmp 9) rfl rfl (fw0.c) rfl (hg3) (whole_ _) v1 v2 (szFw _) ?_)
    | (refine at_op (.store 29 (.tmp 6) (.tmp 72)) rfl ?_; refine wpList_stA (t := 29) 29 (.tmp 6) (.tmp 72) rfl rfl (fw0.c) ([.bool false, .int .u64 0, .int .u64 0, .bool false, .int .u64 0, .int .u64 0, .int .u16 0, .int .u16 0, .int .u8 0]) rfl (Fw.c_one _) rfl rfl (hg) (szFw _) ?_; intro W9 hg9 hgr9))
  refine bodyPost_agg2 Try.results39 rfl rfl (Bk.range hg9) v1 v2 (szFw _) rfl ?_
  refine ⟨by simp [hroom], hC.fresh hgr9 (by omega), g4, by omega, hco2.aside hgr9 ?_⟩
  rintro (e | e | ⟨y, hy, e⟩)
  · omega
  · omega
  · rcases List.mem_append.1 hy with h1 | h1
    · have := hxlt y h1; omega
    · simp only [List.mem_cons, List.not_mem_nil, or_false] at h1
      subst h1
      simp only [] at e
      omega
set_option maxHeartbeats 4000000 in
set_option maxRecDepth 100000 in
theorem put_evicts (w : World) (cb m : Nat) (most : Int) (en : En) (s : List En) (f : Fw) (wd : Nat) (h : Co w cb m most (en :: s)) (hn : ∀ x ∈ en :: s, x.f ≠ f) (hroom : most ≤ (s.length : Int) + 1) (hll : (en :: s : List En).length ≤ 1099511627776) :
    Calls Try.prog 39 #[.pointer (some ⟨cb, 0, none⟩), .agg f.c.toArray, .int .u16 (wd : Int)] w fun e w' => e = .returned (.tuple #[.agg en.f.c.toArray, .bool true]) ∧ Chg (Dm cb m (en :: s)) w w' ∧ ∃ b, w.heap.size ≤ b ∧ Co w' cb m most (s ++ [⟨f, wd, b⟩]) := by
  have HC := Lib.hid (fun V hV => find_no V cb m most (en :: s) f (h.later hV) hn)
  have hlt := h.lt
  obtain ⟨dv1, v1, v2⟩ := rowFw
  have hf : Bk ((w.alloc (.cells (f.c).toArray 29)).alloc (.cells ([.bool false, .int .u64 0, .int .u64 0, .bool false, .int .u64 0, .int .u64 0, .int .u16 0, .int .u16 0, .int .u8 0]).toArray 29)) w.heap.size 29 (f.c) := (Bk.new w 29 (f.c).toArray).alloc _
  have hg : Bk ((w.alloc (.cells (f.c).toArray 29)).alloc (.cells ([.bool false, .int .u64 0, .int .u64 0, .bool false, .int .u64 0, .int .u64 0, .int .u16 0, .int .u16 0, .int .u8 0]).toArray 29)) (w.heap.size + 1) 29 ([.bool false, .int .u64 0, .int .u64 0, .bool false, .int .u64 0, .int .u64 0, .int .u16 0, .int .u16 0, .int .u8 0]) := Bk.newK _ _ _ (by simp) rfl
  have be : Below w.heap.size w ((w.alloc (.cells (f.c).toArray 29)).alloc (.cells ([.bool false, .int .u64 0, .int .u64 0, .bool false, .int .u64 0, .int .u64 0, .int .u16 0, .int .u16 0, .int .u8 0]).toArray 29)) := Below.allocS (Below.allocS (Below.refl _ _) _) _
  have zV : w.heap.size + 2 ≤ ((w.alloc (.cells (f.c).toArray 29)).alloc (.cells ([.bool false, .int .u64 0, .int .u64 0, .bool false, .int .u64 0, .int .u64 0, .int .u16 0, .int .u16 0, .int .u8 0]).toArray 29)).heap.size := by simp
  go_enter Try.func39, Try.ntmps39
  go_upto_region 1 with (fail)
  generalize (w.alloc (.cells (f.c).toArray 29)).alloc (.cells ([.bool false, .int .u64 0, .int .u64 0, .bool false, .int .u64 0, .int .u64 0, .int .u16 0, .int .u16 0, .int .u8 0]).toArray 29) = V at *
  have c1 : V.cell? ⟨cb, 1, none⟩ = some (.map (some m)) := (h.later be).li.blk.cell 1
  go_upto_region 9 with (first
    | (refine at_op (.load 29 (.tmp 4)) rfl ?_; refine wpList_ldA (t := 29) 29 (.tmp 4) rfl rfl (f.c) rfl (hf) (whole_ _) v1 v2 (szFw _) ?_)
    | (go_at_call 104; refine (HC.out _ be).mono ?_; rintro e w1 ⟨bs1, d1, rfl, rfl⟩))
  replace be := belowP be bs1 d1
  replace hf := hf.later (below_plus _ bs1 d1)
  replace hg := hg.later (below_plus _ bs1 d1)
  have hgW : w.heap.size + 2 ≤ (plus V bs1 d1).heap.size := by simp only [size_plus]; omega
  generalize plus V bs1 d1 = W at *
  have hco := h.later be
  clear c1
  go_upto_region 10 with (fail)
  have zW := be.size
  have hg3 : Bk (W.alloc (.cells ([.bool false, .int .u64 0, .int .u64 0, .bool false, .int .u64 0, .int .u64 0, .int .u16 0, .int .u16 0, .int .u8 0]).toArray 29)) W.heap.size 29 [.bool false, .int .u64 0, .int .u64 0, .bool false, .int .u64 0, .int .u64 0, .int .u16 0, .int .u16 0, .int .u8 0] := Bk.new _ _ _
  replace be := Below.allocS be (.cells ([.bool false, .int .u64 0, .int .u64 0, .bool false, .int .u64 0, .int .u64 0, .int .u16 0, .int .u16 0, .int .u8 0]).toArray 29)
  replace hf := hf.alloc (.cells ([.bool false, .int .u64 0, .int .u64 0, .bool false, .int .u64 0, .int .u64 0, .int .u16 0, .int .u16 0, .int .u8 0]).toArray 29)
  replace hg := hg.alloc (.cells ([.bool false, .int .u64 0, .int .u64 0, .bool false, .int .u64 0, .int .u64 0, .int .u16 0, .int .u16 0, .int .u8 0]).toArray 29)
  obtain ⟨g3, hg3e⟩ : ∃ g, g = W.heap.size := ⟨_, rfl⟩
  rw [← hg3e] at hg3 ⊢
  have zg3 : w.heap.size + 2 ≤ g3 := by have := hg.lt; have := hg3.lt; have h4 : w.heap.size + 2 ≤ W.heap.size := by have := hgW; omega
                                        omega
  generalize W.alloc (.cells ([.bool false, .int .u64 0, .int .u64 0, .bool false, .int .u64 0, .int .u64 0, .int .u16 0, .int .u16 0, .int .u8 0]).toArray 29) = W at *
  clear hg3e hco
  have hco := h.later be
  obtain ⟨L, hmp, hperm⟩ := hco.mp
  have hlL : (L.length : Int) = (s.length : Int) + 1 := by rw [hperm.length_eq, List.length_map]; simp
  have hcbW := hco.li.blk
  go_wp2
  refine wp_relS 11 74 rfl (by kernel_rfl) (by kernel_rfl) ?_
  apply Steps.one (MP.eq _) 1 rfl
  · intro o ho FA x hO hD K hK
    obtain rfl := Option.some.inj ho.symm
    clear ho
    have e0 := hO 0 (by kernel_rfl)
    simp only [eval_tmp, List.getElem?_toArray, List.getElem?_cons_succ, List.getElem?_cons_zero, Option.getD_some] at e0
    have ev0 := Lib.hid ((eval_tmp FA 0).trans e0)
    clear hO hD
    go_simp
    exact hK.out _ _ (Ex.refl _) rfl
  apply Steps.one (MP.eq _) 2 rfl
  · intro o ho FA x hO hD K hK
    obtain rfl := Option.some.inj ho.symm
    clear ho
    have ev38 : FA.eval (.tmp 38) = _ := hD 0 38 (by kernel_rfl)
    have e38 := (eval_tmp FA 38).symm.trans ev38
    replace ev38 := Lib.hid ev38
    clear hO hD
    go_simp
    exact hK.out _ _ (Ex.refl _) rfl
  apply Steps.one (MP.eq _) 3 rfl
  · intro o ho FA x hO hD K hK
    obtain rfl := Option.some.inj ho.symm
    clear ho
    have ev39 : FA.eval (.tmp 39) = _ := hD 1 39 (by kernel_rfl)
    have e39 := (eval_tmp FA 39).symm.trans ev39
    replace ev39 := Lib.hid ev39
    clear hO hD
    go_simp
    exact hK.out _ _ (Ex.refl _) rfl
  apply Steps.one (MP.eq _) 4 rfl
  · intro o ho FA x hO hD K hK
    obtain rfl := Option.some.inj ho.symm
    clear ho
    have ev40 : FA.eval (.tmp 40) = _ := hD 2 40 (by kernel_rfl)
    have e40 := (eval_tmp FA 40).symm.trans ev40
    replace ev40 := Lib.hid ev40
    clear hO hD
    refine wanted_if rfl ?_
    refine wp_ld1 133 (.tmp 40) rfl ev40.out (hcbW.later (below_plus _ _ _)) rfl Try.underlying133 rfl ?_
    exact hK.out _ _ (Ex.refl _) rfl
  apply Steps.one (MP.eq _) 5 rfl
  · intro o ho FA x hO hD K hK
    obtain rfl := Option.some.inj ho.symm
    clear ho
    have ev41 : FA.eval (.tmp 41) = _ := hD 3 41 (by kernel_rfl)
    have e41 := (eval_tmp FA 41).symm.trans ev41
    replace ev41 := Lib.hid ev41
    clear hO hD
    refine wanted_if rfl ?_
    refine wp_lenM (.tmp 41) rfl ev41.out (hmp.later (below_plus _ _ _)) hlL ?_
    exact hK.out _ _ (Ex.refl _) rfl
  apply Steps.one (MP.eq _) 6 rfl
  · intro o ho FA x hO hD K hK
    obtain rfl := Option.some.inj ho.symm
    clear ho
    have e0 := hO 0 (by kernel_rfl)
    simp only [eval_tmp, List.getElem?_toArray, List.getElem?_cons_succ, List.getElem?_cons_zero, Option.getD_some] at e0
    have ev0 := Lib.hid ((eval_tmp FA 0).trans e0)
    clear hO hD
    go_simp
    exact hK.out _ _ (Ex.refl _) rfl
  apply Steps.one (MP.eq _) 7 rfl
  · intro o ho FA x hO hD K hK
    obtain rfl := Option.some.inj ho.symm
    clear ho
    have ev43 : FA.eval (.tmp 43) = _ := hD 5 43 (by kernel_rfl)
    have e43 := (eval_tmp FA 43).symm.trans ev43
    replace ev43 := Lib.hid ev43
    clear hO hD
    go_simp
    exact hK.out _ _ (Ex.refl _) rfl
  apply Steps.one (MP.eq _) 8 rfl
  · intro o ho FA x hO hD K hK
    obtain rfl := Option.some.inj ho.symm
    clear ho
    have ev44 : FA.eval (.tmp 44) = _ := hD 6 44 (by kernel_rfl)
    have e44 := (eval_tmp FA 44).symm.trans ev44
    replace ev44 := Lib.hid ev44
    clear hO hD
    go_simp
    exact hK.out _ _ (Ex.refl _) rfl
  apply Steps.one (MP.eq _) 9 rfl
  · intro o ho FA x hO hD K hK
    obtain rfl := Option.some.inj ho.symm
    clear ho
    have ev45 : FA.eval (.tmp 45) = _ := hD 7 45 (by kernel_rfl)
    have e45 := (eval_tmp FA 45).symm.trans ev45
    replace ev45 := Lib.hid ev45
    clear hO hD
    refine wanted_if rfl ?_
    refine wp_ld1 3 (.tmp 45) rfl ev45.out (hcbW.later (below_plus _ _ _)) rfl Try.underlying3 rfl ?_
    exact hK.out _ _ (Ex.refl _) rfl
  apply Steps.one (MP.eq _) 10 rfl
  · intro o ho FA x hO hD K hK
    obtain rfl := Option.some.inj ho.symm
    clear ho
    have ev42 : FA.eval (.tmp 42) = _ := hD 4 42 (by kernel_rfl)
    have e42 := (eval_tmp FA 42).symm.trans ev42
    replace ev42 := Lib.hid ev42
    have ev46 : FA.eval (.tmp 46) = _ := hD 8 46 (by kernel_rfl)
    have e46 := (eval_tmp FA 46).symm.trans ev46
    replace ev46 := Lib.hid ev46
    clear hO hD
    go_simp
    exact hK.out _ _ (Ex.refl _) rfl
  apply Steps.one (MP.eq _) 11 rfl
  · intro o ho FA x hO hD K hK
    obtain rfl := Option.some.inj ho.symm
    clear ho
    have ev47 : FA.eval (.tmp 47) = _ := hD 9 47 (by kernel_rfl)
    have e47 := (eval_tmp FA 47).symm.trans ev47
    replace ev47 := Lib.hid ev47
    clear hO hD
    go_simp
    exact hK.out _ _ (Ex.refl _) rfl
  refine Steps.fin_ (fun vs x hp => ?_)
  have p0 : vs 0 = _ := hp 0 (by omega)
  have p1 : vs 1 = _ := hp 1 (by omega)
  have p2 : vs 2 = _ := hp 2 (by omega)
  have p3 : vs 3 = _ := hp 3 (by omega)
  have p4 : vs 4 = _ := hp 4 (by omega)
  have p5 : vs 5 = _ := hp 5 (by omega)
  have p6 : vs 6 = _ := hp 6 (by omega)
  have p7 : vs 7 = _ := hp 7 (by omega)
  have p8 : vs 8 = _ := hp 8 (by omega)
  have p9 : vs 9 = _ := hp 9 (by omega)
  have p10 : vs 10 = _ := hp 10 (by omega)
  clear hp
  simp only [List.take_succ_cons, List.take_zero, List.drop_succ_cons, List.drop_zero, putAll, Nat.zero_add, Nat.reduceAdd, Act.put, List.setIfInBounds_toArray, List.set_cons_zero, List.set_cons_succ, p0, p1, p2, p3, p4, p5, p6, p7, p8, p9, p10]
  clear p0 p1 p2 p3 p4 p5 p6 p7 p8 p9 p10
  clear vs
  go_upto_region 12 with (fail)
  replace hf := hf.later (below_plus W x.bs x.d)
  replace hg := hg.later (below_plus W x.bs x.d)
  replace hg3 := hg3.later (below_plus W x.bs x.d)
  replace hmp := hmp.later (below_plus W x.bs x.d)
  replace hco := hco.later (below_plus W x.bs x.d)
  replace be := belowP be x.bs x.d
  generalize plus W x.bs x.d = W at *
  have hcbW := hco.li.blk
  have hC : Chg (Dm cb m (en :: s)) w W := Chg.of_below be
  have hen : Bk W en.b 216 (enC en.f en.wd none (hdB none s)) := hco.li.seg.1
  have c2 : W.cell? ⟨cb, 2, none⟩ = some (.pointer (some ⟨en.b, 0, none⟩)) := hcbW.cell 2
  go_upto_region 13 with (first
    | (refine at_op (.load 29 (.tmp 54)) rfl ?_; refine wpList_ldA (t := 216) 29 (.tmp 54) rfl rfl (en.f.c) rfl hen (by rw [List.drop_zero]; exact List.take_left) v1 v2 (szFw _) ?_)
    | (refine at_op (.store 29 (.tmp 9) (.tmp 55)) rfl ?_; refine wpList_stA (t := 29) 29 (.tmp 9) (.tmp 55) rfl rfl (en.f.c) ([.bool false, .int .u64 0, .int .u64 0, .bool false, .int .u64 0, .int .u64 0, .int .u16 0, .int .u16 0, .int .u8 0]) rfl (Fw.c_one _) rfl rfl (hg3) (szFw _) ?_; intro W8 hg8 hgr8))
  clear c2 hen
  replace hC := hC.fresh hgr8 (by omega)
  replace hf := hf.grown hgr8 (fun e => by injection e with e; omega)
  replace hg := hg.grown hgr8 (fun e => by injection e with e; omega)
  replace hco := hco.aside hgr8 (fun hd => by have := hlt _ hd; omega)
  go_upto_region 14 with (first
    | (refine at_op (.load 29 (.tmp 9)) rfl ?_; refine wpList_ldA (t := 29) 29 (.tmp 9) rfl rfl (en.f.c) rfl (hg8) (whole_ _) v1 v2 (szFw _) ?_)
    | (go_at_call 44; refine (drop_is _ cb m most [] s en hco).mono ?_; rintro e W ⟨rfl, hc1, hco1, -⟩))
  replace hC := hC.trans hc1
  replace hf := hf.chg hc1 (fun hd => by have := hlt _ hd; omega)
  replace hg := hg.chg hc1 (fun hd => by have := hlt _ hd; omega)
  have hg3 := hg8.chg hc1 (fun hd => by have := hlt _ hd; omega)
  clear hg8 hco hmp hperm hcbW hlL
  have hco : Co W cb m most s := hco1
  obtain ⟨L, hmp, hperm⟩ := hco.mp
  have hcbW := hco.li.blk
  have zW3 : g3 < W.heap.size := hg3.lt
  have hn2 : ∀ x ∈ s, x.f ≠ f := fun x hx => hn x (List.mem_cons_of_mem _ hx)
  go_upto_region 15 with (first
    | (refine at_op (.load 29 (.tmp 4)) rfl ?_; refine wpList_ldA (t := 29) 29 (.tmp 4) rfl rfl (f.c) rfl (hf) (whole_ _) v1 v2 (szFw _) ?_)
    | (refine at_op (.build 216 #[(0, .tmp 59), (1, .tmp 60)]) rfl ?_; refine wpList_build 216 [(0, .tmp 59), (1, .tmp 60)] rfl rfl (.agg (enC f wd none none).toArray) ?_ ?_; exact run_buildEn _ f wd))
  have hnw : Bk (W.alloc (.cells (enC f wd none none).toArray 216)) W.heap.size 216 (enC f wd none none) := Bk.new _ _ _
  replace hC := hC.trans (Chg.of_below (Below.allocS (Below.refl W.heap.size W) (.cells (enC f wd none none).toArray 216)))
  replace hf := hf.alloc (.cells (enC f wd none none).toArray 216)
  replace hg := hg.alloc (.cells (enC f wd none none).toArray 216)
  replace hg3 := hg3.alloc (.cells (enC f wd none none).toArray 216)
  replace hmp := hmp.alloc (.cells (enC f wd none none).toArray 216)
  replace hco := hco.later (Below.allocS (Below.refl W.heap.size W) (.cells (enC f wd none none).toArray 216))
  obtain ⟨g4, hg4e⟩ : ∃ g, g = W.heap.size := ⟨_, rfl⟩
  rw [← hg4e] at hnw ⊢ zW3
  generalize W.alloc (.cells (enC f wd none none).toArray 216) = W at *
  clear hg4e
  have hcbW := hco.li.blk
  go_wp2
  refine wp_relS 6 74 rfl (by kernel_rfl) (by kernel_rfl) ?_
  apply Steps.one (MP.eq _) 1 rfl
  · intro o ho FA x hO hD K hK
    obtain rfl := Option.some.inj ho.symm
    clear ho
    have e0 := hO 0 (by kernel_rfl)
    simp only [eval_tmp, List.getElem?_toArray, List.getElem?_cons_succ, List.getElem?_cons_zero, Option.getD_some] at e0
    have ev0 := Lib.hid ((eval_tmp FA 0).trans e0)
    clear hO hD
    go_simp
    exact hK.out _ _ (Ex.refl _) rfl
  apply Steps.one (MP.eq _) 2 rfl
  · intro o ho FA x hO hD K hK
    obtain rfl := Option.some.inj ho.symm
    clear ho
    have ev63 : FA.eval (.tmp 63) = _ := hD 0 63 (by kernel_rfl)
    have e63 := (eval_tmp FA 63).symm.trans ev63
    replace ev63 := Lib.hid ev63
    clear hO hD
    go_simp
    exact hK.out _ _ (Ex.refl _) rfl
  apply Steps.one (MP.eq _) 3 rfl
  · intro o ho FA x hO hD K hK
    obtain rfl := Option.some.inj ho.symm
    clear ho
    have ev64 : FA.eval (.tmp 64) = _ := hD 1 64 (by kernel_rfl)
    have e64 := (eval_tmp FA 64).symm.trans ev64
    replace ev64 := Lib.hid ev64
    clear hO hD
    go_simp
    exact hK.out _ _ (Ex.refl _) rfl
  apply Steps.one (MP.eq _) 4 rfl
  · intro o ho FA x hO hD K hK
    obtain rfl := Option.some.inj ho.symm
    clear ho
    have ev65 : FA.eval (.tmp 65) = _ := hD 2 65 (by kernel_rfl)
    have e65 := (eval_tmp FA 65).symm.trans ev65
    replace ev65 := Lib.hid ev65
    clear hO hD
    refine wanted_if rfl ?_
    refine wp_ld1 133 (.tmp 65) rfl ev65.out (hcbW.later (below_plus _ _ _)) rfl Try.underlying133 rfl ?_
    exact hK.out _ _ (Ex.refl _) rfl
  apply Steps.one (MP.eq _) 5 rfl
  · intro o ho FA x hO hD K hK
    obtain rfl := Option.some.inj ho.symm
    clear ho
    have e4 := hO 4 (by kernel_rfl)
    simp only [eval_tmp, List.getElem?_toArray, List.getElem?_cons_succ, List.getElem?_cons_zero, Option.getD_some] at e4
    have ev4 := Lib.hid ((eval_tmp FA 4).trans e4)
    clear hO hD
    refine wanted_if rfl ?_
    refine wp_ldA 29 (.tmp 4) rfl (f.c) ev4.out (hf.later (below_plus _ _ _)) (whole_ _) v1 v2 (szFw f) ?_
    exact hK.out _ _ (Ex.refl _) rfl
  apply Steps.one (MP.eq _) 6 rfl
  · intro o ho FA x hO hD K hK
    obtain rfl := Option.some.inj ho.symm
    clear ho
    have e11 := hO 11 (by kernel_rfl)
    simp only [eval_tmp, List.getElem?_toArray, List.getElem?_cons_succ, List.getElem?_cons_zero, Option.getD_some] at e11
    have ev11 := Lib.hid ((eval_tmp FA 11).trans e11)
    clear hO hD
    go_simp
    exact hK.out _ _ (Ex.refl _) rfl
  refine Steps.fin_ (fun vs x hp => ?_)
  have p0 : vs 0 = _ := hp 0 (by omega)
  have p1 : vs 1 = _ := hp 1 (by omega)
  have p2 : vs 2 = _ := hp 2 (by omega)
  have p3 : vs 3 = _ := hp 3 (by omega)
  have p4 : vs 4 = _ := hp 4 (by omega)
  have p5 : vs 5 = _ := hp 5 (by omega)
  clear hp
  simp only [List.take_succ_cons, List.take_zero, List.drop_succ_cons, List.drop_zero, putAll, Nat.zero_add, Nat.reduceAdd, Act.put, List.setIfInBounds_toArray, List.set_cons_zero, List.set_cons_succ, p0, p1, p2, p3, p4, p5]
  clear p0 p1 p2 p3 p4 p5
  clear vs
  go_upto_region 16 with (refine at_op (.mapUpdate 133 (.tmp 66) (.tmp 67) (.tmp 68)) rfl ?_; refine wpList_put rfl (.tmp 66) (.tmp 67) (.tmp 68) rfl (m := m) rfl f rfl (pp (some g4)) rfl (hmp.later (below_plus _ _ _)) (find_miss hperm hn2) ?_; intro w3 hmp3 hgr3)
  have hK : Chg (fun b => b = m) W w3 := (Chg.of_below (below_plus W x.bs x.d)).trans (Chg.grown hgr3 (fun k hk => by injection hk with hk; exact hk.symm))
  have hmlt : m < w.heap.size := hlt m (.inr (.inl rfl))
  have hcblt : cb < w.heap.size := hlt cb (.inl rfl)
  have hxlt : ∀ y ∈ s, y.b < w.heap.size := fun y hy => hlt y.b (.inr (.inr ⟨y, List.mem_cons_of_mem _ hy, rfl⟩))
  replace hC := hC.trans (hK.wider (fun b hb => .inr (.inl hb)))
  have hli3 := hco.li.chg hK (fun b hb e => by subst e; exact hb.elim (fun e => hco.nm.1 e) (fun ⟨y, hy, e⟩ => hco.nm.2 y hy e))
  replace hnw := hnw.chg hK (by omega)
  replace hg := hg.chg hK (by omega)
  replace hg3 := hg3.chg hK (by omega)
  go_upto_region 17 with (go_at_call 106; refine (link_any _ cb m most (s) ⟨f, wd, g4⟩ none none hli3 hnw ⟨by simp only []; omega, fun y hy => by have := hxlt y hy; simp only []; omega⟩).mono ?_; rintro e w1 ⟨rfl, hc2, hli2⟩)
  have hD : ∀ b, Dl cb (s ++ [(⟨f, wd, g4⟩ : En)]) b → (b < w.heap.size ∧ b ≠ m) ∨ b = g4 := by
    rintro b (rfl | ⟨y, hy, rfl⟩)
    · exact .inl ⟨hcblt, fun e => hco.nm.1 e.symm⟩
    · rcases List.mem_append.1 hy with h1 | h1
      · exact .inl ⟨hxlt y h1, hco.nm.2 y h1⟩
      · simp only [List.mem_cons, List.not_mem_nil, or_false] at h1
        subst h1
        exact .inr rfl
  replace hC := hC.mix hc2 (fun b hb => by
    rcases hb with e | ⟨y, hy, e⟩
    · exact .inl (.inl e)
    · rcases List.mem_append.1 hy with h1 | h1
      · exact .inl (.inr (.inr ⟨y, List.mem_cons_of_mem _ h1, e⟩))
      · simp only [List.mem_cons, List.not_mem_nil, or_false] at h1
        subst h1
        simp only [] at e
        exact .inr (by omega))
  replace hg := hg.chg hc2 (fun hd => by have := hD _ hd; omega)
  replace hg3 := hg3.chg hc2 (fun hd => by have := hD _ hd; omega)
  have hmp4 := hmp3.chg hc2 (fun hd => by have := hD _ hd; omega)
  have hco2 := Co.more (wd := wd) hperm hco.nf hn2 hco.nm (show g4 ≠ m by omega) hmp4 hli2
  go_wp2_with (first
    | (refine at_op (.load 29 (.tmp 9)) rfl ?_; refine wpList_ldA (t := 29) 29 (.tmp 9) rfl rfl (en.f.c) rfl (hg3) (whole_ _) v1 v2 (szFw _) ?_)
    | (refine at_op (.store 29 (.tmp 6) (.tmp 72)) rfl ?_; refine wpList_stA (t := 29) 29 (.tmp 6) (.tmp 72) rfl rfl (en.f.c) ([.bool false, .int .u64 0, .int .u64 0, .bool false, .int .u64 0, .int .u64 0, .int .u16 0, .int .u16 0, .int .u8 0]) rfl (Fw.c_one _) rfl rfl (hg) (szFw _) ?_; intro W9 hg9 hgr9))
  refine bodyPost_agg2 Try.results39 rfl rfl (Bk.range hg9) v1 v2 (szFw _) rfl ?_
  refine ⟨by simp [hroom], hC.fresh hgr9 (by omega), g4, by omega, hco2.aside hgr9 ?_⟩
  rintro (e | e | ⟨y, hy, e⟩)
  · omega
  · omega
  · rcases List.mem_append.1 hy with h1 | h1
    · have := hxlt y h1; omega
    · simp only [List.mem_cons, List.not_mem_nil, or_false] at h1
      subst h1
      simp only [] at e
      omega
/-- a new table -/
def RetTab (w : World) (most : Int) (e : Ending) (w' : World) : Prop := ∃ cb m, e = .returned (.pointer (some ⟨cb, 0, none⟩)) ∧ Below w.heap.size w w' ∧ Co w' cb m (min (max most 1) 1024) [] ∧ w.heap.size ≤ cb ∧ w.heap.size ≤ m
set_option maxHeartbeats 4000000 in
set_option maxRecDepth 100000 in
theorem new_any (w : World) (most : Int) (hb : -9223372036854775808 ≤ most ∧ most ≤ 9223372036854775807) :
    Calls Try.prog 38 #[.int .i64 most] w (RetTab w most) := by
  by_cases h1 : most < 1
  · go_enter Try.func38, Try.ntmps38
    go_wp2
    go_ret
    have hb2 : Bk ((w.alloc (.map #[] 0)).alloc (.cells #[.int .i64 (1), .map (some w.heap.size), .pointer none, .pointer none] 136)) (w.heap.size + 1) 136 (cnC (1) w.heap.size (pp none) (pp none)) := Bk.newK _ _ _ (by simp) rfl
    refine ⟨w.heap.size + 1, w.heap.size, rfl, Below.allocS (Below.allocS (Below.refl _ _) _) _, ?_, by omega, Nat.le_refl _⟩
    rw [show min (max most 1) 1024 = 1 by omega]
    exact ⟨⟨hb2, trivial, by simp⟩, ⟨[], (Mp.new w).alloc _, List.Perm.refl _⟩, by simp, by omega, by simp⟩
  have h2 : 1 ≤ most := by omega
  by_cases h3 : most ≤ 1024
  · go_enter Try.func38, Try.ntmps38
    go_wp2
    go_ret
    have hb2 : Bk ((w.alloc (.map #[] 0)).alloc (.cells #[.int .i64 (most), .map (some w.heap.size), .pointer none, .pointer none] 136)) (w.heap.size + 1) 136 (cnC (most) w.heap.size (pp none) (pp none)) := Bk.newK _ _ _ (by simp) rfl
    refine ⟨w.heap.size + 1, w.heap.size, rfl, Below.allocS (Below.allocS (Below.refl _ _) _) _, ?_, by omega, Nat.le_refl _⟩
    rw [show min (max most 1) 1024 = most by omega]
    exact ⟨⟨hb2, trivial, by simp⟩, ⟨[], (Mp.new w).alloc _, List.Perm.refl _⟩, by simp, by omega, by simp⟩
  · go_enter Try.func38, Try.ntmps38
    go_wp2
    go_ret
    have hb2 : Bk ((w.alloc (.map #[] 0)).alloc (.cells #[.int .i64 (1024), .map (some w.heap.size), .pointer none, .pointer none] 136)) (w.heap.size + 1) 136 (cnC (1024) w.heap.size (pp none) (pp none)) := Bk.newK _ _ _ (by simp) rfl
    refine ⟨w.heap.size + 1, w.heap.size, rfl, Below.allocS (Below.allocS (Below.refl _ _) _) _, ?_, by omega, Nat.le_refl _⟩
    rw [show min (max most 1) 1024 = 1024 by omega]
    exact ⟨⟨hb2, trivial, by simp⟩, ⟨[], (Mp.new w).alloc _, List.Perm.refl _⟩, by simp, by omega, by simp⟩
end Go.Proofs.Ytfmkndemkpecpaa
