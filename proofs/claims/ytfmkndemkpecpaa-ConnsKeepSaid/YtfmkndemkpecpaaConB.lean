/- conns: unlink, link (chapter 31). -/
import Derived.Test.YtfmkndemkpecpaaConA
import Derived.Test.YtfmkndemkpecpaaRowR
import Derived.Test.YtfmkndemkpecpaaCom
import Derived.Deep.CutBlock
import Derived.Outline
namespace Go.Proofs.Ytfmkndemkpecpaa
open Go.RowKit
set_option linter.unusedVariables false
set_option linter.unusedSimpArgs false
attribute [local go_sem ↓] sliced_cut
attribute [local go_sem] cutA_zero

theorem Chg.set {D : Nat → Prop} (w : World) {p : Addr} (hp : D p.block) (v : Value) : Chg D w (w.setCell p v) := ⟨rfl, rfl, rfl, by simp [World.setCell], fun b _ hd => Below.heap_setCell w p v b (fun e => hd (e ▸ hp))⟩
def cnC (most : Int) (m : Nat) (c2 c3 : Value) : List Value := [.int .i64 most, .map (some m), c2, c3]
/-- a list of uses with an entry taken out of it, or not yet in it -/
structure Mid (w : World) (cb m : Nat) (most : Int) (c2 c3 : Value) (p : List En) (np : Option Nat) (x : En) (xo xn : Option Nat) (s : List En) (os : Option Nat) : Prop where
  blk : Bk w cb 136 (cnC most m c2 c3)
  sp : Seg w none np p
  bx : Bk w x.b 216 (enC x.f x.wd xo xn)
  ss : Seg w os none s
  cx : cb ≠ x.b
  cp : ∀ y ∈ p, y.b ≠ cb ∧ y.b ≠ x.b
  cs : ∀ y ∈ s, y.b ≠ cb ∧ y.b ≠ x.b
  ps : ∀ y ∈ p, ∀ z ∈ s, y.b ≠ z.b
  np_ : (p.map (·.b)).Nodup
  ns_ : (s.map (·.b)).Nodup
section
variable {w : World} {cb m : Nat} {most : Int} {c2 c3 : Value} {p : List En} {np : Option Nat} {x : En} {xo xn : Option Nat} {s : List En} {os : Option Nat}
theorem Mid.c2_ (h : Mid w cb m most c2 c3 p np x xo xn s os) (v : Value) : Mid (w.setCell ⟨cb, 2, none⟩ v) cb m most v c3 p np x xo xn s os :=
  ⟨h.blk.set_ 2 v, Seg.keep p _ h.sp fun y hy => Below.heap_setCell w _ _ _ (h.cp y hy).1, h.bx.far h.cx.symm v, Seg.keep s _ h.ss fun y hy => Below.heap_setCell w _ _ _ (h.cs y hy).1, h.cx, h.cp, h.cs, h.ps, h.np_, h.ns_⟩
theorem Mid.c3_ (h : Mid w cb m most c2 c3 p np x xo xn s os) (v : Value) : Mid (w.setCell ⟨cb, 3, none⟩ v) cb m most c2 v p np x xo xn s os :=
  ⟨h.blk.set_ 3 v, Seg.keep p _ h.sp fun y hy => Below.heap_setCell w _ _ _ (h.cp y hy).1, h.bx.far h.cx.symm v, Seg.keep s _ h.ss fun y hy => Below.heap_setCell w _ _ _ (h.cs y hy).1, h.cx, h.cp, h.cs, h.ps, h.np_, h.ns_⟩
theorem Mid.x10 (h : Mid w cb m most c2 c3 p np x xo xn s os) (o : Option Nat) : Mid (w.setCell ⟨x.b, 10, none⟩ (pp o)) cb m most c2 c3 p np x o xn s os :=
  ⟨h.blk.far h.cx _, Seg.keep p _ h.sp fun y hy => Below.heap_setCell w _ _ _ (h.cp y hy).2, h.bx.set_ 10 (pp o), Seg.keep s _ h.ss fun y hy => Below.heap_setCell w _ _ _ (h.cs y hy).2, h.cx, h.cp, h.cs, h.ps, h.np_, h.ns_⟩
theorem Mid.x11 (h : Mid w cb m most c2 c3 p np x xo xn s os) (o : Option Nat) : Mid (w.setCell ⟨x.b, 11, none⟩ (pp o)) cb m most c2 c3 p np x xo o s os :=
  ⟨h.blk.far h.cx _, Seg.keep p _ h.sp fun y hy => Below.heap_setCell w _ _ _ (h.cp y hy).2, h.bx.set_ 11 (pp o), Seg.keep s _ h.ss fun y hy => Below.heap_setCell w _ _ _ (h.cs y hy).2, h.cx, h.cp, h.cs, h.ps, h.np_, h.ns_⟩
theorem Mid.newer {y : En} (h : Mid w cb m most c2 c3 (p ++ [y]) np x xo xn s os) (n' : Option Nat) {v : Value} (hv : pp n' = v) : Mid (w.setCell ⟨y.b, 11, none⟩ v) cb m most c2 c3 (p ++ [y]) n' x xo xn s os := by
  subst hv
  have hy := h.cp y (by simp)
  have hd : ∀ z ∈ p, z.b ≠ y.b := by
    have := h.np_
    rw [List.map_append, List.nodup_append] at this
    exact fun z hz => this.2.2 z.b (List.mem_map_of_mem hz) y.b (by simp)
  exact ⟨h.blk.far hy.1.symm _, Seg.newer p y none h.sp hd, h.bx.far hy.2.symm _, Seg.keep s _ h.ss fun z hz => Below.heap_setCell w _ _ _ (h.ps y (by simp) z hz).symm, h.cx, h.cp, h.cs, h.ps, h.np_, h.ns_⟩
theorem Mid.older {z : En} (h : Mid w cb m most c2 c3 p np x xo xn (z :: s) os) (o' : Option Nat) {v : Value} (hv : pp o' = v) : Mid (w.setCell ⟨z.b, 10, none⟩ v) cb m most c2 c3 p np x xo xn (z :: s) o' := by
  subst hv
  have hz := h.cs z (by simp)
  have hd : ∀ y ∈ s, y.b ≠ z.b := by
    have := h.ns_
    rw [List.map_cons, List.nodup_cons] at this
    exact fun y hy e => this.1 (e ▸ List.mem_map_of_mem hy)
  exact ⟨h.blk.far hz.1.symm _, Seg.keep p _ h.sp fun y hy => Below.heap_setCell w _ _ _ (h.ps y hy z (by simp)), h.bx.far hz.2.symm _, Seg.older s z h.ss hd, h.cx, h.cp, h.cs, h.ps, h.np_, h.ns_⟩
theorem Mid.last {y : En} (h : Mid w cb m most c2 c3 (p ++ [y]) np x xo xn s os) : Bk w y.b 216 (enC y.f y.wd (lsB none p) np) := ((Seg.app w np p [y] none).1 h.sp).2.1
theorem Mid.first {z : En} (h : Mid w cb m most c2 c3 p np x xo xn (z :: s) os) : Bk w z.b 216 (enC z.f z.wd os (hdB none s)) := h.ss.1
end
theorem Mid.drew {w : World} {cb m : Nat} {most : Int} {c2 c3 : Value} {p : List En} {np : Option Nat} {x : En} {xo xn : Option Nat} {s : List En} {os : Option Nat} (h : Mid w cb m most c2 c3 p np x xo xn s os) : Mid w.drew cb m most c2 c3 p np x xo xn s os :=
  ⟨h.blk.drew, Seg.keep p _ h.sp fun _ _ => rfl, h.bx.drew, Seg.keep s _ h.ss fun _ _ => rfl, h.cx, h.cp, h.cs, h.ps, h.np_, h.ns_⟩
theorem Mid.npn {w : World} {cb m : Nat} {most : Int} {c2 c3 : Value} {np np' : Option Nat} {x : En} {xo xn : Option Nat} {s : List En} {os : Option Nat} (h : Mid w cb m most c2 c3 [] np x xo xn s os) : Mid w cb m most c2 c3 [] np' x xo xn s os :=
  ⟨h.blk, trivial, h.bx, h.ss, h.cx, h.cp, h.cs, h.ps, h.np_, h.ns_⟩
theorem Mid.osn {w : World} {cb m : Nat} {most : Int} {c2 c3 : Value} {p : List En} {np : Option Nat} {x : En} {xo xn : Option Nat} {os os' : Option Nat} (h : Mid w cb m most c2 c3 p np x xo xn [] os) : Mid w cb m most c2 c3 p np x xo xn [] os' :=
  ⟨h.blk, h.sp, h.bx, trivial, h.cx, h.cp, h.cs, h.ps, h.np_, h.ns_⟩
theorem Chg.drew {D : Nat → Prop} {w w' : World} (h : Chg D w w') : Chg D w w'.drew := ⟨h.os, h.tape, h.output, h.size, h.block⟩
/-- the list of uses -/
structure Li (w : World) (cb m : Nat) (most : Int) (l : List En) : Prop where
  blk : Bk w cb 136 (cnC most m (pp (hdB none l)) (pp (lsB none l)))
  seg : Seg w none none l
  nd : (cb :: l.map (·.b)).Nodup
def Dl (cb : Nat) (l : List En) : Nat → Prop := fun b => b = cb ∨ ∃ x ∈ l, x.b = b
theorem Li.mid {w : World} {cb m : Nat} {most : Int} {p s : List En} {x : En} (h : Li w cb m most (p ++ x :: s)) :
    Mid w cb m most (pp (hdB none (p ++ x :: s))) (pp (lsB none (p ++ x :: s))) p (some x.b) x (lsB none p) (hdB none s) s (some x.b) := by
  obtain ⟨h1, h2, h3⟩ := h
  rw [Seg.app] at h2
  have h4 := List.nodup_cons.1 h3
  have h5 := h4.2
  simp only [List.map_append, List.map_cons, List.nodup_append, List.nodup_cons, List.mem_map, List.mem_append, List.mem_cons] at h4 h5
  refine ⟨h1, h2.1, h2.2.1, h2.2.2, fun e => h4.1 (.inr (.inl e)), fun y hy => ⟨fun e => h4.1 (.inl ⟨y, hy, e⟩), h5.2.2 _ ⟨y, hy, rfl⟩ _ (.inl rfl)⟩, fun y hy => ⟨fun e => h4.1 (.inr (.inr ⟨y, hy, e⟩)), fun e => h5.2.1.1 ⟨y, hy, e⟩⟩, fun y hy z hz => h5.2.2 _ ⟨y, hy, rfl⟩ _ (.inr ⟨z, hz, rfl⟩), h5.1, h5.2.1.2⟩
theorem Mid.li {w : World} {cb m : Nat} {most : Int} {p s : List En} {x : En} {xo xn : Option Nat} (h : Mid w cb m most (pp (hdB none (p ++ s))) (pp (lsB none (p ++ s))) p (hdB none s) x xo xn s (lsB none p)) : Li w cb m most (p ++ s) := by
  refine ⟨h.blk, (Seg.app w none p s none).2 ⟨h.sp, h.ss⟩, ?_⟩
  simp only [List.nodup_cons, List.map_append, List.nodup_append, List.mem_map, List.mem_append]
  refine ⟨?_, h.np_, h.ns_, ?_⟩
  · rintro (⟨y, hy, e⟩ | ⟨y, hy, e⟩)
    · exact (h.cp y hy).1 e
    · exact (h.cs y hy).1 e
  · rintro _ ⟨y, hy, rfl⟩ _ ⟨z, hz, rfl⟩
    exact h.ps y hy z hz
theorem Mid.li_app {w : World} {cb m : Nat} {most : Int} {p : List En} {x : En} {os : Option Nat} (h : Mid w cb m most (pp (hdB none (p ++ [x]))) (pp (some x.b)) p (some x.b) x (lsB none p) none [] os) : Li w cb m most (p ++ [x]) := by
  refine ⟨by rw [lsB_snoc]; exact h.blk, (Seg.app w none p [x] none).2 ⟨h.sp, h.bx, trivial⟩, ?_⟩
  simp only [List.nodup_cons, List.map_append, List.nodup_append, List.mem_map, List.mem_append, List.map_cons, List.map_nil, List.mem_cons, List.not_mem_nil, or_false]
  refine ⟨?_, h.np_, ⟨by simp, by simp⟩, ?_⟩
  · rintro (⟨y, hy, e⟩ | e)
    · exact (h.cp y hy).1 e
    · exact h.cx e
  · rintro _ ⟨y, hy, rfl⟩ _ rfl
    exact (h.cp y hy).2
theorem snoc_cases {α : Type} (l : List α) : l = [] ∨ ∃ q y, l = q ++ [y] := by
  rcases List.eq_nil_or_concat l with h | ⟨q, y, h⟩
  · exact .inl h
  · exact .inr ⟨q, y, by rw [h, List.concat_eq_append]⟩
theorem lsB_mid (o : Option Nat) (p s : List En) (x z : En) : lsB o (p ++ x :: z :: s) = lsB o (p ++ z :: s) := by
  rw [lsB_app, lsB_app o p (z :: s)]
  rfl
theorem hdB_any (q q' : Option Nat) (p : List En) (y : En) : hdB q (p ++ [y]) = hdB q' (p ++ [y]) := by cases p <;> rfl
set_option maxHeartbeats 4000000 in
set_option maxRecDepth 100000 in
theorem unlink_mid (w0 W : World) (cb m : Nat) (most : Int) (p s : List En) (x : En) (hM : Mid W cb m most (pp (hdB none (p ++ x :: s))) (pp (lsB none (p ++ x :: s))) p (some x.b) x (lsB none p) (hdB none s) s (some x.b)) (hC : Chg (Dl cb (p ++ x :: s)) w0 W) :
    Calls Try.prog 105 #[.pointer (some ⟨cb, 0, none⟩), .pointer (some ⟨x.b, 0, none⟩)] W fun e w' => e = .returned (.tuple #[]) ∧ Chg (Dl cb (p ++ x :: s)) w0 w' ∧ Li w' cb m most (p ++ s) ∧ Bk w' x.b 216 (enC x.f x.wd none none) := by
  have dcb : (Dl cb (p ++ x :: s)) cb := .inl rfl
  have dx : (Dl cb (p ++ x :: s)) x.b := .inr ⟨x, by simp, rfl⟩
  rcases snoc_cases p with rfl | ⟨p, y, rfl⟩
  · rcases s with _ | ⟨z, s⟩
    · replace hM : Mid W cb m most (pp (hdB none ([] ++ x :: []))) (pp (lsB none ([] ++ x :: []))) [] (some x.b) x (none) (none) [] (some x.b) := by
        have h := hM
        exact h
      have c0 : W.cell? ⟨x.b, 10, none⟩ = some (.pointer none) := hM.bx.cell 10
      have f0 := hM.bx.frozen 10
      have c1 : W.cell? ⟨x.b, 11, none⟩ = some (.pointer none) := hM.bx.cell 11
      have f1 := hM.bx.frozen 11
      have c2 : W.cell? ⟨cb, 2, none⟩ = some (pp (hdB none ([] ++ x :: []))) := hM.blk.cell 2
      have f2 := hM.blk.frozen 2
      have c3 : W.cell? ⟨cb, 3, none⟩ = some (pp (lsB none ([] ++ x :: []))) := hM.blk.cell 3
      have f3 := hM.blk.frozen 3
      go_enter Try.func105, Try.ntmps105
      go_upto_region 3 with (fail)
      clear c0 f0 c1 f1 c2 f2 c3 f3
      replace hC := hC.trans (Chg.set (p := ⟨cb, 2, none⟩) W (show Dl _ _ _ from dcb) (.pointer none))
      replace hM := hM.c2_ (.pointer none)
      generalize W.setCell ⟨cb, 2, none⟩ (.pointer none) = W at *
      have c0 : W.cell? ⟨x.b, 10, none⟩ = some (.pointer none) := hM.bx.cell 10
      have f0 := hM.bx.frozen 10
      have c1 : W.cell? ⟨x.b, 11, none⟩ = some (.pointer none) := hM.bx.cell 11
      have f1 := hM.bx.frozen 11
      have c2 : W.cell? ⟨cb, 2, none⟩ = some (.pointer none) := hM.blk.cell 2
      have f2 := hM.blk.frozen 2
      have c3 : W.cell? ⟨cb, 3, none⟩ = some (pp (lsB none ([] ++ x :: []))) := hM.blk.cell 3
      have f3 := hM.blk.frozen 3
      go_upto_region 6 with (fail)
      clear c0 f0 c1 f1 c2 f2 c3 f3
      replace hC := hC.trans (Chg.set (p := ⟨cb, 3, none⟩) W (show Dl _ _ _ from dcb) (.pointer none))
      replace hM := hM.c3_ (.pointer none)
      generalize W.setCell ⟨cb, 3, none⟩ (.pointer none) = W at *
      have c0 : W.cell? ⟨x.b, 10, none⟩ = some (.pointer none) := hM.bx.cell 10
      have f0 := hM.bx.frozen 10
      have c1 : W.cell? ⟨x.b, 11, none⟩ = some (.pointer none) := hM.bx.cell 11
      have f1 := hM.bx.frozen 11
      go_wp2
      go_end0
      have hM1 := (hM.x10 none).x11 none
      refine ⟨rfl, (hC.trans (Chg.set (p := ⟨x.b, 10, none⟩) W (show Dl _ _ _ from dx) _)).trans (Chg.set (p := ⟨x.b, 11, none⟩) _ (show Dl _ _ _ from dx) _), Mid.li (p := []) (s := []) (x := x) (xo := none) (xn := none) ?_, hM1.bx⟩
      exact hM1.npn.osn
    · have dz : Dl cb ([] ++ x :: (z :: s)) z.b := .inr ⟨z, by simp, rfl⟩
      replace hM : Mid W cb m most (pp (hdB none ([] ++ x :: (z :: s)))) (pp (lsB none ([] ++ (z :: s)))) [] (some x.b) x (none) (some z.b) (z :: s) (some x.b) := by
        have h := hM
        rw [lsB_mid none [] s x z] at h
        exact h
      have c0 : W.cell? ⟨x.b, 10, none⟩ = some (.pointer none) := hM.bx.cell 10
      have f0 := hM.bx.frozen 10
      have c1 : W.cell? ⟨x.b, 11, none⟩ = some (.pointer (some ⟨z.b, 0, none⟩)) := hM.bx.cell 11
      have f1 := hM.bx.frozen 11
      have c2 : W.cell? ⟨cb, 2, none⟩ = some (pp (hdB none ([] ++ x :: (z :: s)))) := hM.blk.cell 2
      have f2 := hM.blk.frozen 2
      have c3 : W.cell? ⟨cb, 3, none⟩ = some (pp (lsB none ([] ++ (z :: s)))) := hM.blk.cell 3
      have f3 := hM.blk.frozen 3
      have c4 : W.cell? ⟨z.b, 10, none⟩ = some (.pointer (some ⟨x.b, 0, none⟩)) := hM.first.cell 10
      have f4 := hM.first.frozen 10
      go_enter Try.func105, Try.ntmps105
      go_upto_region 3 with (fail)
      clear c0 f0 c1 f1 c2 f2 c3 f3 c4 f4
      replace hC := hC.trans (Chg.set (p := ⟨cb, 2, none⟩) W (show Dl _ _ _ from dcb) (.pointer (some ⟨z.b, 0, none⟩)))
      replace hM := hM.c2_ (.pointer (some ⟨z.b, 0, none⟩))
      generalize W.setCell ⟨cb, 2, none⟩ (.pointer (some ⟨z.b, 0, none⟩)) = W at *
      have c0 : W.cell? ⟨x.b, 10, none⟩ = some (.pointer none) := hM.bx.cell 10
      have f0 := hM.bx.frozen 10
      have c1 : W.cell? ⟨x.b, 11, none⟩ = some (.pointer (some ⟨z.b, 0, none⟩)) := hM.bx.cell 11
      have f1 := hM.bx.frozen 11
      have c2 : W.cell? ⟨cb, 2, none⟩ = some (.pointer (some ⟨z.b, 0, none⟩)) := hM.blk.cell 2
      have f2 := hM.blk.frozen 2
      have c3 : W.cell? ⟨cb, 3, none⟩ = some (pp (lsB none ([] ++ (z :: s)))) := hM.blk.cell 3
      have f3 := hM.blk.frozen 3
      have c4 : W.cell? ⟨z.b, 10, none⟩ = some (.pointer (some ⟨x.b, 0, none⟩)) := hM.first.cell 10
      have f4 := hM.first.frozen 10
      go_upto_region 4 with (fail)
      go_wp2
      refine wp_tail 10 (by kernel_rfl) (by kernel_rfl) ?_
      simp only [List.take_succ_cons, List.take_zero, List.drop_succ_cons, List.drop_zero]
      repeat still_step
      refine wpStill_nil ?_
      go_upto_region 6 with (fail)
      clear c0 f0 c1 f1 c2 f2 c3 f3 c4 f4
      replace hC := (hC.trans (Chg.set (p := ⟨z.b, 10, none⟩) W (show Dl _ _ _ from dz) (.pointer none))).drew
      replace hM := (hM.older (none) (v := .pointer none) rfl).drew
      generalize (W.setCell ⟨z.b, 10, none⟩ (.pointer none)).drew = W at *
      have c0 : W.cell? ⟨x.b, 10, none⟩ = some (.pointer none) := hM.bx.cell 10
      have f0 := hM.bx.frozen 10
      have c1 : W.cell? ⟨x.b, 11, none⟩ = some (.pointer (some ⟨z.b, 0, none⟩)) := hM.bx.cell 11
      have f1 := hM.bx.frozen 11
      go_wp2
      go_end0
      have hM1 := (hM.x10 none).x11 none
      refine ⟨rfl, (hC.trans (Chg.set (p := ⟨x.b, 10, none⟩) W (show Dl _ _ _ from dx) _)).trans (Chg.set (p := ⟨x.b, 11, none⟩) _ (show Dl _ _ _ from dx) _), Mid.li (p := []) (s := (z :: s)) (x := x) (xo := none) (xn := none) ?_, hM1.bx⟩
      exact hM1.npn
  · rcases s with _ | ⟨z, s⟩
    · have dy : Dl cb ((p ++ [y]) ++ x :: []) y.b := .inr ⟨y, by simp, rfl⟩
      replace hM : Mid W cb m most (pp (hdB none ((p ++ [y]) ++ []))) (pp (lsB none ((p ++ [y]) ++ x :: []))) (p ++ [y]) (some x.b) x (some y.b) (none) [] (some x.b) := by
        have h := hM
        rw [hdB_app none (p ++ [y]) (x :: []), hdB_any (hdB none (x :: [])) (hdB none []) p y, ← hdB_app] at h
        rw [show lsB none (p ++ [y]) = some y.b from lsB_snoc none p y] at h
        exact h
      have c0 : W.cell? ⟨x.b, 10, none⟩ = some (.pointer (some ⟨y.b, 0, none⟩)) := hM.bx.cell 10
      have f0 := hM.bx.frozen 10
      have c1 : W.cell? ⟨x.b, 11, none⟩ = some (.pointer none) := hM.bx.cell 11
      have f1 := hM.bx.frozen 11
      have c2 : W.cell? ⟨cb, 2, none⟩ = some (pp (hdB none ((p ++ [y]) ++ []))) := hM.blk.cell 2
      have f2 := hM.blk.frozen 2
      have c3 : W.cell? ⟨cb, 3, none⟩ = some (pp (lsB none ((p ++ [y]) ++ x :: []))) := hM.blk.cell 3
      have f3 := hM.blk.frozen 3
      have c4 : W.cell? ⟨y.b, 11, none⟩ = some (.pointer (some ⟨x.b, 0, none⟩)) := hM.last.cell 11
      have f4 := hM.last.frozen 11
      go_enter Try.func105, Try.ntmps105
      go_upto_region 1 with (fail)
      go_wp2
      refine wp_tail 10 (by kernel_rfl) (by kernel_rfl) ?_
      simp only [List.take_succ_cons, List.take_zero, List.drop_succ_cons, List.drop_zero]
      repeat still_step
      refine wpStill_nil ?_
      go_upto_region 3 with (fail)
      clear c0 f0 c1 f1 c2 f2 c3 f3 c4 f4
      replace hC := (hC.trans (Chg.set (p := ⟨y.b, 11, none⟩) W (show Dl _ _ _ from dy) (.pointer none))).drew
      replace hM := (hM.newer (none) (v := .pointer none) rfl).drew
      generalize (W.setCell ⟨y.b, 11, none⟩ (.pointer none)).drew = W at *
      have c0 : W.cell? ⟨x.b, 10, none⟩ = some (.pointer (some ⟨y.b, 0, none⟩)) := hM.bx.cell 10
      have f0 := hM.bx.frozen 10
      have c1 : W.cell? ⟨x.b, 11, none⟩ = some (.pointer none) := hM.bx.cell 11
      have f1 := hM.bx.frozen 11
      have c2 : W.cell? ⟨cb, 2, none⟩ = some (pp (hdB none ((p ++ [y]) ++ []))) := hM.blk.cell 2
      have f2 := hM.blk.frozen 2
      have c3 : W.cell? ⟨cb, 3, none⟩ = some (pp (lsB none ((p ++ [y]) ++ x :: []))) := hM.blk.cell 3
      have f3 := hM.blk.frozen 3
      have c4 : W.cell? ⟨y.b, 11, none⟩ = some (.pointer none) := hM.last.cell 11
      have f4 := hM.last.frozen 11
      go_upto_region 6 with (fail)
      clear c0 f0 c1 f1 c2 f2 c3 f3 c4 f4
      replace hC := hC.trans (Chg.set (p := ⟨cb, 3, none⟩) W (show Dl _ _ _ from dcb) (.pointer (some ⟨y.b, 0, none⟩)))
      replace hM := hM.c3_ (.pointer (some ⟨y.b, 0, none⟩))
      generalize W.setCell ⟨cb, 3, none⟩ (.pointer (some ⟨y.b, 0, none⟩)) = W at *
      have c0 : W.cell? ⟨x.b, 10, none⟩ = some (.pointer (some ⟨y.b, 0, none⟩)) := hM.bx.cell 10
      have f0 := hM.bx.frozen 10
      have c1 : W.cell? ⟨x.b, 11, none⟩ = some (.pointer none) := hM.bx.cell 11
      have f1 := hM.bx.frozen 11
      go_wp2
      go_end0
      have hM1 := (hM.x10 none).x11 none
      refine ⟨rfl, (hC.trans (Chg.set (p := ⟨x.b, 10, none⟩) W (show Dl _ _ _ from dx) _)).trans (Chg.set (p := ⟨x.b, 11, none⟩) _ (show Dl _ _ _ from dx) _), Mid.li (p := (p ++ [y])) (s := []) (x := x) (xo := none) (xn := none) ?_, hM1.bx⟩
      rw [show lsB none (p ++ [y]) = some y.b from lsB_snoc none p y]
      rw [List.append_nil]
      rw [List.append_nil] at hM1
      rw [show lsB none (p ++ [y]) = some y.b from lsB_snoc none p y]
      exact hM1.osn
    · have dy : Dl cb ((p ++ [y]) ++ x :: (z :: s)) y.b := .inr ⟨y, by simp, rfl⟩
      have dz : Dl cb ((p ++ [y]) ++ x :: (z :: s)) z.b := .inr ⟨z, by simp, rfl⟩
      replace hM : Mid W cb m most (pp (hdB none ((p ++ [y]) ++ (z :: s)))) (pp (lsB none ((p ++ [y]) ++ (z :: s)))) (p ++ [y]) (some x.b) x (some y.b) (some z.b) (z :: s) (some x.b) := by
        have h := hM
        rw [hdB_app none (p ++ [y]) (x :: (z :: s)), hdB_any (hdB none (x :: (z :: s))) (hdB none (z :: s)) p y, ← hdB_app] at h
        rw [lsB_mid none (p ++ [y]) s x z] at h
        rw [show lsB none (p ++ [y]) = some y.b from lsB_snoc none p y] at h
        exact h
      have c0 : W.cell? ⟨x.b, 10, none⟩ = some (.pointer (some ⟨y.b, 0, none⟩)) := hM.bx.cell 10
      have f0 := hM.bx.frozen 10
      have c1 : W.cell? ⟨x.b, 11, none⟩ = some (.pointer (some ⟨z.b, 0, none⟩)) := hM.bx.cell 11
      have f1 := hM.bx.frozen 11
      have c2 : W.cell? ⟨cb, 2, none⟩ = some (pp (hdB none ((p ++ [y]) ++ (z :: s)))) := hM.blk.cell 2
      have f2 := hM.blk.frozen 2
      have c3 : W.cell? ⟨cb, 3, none⟩ = some (pp (lsB none ((p ++ [y]) ++ (z :: s)))) := hM.blk.cell 3
      have f3 := hM.blk.frozen 3
      have c4 : W.cell? ⟨y.b, 11, none⟩ = some (.pointer (some ⟨x.b, 0, none⟩)) := hM.last.cell 11
      have f4 := hM.last.frozen 11
      have c5 : W.cell? ⟨z.b, 10, none⟩ = some (.pointer (some ⟨x.b, 0, none⟩)) := hM.first.cell 10
      have f5 := hM.first.frozen 10
      go_enter Try.func105, Try.ntmps105
      go_upto_region 1 with (fail)
      go_wp2
      refine wp_tail 10 (by kernel_rfl) (by kernel_rfl) ?_
      simp only [List.take_succ_cons, List.take_zero, List.drop_succ_cons, List.drop_zero]
      repeat still_step
      refine wpStill_nil ?_
      go_upto_region 3 with (fail)
      clear c0 f0 c1 f1 c2 f2 c3 f3 c4 f4 c5 f5
      replace hC := (hC.trans (Chg.set (p := ⟨y.b, 11, none⟩) W (show Dl _ _ _ from dy) (.pointer (some ⟨z.b, 0, none⟩)))).drew
      replace hM := (hM.newer (some z.b) (v := .pointer (some ⟨z.b, 0, none⟩)) rfl).drew
      generalize (W.setCell ⟨y.b, 11, none⟩ (.pointer (some ⟨z.b, 0, none⟩))).drew = W at *
      have c0 : W.cell? ⟨x.b, 10, none⟩ = some (.pointer (some ⟨y.b, 0, none⟩)) := hM.bx.cell 10
      have f0 := hM.bx.frozen 10
      have c1 : W.cell? ⟨x.b, 11, none⟩ = some (.pointer (some ⟨z.b, 0, none⟩)) := hM.bx.cell 11
      have f1 := hM.bx.frozen 11
      have c2 : W.cell? ⟨cb, 2, none⟩ = some (pp (hdB none ((p ++ [y]) ++ (z :: s)))) := hM.blk.cell 2
      have f2 := hM.blk.frozen 2
      have c3 : W.cell? ⟨cb, 3, none⟩ = some (pp (lsB none ((p ++ [y]) ++ (z :: s)))) := hM.blk.cell 3
      have f3 := hM.blk.frozen 3
      have c4 : W.cell? ⟨y.b, 11, none⟩ = some (.pointer (some ⟨z.b, 0, none⟩)) := hM.last.cell 11
      have f4 := hM.last.frozen 11
      have c5 : W.cell? ⟨z.b, 10, none⟩ = some (.pointer (some ⟨x.b, 0, none⟩)) := hM.first.cell 10
      have f5 := hM.first.frozen 10
      go_upto_region 4 with (fail)
      go_wp2
      refine wp_tail 10 (by kernel_rfl) (by kernel_rfl) ?_
      simp only [List.take_succ_cons, List.take_zero, List.drop_succ_cons, List.drop_zero]
      repeat still_step
      refine wpStill_nil ?_
      go_upto_region 6 with (fail)
      clear c0 f0 c1 f1 c2 f2 c3 f3 c4 f4 c5 f5
      replace hC := (hC.trans (Chg.set (p := ⟨z.b, 10, none⟩) W (show Dl _ _ _ from dz) (.pointer (some ⟨y.b, 0, none⟩)))).drew
      replace hM := (hM.older (some y.b) (v := .pointer (some ⟨y.b, 0, none⟩)) rfl).drew
      generalize (W.setCell ⟨z.b, 10, none⟩ (.pointer (some ⟨y.b, 0, none⟩))).drew = W at *
      have c0 : W.cell? ⟨x.b, 10, none⟩ = some (.pointer (some ⟨y.b, 0, none⟩)) := hM.bx.cell 10
      have f0 := hM.bx.frozen 10
      have c1 : W.cell? ⟨x.b, 11, none⟩ = some (.pointer (some ⟨z.b, 0, none⟩)) := hM.bx.cell 11
      have f1 := hM.bx.frozen 11
      go_wp2
      go_end0
      have hM1 := (hM.x10 none).x11 none
      refine ⟨rfl, (hC.trans (Chg.set (p := ⟨x.b, 10, none⟩) W (show Dl _ _ _ from dx) _)).trans (Chg.set (p := ⟨x.b, 11, none⟩) _ (show Dl _ _ _ from dx) _), Mid.li (p := (p ++ [y])) (s := (z :: s)) (x := x) (xo := none) (xn := none) ?_, hM1.bx⟩
      rw [show lsB none (p ++ [y]) = some y.b from lsB_snoc none p y]
      exact hM1
set_option maxHeartbeats 4000000 in
set_option maxRecDepth 100000 in
theorem unlink_any (w : World) (cb m : Nat) (most : Int) (p s : List En) (x : En) (h : Li w cb m most (p ++ x :: s)) :
    Calls Try.prog 105 #[.pointer (some ⟨cb, 0, none⟩), .pointer (some ⟨x.b, 0, none⟩)] w fun e w' => e = .returned (.tuple #[]) ∧ Chg (Dl cb (p ++ x :: s)) w w' ∧ Li w' cb m most (p ++ s) ∧ Bk w' x.b 216 (enC x.f x.wd none none) :=
  unlink_mid w w cb m most p s x h.mid (Chg.refl w)
theorem Li.midE {w : World} {cb m : Nat} {most : Int} {l : List En} {x : En} {xo xn : Option Nat} (h : Li w cb m most l) (hx : Bk w x.b 216 (enC x.f x.wd xo xn)) (hn : x.b ≠ cb ∧ ∀ y ∈ l, y.b ≠ x.b) :
    Mid w cb m most (pp (hdB none l)) (pp (lsB none l)) l none x xo xn [] none := by
  have h4 := List.nodup_cons.1 h.nd
  exact ⟨h.blk, h.seg, hx, trivial, hn.1.symm, fun y hy => ⟨fun e => h4.1 (e ▸ List.mem_map_of_mem hy), hn.2 y hy⟩, by simp, by simp, h4.2, List.nodup_nil⟩
set_option maxHeartbeats 4000000 in
set_option maxRecDepth 100000 in
theorem link_mid (w0 W : World) (cb m : Nat) (most : Int) (l : List En) (x : En) (xo xn : Option Nat) (hM : Mid W cb m most (pp (hdB none l)) (pp (lsB none l)) l none x xo xn [] none) (hC : Chg (Dl cb (l ++ [x])) w0 W) :
    Calls Try.prog 106 #[.pointer (some ⟨cb, 0, none⟩), .pointer (some ⟨x.b, 0, none⟩)] W fun e w' => e = .returned (.tuple #[]) ∧ Chg (Dl cb (l ++ [x])) w0 w' ∧ Li w' cb m most (l ++ [x]) := by
  have dcb : (Dl cb (l ++ [x])) cb := .inl rfl
  have dx : (Dl cb (l ++ [x])) x.b := .inr ⟨x, by simp, rfl⟩
  rcases snoc_cases l with rfl | ⟨p, y, rfl⟩
  · replace hM : Mid W cb m most (pp none) (pp none) [] none x xo xn [] none := hM
    have c0 : W.cell? ⟨x.b, 10, none⟩ = some (pp xo) := hM.bx.cell 10
    have f0 := hM.bx.frozen 10
    have c1 : W.cell? ⟨x.b, 11, none⟩ = some (pp xn) := hM.bx.cell 11
    have f1 := hM.bx.frozen 11
    have c2 : W.cell? ⟨cb, 2, none⟩ = some (.pointer none) := hM.blk.cell 2
    have f2 := hM.blk.frozen 2
    have c3 : W.cell? ⟨cb, 3, none⟩ = some (.pointer none) := hM.blk.cell 3
    have f3 := hM.blk.frozen 3
    go_enter Try.func106, Try.ntmps106
    go_upto_region 1 with (fail)
    clear c0 f0 c1 f1 c2 f2 c3 f3
    replace hC := (hC.trans (Chg.set (p := ⟨x.b, 10, none⟩) W (show Dl _ _ _ from dx) (.pointer none))).trans (Chg.set (p := ⟨x.b, 11, none⟩) _ (show Dl _ _ _ from dx) (.pointer none))
    replace hM : Mid _ cb m most _ _ _ _ x (none) none [] none := (hM.x10 (none)).x11 none
    change Mid ((W.setCell ⟨x.b, 10, none⟩ (.pointer none)).setCell ⟨x.b, 11, none⟩ (.pointer none)) _ _ _ _ _ _ _ _ _ _ _ _ at hM
    generalize (W.setCell ⟨x.b, 10, none⟩ (.pointer none)).setCell ⟨x.b, 11, none⟩ (.pointer none) = W at *
    have c0 : W.cell? ⟨cb, 2, none⟩ = some (.pointer none) := hM.blk.cell 2
    have f0 := hM.blk.frozen 2
    have c1 : W.cell? ⟨cb, 3, none⟩ = some (.pointer none) := hM.blk.cell 3
    have f1 := hM.blk.frozen 3
    go_upto_region 4 with (fail)
    clear c0 f0 c1 f1
    replace hC := hC.trans (Chg.set (p := ⟨cb, 2, none⟩) W (show Dl _ _ _ from dcb) (.pointer (some ⟨x.b, 0, none⟩)))
    replace hM := hM.c2_ (.pointer (some ⟨x.b, 0, none⟩))
    generalize W.setCell ⟨cb, 2, none⟩ (.pointer (some ⟨x.b, 0, none⟩)) = W at *
    have c0 : W.cell? ⟨cb, 3, none⟩ = some (.pointer none) := hM.blk.cell 3
    have f0 := hM.blk.frozen 3
    go_wp2
    go_end0
    have hM1 := hM.c3_ (pp (some x.b))
    refine ⟨rfl, hC.trans (Chg.set (p := ⟨cb, 3, none⟩) W (show Dl _ _ _ from dcb) _), Mid.li_app (p := []) (os := none) ?_⟩
    exact hM1.npn
  · have dy : Dl cb ((p ++ [y]) ++ [x]) y.b := .inr ⟨y, by simp, rfl⟩
    replace hM : Mid W cb m most (pp (hdB none (p ++ [y]))) (pp (some y.b)) (p ++ [y]) none x xo xn [] none := by
      have h := hM
      rw [show lsB none (p ++ [y]) = some y.b from lsB_snoc none p y] at h
      exact h
    have c0 : W.cell? ⟨x.b, 10, none⟩ = some (pp xo) := hM.bx.cell 10
    have f0 := hM.bx.frozen 10
    have c1 : W.cell? ⟨x.b, 11, none⟩ = some (pp xn) := hM.bx.cell 11
    have f1 := hM.bx.frozen 11
    have c2 : W.cell? ⟨cb, 2, none⟩ = some (pp (hdB none (p ++ [y]))) := hM.blk.cell 2
    have f2 := hM.blk.frozen 2
    have c3 : W.cell? ⟨cb, 3, none⟩ = some (.pointer (some ⟨y.b, 0, none⟩)) := hM.blk.cell 3
    have f3 := hM.blk.frozen 3
    have c4 : W.cell? ⟨y.b, 11, none⟩ = some (.pointer none) := hM.last.cell 11
    have f4 := hM.last.frozen 11
    go_enter Try.func106, Try.ntmps106
    go_upto_region 1 with (fail)
    clear c0 f0 c1 f1 c2 f2 c3 f3 c4 f4
    replace hC := (hC.trans (Chg.set (p := ⟨x.b, 10, none⟩) W (show Dl _ _ _ from dx) (.pointer (some ⟨y.b, 0, none⟩)))).trans (Chg.set (p := ⟨x.b, 11, none⟩) _ (show Dl _ _ _ from dx) (.pointer none))
    replace hM : Mid _ cb m most _ _ _ _ x (some y.b) none [] none := (hM.x10 (some y.b)).x11 none
    change Mid ((W.setCell ⟨x.b, 10, none⟩ (.pointer (some ⟨y.b, 0, none⟩))).setCell ⟨x.b, 11, none⟩ (.pointer none)) _ _ _ _ _ _ _ _ _ _ _ _ at hM
    generalize (W.setCell ⟨x.b, 10, none⟩ (.pointer (some ⟨y.b, 0, none⟩))).setCell ⟨x.b, 11, none⟩ (.pointer none) = W at *
    have c0 : W.cell? ⟨cb, 2, none⟩ = some (pp (hdB none (p ++ [y]))) := hM.blk.cell 2
    have f0 := hM.blk.frozen 2
    have c1 : W.cell? ⟨cb, 3, none⟩ = some (.pointer (some ⟨y.b, 0, none⟩)) := hM.blk.cell 3
    have f1 := hM.blk.frozen 3
    have c2 : W.cell? ⟨y.b, 11, none⟩ = some (.pointer none) := hM.last.cell 11
    have f2 := hM.last.frozen 11
    go_upto_region 4 with (fail)
    clear c0 f0 c1 f1 c2 f2
    replace hC := hC.trans (Chg.set (p := ⟨y.b, 11, none⟩) W (show Dl _ _ _ from dy) (.pointer (some ⟨x.b, 0, none⟩)))
    replace hM := hM.newer (some x.b) (v := .pointer (some ⟨x.b, 0, none⟩)) rfl
    generalize W.setCell ⟨y.b, 11, none⟩ (.pointer (some ⟨x.b, 0, none⟩)) = W at *
    have c0 : W.cell? ⟨cb, 3, none⟩ = some (.pointer (some ⟨y.b, 0, none⟩)) := hM.blk.cell 3
    have f0 := hM.blk.frozen 3
    go_wp2
    go_end0
    have hM1 := hM.c3_ (pp (some x.b))
    refine ⟨rfl, hC.trans (Chg.set (p := ⟨cb, 3, none⟩) W (show Dl _ _ _ from dcb) _), Mid.li_app (p := (p ++ [y])) (os := none) ?_⟩
    rw [show lsB none (p ++ [y]) = some y.b from lsB_snoc none p y, hdB_app, hdB_any (hdB none [x]) none p y]
    exact hM1
theorem link_any (w : World) (cb m : Nat) (most : Int) (l : List En) (x : En) (xo xn : Option Nat) (h : Li w cb m most l) (hx : Bk w x.b 216 (enC x.f x.wd xo xn)) (hn : x.b ≠ cb ∧ ∀ y ∈ l, y.b ≠ x.b) :
    Calls Try.prog 106 #[.pointer (some ⟨cb, 0, none⟩), .pointer (some ⟨x.b, 0, none⟩)] w fun e w' => e = .returned (.tuple #[]) ∧ Chg (Dl cb (l ++ [x])) w w' ∧ Li w' cb m most (l ++ [x]) :=
  link_mid w w cb m most l x xo xn (h.midE hx hn) (Chg.refl w)
end Go.Proofs.Ytfmkndemkpecpaa
