/- Connections (chapter 31): flows as keys, maps keyed by flows, doubly linked entries. Plain words; the laws on the map's operations. -/
import Derived.Test.YtfmkndemkpecpaaFlo
import Derived.Test.YtfmkndemkpecpaaSt
import Derived.Laws.StructEq
import Derived.Maps.Keyed
namespace Go.Proofs.Ytfmkndemkpecpaa
open Go.RowKit Go.ChangeShapes Go.WideShapes
open Go.ChangeMaps (setBlock heap_setBlock_same heap_setBlock_other map_eraseIdx)
set_option linter.unusedVariables false
set_option linter.unusedSimpArgs false

/-- a flow's parts -/
structure Fw where
  s1 : Bool
  h1 : Nat
  l1 : Nat
  s2 : Bool
  h2 : Nat
  l2 : Nat
  sp : Nat
  dp : Nat
  p : Nat
def Fw.c (f : Fw) : List Value := flC f.s1 f.h1 f.l1 f.s2 f.h2 f.l2 f.sp f.dp f.p
def Fw.v (f : Fw) : Value := .agg f.c.toArray
noncomputable instance : DecidableEq Fw := fun _ _ => Classical.propDecidable _
theorem Fw.c_one (f : Fw) : ∀ u ∈ f.c, u.oneCell' = true := flC_one _ _ _ _ _ _ _ _ _
theorem Fw.c_len (f : Fw) : f.c.length = 9 := rfl
theorem szFw (f : Fw) : (Try.prog.info? 29).map (·.size) = some f.c.length := szFl _ _ _ _ _ _ _ _ _
set_option maxRecDepth 100000 in
theorem eqI_fw (d : Nat) (hd : d = 9998 ∨ d = 9999) (w : World) (f g : Fw) : (Op.equalIn (d + 1) 29 f.v g.v).run Try.prog w = .ok (decide (f = g)) w := by
  have hS : Try.prog.underlying 29 = some (.struct (Try.prog.fieldsOf 29)) := by kernel_rfl
  have hp : Try.prog.stoodInHeld 29 = false := by kernel_rfl
  obtain ⟨a1, a2, a3, a4, a5, a6, a7, a8, a9⟩ := f
  obtain ⟨b1, b2, b3, b4, b5, b6, b7, b8, b9⟩ := g
  simp only [Fw.v, Fw.c, flC]
  rcases hd with rfl | rfl
  all_goals
    rw [run_equalIn_agg w _ 29 _ _ hS hp]
    simp only [Program.fieldsOf, Try.underlying29]
    go_simp
    repeat' split
    all_goals (simp_all <;> omega)
theorem eq_fw (w : World) (f g : Fw) : (Op.equal 29 f.v g.v).run Try.prog w = .ok (decide (f = g)) w := eqI_fw 9999 (.inr rfl) w f g
theorem eql_fw (w : World) (f g : Fw) : (binOp .eql 29 f.v g.v).run Try.prog w = .ok (.bool (decide (f = g))) w := by
  have h := eqI_fw 9999 (.inr rfl) w f g
  simp only [Fw.v] at h ⊢
  rw [run_eql_struct, h]
  rfl
theorem neq_fw (w : World) (f g : Fw) : (binOp .neq 29 f.v g.v).run Try.prog w = .ok (.bool (!decide (f = g))) w := by
  have h := eqI_fw 9999 (.inr rfl) w f g
  simp only [Fw.v] at h ⊢
  rw [run_neq_struct, h]
  rfl
theorem Fw.v_inj {f g : Fw} (h : f.v = g.v) : f = g := by
  obtain ⟨a1, a2, a3, a4, a5, a6, a7, a8, a9⟩ := f
  obtain ⟨b1, b2, b3, b4, b5, b6, b7, b8, b9⟩ := g
  simp [Fw.v, Fw.c, flC] at h
  simp only [Fw.mk.injEq]
  obtain ⟨h1, h2, h3, h4, h5, h6, h7, h8, h9⟩ := h
  exact ⟨h1, by omega, by omega, h4, by omega, by omega, by omega, by omega, by omega⟩
theorem check_leaf (w : World) (em : Bool) (n : Nat) (t : TypeId) (v : Value) {d : TypeDesc} (h : Try.prog.underlying t = some d) (hd : (∃ k, d = .int k) ∨ d = .bool) : (Instr.checkKey em (n + 1) t v).run Try.prog w = .ok () w := by
  unfold Instr.checkKey
  simp only [Sem.run_bind, run_underlying h, Result.andThen_ok]
  rcases hd with ⟨k, rfl⟩ | rfl <;> rfl
theorem check_adr (w : World) (em : Bool) (n : Nat) (s : Bool) (a b : Nat) : (Instr.checkKey em (n + 1 + 1) 26 (.agg #[.bool s, .int .u64 (a : Int), .int .u64 (b : Int)])).run Try.prog w = .ok () w := by
  have l1 := fun (v : Value) (w : World) => check_leaf w em n 4 v Try.underlying4 (.inr rfl)
  have l2 := fun (v : Value) (w : World) => check_leaf w em n 24 v Try.underlying24 (.inl ⟨_, rfl⟩)
  unfold Instr.checkKey
  simp only [Sem.run_bind, run_underlying Try.underlying26, Result.andThen_ok]
  simp only [← Array.forIn_toList, List.forIn_cons, List.forIn_nil]
  go_simp
set_option maxRecDepth 100000 in
theorem check_fw (w : World) (em : Bool) (f : Fw) : (Instr.checkKey em 10000 29 f.v).run Try.prog w = .ok () w := by
  have l0 := fun (w : World) (s : Bool) (a b : Nat) => check_adr w em 9997 s a b
  have l1 := fun (v : Value) (w : World) => check_leaf w em 9998 27 v Try.underlying27 (.inl ⟨_, rfl⟩)
  have l2 := fun (v : Value) (w : World) => check_leaf w em 9998 5 v Try.underlying5 (.inl ⟨_, rfl⟩)
  simp only [Nat.reduceAdd] at l0 l1 l2
  simp only [Fw.v, Fw.c, flC]
  unfold Instr.checkKey
  simp only [Sem.run_bind, run_underlying Try.underlying29, Result.andThen_ok]
  simp only [← Array.forIn_toList, List.forIn_cons, List.forIn_nil]
  go_simp
/-- where a flow stands among a map's entries -/
noncomputable def findL (f : Fw) : List (Fw × Value) → Nat → Option (Nat × Value)
  | [], _ => none
  | x :: t, i => if f = x.1 then some (i, x.2) else findL f t (i + 1)
theorem findA_fw (w : World) (f : Fw) : ∀ (L : List (Fw × Value)) (es : List MapEntry) (i : Nat), es.map (fun e => (e.key, e.val)) = L.map (fun x => (x.1.v, x.2)) →
    (Instr.findAsking 29 f.v es i).run Try.prog w = .ok (findL f L i) w
  | [], es, i, h => by
    obtain rfl : es = [] := by simpa using h
    rfl
  | x :: t, [], i, h => by simp at h
  | x :: t, e :: es, i, h => by
    simp only [List.map_cons, List.cons.injEq, Prod.mk.injEq] at h
    obtain ⟨⟨hk, hv⟩, ht⟩ := h
    unfold Instr.findAsking findL
    rw [Sem.run_bind, hk, eq_fw]
    simp only [Result.andThen_ok]
    by_cases hf : f = x.1
    · simp [hf, hv]
    · simp only [hf, decide_false, if_false]
      exact findA_fw w f t es (i + 1) ht
theorem find_fw (w : World) (f : Fw) (L : List (Fw × Value)) (es : List MapEntry) (h : es.map (fun e => (e.key, e.val)) = L.map (fun x => (x.1.v, x.2))) :
    (Instr.findKey 29 f.v es).run Try.prog w = .ok (findL f L 0) w := by
  obtain ⟨fs, hS⟩ : ∃ fs, Try.prog.underlying 29 = some (.struct fs) := ⟨_, Try.underlying29⟩
  unfold Instr.findKey
  rw [Sem.run_bind, run_underlying hS]
  simp only [Result.andThen_ok]
  rcases es with _ | ⟨e, es⟩
  · obtain rfl : L = [] := by simpa using h.symm
    rfl
  · have : Instr.findNow (.struct fs) f.v (e :: es) 0 = none := by
      unfold Instr.findNow Instr.sameNow Fw.v
      rfl
    rw [this]
    exact findA_fw w f L (e :: es) 0 h
theorem eraseIdx_map {α β : Type} (f : α → β) : ∀ (l : List α) (i : Nat), (l.eraseIdx i).map f = (l.map f).eraseIdx i
  | [], _ => rfl
  | x :: t, 0 => rfl
  | x :: t, i + 1 => by simp [eraseIdx_map f t i]
/-- block m is a map whose entries are L, in their order -/
def Mp (w : World) (m : Nat) (L : List (Fw × Value)) : Prop := ∃ es clk, w.heap[m]? = some (.map es clk) ∧ es.toList.map (fun e => (e.key, e.val)) = L.map (fun x => (x.1.v, x.2))
theorem Mp.lt {w : World} {m : Nat} {L : List (Fw × Value)} (h : Mp w m L) : m < w.heap.size := by
  obtain ⟨es, clk, h, _⟩ := h
  by_cases hlt : m < w.heap.size
  · exact hlt
  · rw [Array.getElem?_eq_none (by omega)] at h; cases h
theorem Mp.new (w : World) : Mp (w.alloc (.map #[] 0)) w.heap.size [] := ⟨#[], 0, heap_alloc_new w _, rfl⟩
theorem Mp.block {w w' : World} {m : Nat} {L : List (Fw × Value)} (h : Mp w m L) (hb : w'.heap[m]? = w.heap[m]?) : Mp w' m L := by
  obtain ⟨es, clk, h, hl⟩ := h
  exact ⟨es, clk, hb.trans h, hl⟩
theorem Mp.later {w w' : World} {m : Nat} {L : List (Fw × Value)} (h : Mp w m L) (hb : Below w.heap.size w w') : Mp w' m L := h.block (hb.block m h.lt)
theorem Mp.chg {D : Nat → Prop} {w w' : World} {m : Nat} {L : List (Fw × Value)} (h : Mp w m L) (hc : Chg D w w') (hd : ¬ D m) : Mp w' m L := h.block (hc.block m h.lt hd)
theorem Mp.alloc {w : World} {m : Nat} {L : List (Fw × Value)} (h : Mp w m L) (o : Obj) : Mp (w.alloc o) m L := h.block (Below.heap_alloc w o m h.lt)
theorem Mp.far {w : World} {m : Nat} {L : List (Fw × Value)} (h : Mp w m L) {p : Addr} (hp : m ≠ p.block) (u : Value) : Mp (w.setCell p u) m L := h.block (Below.heap_setCell w p u m hp)
theorem Mp.len {w : World} {m : Nat} {L : List (Fw × Value)} (h : Mp w m L) (ty : TypeId) : (Builtin.len_ #[133] ty #[.map (some m)]).run Try.prog w = .ok (.int .i64 (L.length : Int)) w := by
  obtain ⟨es, clk, hb, hl⟩ := h
  have e1 : es.size = L.length := by have := congrArg List.length hl; simpa using this
  simp [Builtin.len_, run_underlying Try.underlying133, MapKept.run_getObj_map hb, goInt, Result.andThen, e1]
/-- what is at a flow: an entry's address, or nil -/
noncomputable def atL (f : Fw) (L : List (Fw × Value)) : Value := match findL f L 0 with | some x => x.2 | none => .pointer none
theorem Mp.look {w : World} {m : Nat} {L : List (Fw × Value)} (h : Mp w m L) (f : Fw) : (Instr.lookup 133 (.map (some m)) f.v false).run Try.prog w = .ok (atL f L) w := by
  obtain ⟨es, clk, hb, hl⟩ := h
  have hz : (zeroValue 134).run Try.prog w = .ok (.pointer none) w := by kernel_rfl
  unfold atL
  rcases hf : findL f L 0 with _ | ⟨i, v⟩ <;>
    simp [Instr.lookup, run_underlying Try.underlying133, MapKept.run_getObj_map hb, check_fw, find_fw w f L es.toList hl, hf, hz, Result.andThen]
theorem Mp.put {w : World} {m : Nat} {L : List (Fw × Value)} (h : Mp w m L) (f : Fw) (hf : findL f L 0 = none) (v : Value) :
    ∃ w', (Instr.mapUpdate 133 (.map (some m)) f.v v).run Try.prog w = .ok () w' ∧ Mp w' m (L ++ [(f, v)]) ∧ w.grownBy w' (some m) := by
  obtain ⟨es, clk, hb, hl⟩ := h
  refine ⟨setBlock w m (.map (es.push ⟨f.v, v, clk⟩) (clk + 1)), ?_, ⟨_, _, heap_setBlock_same hb _, by simp [hl]⟩, ⟨rfl, rfl, rfl, by simp [setBlock], fun i _ hi => heap_setBlock_other hb _ (fun e => hi (by rw [e]))⟩⟩
  simp [Instr.mapUpdate, run_underlying Try.underlying133, MapKept.run_getObj_map hb, check_fw, find_fw w f L es.toList hl, hf, MapKept.run_setObj_map _ hb, Result.andThen, setBlock]
theorem Mp.drop {w : World} {m : Nat} {L : List (Fw × Value)} (h : Mp w m L) (f : Fw) {i : Nat} {v : Value} (hf : findL f L 0 = some (i, v)) (ty : TypeId) :
    ∃ w', (Builtin.delete_ #[133, 29] ty #[.map (some m), f.v]).run Try.prog w = .ok (.tuple #[]) w' ∧ Mp w' m (L.eraseIdx i) ∧ w.grownBy w' (some m) := by
  obtain ⟨es, clk, hb, hl⟩ := h
  refine ⟨setBlock w m (.map (es.eraseIdxIfInBounds i) clk), ?_, ⟨_, _, heap_setBlock_same hb _, ?_⟩, ⟨rfl, rfl, rfl, by simp [setBlock], fun i _ hi => heap_setBlock_other hb _ (fun e => hi (by rw [e]))⟩⟩
  · simp [Builtin.delete_, run_underlying Try.underlying133, MapKept.run_getObj_map hb, check_fw, find_fw w f L es.toList hl, hf, MapKept.run_setObj_map _ hb, Result.andThen, setBlock]
  · rw [show (es.eraseIdxIfInBounds i).toList = es.toList.eraseIdx i by simp [Array.eraseIdxIfInBounds]; split <;> simp_all [List.eraseIdx_of_length_le], eraseIdx_map, hl, ← eraseIdx_map]
/-- at the operations -/
theorem wpList_look {w : World} {ops : Array Oper} {rest : List Oper} {o : Oper} {a : Act} {Q : Exit → Act → World → Prop} (hg : o.guard = none) (x y : Operand) (hop : o.op = Op.lookup 133 x y false)
    {m : Nat} {L : List (Fw × Value)} (hx : a.eval x = .map (some m)) (f : Fw) (hy : a.eval y = f.v) (h : Mp w m L) (hK : wpList Try.prog ops Q rest (a.put o.dst (atL f L)) w) : wpList Try.prog ops Q (o :: rest) a w := by
  refine wpList_plain hg fun K' hK' => ?_
  unfold Oper.wp
  simp [execOp, hop, hx, hy, h.look f, Result.andThen]
  exact hK' _ _ hK
theorem wpList_put {w : World} {ops : Array Oper} {rest : List Oper} {o : Oper} {a : Act} {Q : Exit → Act → World → Prop} (hg : o.guard = none) (x y z : Operand) (hop : o.op = Op.mapUpdate 133 x y z)
    {m : Nat} {L : List (Fw × Value)} (hx : a.eval x = .map (some m)) (f : Fw) (hy : a.eval y = f.v) (v : Value) (hz : a.eval z = v) (h : Mp w m L) (hf : findL f L 0 = none)
    (hK : ∀ w', Mp w' m (L ++ [(f, v)]) → w.grownBy w' (some m) → wpList Try.prog ops Q rest (a.put o.dst undef) w') : wpList Try.prog ops Q (o :: rest) a w := by
  refine wpList_plain hg fun K' hK' => ?_
  obtain ⟨w', hrun, r1, r2⟩ := h.put f hf v
  unfold Oper.wp
  simp [execOp, hop, hx, hy, hz, hrun, Result.andThen]
  exact hK' _ _ (hK w' r1 r2)
theorem wpList_drop {w : World} {ops : Array Oper} {rest : List Oper} {o : Oper} {a : Act} {Q : Exit → Act → World → Prop} (hg : o.guard = none) (x y : Operand)
    (hop : o.op = Op.call { callee := Callee.builtin Builtin.delete, args := #[x, y], argTypes := #[133, 29] })
    {m : Nat} {L : List (Fw × Value)} (hx : a.eval x = .map (some m)) (f : Fw) (hy : a.eval y = f.v) (h : Mp w m L) {i : Nat} {v : Value} (hf : findL f L 0 = some (i, v))
    (hK : ∀ w', Mp w' m (L.eraseIdx i) → w.grownBy w' (some m) → wpList Try.prog ops Q rest (a.put o.dst (.tuple #[])) w') : wpList Try.prog ops Q (o :: rest) a w := by
  refine wpList_plain hg fun K' hK' => ?_
  obtain ⟨w', hrun, r1, r2⟩ := h.drop f hf o.type
  unfold Oper.wp
  simp [execOp, hop, resolve, invoke, builtin, hx, hy, hrun, Result.andThen]
  exact hK' _ _ (hK w' r1 r2)
theorem wpList_lenM {w : World} {ops : Array Oper} {rest : List Oper} {o : Oper} {a : Act} {Q : Exit → Act → World → Prop} (hg : o.guard = none) (x : Operand)
    (hop : o.op = Op.call { callee := Callee.builtin Builtin.len, args := #[x], argTypes := #[133] })
    {m : Nat} {L : List (Fw × Value)} (hx : a.eval x = .map (some m)) (h : Mp w m L) (hK : wpList Try.prog ops Q rest (a.put o.dst (.int .i64 (L.length : Int))) w) : wpList Try.prog ops Q (o :: rest) a w := by
  refine wpList_plain hg fun K' hK' => ?_
  unfold Oper.wp
  simp [execOp, hop, resolve, invoke, builtin, hx, h.len o.type, Result.andThen]
  exact hK' _ _ hK

/-! ### the list of uses -/
/-- an entry: its flow, its word, its block -/
structure En where
  f : Fw
  wd : Nat
  b : Nat
def pp : Option Nat → Value
  | none => .pointer none
  | some b => .pointer (some ⟨b, 0, none⟩)
def enC (f : Fw) (wd : Nat) (o n : Option Nat) : List Value := f.c ++ [.int .u16 (wd : Int), pp o, pp n]
def hdB (n : Option Nat) : List En → Option Nat
  | [] => n
  | x :: _ => some x.b
def lsB (o : Option Nat) : List En → Option Nat
  | [] => o
  | x :: t => lsB (some x.b) t
theorem lsB_snoc (o : Option Nat) (p : List En) (x : En) : lsB o (p ++ [x]) = some x.b := by
  induction p generalizing o with
  | nil => rfl
  | cons y t ih => exact ih _
theorem lsB_app (o : Option Nat) (p s : List En) : lsB o (p ++ s) = lsB (lsB o p) s := by
  induction p generalizing o with
  | nil => rfl
  | cons y t ih => exact ih _
theorem hdB_app (n : Option Nat) (p s : List En) : hdB n (p ++ s) = hdB (hdB n s) p := by cases p <;> rfl
/-- entries that stand in a row: each tells its neighbours -/
def Seg (w : World) (o : Option Nat) (n : Option Nat) : List En → Prop
  | [] => True
  | x :: t => Bk w x.b 216 (enC x.f x.wd o (hdB n t)) ∧ Seg w (some x.b) n t
theorem Seg.app (w : World) (n : Option Nat) : ∀ (p s : List En) (o : Option Nat), Seg w o n (p ++ s) ↔ Seg w o (hdB n s) p ∧ Seg w (lsB o p) n s
  | [], s, o => by simp [Seg, lsB]
  | x :: t, s, o => by
    simp only [List.cons_append, Seg, lsB, hdB_app, Seg.app w n t s (some x.b)]
    constructor
    · rintro ⟨h1, h2, h3⟩; exact ⟨⟨h1, h2⟩, h3⟩
    · rintro ⟨⟨h1, h2⟩, h3⟩; exact ⟨h1, h2, h3⟩
theorem Seg.keep {w w' : World} {n : Option Nat} : ∀ (l : List En) (o : Option Nat), Seg w o n l → (∀ x ∈ l, w'.heap[x.b]? = w.heap[x.b]?) → Seg w' o n l
  | [], _, _, _ => trivial
  | x :: t, o, h, hk => ⟨(hk x (by simp)).trans h.1, Seg.keep t _ h.2 fun y hy => hk y (by simp [hy])⟩
theorem Seg.lt {w : World} {n : Option Nat} : ∀ (l : List En) (o : Option Nat), Seg w o n l → ∀ x ∈ l, x.b < w.heap.size
  | [], _, _, _, hx => by cases hx
  | y :: t, o, h, x, hx => by
    rcases List.mem_cons.1 hx with rfl | hx
    · exact h.1.lt
    · exact Seg.lt t _ h.2 x hx
/-- the last one's newer neighbour is another -/
theorem Seg.newer {w : World} {n n' : Option Nat} (p : List En) (x : En) (o : Option Nat) (h : Seg w o n (p ++ [x])) (hd : ∀ y ∈ p, y.b ≠ x.b) : Seg (w.setCell ⟨x.b, 11, none⟩ (pp n')) o n' (p ++ [x]) := by
  rw [Seg.app] at h ⊢
  refine ⟨Seg.keep p o h.1 fun y hy => Below.heap_setCell w _ _ _ (hd y hy), ?_, trivial⟩
  have := Bk.set_ h.2.1 11 (pp n')
  exact this
/-- the first one's older neighbour is another -/
theorem Seg.older {w : World} {n o o' : Option Nat} (s : List En) (x : En) (h : Seg w o n (x :: s)) (hd : ∀ y ∈ s, y.b ≠ x.b) : Seg (w.setCell ⟨x.b, 10, none⟩ (pp o')) o' n (x :: s) := by
  refine ⟨?_, Seg.keep s _ h.2 fun y hy => Below.heap_setCell w _ _ _ (hd y hy)⟩
  have := Bk.set_ h.1 10 (pp o')
  exact this
end Go.Proofs.Ytfmkndemkpecpaa
