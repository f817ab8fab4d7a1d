/- Words of our own: phrases of a printed proof that stand a hundred times, each a theorem whose last arguments are proved where it stands (tight2.py). -/
import Derived.Test.YtemfkhafkhkffaaWLast
import Derived.Test.YtemfkhafkhkffaaXWords
namespace Go.Proofs.YtemfkhafkhkffaaW.PrintWords
open Go.RowKit Go.Proofs.YtemfkhafkhkffaaW.PrintLast
theorem xO {p : Prop} [Decidable p] (h : decide p = true := by first | (with_reducible assumption) | assumption) : p := of_decide_eq_true h
theorem xR {w w' : World} {a : Addr} {v : Value} (HB : Aside0 (Below w.heap.size w w')) (h : w.cell? a = some v) : w'.cell? a = some v := (HB.out.cell (World.block_lt_of_cell? w _ h)).trans h
theorem xF : ¬ (false = true) := by decide
theorem xI {α : Type} {c : Prop} [Decidable c] {a : Option α} {r : α} (H : (if c then a else none) = some r) : c ∧ a = some r := by
  by_cases h : c
  · rw [if_pos h] at H; exact ⟨h, H⟩
  · rw [if_neg h] at H; cases H
theorem xJ {α : Type} {c : Prop} [Decidable c] {a : Option α} {r : α} (H : (if c then a else none) = some r) : decide c = true ∧ a = some r := ⟨decide_eq_true (xI H).1, (xI H).2⟩
theorem xH {α β : Type} {o : Option α} {f : α → Option β} {r : β} (H : o.bind f = some r) : ∃ t, Aside0 (o = some t) ∧ f t = some r := by
  obtain ⟨t, h1, h2⟩ := Option.bind_eq_some_iff.mp H
  exact ⟨t, ⟨h1⟩, h2⟩
theorem yR {p q : Prop} (H : Aside0 p) (k : p → q := by intro h_; (with_reducible repeat (first | apply Kd.R_alloc | apply Kd.R_drewN | apply Kd.R_drew)); exact h_) : q := k H.out
theorem yS {p q : Prop} (H : Aside0 p) (k : p → q := by intro h_; (with_reducible repeat (first | apply Kd.S_alloc | apply Kd.S_drewN | apply Kd.S_drew)); exact h_) : q := k H.out
theorem yP {p q : Prop} (H : Aside0 p) (k : p → q := by intro h_; (with_reducible repeat (first | apply Kd.R_alloc | apply Kd.R_drewN | apply Kd.R_drew | apply Kd.S_alloc | apply Kd.S_drewN | apply Kd.S_drew)); (first | (refine Kd.R_mono h_ ?_; intro _ hk; (first | exact True.intro | with_reducible exact hk | with_reducible exact hk.1 | (simp only [ne_eq] at hk ⊢; simp only [hk, not_false_eq_true, and_self]))) | (refine Kd.S_mono h_ ?_; intro _ hk; (first | exact True.intro | with_reducible exact hk | with_reducible exact hk.1 | (simp only [ne_eq] at hk ⊢; simp only [hk, not_false_eq_true, and_self]))))) : q := k H.out
theorem yQ {p q r : Prop} (H : Aside0 p) (B : Aside0 q) (k : p → q → r := by intro h_ b_; (with_reducible repeat (first | apply Kd.R_alloc | apply Kd.R_drewN | apply Kd.R_drew | apply Kd.S_alloc | apply Kd.S_drewN | apply Kd.S_drew)); (first | (apply Kd.R_mono; (focus ((repeat (with_reducible apply Kd.R_far)); exact Kd.R_types h_ b_ (by decide); all_goals (first | exact fun _ hk => hk.2 | exact fun _ hk => hk.1.2))); (intro _ hk; (first | exact True.intro | with_reducible exact hk | with_reducible exact hk.1 | (simp only [ne_eq] at hk ⊢; simp only [hk, not_false_eq_true, and_self])))) | (apply Kd.S_mono; (focus ((repeat (with_reducible apply Kd.S_far)); exact Kd.S_types h_ b_ (by decide); all_goals (first | exact fun _ hk => hk.2 | exact fun _ hk => hk.1.2))); (intro _ hk; (first | exact True.intro | with_reducible exact hk | with_reducible exact hk.1 | (simp only [ne_eq] at hk ⊢; simp only [hk, not_false_eq_true, and_self])))))) : r := k H.out B.out
theorem yQ2 {p q s r : Prop} (H : Aside0 p) (B : Aside0 q) (C : Aside0 s) (k : p → q → s → r := by intro h_ b_ c_; (with_reducible repeat (first | apply Kd.R_alloc | apply Kd.R_drewN | apply Kd.R_drew | apply Kd.S_alloc | apply Kd.S_drewN | apply Kd.S_drew)); (first | (apply Kd.R_mono; (focus ((repeat (with_reducible apply Kd.R_far)); exact Kd.R_types (Kd.R_types h_ b_ (by decide)) c_ (by decide); all_goals (first | exact fun _ hk => hk.2 | exact fun _ hk => hk.1.2))); (intro _ hk; (first | exact True.intro | with_reducible exact hk | with_reducible exact hk.1 | (simp only [ne_eq] at hk ⊢; simp only [hk, not_false_eq_true, and_self])))) | (apply Kd.S_mono; (focus ((repeat (with_reducible apply Kd.S_far)); exact Kd.S_types (Kd.S_types h_ b_ (by decide)) c_ (by decide); all_goals (first | exact fun _ hk => hk.2 | exact fun _ hk => hk.1.2))); (intro _ hk; (first | exact True.intro | with_reducible exact hk | with_reducible exact hk.1 | (simp only [ne_eq] at hk ⊢; simp only [hk, not_false_eq_true, and_self])))))) : r := k H.out B.out C.out
theorem yC {p q : Prop} (H : Aside0 p) (k : p → q := by intro h_; repeat (first | exact (Kd.R_reads' h_).2.2 | exact (Kd.S_reads' h_).2.2 | (with_reducible refine Kd.C_alloc ?_ _) | (with_reducible refine Kd.C_drewN ?_ _) | (with_reducible refine Kd.C_drew ?_))) : q := k H.out
theorem yB {w : World} {g : Nat} {t : TypeId} {cs : Array Value} (H : Aside0 (w.heap[g]? = some (.cells cs t (0, 0)))) (i : Nat) {v : Option Value} (k : cs[i]? = v := by rfl) : w.cell? ⟨g, i, none⟩ = v := (blk_cell H.out i).trans k
theorem xE {p : Prop} (k : p := by first | exact ⟨rfl, _, World.drewN_drewN _ _ _⟩ | exact ⟨rfl, _, Eq.trans (World.drewN_drewN _ _ _) (congrArg (World.drewN _) (Nat.add_assoc _ _ _))⟩) : p := k
section
variable {P : Program} {ops : Array Oper} {rest : List Oper} {o : Oper} {a : Act} {Q : Exit → Act → World → Prop}
theorem xG {W : World} {cs : Array Value} {t : TypeId}
    (h : ∀ g, g = W.heap.size → ∀ w1, w1.heap[g]? = some (.cells cs t (0, 0)) → Below W.heap.size W w1 → wpList P ops Q rest (a.put o.dst (.pointer (some ⟨g, 0, none⟩))) w1)
    (hgd : o.guard = none := by rfl) (hrun : (execOp a.eval o).run P W = .ok (.value (.pointer (some ⟨W.heap.size, 0, none⟩))) (W.alloc (.cells cs t (0, 0))) := by first | (go_simp; done) | (go_simp; rfl)) : wpList P ops Q (o :: rest) a W :=
  Kd.event_run hgd hrun (h _ rfl _ (blk_new W _) (below_alloc (Below.refl _ _) _))
theorem xL {w : World} (N : Option Tmp) {f : FuncId} {fn : Func} {as : Array Operand} {ts : Array TypeId} (hf : P.funcs[f]? = some fn) (args : Array Value)
    (hop : o.op = .call { callee := .value (.func f), args := as, argTypes := ts })
    (h : Calls P f args w fun e w' => ∃ v, e = .returned v ∧ wpList P ops Q rest (a.put N v) w')
    (hd : o.dst = N := by rfl) (hg : o.guard = none := by rfl) (hname : (fn.name == "runtime.NumGoroutine") = false := by kernel_rfl) (hb : fn.body.isSome = true := by rfl)
    (hargs : as.map a.eval = args := by (try simp only [List.map_toArray, List.map_cons, List.map_nil]); first | done | rfl | (simp only [List.length_drop, List.length_take]; rfl)) : wpList P ops Q (o :: rest) a w :=
  goesL_ N hd hg hf hname hb args hop hargs h
end
end Go.Proofs.YtemfkhafkhkffaaW.PrintWords
