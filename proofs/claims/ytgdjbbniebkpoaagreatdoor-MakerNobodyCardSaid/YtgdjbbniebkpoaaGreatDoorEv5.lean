/-
  An evaluator of the model's programs over an abstract heap, and its soundness: part Ev5.
-/
import Derived.Test.YtgdjbbniebkpoaaGreatDoorEv1
import GoSem.ClaimFn
/-
  What a function leads to, by a trie: a lighter way to the closed facts of a row over a great program.
-/
namespace Go.Ev

/-- the closure, by a trie of what has been seen -/
def reachT (leads : Nat → List Nat) : Nat → List Nat → Tr Bool → List Nat → List Nat
  | 0, _, _, seen => seen.reverse
  | _ + 1, [], _, seen => seen.reverse
  | n + 1, f :: todo, t, seen => match t.get f with
    | some _ => reachT leads n todo t seen
    | none => reachT leads n (leads f ++ todo) (t.set (some true) f) (f :: seen)
theorem reachT_eq {P : Program} {leads : Nat → List Nat} (hl : ∀ f, leads f = (P.funcs[f]?).elim [] P.leadsTo) : ∀ (n : Nat) (todo : List Nat) (t : Tr Bool) (seen : List Nat), (∀ f, (t.get f).isSome = seen.contains f) →
    reachT leads n todo t seen = P.closureVia n todo seen
  | 0, todo, t, seen, h => by unfold reachT; cases todo <;> rfl
  | n + 1, [], t, seen, h => by unfold reachT; rfl
  | n + 1, f :: todo, t, seen, h => by
    have hf := h f
    simp only [reachT, Program.closureVia]
    split
    · rename_i x hx
      rw [hx] at hf
      rw [if_pos (by rw [← hf]; rfl)]
      exact reachT_eq hl n todo t seen h
    · rename_i hx
      rw [hx] at hf
      rw [if_neg (by rw [← hf]; simp), hl]
      refine reachT_eq hl n _ _ _ fun g => ?_
      rw [Tr.get_set]
      by_cases e : f = g
      · subst e; simp
      · have e' : (g == f) = false := by simp; exact fun x => e x.symm
        rw [if_neg e, h g]
        simp only [List.contains_cons, e', Bool.false_or]

/-- what a function leads to, the function found by a trie -/
def leadsT (P : Program) (ft : Tr Func) (f : Nat) : List Nat := match ft.get f with | some fn => P.leadsTo fn | none => []
theorem leadsT_eq (P : Program) (f : Nat) : leadsT P (Tr.ofList P.funcs.toList 0 .leaf) f = (P.funcs[f]?).elim [] P.leadsTo := by
  unfold leadsT
  have h := Tr.get_ofList P.funcs.toList 0 .leaf f
  simp only [Nat.zero_le, true_and, Nat.zero_add, Nat.sub_zero, Tr.get_leaf] at h
  rw [h]
  split
  · rename_i fn hfn
    split at hfn
    · have : P.funcs[f]? = some fn := by simpa using hfn
      rw [this]; rfl
    · cases hfn
  · rename_i hfn
    split at hfn
    · have : P.funcs[f]? = none := by simpa using hfn
      rw [this]; rfl
    · rename_i hlt
      have : P.funcs[f]? = none := by simp at hlt ⊢; exact hlt
      rw [this]; rfl
theorem closure_of {P : Program} {f : Nat} {L : List Nat} (h : reachT (leadsT P (Tr.ofList P.funcs.toList 0 .leaf)) (1 + (P.funcs.toList.map fun g => (P.leadsTo g).length + 1).sum) [f] .leaf [] = L) : P.closure f = L := by
  rw [← h, reachT_eq (leadsT_eq P) _ _ _ _ fun g => by simp [Tr.get_leaf]]
  rfl
end Go.Ev

/-
  The closed facts of a row that walk what a function leads to.
-/
namespace Go.Ev
theorem ft_get (P : Program) (g : Nat) : P.funcs[g]? = (Tr.ofList P.funcs.toList 0 .leaf).get g := by
  have h := Tr.get_ofList P.funcs.toList 0 .leaf g
  simp only [Nat.zero_le, true_and, Nat.zero_add, Nat.sub_zero, Tr.get_leaf] at h
  rw [h]
  split
  · simp
  · rename_i hlt
    simp at hlt ⊢
    exact hlt
/-- what f leads to -/
def reach (P : Program) (f : Nat) : List Nat := reachT (leadsT P (Tr.ofList P.funcs.toList 0 .leaf)) (1 + (P.funcs.toList.map fun g => (P.leadsTo g).length + 1).sum) [f] .leaf []
theorem closure_eq (P : Program) (f : Nat) : P.closure f = reach P f := closure_of rfl
def inPlaceL (P : Program) (L : List Nat) : List String :=
  L.filterMap fun g => ((Tr.ofList P.funcs.toList 0 .leaf).get g).bind fun fn => if fn.ours || fn.body.isNone || fn.name == "runtime.NumGoroutine" then some fn.name else none
theorem inPlace_eq (P : Program) (f : Nat) : P.inPlace f = inPlaceL P (reach P f) := by
  unfold Program.inPlace inPlaceL
  rw [closure_eq]
  simp only [ft_get]
def unfollowedL (P : Program) (L : List Nat) : Bool :=
  L.any fun g => ((Tr.ofList P.funcs.toList 0 .leaf).get g).any fun fn => match fn.body with | some c => c.unfollowed | none => entryCalls fn
theorem unfollowed_eq (P : Program) (f : Nat) : P.unfollowed f = unfollowedL P (reach P f) := by
  unfold Program.unfollowed unfollowedL
  rw [closure_eq]
  simp only [ft_get]
  rfl
theorem recurses_true {P : Program} {f : Nat} (h : P.unfollowed f = true) : P.recurses f = true := by
  unfold Program.recurses
  rw [h]; rfl
def varsNamedL (P : Program) (L : List Nat) : List String :=
  (((L.flatMap fun g => (((Tr.ofList P.funcs.toList 0 .leaf).get g).bind (·.body)).elim [] Code.globalsNamed).eraseDups).filterMap (fun g => (P.globals[g]?).map (·.name)) ++
   L.filterMap fun g => ((Tr.ofList P.funcs.toList 0 .leaf).get g).bind fun fn => if fn.body.isNone then entryReads.lookup fn.name else none).eraseDups
theorem varsNamed_eq (P : Program) (f : Nat) : P.varsNamed f = varsNamedL P (reach P f) := by
  unfold Program.varsNamed varsNamedL
  rw [closure_eq]
  simp only [ft_get]
end Go.Ev
