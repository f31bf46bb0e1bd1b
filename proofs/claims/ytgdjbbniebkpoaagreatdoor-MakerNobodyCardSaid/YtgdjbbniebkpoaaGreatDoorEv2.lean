/-
  An evaluator of the model's programs over an abstract heap, and its soundness: part Ev2.
-/
import Derived.Test.YtgdjbbniebkpoaaGreatDoorEv1
import Derived.Laws.LoneSync
/-
  Operations that write nothing and make nothing.
-/
namespace Go.Ev

def RR (φ : Phi) : Option (Nat × AV) → Option (Nat × Value) → Prop
  | none, none => True
  | some (i, x), some (j, v) => i = j ∧ VR φ x v
  | _, _ => False

section
variable {C : Ctx} (hC : C.Ok0) {φ : Phi} (w : World)
 include hC
theorem findAsking_ok {kt : TypeId} {k : AV} {k' : Value} (hk : VR φ k k') {es : List (AV × AV × Nat)} {ms : List MapEntry} (hE : ERs φ es ms) :
    ∀ (i : Nat) (r : Option (Nat × AV)), findA C kt k es i = some r → ∃ q, (Instr.findAsking kt k' ms i).run C.P w = .ok q w ∧ RR φ r q := by
  induction hE with
  | nil => intro i r h; simp [findA] at h; subst h; exact ⟨none, by simp [Instr.findAsking], trivial⟩
  | @cons e m es ms he _ ih =>
    intro i r h
    obtain ⟨ek, ev, eb⟩ := e
    simp only [findA] at h
    split at h
    · rename_i hq
      cases h
      refine ⟨some (i, m.val), ?_, rfl, he.2.1⟩
      simp only [Instr.findAsking, Sem.run_bind, aeq_equal hC w hq hk he.1, Result.andThen_ok]; rfl
    · rename_i hq
      obtain ⟨q, h1, h2⟩ := ih (i + 1) r h
      refine ⟨q, ?_, h2⟩
      simp only [Instr.findAsking, Sem.run_bind, aeq_equal hC w hq hk he.1, Result.andThen_ok]
      simpa using h1
    · cases h
theorem sameNow_aeq {kt : TypeId} {D : TypeDesc} (hD : und C kt = some D) {x y : AV} {v u : Value} (hv : VR φ x v) (hu : VR φ y u) {a b : Bool}
    (h : aeq C eqDepth kt x y = some a) (k : Instr.sameNow D v u = some b) : a = b := by
  have _ := hC
  unfold eqDepth aeq at h
  rw [hD] at h
  unfold Instr.sameNow at k
  split at k
  · split at k <;> simp at k
    rename_i hk; subst hk
    cases hv; cases hu
    simp [Tr.bif_eq] at h
    subst h; subst k; rfl
  · cases hv; cases hu
    simp only [Option.some.injEq] at h k
    subst h; subst k
    rw [beq_toListBytes, bytes_beq]
  · cases hv; cases hu
    simp at h k
    subst h; subst k; rfl
  · cases k
theorem findNow_ok {kt : TypeId} {D : TypeDesc} (hD : und C kt = some D) {k : AV} {k' : Value} (hk : VR φ k k') {es : List (AV × AV × Nat)} {ms : List MapEntry} (hE : ERs φ es ms) :
    ∀ (i : Nat) (r : Option (Nat × AV)) (q : Option (Nat × Value)), findA C kt k es i = some r → Instr.findNow D k' ms i = some q → RR φ r q := by
  induction hE with
  | nil => intro i r q h h2; simp [findA] at h; simp [Instr.findNow] at h2; subst h; subst h2; trivial
  | @cons e m es ms he _ ih =>
    intro i r q h h2
    obtain ⟨ek, ev, eb⟩ := e
    simp only [findA] at h
    simp only [Instr.findNow] at h2
    split at h2
    · rename_i hn
      cases h2
      split at h
      · cases h; exact ⟨rfl, he.2.1⟩
      · rename_i hq; have := sameNow_aeq hC hD hk he.1 hq hn; cases this
      · cases h
    · rename_i hn
      split at h
      · rename_i hq; have := sameNow_aeq hC hD hk he.1 hq hn; cases this
      · exact ih _ _ _ h h2
      · cases h
    · cases h2
theorem findKey_ok {kt : TypeId} {k : AV} {k' : Value} (hk : VR φ k k') {es : List (AV × AV × Nat)} {ms : List MapEntry} (hE : ERs φ es ms) {D : TypeDesc} (hD : und C kt = some D)
    {r : Option (Nat × AV)} (h : findA C kt k es 0 = some r) : ∃ q, (Instr.findKey kt k' ms).run C.P w = .ok q w ∧ RR φ r q := by
  unfold Instr.findKey
  simp only [Sem.run_bind, run_und hC hD, Result.andThen_ok]
  cases hn : Instr.findNow D k' ms 0 with
  | some q => exact ⟨q, by simp, findNow_ok hC hD hk hE 0 r q h hn⟩
  | none => simpa using findAsking_ok hC w hk hE 0 r h
end

theorem toN_some {m : Nat} {x : AV} {n : Nat} (h : toN m x = some n) : ∃ k, x = .int k (.ofNat n) ∧ n ≤ m := by
  unfold toN at h
  split at h
  · simp only [Tr.bif_eq] at h
    split at h <;> simp at h
    rename_i hb; subst h
    exact ⟨_, rfl, Nat.le_of_ble_eq_true hb⟩
  · cases h
inductive OVR (φ : Phi) : Option AV → Option Value → Prop
  | none : OVR φ none none
  | some {x : AV} {v : Value} (h : VR φ x v) : OVR φ (some x) (some v)
theorem evalO_ok {φ : Phi} {nt : Nat} {tm : Tr AV} {ts : Array Value} (k : TR φ nt tm ts) {x : Option Operand} {r : Option AV} (h : evalO tm x = some r) : OVR φ r (x.map (evC ts)) := by
  cases x with
  | none => simp [evalO] at h; subst h; exact .none
  | some x =>
    simp only [evalO] at h
    split at h <;> simp at h
    rename_i v hv; subst h
    exact .some (eval_ok k hv)

theorem sliceBound_ok {P : Program} {φ : Phi} {x : AV} {v : Value} {m n m' : Nat} (h : toN m x = some n) (hv : VR φ x v) (hm : m ≤ m') (code : BoundsCode) (w : World) :
    (Instr.sliceBound v m' code).run P w = .ok n w := by
  obtain ⟨k, rfl, hle⟩ := toN_some h
  cases hv
  have h1 : (0 : Int) ≤ Int.ofNat n ∧ Int.ofNat n ≤ (m' : Int) := ⟨by simp, by simp; omega⟩
  simp [Instr.sliceBound, asIntOf]
  intro h2
  exact absurd (by omega : n ≤ m') (by omega)
theorem toN_le {m : Nat} {x : AV} {n : Nat} (h : toN m x = some n) : n ≤ m := let ⟨_, _, h2⟩ := toN_some h; h2
theorem bounds_ok {P : Program} {φ : Phi} {len cap cap' : Nat} {lo hi mx : Option AV} {lo' hi' mx' : Option Value} {l h m : Nat} (hb : bounds len cap lo hi mx = some (l, h, m))
    (h1 : OVR φ lo lo') (h2 : OVR φ hi hi') (h3 : OVR φ mx mx') (hl : len ≤ cap) (hc : cap ≤ cap') (isS : Bool) (w : World) :
    ∃ m', (Instr.sliceBounds isS len cap' lo' hi' mx').run P w = .ok (l, h, m') w ∧ l ≤ h ∧ h ≤ m ∧ m ≤ cap ∧ m ≤ m' ∧ m' ≤ cap' ∧ (mx.isSome = true → m' = m) ∧ (mx = none → m = cap ∧ m' = cap') := by
  unfold bounds at hb
  cases h3 with
  | none =>
    simp only at hb
    cases h2 with
    | none =>
      simp only at hb
      cases h1 with
      | none =>
        simp at hb
        obtain ⟨rfl, rfl, rfl⟩ := hb
        exact ⟨cap', by simp [Instr.sliceBounds], by omega, hl, by omega, hc, by omega, by simp, by simp⟩
      | some hv =>
        simp only at hb
        split at hb <;> simp at hb
        rename_i n hn
        obtain ⟨rfl, rfl, rfl⟩ := hb
        have hle := toN_le hn
        exact ⟨cap', by simp [Instr.sliceBounds, sliceBound_ok hn hv (Nat.le_refl _)], hle, hl, by omega, hc, by omega, by simp, by simp⟩
    | some hw =>
      simp only at hb
      split at hb <;> try (cases hb; done)
      rename_i hh hhe
      have hle := toN_le hhe
      cases h1 with
      | none =>
        simp at hb
        obtain ⟨rfl, rfl, rfl⟩ := hb
        exact ⟨cap', by simp [Instr.sliceBounds, sliceBound_ok hhe hw hc], by omega, hle, by omega, hc, by omega, by simp, by simp⟩
      | some hv =>
        simp only at hb
        split at hb <;> simp at hb
        rename_i n hn
        obtain ⟨rfl, rfl, rfl⟩ := hb
        have hle2 := toN_le hn
        exact ⟨cap', by simp [Instr.sliceBounds, sliceBound_ok hhe hw hc, sliceBound_ok hn hv (Nat.le_refl _)], hle2, hle, by omega, hc, by omega, by simp, by simp⟩
  | some hu =>
    simp only at hb
    split at hb <;> try (cases hb; done)
    rename_i mm hmm
    have hlem := toN_le hmm
    cases h2 with
    | none => simp at hb
    | some hw =>
      simp only at hb
      split at hb <;> try (cases hb; done)
      rename_i hh hhe
      have hle := toN_le hhe
      cases h1 with
      | none =>
        simp at hb
        obtain ⟨rfl, rfl, rfl⟩ := hb
        exact ⟨mm, by simp [Instr.sliceBounds, sliceBound_ok hmm hu hc, sliceBound_ok hhe hw (Nat.le_refl _)], by omega, hle, hlem, by omega, by omega, by simp, by simp⟩
      | some hv =>
        simp only at hb
        split at hb <;> simp at hb
        rename_i n hn
        obtain ⟨rfl, rfl, rfl⟩ := hb
        have hle2 := toN_le hn
        exact ⟨mm, by simp [Instr.sliceBounds, sliceBound_ok hmm hu hc, sliceBound_ok hhe hw (Nat.le_refl _), sliceBound_ok hn hv (Nat.le_refl _)], hle2, hle, hlem, by omega, by omega, by simp, by simp⟩

theorem args_ok {φ : Phi} {nt : Nat} {tm : Tr AV} {ts : Array Value} (k : TR φ nt tm ts) : ∀ {l : List Operand} {r : List AV}, mapO (eval tm) l = some r → LR φ r (l.map (evC ts))
  | [], r, h => by simp [mapO] at h; subst h; exact .nil
  | x :: xs, r, h => by
    simp only [mapO] at h
    cases hx : eval tm x with
    | none => simp [hx] at h
    | some y =>
      cases hr : mapO (eval tm) xs with
      | none => simp [hx, hr] at h
      | some ys => simp [hx, hr] at h; subst h; exact .cons (eval_ok k hx) (args_ok k hr)

/-- numbered parts -/
inductive PRs (φ : Phi) : List (Nat × AV) → List (Nat × Value) → Prop
  | nil : PRs φ [] []
  | cons {i : Nat} {x : AV} {v : Value} {xs : List (Nat × AV)} {vs : List (Nat × Value)} (h : VR φ x v) (t : PRs φ xs vs) : PRs φ ((i, x) :: xs) ((i, v) :: vs)
theorem parts_ok {φ : Phi} {nt : Nat} {tm : Tr AV} {ts : Array Value} (k : TR φ nt tm ts) {ps : Array (Nat × Operand)} {r : List (Nat × AV)} (h : parts tm ps = some r) :
    PRs φ r (ps.map fun (i, x) => (i, evC ts x)).toList := by
  rw [Array.toList_map]
  unfold parts at h
  generalize ps.toList = l at h ⊢
  clear ps
  induction l generalizing r with
  | nil => simp [mapO] at h; subst h; exact .nil
  | cons p l ih =>
    obtain ⟨i, x⟩ := p
    simp only [mapO] at h
    cases hx : eval tm x with
    | none => simp [hx] at h
    | some y =>
      simp only [hx] at h
      split at h <;> simp at h
      rename_i ys hr
      subst h
      exact .cons (eval_ok k hx) (ih hr)
theorem over_some {α : Type} {l xs r : List α} {off : Nat} (h : over l off xs = some r) : off + xs.length ≤ l.length ∧ r = l.take off ++ (xs ++ l.drop (off + xs.length)) := by
  unfold over at h
  simp only [Tr.bif_eq] at h
  split at h <;> simp at h
  rename_i hb
  exact ⟨Nat.le_of_ble_eq_true hb, h.symm⟩
theorem over_length {α : Type} {l xs r : List α} {off : Nat} (h : over l off xs = some r) : r.length = l.length := by
  obtain ⟨h1, h2⟩ := over_some h
  subst h2
  simp; omega
theorem fold_set : ∀ (vs : List Value) (off j : Nat) (cs : Array Value), off + j + vs.length ≤ cs.size →
    ((vs.zipIdx j).foldl (fun cs (x : Value × Nat) => cs.setIfInBounds (off + x.2) x.1) cs).toList = cs.toList.take (off + j) ++ (vs ++ cs.toList.drop (off + j + vs.length))
  | [], off, j, cs, h => by simp
  | v :: vs, off, j, cs, h => by
    simp only [List.zipIdx_cons, List.foldl_cons]
    simp only [List.length_cons] at h
    rw [fold_set vs off (j + 1) _ (by simp; omega)]
    rw [Array.toList_setIfInBounds]
    have hlt : off + j < cs.toList.length := by simp; omega
    rw [List.take_set, List.drop_set, if_pos (by omega)]
    have e : off + (j + 1) = (off + j) + 1 := by omega
    rw [e, List.take_succ_eq_append_getElem hlt, List.set_append_right _ _ (by simp; omega)]
    simp only [List.length_take, Nat.min_eq_left (Nat.le_of_lt hlt), Nat.sub_self, List.set_cons_zero, List.append_assoc, List.nil_append, List.cons_append, List.length_cons]
    rw [show off + j + 1 + vs.length = off + j + (vs.length + 1) from by omega]
theorem fill_ok {φ : Phi} {place place' : Nat → Option (Nat × Nat)} (hpl : ∀ i r, place i = some r → place' i = some r) : ∀ {ps : List (Nat × AV)} {vs : List (Nat × Value)}, PRs φ ps vs → ∀ {cells : List AV} {cs : Array Value} {r : List AV},
    LR φ cells cs.toList → fillA place cells ps = some r → ∃ out, Instr.fill place' cs vs = some out ∧ LR φ r out.toList
  | _, _, .nil, cells, cs, r, hl, h => by simp [fillA] at h; subst h; exact ⟨cs, by simp [Instr.fill], hl⟩
  | _, _, .cons (i := i) (x := x) (v := v) hv ht, cells, cs, r, hl, h => by
    simp only [fillA] at h
    split at h
    · cases h
    · rename_i off size hpi
      simp only [Tr.bif_eq] at h
      split at h
      · rename_i hb
        have hb := Nat.eq_of_beq_eq_true hb
        split at h
        · rename_i cells' ho
          obtain ⟨o1, o2⟩ := over_some ho
          have hlen := hv.cells.length
          have hcl := hl.length
          have hsz : v.cells.size = x.cells.length := by rw [hlen]; simp
          have hlcs : cs.toList.length = cs.size := by simp
          have hfold := fold_set v.cells.toList off 0 cs (by simp; omega)
          have key : LR φ cells' (v.cells.zipIdx.foldl (fun cs (x : Value × Nat) => cs.setIfInBounds (off + x.2) x.1) cs).toList := by
            have e : (v.cells.zipIdx.foldl (fun cs (x : Value × Nat) => cs.setIfInBounds (off + x.2) x.1) cs) = (v.cells.toList.zipIdx 0).foldl (fun cs (x : Value × Nat) => cs.setIfInBounds (off + x.2) x.1) cs := by
              rw [← Array.foldl_toList, Array.toList_zipIdx]
            rw [e, hfold, o2]
            simp only [Nat.add_zero]
            have : v.cells.toList.length = x.cells.length := hlen.symm
            rw [this]
            exact (hl.take off).append (hv.cells.append (hl.drop _))
          obtain ⟨out, h1, h2⟩ := fill_ok hpl ht key h
          refine ⟨out, ?_, h2⟩
          simp only [Instr.fill, hpl i _ hpi]
          have hc : (v.cells.size ≠ size || decide (off + v.cells.size > cs.size)) = false := by
            simp; omega
          rw [hc]
          simpa using h1
        · cases h
      · cases h
end Go.Ev

/-
  Operations that write nothing and make nothing: the theorem.
-/
namespace Go.Ev
section
variable {C : Ctx} (hC : C.Ok0) {φ : Phi} {H : AH} {w : World} (hH : HR φ H w) {nt : Nat} {tm : Tr AV} {ts : Array Value} (k : TR φ nt tm ts)
 include hC hH k

/-- the machine's answer: a value that the abstract one stands for, nothing else -/
def Ans (C : Ctx) (φ : Phi) (w : World) (s : Sem Next) (x : AV) : Prop := ∃ v, s.run C.P w = .ok (.value v) w ∧ VR φ x v
 omit hC hH k in
theorem Ans.of {C : Ctx} {φ : Phi} {w : World} {s : Sem Value} {x : AV} (h : ∃ v, s.run C.P w = .ok v w ∧ VR φ x v) : Ans C φ w (do pure (.value (← s))) x := by
  obtain ⟨v, h1, h2⟩ := h
  exact ⟨v, by simp [h1], h2⟩

theorem pure_load {o : Oper} {t : TypeId} {a : Operand} (ho : o.op = .load t a) {x : AV} (h : apure C tm H o = some x) : Ans C φ w (execOp (evC ts) o) x := by
  unfold apure at h; rw [ho] at h; simp only at h
  unfold execOp; rw [ho]; simp only
  refine Ans.of ?_
  split at h
  · rename_i id off he
    have hv := eval_ok k he
    generalize evC ts a = v at hv ⊢
    cases hv; rename_i p hp
    obtain ⟨v, h1, h2⟩ := loadV_ok hC hH h hp
    exact ⟨v, by simp [Instr.loadAt, Instr.sureAddr, h1], h2⟩
  · rename_i g off he
    have hv := eval_ok k he
    generalize evC ts a = v at hv ⊢
    cases hv
    obtain ⟨v, h1, h2⟩ := loadG_ok hC hH h
    exact ⟨v, by simp [Instr.loadAt, Instr.sureAddr, h1], h2⟩
  · cases h
 omit hC hH in
theorem pure_nilCheck {o : Oper} {a : Operand} (ho : o.op = .nilCheck a) {x : AV} (h : apure C tm H o = some x) : Ans C φ w (execOp (evC ts) o) x := by
  unfold apure at h; rw [ho] at h; simp only at h
  unfold execOp; rw [ho]; simp only
  split at h
  all_goals first
    | (cases h; done)
    | (rename_i he
       have hv := eval_ok k he
       cases h
       generalize evC ts a = v at hv ⊢
       cases hv <;> exact ⟨_, rfl, by constructor <;> assumption⟩)
 omit hC hH k in
theorem eqGuard_nil (P : Program) (w : World) (t : TypeId) (a b : Operand) (hc : isConst a = true ∨ isConst b = true) : (eqGuard .eql t a b .nilIface .nilIface).run P w = .ok () w := by
  unfold eqGuard
  rcases hc with hc | hc
  · cases a <;> simp [isConst] at hc
    rfl
  · cases b <;> simp [isConst] at hc
    cases a <;> rfl
 omit hC hH k in
theorem eqGuardA_nil {C : Ctx} {t : TypeId} {a b : Operand} (h : ¬ eqGuardA C t a b .nilIface .nilIface = true) : isConst a = true ∨ isConst b = true := by
  cases ha : isConst a with
  | true => exact .inl rfl
  | false => exact .inr (by simpa [eqGuardA, ha] using h)
theorem pure_binOp {o : Oper} {op : BinOp} {t yt : TypeId} {a b : Operand} (ho : o.op = .binOp op t a b yt) {x : AV} (h : apure C tm H o = some x) : Ans C φ w (execOp (evC ts) o) x := by
  have _ := hH
  unfold apure at h; rw [ho] at h; simp only at h
  unfold execOp; rw [ho]; simp only
  refine Ans.of ?_
  split at h
  · rename_i k1 n1 k2 n2 he1 he2
    have hv := eval_ok k he1
    have hu := eval_ok k he2
    generalize evC ts a = v at hv ⊢
    generalize evC ts b = u at hu ⊢
    cases hv; cases hu
    obtain ⟨r, h1, h2⟩ := intBin_ok (P := C.P) (φ := φ) op t _ _ _ _ h w
    refine ⟨r, ?_, h2⟩
    simp only [eqGuard, Sem.run_bind]
    split <;> simp [h1]
  · rename_i s1 s2 he1 he2
    have hv := eval_ok k he1
    have hu := eval_ok k he2
    generalize evC ts a = v at hv ⊢
    generalize evC ts b = u at hu ⊢
    cases hv; cases hu
    obtain ⟨r, h1, h2⟩ := strBin_ok (P := C.P) (φ := φ) op t _ _ h w
    refine ⟨r, ?_, h2⟩
    simp only [eqGuard, Sem.run_bind]
    split <;> simp [h1]
  · rename_i x1 x2 hn1 hn2 he1 he2
    simp only [Tr.bif_eq] at h
    split at h
    · cases h
    · rename_i hg
      have hv := eval_ok k he1
      have hu := eval_ok k he2
      generalize evC ts a = v at hv ⊢
      generalize evC ts b = u at hu ⊢
      have hgu : ∀ (op : BinOp), (op = .eql ∨ op = .neq) → ∀ (r : Bool), aeq C eqDepth t x1 x2 = some r → (eqGuard op t a b v u).run C.P w = .ok () w := by
        intro op hop r hr
        have hc : (eqGuard .eql t a b v u).run C.P w = .ok () w := by
          cases hv <;> cases hu <;> first
            | rfl
            | exact eqGuard_nil _ _ _ _ _ (eqGuardA_nil hg)
            | (simp only [eqGuardA, Bool.not_eq_true] at hg; exact run_eqGuard_agg w .eql t a b _ _ hg)
        rcases hop with e | e <;> subst e <;> exact hc
      have hne : ∀ op : BinOp, (op = .eql ∨ op = .neq) → (∃ r, aeq C eqDepth t x1 x2 = some r) → binOp op t v u = (if op = .eql then (do pure (.bool (← Op.equal t v u))) else (do pure (.bool (!(← Op.equal t v u))))) := by
        intro op hop ⟨r, hr⟩
        rcases hop with e | e <;> subst e <;> cases hv <;> cases hu <;> first
          | rfl
          | (exact (hn1 _ _ _ _ rfl rfl).elim)
          | (exact (hn2 _ _ rfl rfl).elim)
      split at h
      · split at h <;> simp at h
        rename_i r hr
        subst h
        refine ⟨.bool r, ?_, .bool r⟩
        simp only [Sem.run_bind, hgu .eql (.inl rfl) r hr, Result.andThen_ok]
        rw [hne .eql (.inl rfl) ⟨r, hr⟩]
        simp [aeq_equal hC w hr hv hu]
      · split at h <;> simp at h
        rename_i r hr
        subst h
        refine ⟨.bool !r, ?_, .bool !r⟩
        simp only [Sem.run_bind, hgu .neq (.inr rfl) r hr, Result.andThen_ok]
        rw [hne .neq (.inr rfl) ⟨r, hr⟩]
        simp [aeq_equal hC w hr hv hu]
      · cases h
  · cases h
 omit hC hH in
theorem pure_unOp {o : Oper} {op : UnOp} {t : TypeId} {a : Operand} (ho : o.op = .unOp op t a) {x : AV} (h : apure C tm H o = some x) : Ans C φ w (execOp (evC ts) o) x := by
  unfold apure at h; rw [ho] at h; simp only at h
  unfold execOp; rw [ho]; simp only
  refine Ans.of ?_
  split at h
  · rename_i he
    have hv := eval_ok k he
    generalize evC ts a = v at hv ⊢
    cases hv; cases h
    exact ⟨_, by simp [Op.unary, Op.intArith, fwrap_eq], .int _ _⟩
  · rename_i he
    have hv := eval_ok k he
    generalize evC ts a = v at hv ⊢
    cases hv
    split at h <;> simp at h
    rename_i r hr; subst h
    exact ⟨_, by simpa [Op.unary] using intBits_ok _ _ _ _ hr w, .int _ _⟩
  · rename_i he
    have hv := eval_ok k he
    generalize evC ts a = v at hv ⊢
    cases hv; cases h
    exact ⟨_, by simp [Op.unary], .bool _⟩
  · cases h

 omit hC hH k in
theorem bytes_of {φ : Phi} : ∀ {l : List AV} {bs : List UInt8} {vs : List Value}, mapO (fun | .int .u8 (.ofNat n) => (some (UInt8.ofNat n) : Option UInt8) | _ => none) l = some bs → LR φ l vs →
    ∃ ns : List Nat, vs = ns.map (fun n => Value.int .u8 (.ofNat n)) ∧ bs = ns.map UInt8.ofNat
  | [], bs, vs, h, hl => by simp [mapO] at h; subst h; cases hl; exact ⟨[], rfl, rfl⟩
  | x :: l, bs, vs, h, hl => by
    cases hl; rename_i v vs hv ht
    simp only [mapO] at h
    split at h
    · cases h
    · rename_i b hb
      split at h <;> simp at h
      rename_i bs' hbs
      subst h
      obtain ⟨ns, h1, h2⟩ := bytes_of hbs ht
      split at hb <;> simp at hb
      rename_i n
      cases hv
      exact ⟨n :: ns, by simp [h1], by simp [h2, hb]⟩
 omit hC hH k in
theorem forBytes {P : Program} {w : World} : ∀ (ns : List Nat) (s : ByteArray),
    (forIn (ns.map (fun n => Value.int .u8 (.ofNat n))) s (fun c (s : ByteArray) => (match c with
      | Value.int .u8 n => pure (ForInStep.yield (s.push (UInt8.ofNat n.toNat)))
      | _ => do
        stuck "bytesToString: byte expected"
        pure (ForInStep.yield s) : Sem (ForInStep ByteArray)))).run P w = .ok ⟨(s.data.toList ++ ns.map UInt8.ofNat).toArray⟩ w
  | [], s => by simp
  | n :: ns, s => by
    simp only [List.map_cons, List.forIn_cons, Sem.run_bind, Sem.run_pure, Result.andThen_ok]
    rw [forBytes ns]
    simp
 omit hC hH k in
theorem run_fromUnsafe {P : Program} {src dst u e : TypeId} {j : TypeInfo} {cells : Nat} (a : Addr) (hs : P.underlying src = some .unsafePointer) (hd : P.underlying dst = some (.pointer u)) (hu : P.info? u = some j)
    (hsh : w.shape? a.block = some (e, cells)) (hlies : liesAt P P.depth e (cells / P.cellsOf e) a.off u 1 = true) :
    (convert src dst (.pointer (some a))).run P w = .ok (.pointer (some a)) w := by
  simp [convert, run_underlying hs, run_underlying hd, Conv.unsafePointer, Conv.seenAt, viewAt, hsh, variablesAt, hlies, sizeOf, typeInfo, hu]
theorem pure_convert {o : Oper} {src dst : TypeId} {a : Operand} (ho : o.op = .convert src dst a) {x : AV} (h : apure C tm H o = some x) : Ans C φ w (execOp (evC ts) o) x := by
  unfold apure at h; rw [ho] at h; simp only at h
  unfold execOp; rw [ho]; simp only
  refine Ans.of ?_
  split at h
  · rename_i d1 q kk n hs hd he
    have hv := eval_ok k he
    generalize evC ts a = v at hv ⊢
    cases hv; cases h
    refine ⟨_, ?_, .int _ _⟩
    simp only [convert, Sem.run_bind, run_und hC hs, run_und hC hd, Result.andThen_ok]
    simp [Conv.intToInt, fwrap_eq]
  · rename_i d1 s hs hd he
    have hv := eval_ok k he
    generalize evC ts a = v at hv ⊢
    cases hv; cases h
    refine ⟨_, ?_, .str _⟩
    simp only [convert, Sem.run_bind, run_und hC hs, run_und hC hd, Result.andThen_ok]
    cases d1 <;> rfl
  · rename_i t id off hs hd he
    have hv := eval_ok k he
    generalize evC ts a = v at hv ⊢
    split at h
    · rename_i n c ce fz hn hg
      simp only [Tr.bif_eq] at h
      split at h <;> simp at h
      rename_i hb
      have hb := Nat.le_of_ble_eq_true hb
      subst h
      cases hv; rename_i p hp
      obtain ⟨q, hq, cs, fr, h1, h2, h3, h4, h5⟩ := hH.ob id _ hg
      have : q = p := by rw [hp] at hq; cases hq; rfl
      subst this
      obtain ⟨_, cv, hcv, _⟩ := h4 off c[off] (List.getElem?_eq_getElem (by omega))
      unfold sizeT at hn
      split at hn <;> simp at hn
      rename_i i hi
      exact ⟨_, run_convert_to_unsafe (und_ok hC hs) (und_ok hC hd) (by rw [hC.tt t i hi]; simp [hn]) (v := cv) (by rw [cell_of h1]; exact hcv), .ptr _ _ _ hp⟩
    · cases h
  · rename_i u id off hs hd he
    have hv := eval_ok k he
    generalize evC ts a = v at hv ⊢
    split at h
    · rename_i s c ce fz hn hg
      simp only [Tr.bif_eq, Bool.and_eq_true] at h
      split at h <;> simp at h
      rename_i hb
      obtain ⟨⟨⟨hb1, hb2⟩, hb3⟩, hb4⟩ := hb
      have hb1 := Nat.eq_of_beq_eq_true hb1
      have hb3 := Nat.eq_of_beq_eq_true hb3
      have hb4 := Nat.le_of_ble_eq_true hb4
      subst hb1
      subst h
      cases hv; rename_i p hp
      obtain ⟨q, hq, cs, fr, h1, h2, h3, h4, h5⟩ := hH.ob id _ hg
      have : q = p := by rw [hp] at hq; cases hq; rfl
      subst this
      unfold sizeT at hn
      split at hn <;> simp at hn
      rename_i i hi
      have hi' := hC.tt u i hi
      have hbase : q.base = 0 := (hH.z id hb2).2 q hp
      have hcell : C.P.cellsOf u = s + 1 := by simp [Program.cellsOf, hi', hn]
      have hmod : off % (s + 1) = 0 := hb3
      refine ⟨_, run_fromUnsafe (j := i) (e := u) (cells := cs.size) _ (und_ok hC hs) (und_ok hC hd) hi' (by simp [World.shape?, h1]) ?_, .ptr _ _ _ hp⟩
      have hd0 : ∃ d, C.P.depth = d + 1 := ⟨2 * (C.P.types.size + Made.depth) + 1, rfl⟩
      obtain ⟨d, hd0⟩ := hd0
      simp only [hbase, Nat.zero_add, hcell]
      rw [hd0]
      unfold liesAt
      rw [Bool.or_eq_true]
      refine .inl ?_
      rw [hd0]
      unfold rowAt
      simp only [hcell]
      rw [if_neg (by omega), hmod]
      have hle : off / (s + 1) + 1 ≤ cs.size / (s + 1) := by
        rw [Nat.le_div_iff_mul_le (by omega), Nat.add_mul, Nat.one_mul]
        have := Nat.div_mul_le_self off (s + 1)
        omega
      have hsame : sameLayout C.P (d + 1) u u = true := by unfold sameLayout; simp
      simp [hle, hsame]
    · cases h
  · rename_i e len cap ex es hs hd he
    split at h <;> simp at h
    rename_i hu; subst h
    have hv := eval_ok k he
    generalize evC ts a = v at hv ⊢
    cases hv
    refine ⟨.string .empty, ?_, .str ByteArray.empty⟩
    simp only [convert, Sem.run_bind, run_und hC hs, run_und hC hd, run_und hC hu, Result.andThen_ok]
    simp [Conv.bytesToString]
  · rename_i e id off len cap ex es hs hd he
    have hv := eval_ok k he
    generalize evC ts a = v at hv ⊢
    split at h
    · rename_i c ce fz hu hg
      split at h
      · rename_i l hsub
        split at h <;> simp at h
        rename_i bs hbs
        subst h
        cases hv
        rename_i a' cap' hl hc hx ha
        simp only [convert, Sem.run_bind, run_und hC hs, run_und hC hd, run_und hC hu, Result.andThen_ok]
        simp only [Conv.bytesToString, Sem.run_bind]
        by_cases h0 : len = 0
        · subst h0
          obtain ⟨hsl, _, _⟩ := sub_some hsub
          simp at hsl; subst hsl
          simp [mapO] at hbs; subst hbs
          refine ⟨.string .empty, ?_, .str ByteArray.empty⟩
          simp [loadCells, loadCellsFrom]
        · obtain ⟨p, hp, rfl, _⟩ := ha (by omega)
          obtain ⟨vs, h1, h2, h3⟩ := read_cells hH hg hp hsub
          obtain ⟨ns, h4, h5⟩ := bytes_of hbs h2
          refine ⟨.string ⟨(ns.map UInt8.ofNat).toArray⟩, ?_, by have := VR.str (φ := φ) ⟨(ns.map UInt8.ofNat).toArray⟩; simpa [h5] using this⟩
          rw [h3 C.P w rfl, h4]
          simp only [Result.andThen_ok]
          rw [← Array.forIn_toList]
          have := forBytes (P := C.P) (w := w) ns ByteArray.empty
          simp only [List.toList_toArray] at this ⊢
          refine (congrArg (fun r => Result.andThen r _) this).trans ?_
          simp
      · cases h
    · cases h
  · cases h
 omit hH in
theorem pure_makeInterface {o : Oper} {t : TypeId} {a : Operand} (ho : o.op = .makeInterface t a) {x : AV} (h : apure C tm H o = some x) : Ans C φ w (execOp (evC ts) o) x := by
  unfold apure at h; rw [ho] at h; simp only at h
  unfold execOp; rw [ho]; simp only
  refine Ans.of ?_
  split at h
  · cases h
  · rename_i d v hn hd he
    cases h
    have hv := eval_ok k he
    refine ⟨_, ?_, .iface _ _ _ hv⟩
    simp only [Instr.makeInterface, Sem.run_bind, run_und hC hd, Result.andThen_ok]
    cases d <;> first | rfl | (exact absurd rfl (hn _))
  · cases h
end
end Go.Ev

/-
  Operations that write nothing and make nothing: the rest, and all of them.
-/
namespace Go.Ev
section
variable {C : Ctx} (hC : C.Ok0) {φ : Phi} {H : AH} {w : World} (hH : HR φ H w) {nt : Nat} {tm : Tr AV} {ts : Array Value} (k : TR φ nt tm ts)
 include hC hH k

theorem pure_slice {o : Oper} {t : TypeId} {a : Operand} {lo hi mx : Option Operand} (ho : o.op = .slice t a lo hi mx) {x : AV} (h : apure C tm H o = some x) : Ans C φ w (execOp (evC ts) o) x := by
  have _ := hH
  unfold apure at h; rw [ho] at h; simp only at h
  unfold execOp; rw [ho]; simp only
  refine Ans.of ?_
  split at h
  · rename_i s lo' hi' ht he hlo hhi hmx
    have hv := eval_ok k he
    have o1 := evalO_ok k hlo
    have o2 := evalO_ok k hhi
    have o3 := evalO_ok k hmx
    generalize evC ts a = v at hv ⊢
    generalize lo.map (evC ts) = lo1 at o1 ⊢
    generalize hi.map (evC ts) = hi1 at o2 ⊢
    generalize mx.map (evC ts) = mx1 at o3 ⊢
    cases o3
    split at h <;> simp at h
    rename_i l hh m hb
    cases hv
    rename_i b
    have hs : b.data.toList.length = b.size := Array.length_toList
    rw [hs] at hb
    obtain ⟨m', h1, h2, h3, h4, _⟩ := bounds_ok (P := C.P) hb o1 o2 .none (Nat.le_refl _) (Nat.le_refl _) false w
    subst h
    refine ⟨.string (b.extract l hh), ?_, ?_⟩
    · simp only [Instr.sliceAt, Sem.run_bind, run_und hC ht, Result.andThen_ok, Instr.slice]
      simp [h1]
    · have e : sliceS b.data.toList l hh = (b.extract l hh).data.toList := by
        rw [ByteArray.data_extract, Array.toList_extract]
        simp [sliceS, List.extract_eq_take_drop]
      rw [e]; exact .str _
  · rename_i e a' len cap ex es lo' hi' mx' ht he hlo hhi hmx
    have hv := eval_ok k he
    have o1 := evalO_ok k hlo
    have o2 := evalO_ok k hhi
    have o3 := evalO_ok k hmx
    generalize evC ts a = v at hv ⊢
    generalize lo.map (evC ts) = lo1 at o1 ⊢
    generalize hi.map (evC ts) = hi1 at o2 ⊢
    generalize mx.map (evC ts) = mx1 at o3 ⊢
    split at h
    · rename_i n l hh m hn hb
      cases hv with
      | sliceNil ex es =>
        simp only at h
        cases h
        obtain ⟨m', h1, h2, h3, h4, h5, h6, _⟩ := bounds_ok (P := C.P) hb o1 o2 o3 (Nat.le_refl _) (Nat.le_refl _) true w
        have e1 : l = 0 := by omega
        have e2 : hh = 0 := by omega
        have e3 : m' = 0 := by omega
        have e4 : m = 0 := by omega
        subst e1; subst e2; subst e3; subst e4
        refine ⟨.slice none 0 0, ?_, .sliceNil _ _⟩
        simp only [Instr.sliceAt, Sem.run_bind, run_und hC ht, Result.andThen_ok, Instr.slice, h1, run_size hC hn]
        simp
      | slice id off len cap ex es ad cap' hl hc hx ha =>
        simp only [Tr.bif_eq] at h
        split at h <;> simp at h
        rename_i hes
        have hes := Nat.eq_of_beq_eq_true hes
        subst hes
        subst h
        obtain ⟨m', h1, h2, h3, h4, h5, h6, h7, h8⟩ := bounds_ok (P := C.P) hb o1 o2 o3 hl hc true w
        refine ⟨.slice (some (if m' = l then ad else ad.add (l * n))) (hh - l) (m' - l), ?_, ?_⟩
        · simp only [Instr.sliceAt, Sem.run_bind, run_und hC ht, Result.andThen_ok, Instr.slice, h1, run_size hC hn]
          simp only [Sem.run_pure, Option.map_some]
          split <;> rfl
        · refine .slice _ _ _ _ _ _ _ _ (by omega) (by omega) ?_ ?_
          · intro hex
            simp only [Bool.or_eq_true] at hex
            rcases hex with hex | hex
            · have := hx hex
              cases mx' with
              | none => obtain ⟨r1, r2⟩ := h8 rfl; omega
              | some _ => have := h7 rfl; omega
            · have := h7 hex; omega
          · intro hpos
            obtain ⟨p, hp, rfl, hS⟩ := ha (by omega)
            refine ⟨p, hp, ?_, ?_⟩
            · rw [if_neg (by omega), Addr.add_none, Nat.add_assoc]
            · rcases hS with hS | hS
              · exact .inl (by simp [hS])
              · refine .inr ?_
                have : (m' - l) * n = m' * n - l * n := Nat.sub_mul _ _ _
                have : m' * n ≤ cap' * n := Nat.mul_le_mul_right _ h6
                have : l * n ≤ m' * n := Nat.mul_le_mul_right _ (by omega)
                omega
    · cases h
  · rename_i kk e id off lo' hi' mx' ht he hlo hhi hmx
    have hv := eval_ok k he
    have o1 := evalO_ok k hlo
    have o2 := evalO_ok k hhi
    have o3 := evalO_ok k hmx
    generalize evC ts a = v at hv ⊢
    generalize lo.map (evC ts) = lo1 at o1 ⊢
    generalize hi.map (evC ts) = hi1 at o2 ⊢
    generalize mx.map (evC ts) = mx1 at o3 ⊢
    split at h
    · rename_i n l hh m hn hb
      simp at h
      subst h
      obtain ⟨m', h1, h2, h3, h4, h5, h6, h7, h8⟩ := bounds_ok (P := C.P) hb o1 o2 o3 (Nat.le_refl _) (Nat.le_refl _) false w
      have hm : m' = m := by
        cases mx' with
        | none => obtain ⟨r1, r2⟩ := h8 rfl; omega
        | some _ => exact h7 rfl
      subst hm
      cases hv; rename_i p hp
      refine ⟨.slice (some (if m' = l then ⟨p.b, p.base + off, none⟩ else (⟨p.b, p.base + off, none⟩ : Addr).add (l * n))) (hh - l) (m' - l), ?_, ?_⟩
      · simp only [Instr.sliceAt, Sem.run_bind, run_und hC ht, Result.andThen_ok, Instr.sureAddr, Sem.run_pure, h1, run_size hC hn]
      · refine .slice _ _ _ _ _ _ _ _ (by omega) (by omega) (fun _ => rfl) fun hpos => ⟨p, hp, ?_, .inl rfl⟩
        rw [if_neg (by omega), Addr.add_none, Nat.add_assoc]
    · cases h
  · cases h

theorem pure_fieldAddr {o : Oper} {s : TypeId} {a : Operand} {f : Nat} (ho : o.op = .fieldAddr s a f) {x : AV} (h : apure C tm H o = some x) : Ans C φ w (execOp (evC ts) o) x := by
  have _ := hH
  unfold apure at h; rw [ho] at h; simp only at h
  unfold execOp; rw [ho]; simp only
  refine Ans.of ?_
  split at h
  · rename_i fs id off hs he
    have hv := eval_ok k he
    generalize evC ts a = v at hv ⊢
    split at h
    · rename_i fd hf
      split at h <;> simp at h
      rename_i n hn
      subst h
      cases hv; rename_i p hp
      refine ⟨.pointer (some ⟨p.b, p.base + (off + fd.offset), none⟩), ?_, .ptr _ _ p hp⟩
      have hf' : fs[f]? = some fd := by simpa using hf
      simp only [Instr.fieldAt, Sem.run_bind, run_und hC hs, Result.andThen_ok, hf', Instr.sureAddr, Sem.run_pure, fieldPlace, run_size hC hn]
      simp [Addr.add_none, Nat.add_assoc]
    · cases h
  · rename_i fs g off hs he
    have hv := eval_ok k he
    generalize evC ts a = v at hv ⊢
    split at h
    · rename_i fd hf
      split at h <;> simp at h
      rename_i n hn
      subst h
      cases hv
      refine ⟨.pointer (some ⟨g, off + fd.offset, none⟩), ?_, .gptr _ _⟩
      have hf' : fs[f]? = some fd := by simpa using hf
      simp only [Instr.fieldAt, Sem.run_bind, run_und hC hs, Result.andThen_ok, hf', Instr.sureAddr, Sem.run_pure, fieldPlace, run_size hC hn]
      simp [Addr.add_none]
    · cases h
  · cases h
theorem pure_field {o : Oper} {t : TypeId} {a : Operand} {f : Nat} (ho : o.op = .field t a f) {x : AV} (h : apure C tm H o = some x) : Ans C φ w (execOp (evC ts) o) x := by
  have _ := hH
  unfold apure at h; rw [ho] at h; simp only at h
  unfold execOp; rw [ho]; simp only
  refine Ans.of ?_
  split at h
  · rename_i fs cs hs he
    have hv := eval_ok k he
    generalize evC ts a = v at hv ⊢
    split at h
    · rename_i fd hf
      cases hv; rename_i vs hvs
      obtain ⟨v, h1, h2⟩ := part_ok hC w hvs h
      have hf' : fs[f]? = some fd := by simpa using hf
      exact ⟨v, by simp [Instr.field, run_und hC hs, hf', asAgg, h1], h2⟩
    · cases h
  · cases h
theorem pure_indexAddr {o : Oper} {t : TypeId} {a i : Operand} (ho : o.op = .indexAddr t a i) {x : AV} (h : apure C tm H o = some x) : Ans C φ w (execOp (evC ts) o) x := by
  have _ := hH
  unfold apure at h; rw [ho] at h; simp only at h
  unfold execOp; rw [ho]; simp only
  refine Ans.of ?_
  split at h
  · rename_i len e id off ik n hs he hi
    have hv := eval_ok k he
    have hu := eval_ok k hi
    generalize evC ts a = v at hv ⊢
    generalize evC ts i = u at hu ⊢
    split at h
    · rename_i sz hsz
      simp only [Tr.bif_eq] at h
      split at h <;> simp at h
      rename_i hb
      have hb := Nat.le_of_ble_eq_true hb
      subst h
      cases hv; rename_i p hp
      cases hu
      refine ⟨.pointer (some ⟨p.b, p.base + (off + n * sz), none⟩), ?_, .ptr _ _ p hp⟩
      have hlt : (0 : Int) ≤ Int.ofNat n ∧ Int.ofNat n < (len : Int) := ⟨by simp, by simp; omega⟩
      simp only [Instr.indexAt, Sem.run_bind, asIntOf, Sem.run_pure, Result.andThen_ok, run_und hC hs, Instr.sureAddr, if_pos hlt, run_size hC hsz]
      simp [Addr.add_none, Nat.add_assoc]
    · cases h
  · rename_i len e g off ik n hs he hi
    have hv := eval_ok k he
    have hu := eval_ok k hi
    generalize evC ts a = v at hv ⊢
    generalize evC ts i = u at hu ⊢
    split at h
    · rename_i sz hsz
      simp only [Tr.bif_eq] at h
      split at h <;> simp at h
      rename_i hb
      have hb := Nat.le_of_ble_eq_true hb
      subst h
      cases hv
      cases hu
      refine ⟨.pointer (some ⟨g, off + n * sz, none⟩), ?_, .gptr _ _⟩
      have hlt : (0 : Int) ≤ Int.ofNat n ∧ Int.ofNat n < (len : Int) := ⟨by simp, by simp; omega⟩
      simp only [Instr.indexAt, Sem.run_bind, asIntOf, Sem.run_pure, Result.andThen_ok, run_und hC hs, Instr.sureAddr, if_pos hlt, run_size hC hsz]
      simp [Addr.add_none]
    · cases h
  · rename_i e id off len cap ex es ik n hs he hi
    have hv := eval_ok k he
    have hu := eval_ok k hi
    generalize evC ts a = v at hv ⊢
    generalize evC ts i = u at hu ⊢
    split at h
    · rename_i sz hsz
      simp only [Tr.bif_eq] at h
      split at h <;> simp at h
      rename_i hb
      have hb := Nat.le_of_ble_eq_true hb
      subst h
      cases hv; rename_i ad cap' hl hc hx ha
      cases hu
      obtain ⟨p, hp, rfl, _⟩ := ha (by omega)
      refine ⟨.pointer (some ⟨p.b, p.base + (off + n * sz), none⟩), ?_, .ptr _ _ p hp⟩
      have hlt : (0 : Int) ≤ Int.ofNat n ∧ Int.ofNat n < (len : Int) := ⟨by simp, by simp; omega⟩
      simp only [Instr.indexAt, Sem.run_bind, asIntOf, Sem.run_pure, Result.andThen_ok, run_und hC hs, if_pos hlt, run_size hC hsz]
      simp [Addr.add_none, Nat.add_assoc]
    · cases h
  · cases h
theorem pure_index {o : Oper} {t : TypeId} {a i : Operand} (ho : o.op = .index t a i) {x : AV} (h : apure C tm H o = some x) : Ans C φ w (execOp (evC ts) o) x := by
  have _ := hH
  unfold apure at h; rw [ho] at h; simp only at h
  unfold execOp; rw [ho]; simp only
  refine Ans.of ?_
  split at h
  · rename_i len e cs ik n hs he hi
    have hv := eval_ok k he
    have hu := eval_ok k hi
    generalize evC ts a = v at hv ⊢
    generalize evC ts i = u at hu ⊢
    split at h
    · rename_i sz hsz
      simp only [Tr.bif_eq] at h
      split at h <;> try (cases h; done)
      rename_i hb
      have hb := Nat.le_of_ble_eq_true hb
      cases hv; rename_i vs hvs
      cases hu
      obtain ⟨v, h1, h2⟩ := part_ok hC w hvs h
      refine ⟨v, ?_, h2⟩
      have hlt : (0 : Int) ≤ Int.ofNat n ∧ Int.ofNat n < (len : Int) := ⟨by simp, by simp; omega⟩
      simp only [Instr.index, Sem.run_bind, asIntOf, Sem.run_pure, Result.andThen_ok, run_und hC hs, if_pos hlt, run_size hC hsz]
      simpa using h1
    · cases h
  · rename_i s ik n hs he hi
    have hv := eval_ok k he
    have hu := eval_ok k hi
    generalize evC ts a = v at hv ⊢
    generalize evC ts i = u at hu ⊢
    split at h <;> simp at h
    rename_i b hb
    subst h
    cases hv; rename_i ba
    cases hu
    refine ⟨_, ?_, .int _ _⟩
    have h0 : (0 : Int) ≤ Int.ofNat n := by simp
    have hb' : ba[n]? = some b := by
      have hlt : n < ba.data.toList.length := by
        rcases Nat.lt_or_ge n ba.data.toList.length with h | h
        · exact h
        · rw [List.getElem?_eq_none h] at hb; cases hb
      have hlt' : n < ba.size := by have : ba.data.toList.length = ba.size := Array.length_toList; omega
      rw [getElem?_pos ba n hlt']
      rw [List.getElem?_eq_getElem hlt] at hb
      injection hb with hb
      rw [← hb]; rfl
    simp only [Instr.index, Sem.run_bind, asIntOf, Sem.run_pure, Result.andThen_ok, run_und hC hs, if_pos h0]
    rw [show (Int.ofNat n).toNat = n from rfl, hb']
    simp
  · cases h
theorem pure_lookup {o : Oper} {t : TypeId} {a i : Operand} {ok : Bool} (ho : o.op = .lookup t a i ok) {x : AV} (h : apure C tm H o = some x) : Ans C φ w (execOp (evC ts) o) x := by
  unfold apure at h; rw [ho] at h; simp only at h
  unfold execOp; rw [ho]; simp only
  refine Ans.of ?_
  split at h
  · rename_i kt et r kk hs he hi
    have hv := eval_ok k he
    have hu := eval_ok k hi
    generalize evC ts a = v at hv ⊢
    generalize evC ts i = u at hu ⊢
    have hes : ∀ es, (match r with | none => some [] | some r => match H.get r with | some (.map es _) => some es | _ => none) = some es →
        ∃ ms : Array MapEntry, ERs φ es ms.toList ∧ ((v = .map none ∧ ms = #[]) ∨ ∃ b cl, v = .map (some b) ∧ (getObj b).run C.P w = .ok (.map ms cl) w) := by
      intro es hes
      cases hv with
      | mapNil => simp at hes; subst hes; exact ⟨#[], .nil, .inl ⟨rfl, rfl⟩⟩
      | map r p hp =>
        simp only at hes
        split at hes <;> simp at hes
        rename_i es' cl hg
        subst hes
        obtain ⟨q, hq, ms, h1, h2⟩ := hH.ob _ _ hg
        have : q = p := by rw [hp] at hq; cases hq; rfl
        subst this
        exact ⟨ms, h2, .inr ⟨q.b, cl, rfl, by simp [getObj, Sem.run, h1]⟩⟩
    split at h
    · cases h
    · rename_i es he'
      obtain ⟨ms, h1, h2⟩ := hes es he'
      simp only [Tr.bif_eq] at h
      split at h
      · rename_i hck
        obtain ⟨D, hD⟩ : ∃ D, und C kt = some D := by
          unfold eqDepth ckA at hck
          split at hck
          · cases hck
          · rename_i D hD; exact ⟨D, hD⟩
        split at h
        · rename_i j y hf
          obtain ⟨q, h3, h4⟩ := findKey_ok hC w hu h1 hD hf
          cases q with
          | none => exact h4.elim
          | some q =>
            obtain ⟨j', v'⟩ := q
            simp only [Option.some.injEq] at h
            refine ⟨if ok then .tuple #[v', .bool true] else v', ?_, ?_⟩
            · unfold Instr.lookup
              simp only [Sem.run_bind, run_und hC hs, Result.andThen_ok]
              rcases h2 with ⟨rfl, rfl⟩ | ⟨b, cl, rfl, hb⟩
              · simp only [Sem.run_bind, Sem.run_pure, Result.andThen_ok, ckA_check hC w hck hu, h3]
              · simp only [Sem.run_bind, Sem.run_pure, hb, Result.andThen_ok, ckA_check hC w hck hu, h3]
            · subst h
              cases ok
              · exact h4.2
              · exact .tuple _ _ (.cons h4.2 (.cons (.bool _) .nil))
        · rename_i hf
          obtain ⟨q, h3, h4⟩ := findKey_ok hC w hu h1 hD hf
          cases q with
          | some q => exact h4.elim
          | none =>
            split at h <;> simp at h
            rename_i z hz
            obtain ⟨zv, hz1, hz2, _⟩ := run_zero hC (φ := φ) hz w
            refine ⟨if ok then .tuple #[zv, .bool false] else zv, ?_, ?_⟩
            · unfold Instr.lookup
              simp only [Sem.run_bind, run_und hC hs, Result.andThen_ok]
              rcases h2 with ⟨rfl, rfl⟩ | ⟨b, cl, rfl, hb⟩
              · simp only [Sem.run_bind, Sem.run_pure, Result.andThen_ok, ckA_check hC w hck hu, h3, hz1]
              · simp only [Sem.run_bind, Sem.run_pure, hb, Result.andThen_ok, ckA_check hC w hck hu, h3, hz1]
            · subst h
              cases ok
              · exact hz2
              · exact .tuple _ _ (.cons hz2 (.cons (.bool _) .nil))
        · cases h
      · cases h
  · cases h
 omit k in
theorem iter_of {r : Nat} {m since : Nat} {seen : List Nat} {stepped : Nat} (hg : H.get r = some (.mapIter m since seen stepped)) {p : Place} (hp : φ r = some p) {es : List (AV × AV × Nat)} {clock : Nat} (hm : H.get m = some (.map es clock)) :
    ∃ pm, ∃ ms : Array MapEntry, φ m = some pm ∧ p.base = 0 ∧ w.heap[p.b]? = some (.mapIter (some pm.b) since seen.toArray stepped) ∧ w.heap[pm.b]? = some (.map ms clock) ∧ ERs φ es ms.toList := by
  have _ := hC
  obtain ⟨q, hq, pm, h1, h2, h3⟩ := hH.ob _ _ hg
  have : q = p := by rw [hp] at hq; cases hq; rfl
  subst this
  obtain ⟨qm, hqm, ms, h4, h5⟩ := hH.ob _ _ hm
  have : qm = pm := by rw [h2] at hqm; cases hqm; rfl
  subst this
  exact ⟨qm, ms, h2, h3, h1, h4, h5⟩
theorem pure_entry {o : Oper} {a : Operand} (ho : o.op = .entry a) {x : AV} (h : apure C tm H o = some x) : Ans C φ w (execOp (evC ts) o) x := by
  unfold apure at h; rw [ho] at h; simp only at h
  unfold execOp; rw [ho]; simp only
  refine Ans.of ?_
  split at h
  · rename_i r he
    have hv := eval_ok k he
    generalize evC ts a = v at hv ⊢
    cases hv; rename_i p hp
    unfold entryA at h
    split at h
    · rename_i m since seen last hg
      split at h
      · rename_i es clock stamp hm hst
        simp only [Tr.bif_eq] at h
        split at h
        · rename_i hc
          have hc := Nat.eq_of_beq_eq_true hc
          subst hc
          split at h <;> simp at h
          rename_i kk vv bb hf
          subst h
          obtain ⟨pm, ms, g1, g2, g3, g4, g5⟩ := iter_of hC hH hg hp hm
          have hfind : ∀ {es : List (AV × AV × Nat)} {ms : List MapEntry}, ERs φ es ms → es.find? (fun e => Nat.beq e.2.2 stamp) = some (kk, vv, bb) → ∃ e, ms.find? (fun e => e.born == stamp) = some e ∧ ER φ (kk, vv, bb) e := by
            intro es ms hE
            induction hE with
            | nil => simp
            | @cons e m es ms hh _ ih =>
              intro hf
              have hbq : (m.born == stamp) = Nat.beq e.2.2 stamp := by
                rw [hh.2.2]
                cases h : Nat.beq e.2.2 stamp with
                | true => have := Nat.eq_of_beq_eq_true h; rw [this]; simp
                | false =>
                  have : e.2.2 ≠ stamp := fun e => by rw [e, Nat.beq_refl] at h; cases h
                  exact beq_eq_false_iff_ne.2 this
              cases hb : Nat.beq e.2.2 stamp with
              | true =>
                rw [List.find?_cons_of_pos (by simpa using hb)] at hf
                cases hf
                exact ⟨m, List.find?_cons_of_pos (by simp only [hbq, hb]), hh⟩
              | false =>
                rw [List.find?_cons_of_neg (by simp [hb])] at hf
                obtain ⟨q, q1, q2⟩ := ih hf
                exact ⟨q, by rw [List.find?_cons_of_neg (by simp only [hbq, hb]; simp)]; exact q1, q2⟩
          obtain ⟨e, e1, e2⟩ := hfind g5 hf
          have e1' : ms.find? (fun e => e.born == stamp) = some e := by
            have hms : ms = ms.toList.toArray := by simp
            rw [hms, List.find?_toArray]; exact e1
          refine ⟨.tuple #[e.key, e.val], ?_, .tuple _ _ (.cons e2.1 (.cons e2.2.1 .nil))⟩
          have hback : seen.toArray.back? = some stamp := by simpa using hst
          simp only [g2, Nat.zero_add, Instr.entry, Sem.run_bind, getObj, Sem.run, g3, Result.andThen_ok, hback, g4, Sem.run_pure]
          simp [e1']
        · cases h
      · cases h
    · cases h
  · cases h
theorem pure_extract {o : Oper} {a : Operand} {i : Nat} (ho : o.op = .extract a i) {x : AV} (h : apure C tm H o = some x) : Ans C φ w (execOp (evC ts) o) x := by
  have _ := hC; have _ := hH
  unfold apure at h; rw [ho] at h; simp only at h
  unfold execOp; rw [ho]; simp only
  refine Ans.of ?_
  split at h
  · rename_i vs he
    have hv := eval_ok k he
    generalize evC ts a = v at hv ⊢
    cases hv; rename_i us hus
    obtain ⟨v, h1, h2⟩ := hus.get h
    have h1' : us[i]? = some v := by simpa using h1
    exact ⟨v, by simp [Instr.extract, h1'], h2⟩
  · cases h
theorem pure_makeFunc {o : Oper} {fn : Fn} {first captured : Array Operand} (ho : o.op = .makeFunc fn first captured) {x : AV} (h : apure C tm H o = some x) : Ans C φ w (execOp (evC ts) o) x := by
  have _ := hC; have _ := hH
  unfold apure at h; rw [ho] at h; simp only at h
  unfold execOp; rw [ho]; simp only
  refine Ans.of ?_
  split at h
  · cases h
  · rename_i fn' a b hn h1 h2
    cases h
    refine ⟨_, rfl, .func _ _ _ _ _ (fun l hl => hn l hl) ?_ ?_⟩
    · rw [Array.toList_map]; exact args_ok k h1
    · rw [Array.toList_map]; exact args_ok k h2
  · cases h
theorem pure_build {o : Oper} {t : TypeId} {ps : Array (Nat × Operand)} (ho : o.op = .build t ps) {x : AV} (h : apure C tm H o = some x) : Ans C φ w (execOp (evC ts) o) x := by
  have _ := hH
  unfold apure at h; rw [ho] at h; simp only at h
  unfold execOp; rw [ho]; simp only
  refine Ans.of ?_
  split at h
  · rename_i z fs l hz hu hp
    obtain ⟨zv, hz1, hz2, it, hit, hzz⟩ := run_zero hC (φ := φ) hz w
    have hps := parts_ok k hp
    split at h
    · rename_i places hpl
      split at h <;> simp at h
      rename_i cs hf
      subst h
      have hpls : ∀ (fs : List Field) (places : List (Nat × Nat)), mapO (fun f : Field => match sizeT C f.type with | some n => some (f.offset, n) | none => none) fs = some places →
          fs.mapM (fun f => (C.P.info? f.type).map fun i => (f.offset, i.size)) = some places := by
        intro fs
        induction fs with
        | nil => intro places h; simp [mapO] at h; subst h; simp
        | cons f fs ih =>
          intro places h
          simp only [mapO] at h
          unfold sizeT at h
          cases hi : C.tt.get f.type with
          | none => simp [hi] at h
          | some i =>
            simp only [hi] at h
            split at h <;> simp at h
            rename_i ys hys
            subst h
            have := ih ys (by unfold sizeT; exact hys)
            simp [List.mapM_cons, hC.tt _ _ hi, this]
      have hm := hpls fs.toList places hpl
      obtain ⟨out, h1, h2⟩ := fill_ok (place := fun i => places[i]?) (place' := fun i => places.toArray[i]?) (fun i r h => by simpa using h) hps hz2.cells hf
      refine ⟨.agg out, ?_, .agg _ _ h2⟩
      refine run_build w t _ out ?_
      unfold Program.built
      simp only [hit, und_ok hC hu, hzz, hm]
      exact h1
    · cases h
  · rename_i z n e l hz hu hp
    obtain ⟨zv, hz1, hz2, it, hit, hzz⟩ := run_zero hC (φ := φ) hz w
    have hps := parts_ok k hp
    split at h
    · rename_i sz hsz
      split at h <;> simp at h
      rename_i cs hf
      subst h
      obtain ⟨out, h1, h2⟩ := fill_ok (place' := fun i => some (i * sz, sz)) (fun i r h => h) hps hz2.cells hf
      refine ⟨.agg out, ?_, .agg _ _ h2⟩
      refine run_build w t _ out ?_
      unfold sizeT at hsz
      split at hsz <;> simp at hsz
      rename_i i hi
      unfold Program.built
      simp only [hit, und_ok hC hu, hzz, hC.tt _ _ hi, hsz]
      exact h1
    · cases h
  · cases h
theorem pure_len {o : Oper} {args : Array Operand} {ats : Array TypeId} (ho : o.op = .call { callee := .builtin .len, args := args, argTypes := ats }) {x : AV} (h : apure C tm H o = some x) : Ans C φ w (execOp (evC ts) o) x := by
  unfold apure at h; rw [ho] at h; simp only at h
  unfold execOp; rw [ho]; simp only [resolve, Sem.run_bind]
  split at h
  · rename_i y ys hm
    have hl := args_ok k hm
    rw [← Array.toList_map] at hl
    generalize args.map (evC ts) = as at hl ⊢
    split at h
    · rename_i t rest hts
      have ht : ats[0]? = some t := by rw [← Array.getElem?_toList, hts]; rfl
      obtain ⟨u, hu1, hu2⟩ := hl.get (i := 0) (x := y) rfl
      have hu1' : as[0]? = some u := by simpa using hu1
      refine Ans.of (s := Builtin.len_ ats o.type as) ?_
      unfold Builtin.len_
      simp only [ht, hu1']
      split at h
      · rename_i s hs
        cases hu2; rename_i b
        simp at h; subst h
        exact ⟨goInt b.size, by simp [run_und hC hs], by exact .int _ _⟩
      · rename_i n e hs
        simp at h; subst h
        exact ⟨goInt n, by cases hu2 <;> simp [run_und hC hs], .int _ _⟩
      · rename_i e a n c ex es hs
        simp at h; subst h
        cases hu2
        · exact ⟨goInt 0, by simp [run_und hC hs], .int _ _⟩
        · exact ⟨goInt n, by simp [run_und hC hs], .int _ _⟩
      · rename_i kt et hs
        simp at h; subst h
        cases hu2
        exact ⟨goInt 0, by simp [run_und hC hs], .int _ _⟩
      · rename_i kt et r hs
        split at h <;> simp at h
        rename_i es cl hg
        subst h
        cases hu2; rename_i p hp
        obtain ⟨q, hq, ms, h1, h2⟩ := hH.ob _ _ hg
        have : q = p := by rw [hp] at hq; cases hq; rfl
        subst this
        have hlen : es.length = ms.size := by rw [h2.length]; simp
        exact ⟨goInt ms.size, by simp [run_und hC hs, getObj, Sem.run, h1], by rw [hlen]; exact .int _ _⟩
      · cases h
    · cases h
  · cases h
theorem pure_cap {o : Oper} {args : Array Operand} {ats : Array TypeId} (ho : o.op = .call { callee := .builtin .cap, args := args, argTypes := ats }) {x : AV} (h : apure C tm H o = some x) : Ans C φ w (execOp (evC ts) o) x := by
  have _ := hH
  unfold apure at h; rw [ho] at h; simp only at h
  unfold execOp; rw [ho]; simp only [resolve, Sem.run_bind]
  split at h
  · rename_i y ys hm
    have hl := args_ok k hm
    rw [← Array.toList_map] at hl
    generalize args.map (evC ts) = as at hl ⊢
    split at h
    · rename_i t rest hts
      have ht : ats[0]? = some t := by rw [← Array.getElem?_toList, hts]; rfl
      obtain ⟨u, hu1, hu2⟩ := hl.get (i := 0) (x := y) rfl
      have hu1' : as[0]? = some u := by simpa using hu1
      refine Ans.of (s := Builtin.cap_ ats o.type as) ?_
      unfold Builtin.cap_
      simp only [ht, hu1']
      split at h
      · rename_i e a n c es hs
        simp at h; subst h
        cases hu2
        · exact ⟨goInt 0, by simp [run_und hC hs], .int _ _⟩
        · rename_i cap' hl hc hx ha
          have := hx rfl
          subst this
          exact ⟨goInt cap', by simp [run_und hC hs], .int _ _⟩
      · rename_i n e hs
        simp at h; subst h
        exact ⟨goInt n, by cases hu2 <;> simp [run_und hC hs], .int _ _⟩
      · cases h
    · cases h
  · cases h
 omit hC hH k in
theorem minmax_ok {P : Program} (mx : Bool) : ∀ {xs : List AV} {vs : List Value}, LR φ xs vs → ∀ {x r : AV} {v : Value}, VR φ x v → minmax mx x xs = some r →
    ∃ u, (vs.foldlM (if mx then Builtin.max2 else Builtin.min2) v).run P w = .ok u w ∧ VR φ r u
  | _, _, .nil, x, r, v, hv, h => by simp [minmax] at h; subst h; exact ⟨v, by simp, hv⟩
  | _, _, .cons (x := y) (v := u) hu ht, x, r, v, hv, h => by
    unfold minmax at h
    split at h
    · rename_i h1 h2; cases h2
    · rename_i kk a yk b rest h1
      injection h1 with h1 h2; subst h1; subst h2
      cases hv; cases hu
      obtain ⟨q, h3, h4⟩ := minmax_ok (P := P) mx ht (.int _ _) h
      refine ⟨q, ?_, h4⟩
      rw [List.foldlM_cons]
      cases mx
      · simp only [Sem.run_bind]
        have e : (Builtin.min2 (.int kk a) (.int yk b)).run P w = .ok (.int kk (if b < a then b else a)) w := by simp [Builtin.min2]
        simp only [Bool.false_eq_true, if_false] at h3 ⊢
        rw [e]
        simpa [Tr.bif_eq] using h3
      · simp only [Sem.run_bind]
        have e : (Builtin.max2 (.int kk a) (.int yk b)).run P w = .ok (.int kk (if b > a then b else a)) w := by simp [Builtin.max2]
        simp only [if_true] at h3 ⊢
        rw [e]
        simpa [Tr.bif_eq] using h3
    · cases h
theorem pure_min {o : Oper} {args : Array Operand} {ats : Array TypeId} (ho : o.op = .call { callee := .builtin .min, args := args, argTypes := ats }) {x : AV} (h : apure C tm H o = some x) : Ans C φ w (execOp (evC ts) o) x := by
  have _ := hC; have _ := hH
  unfold apure at h; rw [ho] at h; simp only at h
  unfold execOp; rw [ho]; simp only [resolve, Sem.run_bind]
  split at h
  · rename_i y ys hm
    have hl := args_ok k hm
    rw [← Array.toList_map] at hl
    generalize args.map (evC ts) = as at hl ⊢
    refine Ans.of (s := Builtin.min_ ats o.type as) ?_
    generalize hal : as.toList = al at hl
    cases hl; rename_i v vs hv ht
    obtain ⟨u, h1, h2⟩ := minmax_ok (P := C.P) (w := w) false ht hv h
    exact ⟨u, by simp only [Builtin.min_, hal]; simpa using h1, h2⟩
  · cases h
theorem pure_max {o : Oper} {args : Array Operand} {ats : Array TypeId} (ho : o.op = .call { callee := .builtin .max, args := args, argTypes := ats }) {x : AV} (h : apure C tm H o = some x) : Ans C φ w (execOp (evC ts) o) x := by
  have _ := hC; have _ := hH
  unfold apure at h; rw [ho] at h; simp only at h
  unfold execOp; rw [ho]; simp only [resolve, Sem.run_bind]
  split at h
  · rename_i y ys hm
    have hl := args_ok k hm
    rw [← Array.toList_map] at hl
    generalize args.map (evC ts) = as at hl ⊢
    refine Ans.of (s := Builtin.max_ ats o.type as) ?_
    generalize hal : as.toList = al at hl
    cases hl; rename_i v vs hv ht
    obtain ⟨u, h1, h2⟩ := minmax_ok (P := C.P) (w := w) true ht hv h
    exact ⟨u, by simp only [Builtin.max_, hal]; simpa using h1, h2⟩
  · cases h

theorem apure_ok {o : Oper} {x : AV} (h : apure C tm H o = some x) : Ans C φ w (execOp (evC ts) o) x := by
  cases ho : o.op with
  | move a =>
    have h' := h
    unfold apure at h; rw [ho] at h; simp only at h
    exact ⟨evC ts a, by simp [execOp, ho], eval_ok k h⟩
  | assign a =>
    have h' := h
    unfold apure at h; rw [ho] at h; simp only at h
    exact ⟨evC ts a, by simp [execOp, ho], eval_ok k h⟩
  | pick c a b =>
    unfold apure at h; rw [ho] at h; simp only at h
    split at h
    · rename_i t hc
      have hv := eval_ok k hc
      have hb : evC ts c = .bool t := by generalize evC ts c = v at hv; cases hv; rfl
      simp only [Tr.bif_eq] at h
      refine ⟨if t then evC ts a else evC ts b, ?_, ?_⟩
      · unfold execOp; rw [ho]; simp [hb, asBool]
      · cases t
        · exact eval_ok k (by simpa using h)
        · exact eval_ok k (by simpa using h)
    · cases h
  | load t a => exact pure_load hC hH k ho h
  | nilCheck a => exact pure_nilCheck k ho h
  | binOp op t a b yt => exact pure_binOp hC hH k ho h
  | unOp op t a => exact pure_unOp k ho h
  | convert s d a => exact pure_convert hC hH k ho h
  | makeInterface t a => exact pure_makeInterface hC k ho h
  | makeFunc f a b => exact pure_makeFunc hC hH k ho h
  | slice t a lo hi mx => exact pure_slice hC hH k ho h
  | fieldAddr s a f => exact pure_fieldAddr hC hH k ho h
  | field t a f => exact pure_field hC hH k ho h
  | indexAddr t a i => exact pure_indexAddr hC hH k ho h
  | index t a i => exact pure_index hC hH k ho h
  | lookup t a i ok => exact pure_lookup hC hH k ho h
  | extract a i => exact pure_extract hC hH k ho h
  | entry a => exact pure_entry hC hH k ho h
  | build t ps => exact pure_build hC hH k ho h
  | call c =>
    obtain ⟨callee, args, ats⟩ := c
    cases callee with
    | builtin b =>
      have h' := h
      unfold apure at h'; rw [ho] at h'; simp only at h'
      cases b with
      | len => exact pure_len hC hH k ho h
      | cap => exact pure_cap hC hH k ho h
      | min => exact pure_min hC hH k ho h
      | max => exact pure_max hC hH k ho h
      | _ => exact absurd h' (by split <;> simp)
    | _ => unfold apure at h; rw [ho] at h; simp at h
  | _ => unfold apure at h; rw [ho] at h; simp at h
end
end Go.Ev

/-
  Operations that make a block.
-/
namespace Go.Ev

def Phi.upd (φ : Phi) (i : Nat) (p : Place) : Phi := fun j => if j = i then some p else φ j
theorem Phi.le_upd {φ : Phi} {i : Nat} (h : φ i = none) (p : Place) : φ.le (φ.upd i p) := by
  intro j q hj
  unfold Phi.upd
  split
  · rename_i e; subst e; rw [h] at hj; cases hj
  · exact hj
theorem Phi.upd_same (φ : Phi) (i : Nat) (p : Place) : φ.upd i p i = some p := by simp [Phi.upd]
theorem Phi.upd_ne {φ : Phi} {i j : Nat} (h : j ≠ i) (p : Place) : φ.upd i p j = φ j := by simp [Phi.upd, h]

/-- one block more, all else as it was -/
structure Grew (w w' : World) : Prop where
  size : w'.heap.size = w.heap.size + 1
  keep : ∀ b, b < w.heap.size → w'.heap[b]? = w.heap[b]?
  os : w'.os = w.os
  tape : w'.tape = w.tape
  output : w'.output = w.output

/-- what an allocation comes to -/
def Made (C : Ctx) (φ : Phi) (w : World) (s : Sem Next) (ob : AObj) (f : Nat → AV) : Prop :=
  ∃ v w' S, s.run C.P w = .ok (.value v) w' ∧ Grew w w' ∧ ∀ id, φ id = none → OR (φ.upd id ⟨w.heap.size, 0, S⟩) ⟨w.heap.size, 0, S⟩ w' ob ∧ VR (φ.upd id ⟨w.heap.size, 0, S⟩) (f id) v

theorem repl_length (z : List AV) : ∀ n, (repl n z).length = n * z.length
  | 0 => by simp [repl]
  | n + 1 => by simp [repl, repl_length z n, Nat.succ_mul, Nat.add_comm]
theorem repl_all {z : List AV} {f : AV → Bool} (h : z.all f = true) : ∀ n, (repl n z).all f = true
  | 0 => rfl
  | n + 1 => by simp only [repl, List.all_append, h, repl_all h n, Bool.and_self]
theorem repl_get (z : List AV) : ∀ (n i : Nat), i < n * z.length → (repl n z)[i]? = z[i % z.length]?
  | 0, i, h => by simp at h
  | n + 1, i, h => by
    simp only [repl]
    rw [Nat.succ_mul] at h
    by_cases hi : i < z.length
    · rw [List.getElem?_append_left hi, Nat.mod_eq_of_lt hi]
    · rw [List.getElem?_append_right (by omega), repl_get z n (i - z.length) (by omega)]
      have : i % z.length = (i - z.length) % z.length := by rw [Nat.mod_eq_sub_mod (by omega)]
      rw [this]
theorem repl_LR {φ : Phi} {z : List AV} {zs : Array Value} (h : LR φ z zs.toList) (n m : Nat) (hm : m = n * z.length) :
    LR φ (repl n z) ((Array.range m).map (zs[· % zs.size]!)).toList := by
  subst hm
  have hl := h.length
  have hs : zs.toList.length = zs.size := by simp
  refine LR.of_get (by simp [repl_length]) fun i x hx => ?_
  have hi : i < n * z.length := by
    rcases Nat.lt_or_ge i (n * z.length) with h | h
    · exact h
    · rw [List.getElem?_eq_none (by rw [repl_length]; exact h)] at hx; cases hx
  rw [repl_get z n i hi] at hx
  obtain ⟨v, h1, h2⟩ := h.get hx
  refine ⟨v, ?_, h2⟩
  have h1' : zs[i % z.length]? = some v := by simpa using h1
  have hz : z.length = zs.size := by omega
  simp only [Array.toList_map, List.getElem?_map, Array.toList_range, List.getElem?_range hi, Option.map_some]
  rw [← hz, getElem!_def, h1']

theorem OR_new {φ : Phi} {xs : List AV} {vs : Array Value} (hl : LR φ xs vs.toList) (ho : xs.all AV.one = true) (w' : World) (b : Nat) (t : TypeId) {fr : Nat × Nat}
    (hg : w'.heap[b]? = some (.cells vs t fr)) (hf : ∀ i, i < vs.size → ¬ (fr.1 ≤ i ∧ i < fr.2)) : OR φ ⟨b, 0, vs.size⟩ w' (.cells xs t false) := by
  have hle := hl.length
  refine ⟨vs, fr, hg, rfl, ?_, ?_, ?_⟩
  · simp at hle ⊢; omega
  · intro i x hx
    obtain ⟨v, h1, h2⟩ := hl.get hx
    refine ⟨?_, v, ?_, h2⟩
    · rw [List.all_eq_true] at ho; exact ho x (List.mem_of_getElem? hx)
    · simpa using h1
  · intro _ i _ hi; exact hf i hi
theorem noFz (i : Nat) : ¬ (((0 : Nat), (0 : Nat)).1 ≤ i ∧ i < ((0 : Nat), (0 : Nat)).2) := by simp

theorem grew_push (w : World) (o : Obj) (d : Nat) : Grew w { w with heap := w.heap.push o, drawn := d } :=
  ⟨by simp, fun b hb => by simp [Array.getElem?_push]; omega, rfl, rfl, rfl⟩

section
variable {C : Ctx} (hC : C.Ok0) {φ : Phi} {w : World} {nt : Nat} {tm : Tr AV} {ts : Array Value} (k : TR φ nt tm ts)
 include hC k
theorem aalloc_ok {o : Oper} {ob : AObj} {f : Nat → AV} (h : aalloc C tm o = some (ob, f)) : Made C φ w (execOp (evC ts) o) ob f := by
  unfold aalloc at h
  split at h
  · rename_i t ho
    split at h
    · rename_i z hz
      simp only [Tr.bif_eq] at h
      split at h <;> simp at h
      rename_i hone
      obtain ⟨rfl, rfl⟩ := h
      obtain ⟨zv, hz1, hz2, _⟩ := run_zero hC (φ := φ) hz w
      refine ⟨.pointer (some ⟨w.heap.size, 0, none⟩), _, zv.cells.size, ?_, grew_push w (.cells zv.cells t) w.drawn, fun id hid => ⟨?_, ?_⟩⟩
      · unfold execOp; rw [ho]
        simp only [Sem.run_bind, Instr.alloc, hz1, Result.andThen_ok, newVar, newRow, run_newObj, Sem.run_pure]
      · exact OR_new (hz2.cells.mono (Phi.le_upd hid _)) hone _ _ _ (by simp) fun i _ => noFz i
      · have := VR.ptr (φ := φ.upd id ⟨w.heap.size, 0, zv.cells.size⟩) id 0 ⟨w.heap.size, 0, zv.cells.size⟩ (Phi.upd_same _ _ _)
        simpa using this
    · cases h
  · rename_i t x ho
    split at h
    · rename_i v he
      simp only [Tr.bif_eq] at h
      split at h <;> simp at h
      rename_i hone
      obtain ⟨rfl, rfl⟩ := h
      have hv := eval_ok k he
      refine ⟨.pointer (some ⟨w.heap.size, 0, none⟩), _, (evC ts x).cells.size, ?_, grew_push w (.cells (evC ts x).cells t) w.drawn, fun id hid => ⟨?_, ?_⟩⟩
      · unfold execOp; rw [ho]
        simp only [Sem.run_bind, Instr.box, Result.andThen_ok, newVar, newRow, run_newObj, Sem.run_pure]
      · exact OR_new (hv.cells.mono (Phi.le_upd hid _)) hone _ _ _ (by simp) fun i _ => noFz i
      · have := VR.ptr (φ := φ.upd id ⟨w.heap.size, 0, (evC ts x).cells.size⟩) id 0 ⟨w.heap.size, 0, (evC ts x).cells.size⟩ (Phi.upd_same _ _ _)
        simpa using this
    · cases h
  · rename_i t len ps ho
    split at h
    · rename_i e l hu hp
      split at h
      · rename_i n z hn hz
        simp only [Tr.bif_eq, Bool.and_eq_true] at h
        split at h
        · rename_i hb
          have hb1 := Nat.le_of_ble_eq_true hb.1
          have hb2 := Nat.eq_of_beq_eq_true hb.2
          split at h
          · rename_i cs hf
            split at h <;> simp at h
            rename_i hone
            obtain ⟨rfl, rfl⟩ := h
            obtain ⟨zv, hz1, hz2, _⟩ := run_zero hC (φ := φ) hz w
            have hps := parts_ok k hp
            have hrep : LR φ (repl len z.cells) ((Array.range (len * n)).map ((if len * n = 0 then #[] else zv.cells)[· % (if len * n = 0 then #[] else zv.cells).size]!)).toList := by
              split
              · rename_i h0
                have : repl len z.cells = [] := List.length_eq_zero_iff.1 (by rw [repl_length, hb2, h0])
                rw [this, h0]; simp; exact .nil
              · exact repl_LR hz2.cells _ _ (by rw [hb2])
            obtain ⟨out, h1, h2⟩ := fill_ok (place' := fun i => some (i * n, n)) (fun i r h => h) hps hrep hf
            refine ⟨.slice (some ⟨w.heap.size, 0, none⟩) len len, _, out.size, ?_, grew_push w (.cells out e) w.drawn, fun id hid => ⟨?_, ?_⟩⟩
            · unfold execOp; rw [ho]
              have hlim : ¬ (len * n > 2 ^ 24) := by omega
              simp only [Sem.run_bind, Instr.buildSlice, run_und hC hu, run_size hC hn, Result.andThen_ok, if_neg hlim, Sem.run_ite, hz1, Sem.run_pure, Result.andThen_ite]
              split
              · rename_i h0
                rw [if_pos h0] at h1
                simp only [h1, Sem.run_bind, newRow, run_newObj, Result.andThen_ok, Sem.run_pure]
              · rename_i h0
                rw [if_neg h0] at h1
                simp only [h1, Sem.run_bind, newRow, run_newObj, Result.andThen_ok, Sem.run_pure]
            · exact OR_new (h2.mono (Phi.le_upd hid _)) hone _ _ _ (by simp) fun i _ => noFz i
            · exact .slice _ _ _ _ _ _ _ _ (Nat.le_refl _) (Nat.le_refl _) (fun _ => rfl) fun _ => ⟨_, Phi.upd_same _ _ _, by simp, .inl rfl⟩
          · cases h
        · cases h
      · cases h
    · cases h
  · rename_i t l c ho
    split at h
    · rename_i e kl nl kc nc hu hel hec
      split at h
      · rename_i i z hi hz
        simp only [Tr.bif_eq, Bool.and_eq_true] at h
        split at h <;> simp at h
        rename_i hb
        obtain ⟨⟨⟨⟨hb1, hb2⟩, hb3⟩, hb4⟩, hone⟩ := hb
        have hb1 := Nat.le_of_ble_eq_true hb1
        have hb2 := Nat.le_of_ble_eq_true hb2
        have hb3 := Nat.le_of_ble_eq_true hb3
        have hb4 := Nat.eq_of_beq_eq_true hb4
        obtain ⟨rfl, rfl⟩ := h
        have hvl : evC ts l = .int kl (.ofNat nl) := by have := eval_ok k hel; generalize evC ts l = v at this; cases this; rfl
        have hvc : evC ts c = .int kc (.ofNat nc) := by have := eval_ok k hec; generalize evC ts c = v at this; cases this; rfl
        obtain ⟨zv, hz1, hz2, _⟩ := run_zero hC (φ := φ) hz w
        have hi' := hC.tt e i hi
        have hwl : IntKind.i64.wrap (Int.ofNat nl) = Int.ofNat nl := wrap_in .i64 _ (by simp) (by simp [kmax]; omega)
        have hwc : IntKind.i64.wrap (Int.ofNat nc) = Int.ofNat nc := wrap_in .i64 _ (by simp) (by simp [kmax]; omega)
        have hmul : i.bytes * nc ≤ 1000000 * 1000000 := Nat.mul_le_mul hb3 hb2
        have hcond : ((decide (Int.ofNat nc < 0) || decide ((i.bytes : Int) * Int.ofNat nc > 2 ^ 48)) || decide (Int.ofNat nl < 0) || decide (Int.ofNat nl > Int.ofNat nc)) = false := by
          have e1 : (i.bytes : Int) * Int.ofNat nc = ((i.bytes * nc : Nat) : Int) := by simp
          have e2 : (2 : Int) ^ 48 = 281474976710656 := by decide
          rw [e1, e2]
          simp; omega
        have hrep : LR φ (repl nc z.cells) ((Array.range (nc * i.size)).map ((if nc * i.size = 0 then #[] else zv.cells)[· % (if nc * i.size = 0 then #[] else zv.cells).size]!)).toList := by
          split
          · rename_i h0
            have : repl nc z.cells = [] := List.length_eq_zero_iff.1 (by rw [repl_length, hb4, h0])
            rw [this, h0]; simp; exact .nil
          · exact repl_LR hz2.cells _ _ (by rw [hb4])
        have hone' : (repl nc z.cells).all AV.one = true := by
          exact repl_all hone nc
        refine ⟨.slice (some ⟨w.heap.size, 0, none⟩) nl nc, _, _, ?_, grew_push w (.cells ((Array.range (nc * i.size)).map ((if nc * i.size = 0 then #[] else zv.cells)[· % (if nc * i.size = 0 then #[] else zv.cells).size]!)) e) w.drawn, fun id hid => ⟨OR_new (hrep.mono (Phi.le_upd hid _)) hone' _ _ _ (by simp) fun i _ => noFz i, ?_⟩⟩
        · unfold execOp; rw [ho]
          simp only [hvl, hvc, Sem.run_bind, Instr.makeSlice, run_und hC hu, Result.andThen_ok, asInt, asIntOf, Sem.run_pure, typeInfo, run_program, hi', hwl, hwc, hcond, Bool.false_eq_true, if_false, run_askRoom, sizeOf]
          have e1 : (Int.ofNat nc).toNat = nc := rfl
          have e2 : (Int.ofNat nl).toNat = nl := rfl
          simp only [e1, e2, Sem.run_ite, Sem.run_bind, hz1, Result.andThen_ite, Result.andThen_ok, Sem.run_pure]
          split
          · rename_i h0
            simp only [Sem.run_bind, newRow, run_newObj, Result.andThen_ok, Sem.run_pure]
          · rename_i h0
            simp only [Sem.run_bind, newRow, run_newObj, Result.andThen_ok, Sem.run_pure]
        · exact .slice _ _ _ _ _ _ _ _ hb1 (Nat.le_refl _) (fun _ => rfl) fun _ => ⟨_, Phi.upd_same _ _ _, by simp, .inl rfl⟩
      · cases h
    · cases h
  · rename_i t r ho
    split at h
    · rename_i kt et hu hr
      simp at h; obtain ⟨rfl, rfl⟩ := h
      have hov := evalO_ok k hr
      generalize hrr : r.map (evC ts) = rr at hov
      cases hov
      refine ⟨.map (some w.heap.size), _, 0, ?_, grew_push w (.map #[] 0) w.drawn, fun id hid => ⟨⟨#[], by simp, .nil⟩, ?_⟩⟩
      · unfold execOp; rw [ho]
        simp [hrr, Instr.makeMap]
      · exact .map id ⟨w.heap.size, 0, 0⟩ (Phi.upd_same _ _ _)
    · rename_i kt et kk nn hu hr
      simp at h; obtain ⟨rfl, rfl⟩ := h
      have hov := evalO_ok k hr
      generalize hrr : r.map (evC ts) = rr at hov
      cases hov; rename_i v hv
      cases hv
      refine ⟨.map (some w.heap.size), _, 0, ?_, grew_push w (.map #[] 0) w.drawn, fun id hid => ⟨⟨#[], by simp, .nil⟩, ?_⟩⟩
      · unfold execOp; rw [ho]
        simp [hrr, Instr.makeMap, run_und hC hu, asInt, asIntOf]
      · exact .map id ⟨w.heap.size, 0, 0⟩ (Phi.upd_same _ _ _)
    · cases h
  · rename_i src dst x ho
    split at h
    · rename_i e s hs hd he
      split at h
      · rename_i hu hsz
        simp at h; obtain ⟨rfl, rfl⟩ := h
        have hv := eval_ok k he
        generalize hvv : evC ts x = v at hv
        cases hv; rename_i b
        have hbl : b.data.toList.length = b.size := Array.length_toList
        generalize hcap : (Question.appendCap b.size 0 e).cut (w.tape w.drawn (.appendCap b.size 0 e)) = cap
        have hcap' : b.size ≤ cap := by rw [← hcap]; simp [Question.cut]
        let cs : Array Value := (b.data.map fun b => Value.int .u8 b.toNat) ++ Array.replicate (cap - b.size) (.int .u8 0)
        have hcs : cs.size = cap := by simp [cs]; have : b.data.size = b.size := rfl; omega
        let w1 : World := { w with heap := w.heap.push (.cells cs e), drawn := w.drawn + 1 }
        have hsh : w1.shape? w.heap.size = some (e, cap) := by simp [World.shape?, w1, hcs]
        let w2 : World := w1.freeze ⟨w.heap.size, cap, none⟩ 1
        have hg2 : w2.heap[w.heap.size]? = some (.cells cs e (cap, cap + 1)) := by
          simp only [w2, World.freeze, w1]
          rw [if_neg (by decide)]
          rw [Array.getElem?_modify, if_pos rfl, Array.getElem?_push_size]
          rfl
        refine ⟨.slice (some ⟨w.heap.size, 0, none⟩) b.size cap, w2, cap, ?_, ⟨?_, ?_, rfl, rfl, rfl⟩, fun id hid => ⟨⟨cs, _, hg2, hcs, ?_, ?_, ?_⟩, ?_⟩⟩
        · unfold execOp; rw [ho]
          simp only [hvv, Sem.run_bind, convert, run_und hC hs, run_und hC hd, run_und hC hu, Result.andThen_ok, Conv.stringToBytes, run_choose, Question.forced, Bool.false_eq_true, if_false, hcap,
            newRow, run_newObj, markStringish, run_shape]
          have : ({ w with heap := w.heap.push (Obj.cells ((b.data.map fun b => Value.int .u8 b.toNat) ++ Array.replicate (cap - b.size) (.int .u8 0)) e), drawn := w.drawn + 1 } : World).shape? w.heap.size = some (e, cap) := hsh
          simp only [this, Sem.run_pure, run_freeze, Result.andThen_ok]
          rfl
        · simp only [w2, World.freeze, w1]
          rw [if_neg (by decide)]
          simp
        · intro b' hb'
          simp only [w2, World.freeze, w1]
          rw [if_neg (by decide)]
          simp only [Array.getElem?_modify]
          rw [if_neg (by omega)]
          simp [Array.getElem?_push]; omega
        · simp; omega
        · intro i x hx
          simp only [List.getElem?_map, Option.map_eq_some_iff] at hx
          obtain ⟨u, hu1, rfl⟩ := hx
          have hi : i < b.data.size := by
            rcases Nat.lt_or_ge i b.data.size with h | h
            · exact h
            · rw [List.getElem?_eq_none (by simpa using h)] at hu1; cases hu1
          refine ⟨rfl, .int .u8 (.ofNat u.toNat), ?_, .int _ _⟩
          simp only [cs, Nat.zero_add]
          rw [Array.getElem?_append_left (by simpa using hi)]
          have : b.data[i]? = some u := by simpa using hu1
          simp [this]
        · intro _ i _ hi
          simp only at hi ⊢
          omega
        · refine .slice _ _ _ _ _ _ _ _ (Nat.le_refl _) (by omega) (by simp) fun _ => ⟨_, Phi.upd_same _ _ _, by simp, .inr (by simp)⟩
      · cases h
    · cases h
  · rename_i t x ho
    split at h
    · rename_i s hs he
      simp at h; obtain ⟨rfl, rfl⟩ := h
      have hv := eval_ok k he
      generalize hvv : evC ts x = v at hv
      cases hv; rename_i b
      refine ⟨.pointer (some ⟨w.heap.size, 0, none⟩), _, 0, ?_, grew_push w (.stringIter b 0) w.drawn, fun id hid => ⟨⟨b, by simp, rfl, rfl⟩, ?_⟩⟩
      · unfold execOp; rw [ho]
        simp [hvv, Instr.range, run_und hC hs]
      · have := VR.ptr (φ := φ.upd id ⟨w.heap.size, 0, 0⟩) id 0 ⟨w.heap.size, 0, 0⟩ (Phi.upd_same _ _ _)
        simpa using this
    · cases h
  · cases h
end
end Go.Ev

/-
  Writing.
-/
namespace Go.Ev

/-- what a step leaves as it was -/
structure Ext (φ : Phi) (H : AH) (w : World) (φ' : Phi) (H' : AH) (w' : World) : Prop where
  ids : ∀ i, i < H.n → φ' i = φ i
  n : H.n ≤ H'.n
  size : w.heap.size ≤ w'.heap.size
  keep : ∀ b, b < w.heap.size → Fgn φ H b → Fgn φ' H' b ∧ w'.heap[b]? = w.heap[b]?
  os : w'.os = w.os
  tape : w'.tape = w.tape
  output : w'.output = w.output
theorem Ext.refl (φ : Phi) (H : AH) (w : World) : Ext φ H w φ H w := ⟨fun _ _ => rfl, Nat.le_refl _, Nat.le_refl _, fun _ _ h => ⟨h, rfl⟩, rfl, rfl, rfl⟩
theorem Ext.trans {φ φ' φ'' : Phi} {H H' H'' : AH} {w w' w'' : World} (h : Ext φ H w φ' H' w') (k : Ext φ' H' w' φ'' H'' w'') : Ext φ H w φ'' H'' w'' where
  ids := fun i hi => (k.ids i (Nat.lt_of_lt_of_le hi h.n)).trans (h.ids i hi)
  n := Nat.le_trans h.n k.n
  size := Nat.le_trans h.size k.size
  keep := fun b hb hf => let ⟨h1, h2⟩ := h.keep b hb hf; let ⟨k1, k2⟩ := k.keep b (Nat.lt_of_lt_of_le hb h.size) h1; ⟨k1, k2.trans h2⟩
  os := k.os.trans h.os
  tape := k.tape.trans h.tape
  output := k.output.trans h.output
theorem Ext.le {φ φ' : Phi} {H H' : AH} {w w' : World} (h : Ext φ H w φ' H' w') (hH : HR φ H w) : φ.le φ' := by
  intro i p hp
  rcases Nat.lt_or_ge i H.n with hi | hi
  · rw [h.ids i hi]; exact hp
  · rw [hH.new i hi] at hp; cases hp
/-- A draw changes nothing. -/
theorem HR.of_heap {φ : Phi} {H : AH} {w w' : World} (h : HR φ H w) (hw : w'.heap = w.heap) : HR φ H w' :=
  ⟨fun i o ho => let ⟨p, h1, h2⟩ := h.ob i o ho; ⟨p, h1, h2.mono (Phi.le_refl _) (by rw [hw])⟩, h.inj, h.new, fun g c hg => by rw [hw]; exact h.gl g c hg, h.z⟩
theorem Ext.of_heap {φ : Phi} {H : AH} {w w' : World} (hw : w'.heap = w.heap) (h1 : w'.os = w.os) (h2 : w'.tape = w.tape) (h3 : w'.output = w.output) : Ext φ H w φ H w' :=
  ⟨fun _ _ => rfl, Nat.le_refl _, by rw [hw]; exact Nat.le_refl _, fun _ _ h => ⟨h, by rw [hw]⟩, h1, h2, h3⟩

/-- one block written -/
structure Wrote (b : Nat) (o : Obj) (w w' : World) : Prop where
  size : w'.heap.size = w.heap.size
  at_ : w'.heap[b]? = some o
  keep : ∀ c, c ≠ b → w'.heap[c]? = w.heap[c]?
  os : w'.os = w.os
  tape : w'.tape = w.tape
  output : w'.output = w.output
  drawn : w'.drawn = w.drawn

theorem AH.get_put (H : AH) (i j : Nat) (o : AObj) : (H.put i o).get j = if i = j then some o else H.get j := by simp [AH.get, AH.put, Tr.get_set]
theorem AH.get_kill (H : AH) (i j : Nat) : (H.kill i).get j = if i = j then none else H.get j := by simp [AH.get, AH.kill, Tr.get_set]
theorem AH.get_new (H : AH) (j : Nat) (o : AObj) : (H.new o).get j = if H.n = j then some o else H.get j := by simp [AH.get, AH.new, Tr.get_set]

theorem HR.wrote {φ : Phi} {H : AH} {w w' : World} (h : HR φ H w) {id : Nat} {p : Place} (hs : (H.get id).isSome = true) (hp : φ id = some p) {o : Obj} (hw : Wrote p.b o w w') {ob : AObj} (ho : OR φ p w' ob) :
    HR φ (H.put id ob) w' ∧ Ext φ H w φ (H.put id ob) w' := by
  have hal : ∀ j, ((H.put id ob).get j).isSome = true → (H.get j).isSome = true := by
    intro j hj
    rw [AH.get_put] at hj
    split at hj
    · rename_i e; subst e; exact hs
    · exact hj
  refine ⟨⟨fun i o' hi => ?_, fun i j q r hi hj => h.inj i j q r (hal i hi) (hal j hj), fun i hi => h.new i hi,
      fun g c hg => let ⟨f1, f2, cs, e, fr, f3, f4⟩ := h.gl g c hg; ⟨fun i q hi hq => f1 i q (hal i hi) hq, by rw [hw.size]; exact f2, cs, e, fr, by rw [hw.keep g fun e => f1 id p hs hp e.symm]; exact f3, f4⟩, h.z⟩,
    ⟨fun _ _ => rfl, Nat.le_refl _, by rw [hw.size]; exact Nat.le_refl _, fun b hb hf => ⟨fun i q hi hq => hf i q (hal i hi) hq, hw.keep b fun e => hf id p hs hp e.symm⟩, hw.os, hw.tape, hw.output⟩⟩
  rw [AH.get_put] at hi
  split at hi
  · rename_i e; cases hi; subst e; exact ⟨p, hp, ho⟩
  · rename_i hne
    obtain ⟨q, hq, hoq⟩ := h.ob i o' hi
    refine ⟨q, hq, hoq.mono (Phi.le_refl _) (hw.keep q.b fun e => hne ?_)⟩
    exact h.inj id i p q hs (by rw [hi]; rfl) hp hq e.symm

theorem setCell_wrote {w : World} {b : Nat} {cs : Array Value} {e : TypeId} {fr : Nat × Nat} (h : w.heap[b]? = some (.cells cs e fr)) (o : Nat) (v : Value) :
    Wrote b (.cells (cs.setIfInBounds o v) e fr) w (w.setCell ⟨b, o, none⟩ v) := by
  refine ⟨by simp [World.setCell], ?_, fun c hc => ?_, rfl, rfl, rfl, rfl⟩
  · simp only [World.setCell]
    rw [Array.getElem?_modify, if_pos rfl, h]
    rfl
  · simp only [World.setCell]
    rw [Array.getElem?_modify, if_neg (fun e => hc e.symm)]

theorem storeCells_wrote {P : Program} : ∀ (vs : List Value) (w : World) (b o i : Nat) (cs : Array Value) (e : TypeId) (fr : Nat × Nat), w.heap[b]? = some (.cells cs e fr) →
    (∀ v ∈ vs, v.oneCell' = true) → o + i + vs.length ≤ cs.size → (∀ j, o + i ≤ j → j < o + i + vs.length → ¬ (fr.1 ≤ j ∧ j < fr.2)) →
    ∃ w' cs', (storeCells ⟨b, o, none⟩ vs i).run P w = .ok () w' ∧ Wrote b (.cells cs' e fr) w w' ∧ cs'.toList = cs.toList.take (o + i) ++ (vs ++ cs.toList.drop (o + i + vs.length))
  | [], w, b, o, i, cs, e, fr, h, _, _, _ => ⟨w, cs, by simp [storeCells], ⟨rfl, h, fun _ _ => rfl, rfl, rfl, rfl, rfl⟩, by simp⟩
  | v :: vs, w, b, o, i, cs, e, fr, h, h1, h2, h3 => by
    simp only [List.length_cons] at h2 h3
    have hc : w.cell? ⟨b, o + i, none⟩ = some (cs[o + i]'(by omega)) := by
      rw [cell_of h, Array.getElem?_eq_getElem (by omega)]
    have hf : w.frozen? ⟨b, o + i, none⟩ = false := by
      have := h3 (o + i) (Nat.le_refl _) (by omega)
      simp only [World.frozen?, h]
      simp only [Bool.and_eq_false_iff, decide_eq_false_iff_not]
      rcases Nat.lt_or_ge (o + i) fr.1 with h | h
      · exact .inl (by omega)
      · exact .inr (fun h' => this ⟨h, h'⟩)
    have hw := setCell_wrote h (o + i) v
    obtain ⟨w', cs', g1, g2, g3⟩ := storeCells_wrote (P := P) vs (w.setCell ⟨b, o + i, none⟩ v) b o (i + 1) (cs.setIfInBounds (o + i) v) e fr hw.at_ (fun u hu => h1 u (.tail _ hu)) (by simp; omega) (fun j hj1 hj2 => h3 j (by omega) (by omega))
    refine ⟨w', cs', ?_, ⟨g2.size.trans hw.size, g2.at_, fun c hc => (g2.keep c hc).trans (hw.keep c hc), g2.os.trans hw.os, g2.tape.trans hw.tape, g2.output.trans hw.output, g2.drawn.trans hw.drawn⟩, ?_⟩
    · simp only [storeCells, Sem.run_bind, Addr.add_none]
      rw [run_store P w _ v .plain (h1 v (.head _)), hc]
      simp only [hf, Bool.false_eq_true, if_false, Result.andThen_ok]
      exact g1
    · rw [g3, Array.toList_setIfInBounds]
      have hlt : o + i < cs.toList.length := by simp; omega
      have e1 : o + (i + 1) = (o + i) + 1 := by omega
      rw [e1, List.take_set, List.drop_set, if_pos (by omega), List.take_succ_eq_append_getElem hlt, List.set_append_right _ _ (by simp; omega)]
      simp only [List.length_take, Nat.min_eq_left (Nat.le_of_lt hlt), Nat.sub_self, List.set_cons_zero, List.append_assoc, List.nil_append, List.cons_append, List.length_cons]
      rw [show o + i + 1 + vs.length = o + i + (vs.length + 1) from by omega]

theorem storeL_ok {P : Program} {φ : Phi} {H H' : AH} {w : World} (hH : HR φ H w) {id off : Nat} {xs : List AV} {vs : List Value} (hl : LR φ xs vs) (h : storeL H id off xs = some H') {p : Place} (hp : φ id = some p) :
    ∃ w', (storeCells ⟨p.b, p.base + off, none⟩ vs).run P w = .ok () w' ∧ HR φ H' w' ∧ Ext φ H w φ H' w' := by
  unfold storeL at h
  split at h
  · rename_i c e hg
    simp only [Tr.bif_eq] at h
    split at h
    · rename_i hone
      split at h <;> simp at h
      rename_i c' ho
      subst h
      obtain ⟨o1, o2⟩ := over_some ho
      have olen := over_length ho
      obtain ⟨q, hq, cs, fr, h1, h2, h3, h4, h5⟩ := hH.ob id _ hg
      have : q = p := by rw [hp] at hq; cases hq; rfl
      subst this
      have hlen := hl.length
      obtain ⟨w', cs', g1, g2, g3⟩ := storeCells_wrote (P := P) vs w q.b (q.base + off) 0 cs e fr h1 (hl.ones hone) (by omega) (fun j hj1 hj2 => h5 rfl j (by omega) (by omega))
      have hsz : cs'.size = cs.size := by
        have := congrArg List.length g3
        simp at this; omega
      have hr := hH.wrote (id := id) (p := q) (by rw [hg]; rfl) hp g2 (ob := .cells c' e false) ⟨cs', fr, g2.at_, by omega, by omega, ?_, fun _ => h5 rfl⟩
      · exact ⟨w', g1, hr⟩
      · intro i x hx
        rw [o2] at hx
        have hget : cs'[q.base + i]? = (cs.toList.take (q.base + off) ++ (vs ++ cs.toList.drop (q.base + off + vs.length)))[q.base + i]? := by
          rw [← Array.getElem?_toList, g3]; simp
        rw [hget]
        have hcl : cs.toList.length = cs.size := by simp
        by_cases hi : i < off
        · rw [List.getElem?_append_left (by simp; omega), List.getElem?_take_of_lt (by omega)] at hx ⊢
          obtain ⟨hx1, v, hv1, hv2⟩ := h4 i x hx
          exact ⟨hx1, v, by simpa using hv1, hv2⟩
        · rw [List.getElem?_append_right (by simp; omega)] at hx ⊢
          simp only [List.length_take] at hx ⊢
          rw [Nat.min_eq_left (by omega)] at hx
          rw [Nat.min_eq_left (by omega)]
          rw [show q.base + i - (q.base + off) = i - off from by omega]
          by_cases hi2 : i - off < xs.length
          · rw [List.getElem?_append_left hi2] at hx
            rw [List.getElem?_append_left (by omega)]
            obtain ⟨v, hv1, hv2⟩ := hl.get hx
            refine ⟨?_, v, hv1, hv2⟩
            rw [List.all_eq_true] at hone; exact hone x (List.mem_of_getElem? hx)
          · rw [List.getElem?_append_right (by omega), List.getElem?_drop] at hx
            rw [List.getElem?_append_right (by omega), List.getElem?_drop]
            obtain ⟨hx1, v, hv1, hv2⟩ := h4 _ x hx
            refine ⟨hx1, v, ?_, hv2⟩
            rw [show q.base + off + vs.length + (i - off - vs.length) = q.base + (off + xs.length + (i - off - xs.length)) from by omega]
            simpa using hv1
    · cases h
  · cases h

/-- what an operation with effects comes to -/
def EffR (C : Ctx) (φ : Phi) (H : AH) (w : World) (s : Sem Next) : Eff → Prop
  | .val v H' => ∃ v' w' φ', (s.run C.P w = .ok (.value v') w' ∨ (s.run C.P w = .ok .skip w' ∧ v' = undef)) ∧ VR φ' v v' ∧ HR φ' H' w' ∧ Ext φ H w φ' H' w'
  | .call f args => ∃ as : Array Value, s.run C.P w = (callFunc f as).run C.P w ∧ LR φ args as.toList
  | .round l args => ∃ p, ∃ as : Array Value, φ l = some p ∧ s.run C.P w = (Instr.yield p.b as).run C.P w ∧ LR φ args as.toList

theorem undef_VR (φ : Phi) : VR φ undefA undef := .tuple _ _ .nil

section
variable {C : Ctx} (hC : C.Ok0) {φ : Phi} {H : AH} {w : World} (hH : HR φ H w) {nt : Nat} {tm : Tr AV} {ts : Array Value} (k : TR φ nt tm ts)
 include hC hH k

theorem eff_store {o : Oper} {t : TypeId} {a x : Operand} (ho : o.op = .store t a x) {E : Eff} (h : aeff C tm H o = some E) : EffR C φ H w (execOp (evC ts) o) E := by
  unfold aeff at h; rw [ho] at h; simp only at h
  split at h
  · rename_i id off v he hx
    split at h <;> simp at h
    rename_i H' hs
    subst h
    have hv := eval_ok k he
    have hu := eval_ok k hx
    generalize hva : evC ts a = av at hv
    cases hv; rename_i p hp
    unfold storeV at hs
    split at hs
    · rename_i n hn
      simp only [Tr.bif_eq] at hs
      split at hs
      · rename_i hb
        have hb := Nat.eq_of_beq_eq_true hb
        obtain ⟨w', g1, g2, g3⟩ := storeL_ok (P := C.P) hH hu.cells hs hp
        refine ⟨undef, w', φ, .inr ⟨?_, rfl⟩, undef_VR φ, g2, g3⟩
        unfold execOp; rw [ho]
        have hsz : ¬ ((evC ts x).cells.size ≠ n) := by
          have := hu.cells.length
          simp at this ⊢; omega
        simp only [Sem.run_bind, hva, Instr.storeAt, Instr.sureAddr, Sem.run_pure, Result.andThen_ok, storeVar, run_size hC hn, Sem.run_ite, if_neg hsz]
        simp [g1]
      · cases hs
    · cases hs
  · cases h

 omit hC hH k in
theorem setObj_wrote {C : Ctx} {w : World} {b : Nat} {o o' : Obj} (h : w.heap[b]? = some o) (hn : ∀ c e f, o ≠ .cells c e f) :
    ∃ w', (setObj b o').run C.P w = .ok () w' ∧ Wrote b o' w w' := by
  have hb : b < w.heap.size := by
    rcases Nat.lt_or_ge b w.heap.size with h' | h'
    · exact h'
    · rw [Array.getElem?_eq_none h'] at h; cases h
  refine ⟨{ w with heap := w.heap.setIfInBounds b o' }, ?_, ⟨by simp, by simp [hb], fun c hc => by rw [Array.getElem?_setIfInBounds, if_neg (fun e => hc e.symm)], rfl, rfl, rfl, rfl⟩⟩
  cases o <;> first | (simp only [setObj, Sem.run, h]; done) | (exact absurd rfl (hn _ _ _))
end
end Go.Ev

/-
  Maps that are written; calls.
-/
namespace Go.Ev

theorem listBeq_get {α : Type} {f : α → α → Bool} : ∀ {xs ys : List α}, listBeq f xs ys = true → xs.length = ys.length ∧ ∀ (i : Nat) (x y : α), xs[i]? = some x → ys[i]? = some y → f x y = true
  | [], [], _ => ⟨rfl, by simp⟩
  | [], _ :: _, h => by simp [listBeq] at h
  | _ :: _, [], h => by simp [listBeq] at h
  | x :: xs, y :: ys, h => by
    simp only [listBeq, Tr.bif_eq] at h
    split at h
    · rename_i hf
      obtain ⟨h1, h2⟩ := listBeq_get h
      refine ⟨by simp [h1], fun i a b ha hb => ?_⟩
      cases i with
      | zero => simp at ha hb; subst ha; subst hb; exact hf
      | succ i => exact h2 i a b (by simpa using ha) (by simpa using hb)
    · cases h

theorem sameBits_ok {φ : Phi} : ∀ (n m : Nat) (x y : AV) (v u : Value), AV.beq n x y = true → keyPlain n y = true → VR φ x v → VR φ y u → Instr.sameBits (n + m) v u = true
  | 0, m, x, y, v, u, h, _, _, _ => by simp [AV.beq] at h
  | n + 1, m, x, y, v, u, h, hp, hv, hu => by
    rw [show n + 1 + m = (n + m) + 1 from by omega]
    cases y <;> try (simp [keyPlain] at hp; done)
    case bool b =>
      cases x <;> simp [AV.beq] at h
      cases hv; cases hu; simp [Instr.sameBits, h]
    case int kk b =>
      cases x <;> simp [AV.beq] at h
      cases hv; cases hu; simp [Instr.sameBits, h]
    case str s =>
      cases x <;> simp [AV.beq] at h
      subst h
      cases hu; rename_i b1
      generalize hs : b1.data.toList = l at hv
      cases hv; rename_i b2
      have := bytes_ext.1 hs
      subst this
      simp only [Instr.sameBits]
      rw [beq_toListBytes]; simp
    case agg ys =>
      cases x <;> simp [AV.beq] at h
      rename_i xs
      cases hv; rename_i vs hvs
      cases hu; rename_i us hus
      obtain ⟨h1, h2⟩ := listBeq_get h
      have l1 := hvs.length
      have l2 := hus.length
      simp only [keyPlain, List.all_eq_true] at hp
      simp only [Instr.sameBits, Bool.and_eq_true, beq_iff_eq]
      simp at l1 l2
      refine ⟨by omega, ?_⟩
      rw [List.all_eq_true]
      rintro ⟨a, b⟩ hab
      obtain ⟨i, hi, hget⟩ := List.mem_iff_getElem.1 hab
      simp only [List.length_zip] at hi
      have hiv : i < vs.toList.length := by omega
      have hiu : i < us.toList.length := by omega
      have ea : vs.toList[i] = a := by rw [List.getElem_zip] at hget; exact congrArg Prod.fst hget
      have eb : us.toList[i] = b := by rw [List.getElem_zip] at hget; exact congrArg Prod.snd hget
      have hix : i < xs.length := by simp at hiv; omega
      have hiy : i < ys.length := by simp at hiu; omega
      obtain ⟨v', g1, g2⟩ := hvs.get (List.getElem?_eq_getElem hix)
      obtain ⟨u', g3, g4⟩ := hus.get (List.getElem?_eq_getElem hiy)
      rw [List.getElem?_eq_getElem hiv] at g1
      rw [List.getElem?_eq_getElem hiu] at g3
      injection g1 with g1
      injection g3 with g3
      have g1' : a = v' := ea.symm.trans g1
      have g3' : b = u' := eb.symm.trans g3
      subst g1'; subst g3'
      exact sameBits_ok n m _ _ _ _ (h2 i _ _ (List.getElem?_eq_getElem hix) (List.getElem?_eq_getElem hiy)) (hp _ (List.getElem_mem hiy)) g2 g4
theorem run_keyStays {P : Program} {φ : Phi} {x y : AV} {v u : Value} (h : AV.beq eqDepth x y = true) (hp : keyPlain eqDepth y = true) (hv : VR φ x v) (hu : VR φ y u) (w : World) :
    (Instr.keyThatStays v u).run P w = .ok u w := by
  have : Instr.sameBits 10000 v u = true := sameBits_ok eqDepth 9984 x y v u h hp hv hu
  simp [Instr.keyThatStays, this]

theorem ERs.append {φ : Phi} {es fs : List (AV × AV × Nat)} {ms ns : List MapEntry} (h : ERs φ es ms) (k : ERs φ fs ns) : ERs φ (es ++ fs) (ms ++ ns) := by
  induction h with
  | nil => exact k
  | cons hh _ ih => exact .cons hh ih
theorem ERs.setVal {φ : Phi} {es : List (AV × AV × Nat)} {ms : List MapEntry} (h : ERs φ es ms) {k v : AV} {_k' : Value} {f : MapEntry → MapEntry} (i : Nat)
    (hf : ∀ e m, es[i]? = some e → ms[i]? = some m → VR φ k (f m).key ∧ VR φ v (f m).val ∧ (f m).born = m.born) : ERs φ (setVal es i k v) (ms.modify i f) := by
  induction h generalizing i with
  | nil => simp [Ev.setVal]; exact .nil
  | @cons e m es ms hh ht ih =>
    cases i with
    | zero =>
      simp only [Ev.setVal, List.modify_cons, List.modify_zero_cons] at *
      obtain ⟨h1, h2, h3⟩ := hf e m rfl rfl
      obtain ⟨ek, ev, eb⟩ := e
      exact .cons ⟨h1, h2, h3.trans hh.2.2⟩ ht
    | succ i =>
      simp only [Ev.setVal, List.modify_succ_cons]
      exact .cons hh (ih i fun e' m' h1 h2 => hf e' m' (by simpa using h1) (by simpa using h2))

section
variable {C : Ctx} (hC : C.Ok0) {φ : Phi} {H : AH} {w : World} (hH : HR φ H w) {nt : Nat} {tm : Tr AV} {ts : Array Value} (k : TR φ nt tm ts)
 include hC hH

theorem map_of {r : Nat} {es : List (AV × AV × Nat)} {clock : Nat} (hg : H.get r = some (.map es clock)) {p : Place} (hp : φ r = some p) :
    ∃ ms : Array MapEntry, ERs φ es ms.toList ∧ (getObj p.b).run C.P w = .ok (.map ms clock) w ∧
      ∀ (es' : List (AV × AV × Nat)) (ms' : Array MapEntry) (clock' : Nat), ERs φ es' ms'.toList → ∃ w', (setObj p.b (.map ms' clock')).run C.P w = .ok () w' ∧ HR φ (H.put r (.map es' clock')) w' ∧ Ext φ H w φ (H.put r (.map es' clock')) w' := by
  have _ := hC
  obtain ⟨q, hq, ms, h1, h2⟩ := hH.ob _ _ hg
  have : q = p := by rw [hp] at hq; cases hq; rfl
  subst this
  refine ⟨ms, h2, by simp [getObj, Sem.run, h1], fun es' ms' clock' he => ?_⟩
  obtain ⟨w', g1, g2⟩ := setObj_wrote (C := C) (o' := .map ms' clock') h1 (by simp)
  exact ⟨w', g1, hH.wrote (by rw [hg]; rfl) hp g2 ⟨ms', g2.at_, he⟩⟩

theorem updateA_ok {H' : AH} {t : TypeId} {m kk x : AV} {m' k' x' : Value} (hm : VR φ m m') (hk : VR φ kk k') (hx : VR φ x x') (h : updateA C H t m kk x = some H') :
    ∃ w', (Instr.mapUpdate t m' k' x').run C.P w = .ok () w' ∧ HR φ H' w' ∧ Ext φ H w φ H' w' := by
  unfold updateA at h
  split at h
  · rename_i kt et r hu
    split at h
    · rename_i es clock hg
      simp only [Tr.bif_eq] at h
      split at h
      · rename_i hck
        obtain ⟨D, hD⟩ : ∃ D, und C kt = some D := by
          unfold eqDepth ckA at hck
          split at hck
          · cases hck
          · rename_i D hD; exact ⟨D, hD⟩
        cases hm; rename_i p hp
        obtain ⟨ms, e1, e2, e3⟩ := map_of hC hH hg hp
        split at h
        · rename_i i v0 hf
          obtain ⟨q, f1, f2⟩ := findKey_ok hC w hk e1 hD hf
          cases q with
          | none => exact f2.elim
          | some q =>
            obtain ⟨j, v'⟩ := q
            obtain ⟨rfl, f3⟩ := f2
            split at h
            · rename_i k0 v1 b0 hei
              split at h <;> simp at h
              rename_i hb
              simp only [Bool.and_eq_true] at hb
              subst h
              obtain ⟨me, g1, g2⟩ := e1.get hei
              have g1' : ms[i]? = some me := by simpa using g1
              have hst := run_keyStays (P := C.P) hb.1 hb.2 g2.1 hk w
              have hE : ERs φ (setVal es i kk x) (ms.modify i fun e => { e with key := k', val := x' }).toList := by
                rw [Array.toList_modify]
                exact e1.setVal (_k' := k') i fun e m' _ _ => ⟨hk, hx, rfl⟩
              obtain ⟨w', g3, g4⟩ := e3 _ _ clock hE
              refine ⟨w', ?_, g4⟩
              simp only [Instr.mapUpdate, Sem.run_bind, run_und hC hu, Result.andThen_ok, e2, ckA_check hC w hck hk, f1, g1', Option.map_some, Option.getD_some, hst, g3]
            · cases h
        · rename_i hf
          simp at h; subst h
          obtain ⟨q, f1, f2⟩ := findKey_ok hC w hk e1 hD hf
          cases q with
          | some q => exact f2.elim
          | none =>
            have hE : ERs φ (es ++ [(kk, x, clock)]) (ms.push { key := k', val := x', born := clock }).toList := by
              rw [Array.toList_push]
              exact e1.append (.cons ⟨hk, hx, rfl⟩ .nil)
            obtain ⟨w', g3, g4⟩ := e3 _ _ (clock + 1) hE
            refine ⟨w', ?_, g4⟩
            simp only [Instr.mapUpdate, Sem.run_bind, run_und hC hu, Result.andThen_ok, e2, ckA_check hC w hck hk, f1, g3]
        · cases h
      · cases h
    · cases h
  · cases h
 include k
theorem eff_update {o : Oper} {t : TypeId} {m kk x : Operand} (ho : o.op = .mapUpdate t m kk x ∨ o.op = .insert t m kk x) {E : Eff} (h : aeff C tm H o = some E) : EffR C φ H w (execOp (evC ts) o) E := by
  have h' : (match eval tm m, eval tm kk, eval tm x with
    | some m, some k, some v => match updateA C H t m k v with | some H' => some (.val undefA H') | none => none
    | _, _, _ => none) = some E := by
    unfold aeff at h
    rcases ho with ho | ho <;> (rw [ho] at h; exact h)
  split at h'
  · rename_i m' k' x' hm hk hx
    split at h' <;> simp at h'
    rename_i H' hu
    subst h'
    obtain ⟨w', g1, g2, g3⟩ := updateA_ok hC hH (eval_ok k hm) (eval_ok k hk) (eval_ok k hx) hu
    refine ⟨undef, w', φ, .inr ⟨?_, rfl⟩, undef_VR φ, g2, g3⟩
    rcases ho with ho | ho <;> (unfold execOp; rw [ho]; simp [g1])
  · cases h'
theorem eff_mapEntry {o : Oper} {t : TypeId} {m kk : Operand} (ho : o.op = .mapEntry t m kk) {E : Eff} (h : aeff C tm H o = some E) : EffR C φ H w (execOp (evC ts) o) E := by
  unfold aeff at h; rw [ho] at h; simp only at h
  split at h
  · rename_i kt et r k0 hu hm hk
    split at h
    · rename_i es clock hg
      simp only [Tr.bif_eq] at h
      split at h
      · rename_i hck
        obtain ⟨D, hD⟩ : ∃ D, und C kt = some D := by
          unfold eqDepth ckA at hck
          split at hck
          · cases hck
          · rename_i D hD; exact ⟨D, hD⟩
        have hv := eval_ok k hm
        have hkv := eval_ok k hk
        generalize hmm : evC ts m = mv at hv
        cases hv; rename_i p hp
        obtain ⟨ms, e1, e2, e3⟩ := map_of hC hH hg hp
        split at h
        · rename_i i v0 hf
          obtain ⟨q, f1, f2⟩ := findKey_ok hC w hkv e1 hD hf
          cases q with
          | none => exact f2.elim
          | some q =>
            obtain ⟨j, v'⟩ := q
            obtain ⟨rfl, f3⟩ := f2
            split at h
            · rename_i k1 v1 b0 hei
              split at h <;> simp at h
              rename_i hb
              simp only [Bool.and_eq_true] at hb
              subst h
              obtain ⟨me, g1, g2⟩ := e1.get hei
              have g1' : ms[i]? = some me := by simpa using g1
              have hst := run_keyStays (P := C.P) hb.1 hb.2 g2.1 hkv w
              have hE : ERs φ (setVal es i k0 v1) (ms.modify i fun e => { e with key := evC ts kk }).toList := by
                rw [Array.toList_modify]
                refine e1.setVal (_k' := evC ts kk) i fun e m' h1 h2 => ⟨hkv, ?_, rfl⟩
                rw [g1] at h2; cases h2; exact g2.2.1
              obtain ⟨w', g3, g4, g5⟩ := e3 _ _ clock hE
              refine ⟨.tuple #[v', goInt b0], w', φ, .inl ?_, .tuple _ _ (.cons f3 (.cons (.int _ _) .nil)), g4, g5⟩
              have hbn : me.born = b0 := g2.2.2
              unfold execOp; rw [ho]
              simp only [hmm, Instr.mapEntry, Sem.run_bind, run_und hC hu, Result.andThen_ok, e2, ckA_check hC w hck hkv, f1, g1', Option.map_some, Option.getD_some, hst, g3, Sem.run_pure, hbn]
            · cases h
        · rename_i hf
          obtain ⟨q, f1, f2⟩ := findKey_ok hC w hkv e1 hD hf
          cases q with
          | some q => exact f2.elim
          | none =>
            split at h <;> simp at h
            rename_i z hz
            subst h
            obtain ⟨zv, hz1, hz2, _⟩ := run_zero hC (φ := φ) hz w
            have hE : ERs φ (es ++ [(k0, z, clock)]) (ms.push { key := evC ts kk, val := zv, born := clock }).toList := by
              rw [Array.toList_push]
              exact e1.append (.cons ⟨hkv, hz2, rfl⟩ .nil)
            obtain ⟨w', g3, g4, g5⟩ := e3 _ _ (clock + 1) hE
            refine ⟨.tuple #[zv, goInt clock], w', φ, .inl ?_, .tuple _ _ (.cons hz2 (.cons (.int _ _) .nil)), g4, g5⟩
            unfold execOp; rw [ho]
            simp only [hmm, Instr.mapEntry, Sem.run_bind, run_und hC hu, Result.andThen_ok, e2, ckA_check hC w hck hkv, f1, hz1, g3, Sem.run_pure]
        · cases h
      · cases h
    · cases h
  · cases h
theorem eff_entryStore {o : Oper} {t : TypeId} {m s x : Operand} (ho : o.op = .entryStore t m s x) {E : Eff} (h : aeff C tm H o = some E) : EffR C φ H w (execOp (evC ts) o) E := by
  unfold aeff at h; rw [ho] at h; simp only at h
  split at h
  · rename_i r kk b v hm hs hx
    split at h
    · rename_i es clock hg
      split at h
      · rename_i i hi
        split at h <;> simp at h
        rename_i k1 v1 b1 hei
        subst h
        have hv := eval_ok k hm
        have hsv := eval_ok k hs
        have hxv := eval_ok k hx
        generalize hmm : evC ts m = mv at hv
        generalize hss : evC ts s = sv at hsv
        cases hv; rename_i p hp
        cases hsv
        obtain ⟨ms, e1, e2, e3⟩ := map_of hC hH hg hp
        obtain ⟨me, g1, g2⟩ := e1.get hei
        have hE : ERs φ (setVal es i k1 v) (ms.modify i fun e => { e with val := evC ts x }).toList := by
          rw [Array.toList_modify]
          refine e1.setVal (_k' := evC ts x) i fun e m' h1 h2 => ⟨?_, hxv, rfl⟩
          rw [g1] at h2; cases h2; exact g2.1
        obtain ⟨w', g3, g4, g5⟩ := e3 _ _ clock hE
        have hfi : ms.findIdx? (fun e => ((e.born : Int) == Int.ofNat b)) = some i := by
          have hms : ms = ms.toList.toArray := by simp
          rw [hms, List.findIdx?_toArray]
          have : ∀ {es : List (AV × AV × Nat)} {ms : List MapEntry}, ERs φ es ms → es.findIdx? (fun e => Nat.beq e.2.2 b) = ms.findIdx? (fun e => ((e.born : Int) == Int.ofNat b)) := by
            intro es ms h
            induction h with
            | nil => rfl
            | @cons e m es ms hh _ ih =>
              rw [List.findIdx?_cons, List.findIdx?_cons, ih]
              have : Nat.beq e.2.2 b = ((m.born : Int) == Int.ofNat b) := by
                rw [hh.2.2]
                cases h : Nat.beq e.2.2 b with
                | true => have := Nat.eq_of_beq_eq_true h; rw [this]; simp
                | false =>
                  have : e.2.2 ≠ b := fun e => by rw [e, Nat.beq_refl] at h; cases h
                  rw [eq_comm, beq_eq_false_iff_ne]
                  intro h'; exact this (by have h' := Int.ofNat.inj h'; exact h')
              rw [this]
          rw [← this e1]; exact hi
        refine ⟨undef, w', φ, .inr ⟨?_, rfl⟩, undef_VR φ, g4, g5⟩
        unfold execOp; rw [ho]
        simp only [hmm, hss, Instr.entryStore, Sem.run_bind, Result.andThen_ok, e2, asInt, asIntOf, Sem.run_pure, hfi, g3]
      · cases h
    · cases h
  · cases h
theorem eff_call {o : Oper} {f : Operand} {args : Array Operand} {ats : Array TypeId} (ho : o.op = .call { callee := .value f, args := args, argTypes := ats }) {E : Eff} (h : aeff C tm H o = some E) :
    EffR C φ H w (execOp (evC ts) o) E := by
  have _ := hC; have _ := hH
  unfold aeff at h; rw [ho] at h; simp only at h
  split at h
  · rename_i fn first captured l hf hl
    simp at h; subst h
    have hv := eval_ok k hf
    have ha := args_ok k hl
    generalize hff : evC ts f = fv at hv
    cases hv; rename_i as bs hn hx hy
    refine ⟨as ++ args.map (evC ts) ++ bs, ?_, ?_⟩
    · unfold execOp; rw [ho]
      simp only [Sem.run_bind, resolve, hff, Deferred.ofValue, Sem.run_pure, Result.andThen_ok, invoke]
    · simp only [Array.toList_append, Array.toList_map]
      simpa [List.append_assoc] using (hx.append ha).append hy
  · rename_i l as hf hl
    simp at h; subst h
    have hv := eval_ok k hf
    have ha := args_ok k hl
    generalize hff : evC ts f = fv at hv
    cases hv; rename_i p hp
    refine ⟨p, args.map (evC ts), hp, ?_, by rw [Array.toList_map]; exact ha⟩
    unfold execOp; rw [ho]
    simp only [Sem.run_bind, resolve, hff, Deferred.ofValue, Sem.run_pure, Result.andThen_ok, invoke, Array.empty_append]
  · cases h
end
end Go.Ev
