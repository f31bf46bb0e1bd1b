/-
  An evaluator of the model's programs over an abstract heap, and its soundness: part Ev4.
-/
import Derived.Test.YtgdjbbniebkpoaaGreatDoorEv3
import Derived.RangeFuncRecord
import Derived.Orders
import Derived.Below
import Derived.Lib.Bytealg
import Derived.Laws.StandIn
import Derived.Lib.LaidTab
/-
  The machine, step by step; a range over a function.
-/
namespace Go.Ev

/-- what is wanted of regions whose order is drawn -/
def DrawOk (C : Ctx) (cb : Cb) : Prop := ∀ (ops : Array Oper) (nt : Nat) (tm : Tr AV) (H : AH) (tm' : Tr AV) (H' : AH), regDraw C cb ops.toList nt tm H = some (tm', H') →
  ∀ (φ : Phi) (w : World) (ts : Array Value), HR φ H w → TR φ nt tm ts → ∀ (fn : FuncId) (kk : List Item) (ds : List Deferred) (ro : Option Nat) (id : Nat),
    ∃ ts' w' φ', TR φ' nt tm' ts' ∧ HR φ' H' w' ∧ Ext φ H w φ' H' w' ∧ ∀ cs, Steps C.P (lone (fr0 fn ts (.code (.region id ops true) :: kk) ds ro) cs w) (lone (fr0 fn ts' kk ds ro) cs w')

def StepR (P : Program) (φ : Phi) (H : AH) (w : World) (fr : Fr) (ts : Array Value) (ds : List Deferred) (ro : Option Nat) : Res → Prop
  | .go fr' H1 => ∃ w1 φ1 ts1 ds1, HR φ1 H1 w1 ∧ Ext φ H w φ1 H1 w1 ∧ TR φ1 fr'.nt fr'.tm ts1 ∧ ColsR φ1 fr'.cols ds1 ∧ RoR φ1 fr'.ro ro ∧ fr'.fn = fr.fn ∧
      ∀ cs, Steps P (lone (fr0 fr.fn ts fr.todo ds ro) cs w) (lone (fr0 fr.fn ts1 fr'.todo ds1 ro) cs w1)
  | .out v H1 => ∃ v' w' φ', VR φ' v v' ∧ HR φ' H1 w' ∧ Ext φ H w φ' H1 w' ∧ FrOk P fr.fn ts fr.todo ds ro w v' w'

theorem apply_does' {P : Program} {cs : List Frame} {fr frA : Frame} {wA w : World} {s : Sem Next} {v : Value} {w' : World} (h : Does P s w v w') (hk : ∀ d r sv k', fr.todo ≠ .call d true r sv :: k')
    (hstep : (stepG P true { frame := frA, callers := cs, status := .running, dying := none } wA).bare = (stepG.apply P true fr cs none s w).bare) : Steps P (lone frA cs wA) (lone (fr.finish v) cs w') := by
  rcases h with h | ⟨h, rfl⟩ | ⟨f, as, w1, h, hs⟩ | ⟨l, f, tm, asg, body, w1, h, hs⟩
  · exact .one (step_lone_go (by rw [hstep]; simp [stepG.apply, h]))
  · exact .one (step_lone_go (by rw [hstep]; simp [stepG.apply, h]))
  · refine .head (step_lone_go (w' := w1) (fr' := Frame.enter P f as .normal) (cs' := fr :: cs) ?_) (hs fr cs)
    rw [hstep]; simp only [stepG.apply, Sem.runT_eq, h, if_true, GStep.bare_after]
    rfl
  · refine .head (step_lone_go (w' := w1) (fr' := Frame.round l f tm asg body .normal) (cs' := fr :: cs) ?_) (hs fr cs)
    rw [hstep]; simp only [stepG.apply, Sem.runT_eq, h, if_true, GStep.bare_after]; rfl

section
variable {P : Program} {fn : FuncId} {ts : Array Value} {k : List Item} {ds : List Deferred} {ro : Option Nat} {cs : List Frame} {w w1 : World}
theorem st_rangeFunc {f : Operand} {params : Array Tmp} {asg body : Code} {l : Nat} {mark : List Deferred} (h : (Instr.enterLoop fn ts params asg body ro).run P w = .ok (l, mark) w1) {fv : Value} (hf : evC ts f = fv)
    {g : FuncId} {first captured : Array Value} (hfv : fv = .func (.func g) first captured) {v : Value} {w' : World} (hd : Does P (callFunc g (first ++ #[.func (.yield l) #[] #[]] ++ captured)) w1 v w') :
    Steps P (lone (fr0 fn ts (.code (.rangeFunc f params asg body) :: k) ds ro) cs w) (lone (fr0 fn ts (.endRangeFunc l :: k) (mark ++ ds) ro) cs w') := by
  have he := fr0_eval fn ts (.inRangeFunc l :: k) (mark ++ ds) ro
  have e : (fr0 fn ts (.inRangeFunc l :: k) (mark ++ ds) ro).finish v = fr0 fn ts (.endRangeFunc l :: k) (mark ++ ds) ro := rfl
  rw [← e]
  refine apply_does' (fr := fr0 fn ts (.inRangeFunc l :: k) (mark ++ ds) ro) (w := w1) (s := callFunc g (first ++ #[.func (.yield l) #[] #[]] ++ captured)) hd (fun _ _ _ _ h => by simp [fr0] at h) ?_
  have hs : (do let d ← resolve (fr0 fn ts (.inRangeFunc l :: k) (mark ++ ds) ro).eval { callee := .value f, args := #[.const (.func (.yield l) #[] #[])], argTypes := #[] } 0; invoke d.target d.args : Sem Next).run P w1 =
      (callFunc g (first ++ #[.func (.yield l) #[] #[]] ++ captured)).run P w1 := by
    rw [he]
    simp only [Sem.run_bind, resolve, hf, hfv, Deferred.ofValue, Sem.run_pure, Result.andThen_ok, invoke]
    simp only [List.map_toArray, List.map_cons, List.map_nil, evC]
  have hb : (stepG P true { frame := fr0 fn ts (.code (.rangeFunc f params asg body) :: k) ds ro, callers := cs, status := .running, dying := none } w).bare =
      (stepG.apply P true (fr0 fn ts (.inRangeFunc l :: k) (mark ++ ds) ro) cs none (do let d ← resolve (fr0 fn ts (.inRangeFunc l :: k) (mark ++ ds) ro).eval { callee := .value f, args := #[.const (.func (.yield l) #[] #[])], argTypes := #[] } 0; invoke d.target d.args : Sem Next) w1).bare := by
    simp only [stepG, fr0, stepG.exec, Sem.runT_eq, h, GStep.bare_after]
  rw [hb]
  simp only [stepG.apply, Sem.runT_eq, if_true, hs, GStep.bare_after]
theorem st_beginRound {l : Nat} (h : (Instr.beginRound l).run P w = .ok () w1) : step P (lone (fr0 fn ts (.beginRound :: k) ds (some l)) cs w) = .next (lone (fr0 fn ts k ds (some l)) cs w1) :=
  step_lone_go (by simp [stepG, stepG.exec, stepG.apply, fr0, Sem.run_bind, h, Frame.finish])
theorem st_endRangeFunc {l : Nat} {jump : Option Code} (h : (Instr.endLoop l).run P w = .ok jump w1) :
    step P (lone (fr0 fn ts (.endRangeFunc l :: k) ds ro) cs w) = .next (lone (fr0 fn ts ((jump.map Item.code).toList ++ k) ds ro) cs w1) :=
  step_lone_go (by simp [stepG, stepG.exec, fr0, Sem.runT_eq, h, GStep.bare_after])
end


section
variable {C : Ctx} (hC : C.Ok) {cb : Cb} (hcb : CbOk C cb)

theorem go_same {fr : Fr} {H : AH} {todo : List Item} {φ : Phi} {w : World} (hH : HR φ H w) {ts : Array Value} {ds : List Deferred} {ro : Option Nat} (ht : TR φ fr.nt fr.tm ts) (hd : ColsR φ fr.cols ds) (hr : RoR φ fr.ro ro)
    (hs : ∀ cs, step C.P (lone (fr0 fr.fn ts fr.todo ds ro) cs w) = .next (lone (fr0 fr.fn ts todo ds ro) cs w)) : StepR C.P φ H w fr ts ds ro (.go { fr with todo := todo } H) :=
  ⟨w, φ, ts, ds, hH, Ext.refl _ _ _, ht, hd, hr, rfl, fun cs => .one (hs cs)⟩

 include hC hcb
theorem range_ok {fr : Fr} {H : AH} {r : Res} {f : Operand} {params : Array Tmp} {asg body : Code} {k : List Item} (htodo : fr.todo = .code (.rangeFunc f params asg body) :: k) (h : stepA C cb fr H = some r)
    {φ : Phi} {w : World} (hH : HR φ H w) {ts : Array Value} {ds : List Deferred} {ro : Option Nat} (ht : TR φ fr.nt fr.tm ts) (hd : ColsR φ fr.cols ds) (hr : RoR φ fr.ro ro) : StepR C.P φ H w fr ts ds ro r := by
  unfold stepA at h
  rw [htodo] at h
  simp only at h
  split at h
  · cases h
  · rename_i d mark H1 hstart
    -- the two new blocks
    have key : ∃ w1 φ1 pd mk, HR φ1 H1 w1 ∧ Ext φ H w φ1 H1 w1 ∧ φ1 d = some pd ∧ ColsR φ1 (mark ++ fr.cols) (mk ++ ds) ∧
        (Instr.enterLoop fr.fn ts params asg body ro).run C.P w = .ok (w1.heap.size, mk) (w1.alloc (.loop { state := .ready, pending := none, fn := fr.fn, tmps := ts, params := params, assign := asg, body := body, defers := pd.b })) := by
      split at hstart
      · rename_i hro
        rw [hro] at hr
        cases ro with
        | some b => exact hr.elim
        | none =>
        simp only [Option.some.injEq, Prod.mk.injEq] at hstart
        obtain ⟨rfl, rfl, rfl⟩ := hstart
        obtain ⟨r1, r2⟩ := hH.grow (p := ⟨w.heap.size, 0, 0⟩) (w' := w.alloc (.deferred (some []))) (grew_push w _ w.drawn) rfl (ob := .deferred true) (World.alloc_heap_new _ _)
        refine ⟨_, _, ⟨w.heap.size, 0, 0⟩, [{ target := .collected w.heap.size, args := #[] }], r1, r2, Phi.upd_same _ _ _, .cons (p := ⟨w.heap.size, 0, 0⟩) (Phi.upd_same _ _ _) (hd.mono (r2.le hH)), ?_⟩
        rw [run_enterLoop_outer]
        simp
      · rename_i l hro
        rw [hro] at hr
        cases ro with
        | none => exact hr.elim
        | some b =>
        obtain ⟨p, hp, rfl⟩ := hr
        split at hstart
        · rename_i st pend fn0 nt0 tmps0 params0 asg0 body0 d0 hg
          simp only [Option.some.injEq, Prod.mk.injEq] at hstart
          obtain ⟨rfl, rfl, rfl⟩ := hstart
          obtain ⟨q, hq, ts0, pd, e1, e2, e3⟩ := hH.ob _ _ hg
          have : q = p := by rw [hp] at hq; cases hq; rfl
          subst this
          refine ⟨w, φ, pd, [], hH, Ext.refl _ _ _, e3, hd, ?_⟩
          simp only [Instr.enterLoop, Sem.run_bind, run_getLoop e1, Result.andThen_ok, Sem.run_pure, run_newObj_alloc]
        · cases hstart
    obtain ⟨w1, φ1, pd, mk, a1, a2, a3, a4, a5⟩ := key
    have ht1 := ht.mono (a2.le hH)
    obtain ⟨b1, b2⟩ := a1.grow (p := ⟨w1.heap.size, 0, 0⟩) (w' := w1.alloc (.loop { state := .ready, pending := none, fn := fr.fn, tmps := ts, params := params, assign := asg, body := body, defers := pd.b })) (grew_push w1 _ w1.drawn) rfl
      (ob := .loop .ready none fr.fn fr.nt fr.tm params asg body d) ⟨ts, pd, World.alloc_heap_new _ _, ht1.mono (Phi.le_upd (a1.new _ (Nat.le_refl _)) _), Phi.le_upd (a1.new _ (Nat.le_refl _)) _ _ _ a3⟩
    have hle := b2.le a1
    split at h
    · rename_i g first captured hf
      split at h
      · rename_i x H3 hcall
        have hv := eval_ok (ht1.mono hle) hf
        generalize hff : evC ts f = fv at hv
        cases hv; rename_i as bs hn hx hy
        obtain ⟨v', w3, φ3, c1, c2, c3, c4⟩ := callF_ok hC hcb hcall b1 (as := as ++ #[.func (.yield w1.heap.size) #[] #[]] ++ bs) (by
          simp only [Array.toList_append, List.append_assoc]
          exact hx.append (.append (.cons (.yieldF _ _ (Phi.upd_same _ _ _)) .nil) hy))
        split at h
        · rename_i st pend fn1 nt1 tmps1 params1 asg1 body1 d1 hg
          obtain ⟨q, hq, ts0, pd1, e1, e2, e3⟩ := c2.ob _ _ hg
          have hqe : q = ⟨w1.heap.size, 0, 0⟩ := by
            rw [c3.ids _ (by simp [AH.new]), Phi.upd_same] at hq
            exact (Option.some.inj hq).symm
          have hb : q.b = w1.heap.size := by rw [hqe]
          split at h
          · cases h
          · rename_i hbusy
            simp only [Option.some.injEq] at h
            subst h
            obtain ⟨w4, g1, g2⟩ := setObj_wrote (C := C) (o' := .loop { state := .exhausted, pending := pend, fn := fn1, tmps := ts0, params := params1, assign := asg1, body := body1, defers := pd1.b }) e1 (by simp)
            obtain ⟨r1, r2⟩ := c2.wrote (id := H1.n) (p := q) (by rw [hg]; rfl) hq g2 (ob := .loop .exhausted pend fn1 nt1 tmps1 params1 asg1 body1 d1) ⟨ts0, pd1, g2.at_, e2, e3⟩
            have hext := ((a2.trans b2).trans c3).trans r2
            refine ⟨w4, φ3, ts, mk ++ ds, r1, hext, ht.mono (hext.le hH), a4.mono ((b2.trans c3).le a1), ?_, rfl, fun cs => ?_⟩
            · exact hr.mono (hext.le hH)
            · rw [htodo]
              refine (st_rangeFunc a5 hff rfl c4).trans (.one (st_endRangeFunc ?_))
              rw [← hb]
              simp only [Instr.endLoop, Instr.getLoop, Sem.run_bind, getObj, Sem.run, e1, Result.andThen_ok, Sem.run_pure, Sem.run_ite] at g1 ⊢
              rw [if_neg (by cases st <;> simp at hbusy ⊢)]
              simp only [g1, Result.andThen_ok, Sem.run_pure]
        · cases h
      · cases h
    · cases h
end
end Go.Ev

/-
  Runs.
-/
namespace Go.Ev
section
variable {C : Ctx} (hC : C.Ok) {cb : Cb} (hcb : CbOk C cb) (hD : DrawOk C cb)
 include hC hcb hD

theorem step_ok {fr : Fr} {H : AH} {r : Res} (h : stepA C cb fr H = some r) {φ : Phi} {w : World} (hH : HR φ H w) {ts : Array Value} {ds : List Deferred} {ro : Option Nat} (ht : TR φ fr.nt fr.tm ts)
    (hd : ColsR φ fr.cols ds) (hr : RoR φ fr.ro ro) : StepR C.P φ H w fr ts ds ro r := by
  have hleave : ∀ jump, leaveA C fr jump H = some r → Leaving C.P fr.fn ts fr.todo jump → StepR C.P φ H w fr ts ds ro r := by
    intro jump h hs
    obtain ⟨v, H', rfl, hh⟩ := leave_ok hC.toOk0 h hH ht hd hr hs
    exact hh
  have h0 := h
  unfold stepA at h
  split at h
  · rename_i e; exact hleave _ h (by rw [e]; exact leaving_end)
  · rename_i e; exact hleave _ h (by rw [e]; exact leaving_ret)
  · rename_i e; cases h; exact go_same hH ht hd hr fun cs => by rw [e]; exact st_skip
  · rename_i e; cases h; exact go_same hH ht hd hr fun cs => by rw [e]; exact st_label
  · rename_i e; cases h; exact go_same hH ht hd hr fun cs => by rw [e]; exact st_inBlock
  · rename_i e; cases h; exact go_same hH ht hd hr fun cs => by rw [e]; exact st_inScope
  · rename_i e; cases h; exact go_same hH ht hd hr fun cs => by rw [e]; exact st_seq
  · rename_i e
    split at h
    · rename_i t hc
      cases h
      have hv := eval_ok ht hc
      generalize hcc : evC ts _ = cv at hv
      cases hv
      exact go_same hH ht hd hr fun cs => by rw [e]; exact st_cond hcc
    · cases h
  · rename_i e; cases h; exact go_same hH ht hd hr fun cs => by rw [e]; exact st_block
  · rename_i e; cases h; exact go_same hH ht hd hr fun cs => by rw [e]; exact st_loop
  · rename_i e; cases h; exact go_same hH ht hd hr fun cs => by rw [e]; exact st_inLoop
  · rename_i e; cases h; exact go_same hH ht hd hr fun cs => by rw [e]; exact st_scope
  · rename_i e
    split at h
    · rename_i k' hx; cases h; exact go_same hH ht hd hr fun cs => by rw [e]; exact st_exit hx
    · rename_i hx; exact hleave _ h (by rw [e]; exact leaving_exit hx)
  · rename_i e
    split at h
    · rename_i k' hx; cases h; exact go_same hH ht hd hr fun cs => by rw [e]; exact st_goto hx
    · rename_i hx; exact hleave _ h (by rw [e]; exact leaving_goto hx)
  · rename_i id ops draw k e
    split at h
    · rename_i tm H' hreg
      cases h
      cases draw with
      | true =>
        simp only [cond_true] at hreg
        obtain ⟨ts', w', φ', g1, g2, g3, g4⟩ := hD ops fr.nt fr.tm H tm H' hreg φ w ts hH ht fr.fn k ds ro id
        exact ⟨w', φ', ts', ds, g2, g3, g1, hd.mono (g3.le hH), hr.mono (g3.le hH), rfl, fun cs => by rw [e]; exact g4 cs⟩
      | false =>
        simp only [cond_false] at hreg
        obtain ⟨ts', w', φ', g1, g2, g3, g4⟩ := regS_ok hC hcb (ops := ops) (fn := fr.fn) (kk := k) (ds := ds) (ro := ro) ops.toList 0 fr.tm H φ w ts tm H' rfl hreg hH ht
        refine ⟨w', φ', ts', ds, g2, g3, g1, hd.mono (g3.le hH), hr.mono (g3.le hH), rfl, fun cs => ?_⟩
        rw [e]
        refine .head st_region ?_
        have := g4 cs
        rw [← List.range_eq_range'] at this
        simpa using this
    · cases h
  · rename_i e; exact range_ok hC hcb e h0 hH ht hd hr
  · rename_i k e
    split at h
    · rename_i l hl
      split at h
      · rename_i p fn nt tmps params asg body d hg
        cases h
        have hr0 := hr
        rw [hl] at hr
        cases ro with
        | none => exact hr.elim
        | some b =>
        obtain ⟨q, hq, rfl⟩ := hr
        obtain ⟨q', hq', ts0, pd, e1, e2, e3⟩ := hH.ob _ _ hg
        have : q' = q := by rw [hq] at hq'; cases hq'; rfl
        subst this
        obtain ⟨w1, g1, g2⟩ := setObj_wrote (C := C) (o' := .loop { state := .busy, pending := p, fn := fn, tmps := ts0, params := params, assign := asg, body := body, defers := pd.b }) e1 (by simp)
        obtain ⟨r1, r2⟩ := hH.wrote (id := l) (p := q') (by rw [hg]; rfl) hq g2 (ob := .loop .busy p fn nt tmps params asg body d) ⟨ts0, pd, g2.at_, e2, e3⟩
        refine ⟨w1, φ, ts, ds, r1, r2, ht, hd, hr0, rfl, fun cs => ?_⟩
        rw [e]
        refine .one (st_beginRound ?_)
        simp only [Instr.beginRound, Instr.getLoop, Sem.run_bind, getObj, Sem.run, e1, Result.andThen_ok, Sem.run_pure] at g1 ⊢
        simp only [g1, Result.andThen_ok, Sem.run_pure]
      · cases h
    · cases h
  · cases h
end

theorem run_ok {C : Ctx} (hC : C.Ok) (hD : ∀ cb, CbOk C cb → DrawOk C cb) : ∀ n, CbOk C (run C n)
  | 0 => by intro fr H v H' h; simp [run] at h
  | n + 1 => by
    have ih := run_ok hC hD n
    intro fr H v H' h φ w hH ts ds ro ht hd hr
    simp only [run] at h
    split at h
    · cases h
    · rename_i fr' H1 hs
      obtain ⟨w1, φ1, ts1, ds1, a1, a2, a3, a4, a5, a6, a7⟩ := step_ok hC ih (hD _ ih) hs hH ht hd hr
      obtain ⟨v', w', φ', b1, b2, b3, b4⟩ := ih fr' H1 v H' h φ1 w1 a1 ts1 ds1 ro a3 a4 a5
      rw [a6] at b4
      exact ⟨v', w', φ', b1, b2, a2.trans b3, .of_steps a7 b4⟩
    · rename_i v1 H1 hs
      cases h
      exact step_ok hC ih (hD _ ih) hs hH ht hd hr
end Go.Ev

/-
  Plans of regions: what must come before what.
-/
namespace Go.Ev

def cnt (p : Nat → Bool) : Nat → Nat
  | 0 => 0
  | n + 1 => cnt p n + (if p n = true then 1 else 0)
theorem cnt_mono {p q : Nat → Bool} : ∀ {n : Nat}, (∀ j, j < n → p j = true → q j = true) → cnt p n ≤ cnt q n
  | 0, _ => Nat.le_refl _
  | n + 1, h => by
    have ih := cnt_mono (n := n) fun j hj => h j (by omega)
    have := h n (by omega)
    simp only [cnt]
    cases hp : p n <;> cases hq : q n <;> simp_all <;> omega
theorem cnt_congr {p q : Nat → Bool} {n : Nat} (h : ∀ j, j < n → p j = q j) : cnt p n = cnt q n :=
  Nat.le_antisymm (cnt_mono fun j hj e => by rw [← h j hj]; exact e) (cnt_mono fun j hj e => by rw [h j hj]; exact e)
theorem cnt_lt {p : Nat → Bool} {i : Nat} : ∀ {n : Nat}, i ≤ n → cnt (fun e => p e && decide (e < i)) n = cnt p i
  | 0, h => by have : i = 0 := by omega
               subst this; rfl
  | n + 1, h => by
    rcases Nat.lt_or_ge n i with h' | h'
    · have : i = n + 1 := by omega
      subst this
      exact cnt_congr fun j hj => by simp [hj]
    · have := cnt_lt (p := p) (n := n) h'
      simp only [cnt, this]
      rw [if_neg (by simp; intro _; omega), Nat.add_zero]

section
variable (C : Ctx) (ops : List Oper)
def efAt (i : Nat) : Bool := match ops[i]? with | some o => decide (kindOf C o.op = .ef) | none => false
def Mt (t : Tr Nat) (i j : Nat) : Bool := match t.get i with | some m => Nat.testBit m j | none => false

structure PlanOk (ps : List Step) (M : Nat → Nat → Bool) : Prop where
  len : ps.length = ops.length
  at_ : ∀ i o, ops[i]? = some o → ∃ p, ps[i]? = some p ∧ p.o = o ∧ p.kind = kindOf C o.op ∧ (∀ j, Nat.testBit p.mask j = M i j) ∧
    p.lo = cnt (fun e => efAt C ops e && M i e) ops.length ∧ p.hi = cnt (fun e => efAt C ops e && !M e i) ops.length
  edge : ∀ i o, ops[i]? = some o → ∀ e ∈ o.after.toList, Region.binds .any e = true → e.on < i ∧ M i e.on = true ∧ ∀ k, M e.on k = true → M i k = true
  from_ : ∀ i j, M i j = true → ∃ o, ops[i]? = some o ∧ ∃ e ∈ o.after.toList, Region.binds .any e = true ∧ (j = e.on ∨ M e.on j = true)
  chain : ∀ a b, a < b → efAt C ops a = true → efAt C ops b = true → M b a = true
  apart : ∀ i j x y, i < j → ops[i]? = some x → ops[j]? = some y → M j i = true ∨ apart ops x y = true
end

theorem bit_or (a b j : Nat) : Nat.testBit (Nat.lor a b) j = (Nat.testBit a j || Nat.testBit b j) := Nat.testBit_or a b j
theorem bit_one (k j : Nat) : Nat.testBit (Nat.shiftLeft 1 k) j = decide (j = k) := by
  have h : Nat.shiftLeft 1 k = 2 ^ k := by
    show 1 <<< k = 2 ^ k
    rw [Nat.shiftLeft_eq, Nat.one_mul]
  rw [h, Nat.testBit_two_pow]
  by_cases e : j = k
  · subst e; simp
  · simp [e]; omega

theorem maskOf_spec {t : Tr Nat} {i : Nat} : ∀ {es : List Edge} {m r : Nat}, maskOf t i es m = some r →
    (∀ j, Nat.testBit r j = true ↔ Nat.testBit m j = true ∨ ∃ e ∈ es, Region.binds .any e = true ∧ (j = e.on ∨ Mt t e.on j = true)) ∧ ∀ e ∈ es, Region.binds .any e = true → e.on < i
  | [], m, r, h => by simp only [maskOf, Option.some.injEq] at h; subst h; simp
  | e :: es, m, r, h => by
    simp only [maskOf, Tr.bif_eq] at h
    split at h
    · rename_i hb
      split at h
      · rename_i hlt
        have hlt := Nat.le_of_ble_eq_true hlt
        split at h
        · rename_i p hp
          obtain ⟨h1, h2⟩ := maskOf_spec h
          refine ⟨fun j => ?_, fun e' he' hb' => ?_⟩
          · rw [h1, bit_or, bit_or, bit_one]
            have hM : Mt t e.on j = Nat.testBit p j := by simp [Mt, hp]
            simp only [Bool.or_eq_true, decide_eq_true_eq, List.mem_cons, exists_eq_or_imp, hb, true_and, hM]
            constructor
            · rintro (((h | h) | h) | h)
              · exact .inl h
              · exact .inr (.inl (.inr h))
              · exact .inr (.inl (.inl h))
              · exact .inr (.inr h)
            · rintro (h | (h | h) | h)
              · exact .inl (.inl (.inl h))
              · exact .inl (.inr h)
              · exact .inl (.inl (.inr h))
              · exact .inr h
          · rcases List.mem_cons.1 he' with rfl | he'
            · exact hlt
            · exact h2 e' he' hb'
        · cases h
      · cases h
    · rename_i hb
      obtain ⟨h1, h2⟩ := maskOf_spec h
      refine ⟨fun j => ?_, fun e' he' hb' => ?_⟩
      · rw [h1]
        simp only [List.mem_cons, exists_eq_or_imp]
        simp [hb]
      · rcases List.mem_cons.1 he' with rfl | he'
        · exact absurd hb' hb
        · exact h2 e' he' hb'

theorem maskOf_congr {t u : Tr Nat} {i : Nat} (htu : ∀ k, k < i → t.get k = u.get k) : ∀ (es : List Edge) (m : Nat), maskOf t i es m = maskOf u i es m
  | [], m => rfl
  | e :: es, m => by
    simp only [maskOf, Tr.bif_eq]
    split
    · split
      · rename_i hlt
        rw [htu _ (Nat.le_of_ble_eq_true hlt)]
        split
        · exact maskOf_congr htu es _
        · rfl
      · rfl
    · exact maskOf_congr htu es m

theorem masksFrom_spec : ∀ {os : List Oper} {i : Nat} {t t' : Tr Nat}, masksFrom os i t = some t' →
    (∀ k, k < i ∨ i + os.length ≤ k → t'.get k = t.get k) ∧ ∀ k o, os[k]? = some o → ∃ m, t'.get (i + k) = some m ∧ maskOf t' (i + k) o.after.toList 0 = some m
  | [], i, t, t', h => by simp only [masksFrom, Option.some.injEq] at h; subst h; simp
  | o :: os, i, t, t', h => by
    simp only [masksFrom] at h
    split at h
    · rename_i m hm
      obtain ⟨h1, h2⟩ := masksFrom_spec h
      refine ⟨fun k hk => ?_, fun k o' ho => ?_⟩
      · simp only [List.length_cons] at hk
        rw [h1 k (by omega), Tr.get_set, if_neg (by omega)]
      · cases k with
        | zero =>
          simp at ho; subst ho
          have hg : t'.get (i + 0) = some m := by rw [h1 _ (.inl (by omega)), Tr.get_set, if_pos (by omega)]
          refine ⟨m, hg, ?_⟩
          rw [← hm]
          exact maskOf_congr (fun k hk => by rw [h1 k (.inl (by omega)), Tr.get_set, if_neg (by omega)]) _ _
        | succ k =>
          obtain ⟨m', g1, g2⟩ := h2 k o' (by simpa using ho)
          rw [show i + (k + 1) = i + 1 + k from by omega]
          exact ⟨m', g1, g2⟩
    · cases h

theorem apartAll_spec {ops : List Oper} {t : Tr Nat} {x : Oper} {i : Nat} : ∀ {os : List Oper} {j : Nat}, apartAll ops t x i os j = true → ∀ k y, os[k]? = some y → Mt t (j + k) i = true ∨ apart ops x y = true
  | [], j, h, k, y, hy => by simp at hy
  | z :: os, j, h, k, y, hy => by
    simp only [apartAll, Bool.and_eq_true] at h
    cases k with
    | zero =>
      simp at hy; subst hy
      have h1 := h.1
      split at h1
      · rename_i m hm
        simp only [Bool.or_eq_true] at h1
        simpa [Mt, hm] using h1
      · cases h1
    | succ k =>
      rw [show j + (k + 1) = j + 1 + k from by omega]
      exact apartAll_spec h.2 k y (by simpa using hy)
theorem apartPairs_spec {ops : List Oper} {t : Tr Nat} : ∀ {os : List Oper} {i : Nat}, apartPairs ops t os i = true → ∀ a b x y, a < b → os[a]? = some x → os[b]? = some y → Mt t (i + b) (i + a) = true ∨ apart ops x y = true
  | [], i, h, a, b, x, y, hab, hx, hy => by simp at hx
  | z :: os, i, h, a, b, x, y, hab, hx, hy => by
    simp only [apartPairs, Bool.and_eq_true] at h
    cases b with
    | zero => omega
    | succ b =>
      rw [show i + (b + 1) = i + 1 + b from by omega]
      cases a with
      | zero =>
        simp at hx; subst hx
        exact apartAll_spec h.1 b y (by simpa using hy)
      | succ a =>
        rw [show i + (a + 1) = i + 1 + a from by omega]
        exact apartPairs_spec h.2 a b x y (by omega) (by simpa using hx) (by simpa using hy)

theorem steps_spec {C : Ctx} {t : Tr Nat} {es : List Nat} : ∀ {os : List Oper} {i : Nat} {ps : List Step}, steps C t es os i = some ps →
    ps.length = os.length ∧ ∀ k o, os[k]? = some o → ∃ m, t.get (i + k) = some m ∧ ps[k]? = some { o := o, kind := kindOf C o.op, mask := m, lo := countIn m es, hi := mayBefore t (i + k) es }
  | [], i, ps, h => by simp only [steps, Option.some.injEq] at h; subst h; simp
  | o :: os, i, ps, h => by
    simp only [steps] at h
    split at h
    · rename_i m r hm hr
      simp only [Option.some.injEq] at h
      subst h
      obtain ⟨h1, h2⟩ := steps_spec hr
      refine ⟨by simp [h1], fun k o' ho => ?_⟩
      cases k with
      | zero => simp at ho; subst ho; exact ⟨m, hm, rfl⟩
      | succ k =>
        obtain ⟨m', g1, g2⟩ := h2 k o' (by simpa using ho)
        rw [show i + (k + 1) = i + 1 + k from by omega]
        exact ⟨m', g1, by simpa using g2⟩
    · cases h

section
variable {C : Ctx} {ops : List Oper}
theorem effs_cons {o : Oper} {os : List Oper} {s : Nat} (h : ops[s]? = some o) : effs C (o :: os) s = if efAt C ops s = true then s :: effs C os (s + 1) else effs C os (s + 1) := by
  simp only [effs, efAt, h]
  cases kindOf C o.op <;> simp
theorem drop_head {o : Oper} {os : List Oper} {s : Nat} (h : ops.drop s = o :: os) : ops[s]? = some o ∧ ops.drop (s + 1) = os := by
  constructor
  · have : (ops.drop s)[0]? = some o := by rw [h]; rfl
    rw [List.getElem?_drop] at this
    simpa using this
  · rw [← List.drop_drop, h]; rfl
theorem countIn_spec {m : Nat} : ∀ {os : List Oper} {s : Nat}, ops.drop s = os → countIn m (effs C os s) + cnt (fun e => efAt C ops e && Nat.testBit m e) s = cnt (fun e => efAt C ops e && Nat.testBit m e) (s + os.length)
  | [], s, h => by simp [effs, countIn]
  | o :: os, s, h => by
    obtain ⟨h1, h2⟩ := drop_head h
    have ih := countIn_spec (m := m) h2
    rw [show s + (o :: os).length = s + 1 + os.length from by simp; omega, ← ih, effs_cons h1]
    simp only [cnt]
    by_cases he : efAt C ops s = true
    · rw [if_pos he]
      simp only [countIn, Tr.bif_eq, he, Bool.true_and]
      split <;> omega
    · rw [if_neg he, if_neg (by simp [he])]
      omega
theorem mayBefore_spec {t : Tr Nat} {i : Nat} : ∀ {os : List Oper} {s : Nat}, ops.drop s = os → mayBefore t i (effs C os s) + cnt (fun e => efAt C ops e && !Mt t e i) s = cnt (fun e => efAt C ops e && !Mt t e i) (s + os.length)
  | [], s, h => by simp [effs, mayBefore]
  | o :: os, s, h => by
    obtain ⟨h1, h2⟩ := drop_head h
    have ih := mayBefore_spec (t := t) (i := i) h2
    rw [show s + (o :: os).length = s + 1 + os.length from by simp; omega, ← ih, effs_cons h1]
    simp only [cnt]
    by_cases he : efAt C ops s = true
    · rw [if_pos he]
      have e1 : mayBefore t i (s :: effs C os (s + 1)) = if Mt t s i = true then mayBefore t i (effs C os (s + 1)) else mayBefore t i (effs C os (s + 1)) + 1 := by
        simp only [mayBefore, Tr.bif_eq]; rfl
      rw [e1]
      simp only [he, Bool.true_and]
      by_cases hm : Mt t s i = true
      · rw [if_pos hm, if_neg (by simp [hm])]; omega
      · rw [if_neg hm, if_pos (by simp [hm])]; omega
    · rw [if_neg he, if_neg (by simp [he])]
      omega
theorem mem_effs {a : Nat} : ∀ {os : List Oper} {s : Nat}, ops.drop s = os → efAt C ops a = true → s ≤ a → a ∈ effs C os s
  | [], s, h, ha, hs => by
    have : ops.length ≤ s := by simpa using h
    simp only [efAt] at ha
    rw [List.getElem?_eq_none (by omega)] at ha
    cases ha
  | o :: os, s, h, ha, hs => by
    obtain ⟨h1, h2⟩ := drop_head h
    rw [effs_cons h1]
    by_cases e : s = a
    · subst e; rw [if_pos ha]; exact .head _
    · have := mem_effs h2 ha (by omega)
      split
      · exact .tail _ this
      · exact this
theorem chain_first {t : Tr Nat} (tr : ∀ a b c, Mt t a b = true → Mt t b c = true → Mt t a c = true) : ∀ (l : List Nat) (a : Nat), chained t (a :: l) = true → ∀ b ∈ l, Mt t b a = true
  | [], a, h, b, hb => by cases hb
  | c :: l, a, h, b, hb => by
    simp only [chained, Bool.and_eq_true] at h
    have h1 : Mt t c a = true := h.1
    rcases List.mem_cons.1 hb with rfl | hb
    · exact h1
    · exact tr _ _ _ (chain_first tr l c h.2 b hb) h1
theorem chained_tail {t : Tr Nat} {a : Nat} {l : List Nat} (h : chained t (a :: l) = true) : chained t l = true := by
  cases l with
  | nil => rfl
  | cons b l => simp only [chained, Bool.and_eq_true] at h; exact h.2
theorem chain_all {t : Tr Nat} (tr : ∀ a b c, Mt t a b = true → Mt t b c = true → Mt t a c = true) : ∀ {os : List Oper} {s : Nat}, ops.drop s = os → chained t (effs C os s) = true →
    ∀ a b, s ≤ a → a < b → efAt C ops a = true → efAt C ops b = true → Mt t b a = true
  | [], s, h, hc, a, b, hs, hab, ha, hb => by have := mem_effs h ha hs; simp [effs] at this
  | o :: os, s, h, hc, a, b, hs, hab, ha, hb => by
    obtain ⟨h1, h2⟩ := drop_head h
    rw [effs_cons h1] at hc
    by_cases e : s = a
    · subst e
      rw [if_pos ha] at hc
      exact chain_first tr _ _ hc b (mem_effs h2 hb (by omega))
    · refine chain_all tr h2 ?_ a b (by omega) hab ha hb
      split at hc
      · exact chained_tail hc
      · exact hc

theorem plan_ok {ps : List Step} (h : plan C ops = some ps) : ∃ M, PlanOk C ops ps M := by
  unfold plan at h
  split at h
  · cases h
  · rename_i t ht
    simp only [Tr.bif_eq] at h
    split at h
    · rename_i hc
      simp only [Bool.and_eq_true] at hc
      obtain ⟨hout, hm⟩ := masksFrom_spec ht
      obtain ⟨hlen, hs⟩ := steps_spec h
      have hM : ∀ i j, Mt t i j = true → ∃ o, ops[i]? = some o ∧ ∃ e ∈ o.after.toList, Region.binds .any e = true ∧ (j = e.on ∨ Mt t e.on j = true) := by
        intro i j hij
        cases ho : ops[i]? with
        | none =>
          have : ops.length ≤ i := by simpa using ho
          simp only [Mt, hout i (.inr (by omega)), Tr.get_leaf] at hij
          cases hij
        | some o =>
          obtain ⟨m, g1, g2⟩ := hm i o ho
          rw [Nat.zero_add] at g1 g2
          have := ((maskOf_spec g2).1 j).1 (by simpa [Mt, g1] using hij)
          simp at this
          obtain ⟨e, he, hb, hj⟩ := this
          exact ⟨o, rfl, e, by simpa using he, hb, hj⟩
      have hE : ∀ i o, ops[i]? = some o → ∀ e ∈ o.after.toList, Region.binds .any e = true → e.on < i ∧ Mt t i e.on = true ∧ ∀ k, Mt t e.on k = true → Mt t i k = true := by
        intro i o ho e he hb
        obtain ⟨m, g1, g2⟩ := hm i o ho
        rw [Nat.zero_add] at g1 g2
        obtain ⟨s1, s2⟩ := maskOf_spec g2
        refine ⟨s2 e he hb, ?_, fun k hk => ?_⟩
        · simp only [Mt, g1]; exact (s1 _).2 (.inr ⟨e, he, hb, .inl rfl⟩)
        · simp only [Mt, g1]; exact (s1 _).2 (.inr ⟨e, he, hb, .inr hk⟩)
      have tr : ∀ a b c, Mt t a b = true → Mt t b c = true → Mt t a c = true := by
        intro a
        induction a using Nat.strongRecOn with
        | ind a ih =>
          intro b c h1 h2
          obtain ⟨o, ho, e, he, hb, hj⟩ := hM a b h1
          obtain ⟨e1, e2, e3⟩ := hE a o ho e he hb
          rcases hj with rfl | hj
          · exact e3 c h2
          · exact e3 c (ih e.on e1 b c hj h2)
      refine ⟨Mt t, hlen, fun i o ho => ?_, hE, hM, fun a b hab ha hb => chain_all tr rfl hc.1 a b (Nat.zero_le _) hab ha hb, fun i j x y hij hx hy => ?_⟩
      · obtain ⟨m, g1, g2⟩ := hs i o ho
        rw [Nat.zero_add] at g1 g2
        refine ⟨_, g2, rfl, rfl, fun j => by simp [Mt, g1], ?_, ?_⟩
        · have := countIn_spec (C := C) (ops := ops) (m := m) (os := ops) (s := 0) rfl
          simp only [cnt, Nat.add_zero, Nat.zero_add] at this
          rw [this]
          exact cnt_congr fun j _ => by simp [Mt, g1]
        · have := mayBefore_spec (C := C) (ops := ops) (t := t) (i := i) (os := ops) (s := 0) rfl
          simpa only [cnt, Nat.add_zero, Nat.zero_add] using this
      · have := apartPairs_spec hc.2 i j x y hij hx hy
        simpa using this
    · cases h
theorem PlanOk.trans {ps : List Step} {M : Nat → Nat → Bool} (h : PlanOk C ops ps M) : ∀ a b c, M a b = true → M b c = true → M a c = true := by
  intro a
  induction a using Nat.strongRecOn with
  | ind a ih =>
    intro b c h1 h2
    obtain ⟨o, ho, e, he, hb, hj⟩ := h.from_ a b h1
    obtain ⟨e1, e2, e3⟩ := h.edge a o ho e he hb
    rcases hj with rfl | hj
    · exact e3 c h2
    · exact e3 c (ih e.on e1 b c hj h2)
theorem PlanOk.lt {ps : List Step} {M : Nat → Nat → Bool} (h : PlanOk C ops ps M) : ∀ a b, M a b = true → b < a := by
  intro a
  induction a using Nat.strongRecOn with
  | ind a ih =>
    intro b h1
    obtain ⟨o, ho, e, he, hb, hj⟩ := h.from_ a b h1
    obtain ⟨e1, e2, e3⟩ := h.edge a o ho e he hb
    rcases hj with rfl | hj
    · exact e1
    · exact Nat.lt_trans (ih e.on e1 b hj) e1
end
end Go.Ev

/-
  An operation looks at its own slots alone.
-/
namespace Go.Ev
section
variable {C : Ctx} {tm tm' : Tr AV} {H : AH}
theorem mapO_congr {α β : Type} {f g : α → Option β} : ∀ {l : List α}, (∀ x ∈ l, f x = g x) → mapO f l = mapO g l
  | [], _ => rfl
  | x :: xs, h => by
    simp only [mapO, h x (.head _), mapO_congr fun y hy => h y (.tail _ hy)]
theorem parts_congr {ps : Array (Nat × Operand)} (h : ∀ x ∈ (ps.toList.map (·.2)).toArray, eval tm x = eval tm' x) : parts tm ps = parts tm' ps := by
  unfold parts
  refine mapO_congr fun p hp => ?_
  obtain ⟨i, x⟩ := p
  have := h x (by simp only [List.mem_toArray]; exact List.mem_map.2 ⟨(i, x), hp, rfl⟩)
  simp only [this]
theorem evalO_congr {r : Option Operand} (h : ∀ x ∈ r.toArray, eval tm x = eval tm' x) : evalO tm r = evalO tm' r := by
  cases r with
  | none => rfl
  | some x => have := h x (by simp); simp only [evalO, this]

theorem apure_congr {o : Oper} (h : ∀ x ∈ o.op.operands, eval tm x = eval tm' x) : apure C tm H o = apure C tm' H o := by
  obtain ⟨dst, op, type, pos, after, guard⟩ := o
  cases op <;> simp only [Op.operands] at h <;> simp only [apure]
  case call c =>
    obtain ⟨callee, args, ats⟩ := c
    cases callee with
    | builtin b =>
      have : mapO (eval tm) args.toList = mapO (eval tm') args.toList := mapO_congr fun x hx => h x (by simp [Call.operands]; simpa using hx)
      simp only [this]
    | value f => rfl
    | invoke r m => rfl
  case makeFunc fn first captured =>
    have h1 : mapO (eval tm) first.toList = mapO (eval tm') first.toList := mapO_congr fun x hx => h x (by simp; exact .inl (by simpa using hx))
    have h2 : mapO (eval tm) captured.toList = mapO (eval tm') captured.toList := mapO_congr fun x hx => h x (by simp; exact .inr (by simpa using hx))
    simp only [h1, h2]
  case slice t x lo hi mx =>
    have h0 := h x (by simp)
    have h1 := evalO_congr (r := lo) fun y hy => h y (by simp only [Array.mem_append]; exact .inl (.inl (.inr hy)))
    have h2 := evalO_congr (r := hi) fun y hy => h y (by simp only [Array.mem_append]; exact .inl (.inr hy))
    have h3 := evalO_congr (r := mx) fun y hy => h y (by simp only [Array.mem_append]; exact .inr hy)
    simp only [h0, h1, h2, h3]
  case build t ps => simp only [parts_congr h]
  all_goals (first | rfl | (simp at h; simp only [h]; done) | (simp at h; obtain ⟨h1, h2⟩ := h; simp only [h1, h2]; done) | (simp at h; obtain ⟨h1, h2, h3⟩ := h; simp only [h1, h2, h3]; done))

theorem aalloc_congr {o : Oper} (h : ∀ x ∈ o.op.operands, eval tm x = eval tm' x) : aalloc C tm o = aalloc C tm' o := by
  obtain ⟨dst, op, type, pos, after, guard⟩ := o
  cases op <;> simp only [Op.operands] at h <;> simp only [aalloc]
  case buildSlice t n ps => simp only [parts_congr h]
  case makeMap t r => simp only [evalO_congr h]
  all_goals (first | rfl | (simp at h; simp only [h]; done) | (simp at h; obtain ⟨h1, h2⟩ := h; simp only [h1, h2]; done) | (simp at h; obtain ⟨h1, h2, h3⟩ := h; simp only [h1, h2, h3]; done))

theorem aeff_congr {o : Oper} (h : ∀ x ∈ o.op.operands, eval tm x = eval tm' x) : aeff C tm H o = aeff C tm' H o := by
  obtain ⟨dst, op, type, pos, after, guard⟩ := o
  cases op <;> simp only [Op.operands] at h <;> simp only [aeff]
  case call c =>
    obtain ⟨callee, args, ats⟩ := c
    cases callee with
    | builtin b =>
      have : mapO (eval tm) args.toList = mapO (eval tm') args.toList := mapO_congr fun x hx => h x (by simp [Call.operands]; simpa using hx)
      simp only [this]
    | value f =>
      have : mapO (eval tm) args.toList = mapO (eval tm') args.toList := mapO_congr fun x hx => h x (by simp [Call.operands]; exact .inr (by simpa using hx))
      have h1 := h f (by simp [Call.operands])
      simp only [this, h1]
    | invoke r m => rfl
  case next x s =>
    simp at h
    cases s <;> simp only [h]
  all_goals (first | rfl | (simp at h; simp only [h]; done) | (simp at h; obtain ⟨h1, h2⟩ := h; simp only [h1, h2]; done) | (simp at h; obtain ⟨h1, h2, h3⟩ := h; simp only [h1, h2, h3]; done))

theorem doEff_congr {cb : Cb} {o : Oper} (h : ∀ x ∈ o.op.operands, eval tm x = eval tm' x) : doEff C cb tm H o = doEff C cb tm' H o := by
  simp only [doEff, aeff_congr (C := C) (H := H) h]
end
end Go.Ev

/-
  Blocks that stand by while others are worked on.
-/
namespace Go.Ev

theorem HR.sub {φ : Phi} {H H1 : AH} {w : World} (h : HR φ H w) (hg : ∀ i o, H1.get i = some o → H.get i = some o) (hn : H.n ≤ H1.n) (hgl : ∀ g c, H1.gl.get g = some c → H.gl.get g = some c)
    (hz : ∀ i, H1.whole i = true → H.whole i = true) : HR φ H1 w := by
  have hal : ∀ i, (H1.get i).isSome = true → (H.get i).isSome = true := by
    intro i hi
    obtain ⟨o, ho⟩ := Option.isSome_iff_exists.1 hi
    rw [hg i o ho]; rfl
  exact ⟨fun i o hi => h.ob i o (hg i o hi), fun i j p q hi hj => h.inj i j p q (hal i hi) (hal j hj), fun i hi => h.new i (by omega),
    fun g c hc => let ⟨f1, f2⟩ := h.gl g c (hgl g c hc); ⟨fun i p hi => f1 i p (hal i hi), f2⟩, fun i hi => let ⟨z1, z2⟩ := h.z i (hz i hi); ⟨by omega, z2⟩⟩

/-- a block that stands by -/
structure Ex (φ : Phi) (H : AH) (w : World) (B id : Nat) (ob : AObj) (p : Place) : Prop where
  at_ : φ id = some p
  base : p.base = 0
  lt : id < H.n
  ob : OR φ p w ob
  old : B ≤ p.b
  size : p.b < w.heap.size
  fgn : Fgn φ H p.b
  gl : ∀ g c, H.gl.get g = some c → g ≠ p.b

structure Exs (φ : Phi) (H : AH) (w : World) (B : Nat) (X : Nat → AObj → Prop) : Prop where
  ex : ∀ id ob, X id ob → ∃ p, Ex φ H w B id ob p
  inj : ∀ id ob id' ob' p p', X id ob → X id' ob' → φ id = some p → φ id' = some p' → p.b = p'.b → id = id'
theorem Exs.sub {φ : Phi} {H : AH} {w : World} {B : Nat} {X Y : Nat → AObj → Prop} (h : Exs φ H w B X) (k : ∀ id ob, Y id ob → X id ob) : Exs φ H w B Y :=
  ⟨fun id ob y => h.ex id ob (k _ _ y), fun id ob id' ob' p p' y y' => h.inj id ob id' ob' p p' (k _ _ y) (k _ _ y')⟩

theorem AH.get_putA (H : AH) (i j : Nat) (o : AObj) : (H.putA i o).get j = if i = j then some o else H.get j := by simp [AH.get, AH.putA, Tr.get_set]
theorem AH.whole_putA (H : AH) (i j : Nat) (o : AObj) : (H.putA i o).whole j = if i = j then true else H.whole j := by
  simp only [AH.whole, AH.putA, Tr.get_set]
  by_cases e : i = j <;> simp [e]

theorem HR.putA {φ : Phi} {H : AH} {w : World} (h : HR φ H w) {B id : Nat} {ob : AObj} {p : Place} (e : Ex φ H w B id ob p) : HR φ (H.putA id ob) w := by
  refine ⟨fun i o hi => ?_, fun i j q r hi hj hq hr hb => ?_, fun i hi => h.new i hi, fun g c hc => ?_, fun i hi => ?_⟩
  · rw [AH.get_putA] at hi
    split at hi
    · rename_i ei; cases hi; subst ei; exact ⟨p, e.at_, e.ob⟩
    · exact h.ob i o hi
  · rw [AH.get_putA] at hi hj
    by_cases ei : id = i
    · by_cases ej : id = j
      · omega
      · subst ei
        rw [if_neg ej] at hj
        rw [e.at_] at hq; cases hq
        exact absurd hb.symm (e.fgn j r hj hr)
    · rw [if_neg ei] at hi
      by_cases ej : id = j
      · subst ej
        rw [e.at_] at hr; cases hr
        exact absurd hb (e.fgn i q hi hq)
      · rw [if_neg ej] at hj
        exact h.inj i j q r hi hj hq hr hb
  · obtain ⟨f1, f2⟩ := h.gl g c hc
    refine ⟨fun i q hi hq => ?_, f2⟩
    rw [AH.get_putA] at hi
    by_cases ei : id = i
    · subst ei
      rw [e.at_] at hq; cases hq
      exact (e.gl g c hc).symm
    · rw [if_neg ei] at hi; exact f1 i q hi hq
  · rw [AH.whole_putA] at hi
    split at hi
    · rename_i ei; subst ei
      exact ⟨e.lt, fun q hq => by rw [e.at_] at hq; cases hq; exact e.base⟩
    · exact h.z i hi

theorem Exs.putA {φ : Phi} {H : AH} {w : World} {B : Nat} {X : Nat → AObj → Prop} (h : Exs φ H w B X) {id : Nat} {ob : AObj} (hx : X id ob) : Exs φ (H.putA id ob) w B (fun i o => X i o ∧ i ≠ id) := by
  obtain ⟨p, e⟩ := h.ex id ob hx
  refine ⟨fun i o ⟨hi, hne⟩ => ?_, fun i o i' o' q q' ⟨h1, _⟩ ⟨h2, _⟩ => h.inj i o i' o' q q' h1 h2⟩
  obtain ⟨q, k⟩ := h.ex i o hi
  refine ⟨q, k.at_, k.base, k.lt, k.ob, k.old, k.size, fun j r hj hr => ?_, k.gl⟩
  rw [AH.get_putA] at hj
  by_cases ej : id = j
  · subst ej
    rw [e.at_] at hr; cases hr
    exact fun hb => hne (h.inj i o id ob q _ hi hx k.at_ e.at_ hb.symm)
  · rw [if_neg ej] at hj
    exact k.fgn j r hj hr

def addSel (sel : Blk → Bool) : List Blk → AH → AH
  | [], H => H
  | b :: bs, H => if sel b = true then addSel sel bs (H.putA b.id b.ob) else addSel sel bs H
theorem addBlks_sel (mask v : Nat) : ∀ (bs : List Blk) (H : AH), addBlks mask v bs H = addSel (fun b => Nat.testBit mask b.i && Nat.ble v b.hi) bs H
  | [], H => rfl
  | b :: bs, H => by simp only [addBlks, addSel, Tr.bif_eq, addBlks_sel mask v bs]
theorem addAll_sel (v : Nat) : ∀ (bs : List Blk) (H : AH), addAll v bs H = addSel (fun b => Nat.ble v b.hi) bs H
  | [], H => rfl
  | b :: bs, H => by simp only [addAll, addSel, Tr.bif_eq, addAll_sel v bs]

theorem addSel_ok {φ : Phi} {w : World} {B : Nat} {sel : Blk → Bool} : ∀ (bs : List Blk) (H : AH) (X : Nat → AObj → Prop), HR φ H w → Exs φ H w B X → (∀ b ∈ bs, sel b = true → X b.id b.ob) → bs.Pairwise (fun a b => a.id ≠ b.id) →
    HR φ (addSel sel bs H) w ∧ Exs φ (addSel sel bs H) w B (fun i o => X i o ∧ ∀ b ∈ bs, sel b = true → b.id ≠ i) ∧ (addSel sel bs H).n = H.n ∧ (addSel sel bs H).gl = H.gl ∧ ∀ c, c < B → Fgn φ H c → Fgn φ (addSel sel bs H) c
  | [], H, X, hH, hX, hs, hp => ⟨hH, hX.sub fun _ _ h => h.1, rfl, rfl, fun _ _ h => h⟩
  | b :: bs, H, X, hH, hX, hs, hp => by
    simp only [addSel]
    cases hp; rename_i hp2 hp1
    split
    · rename_i hb
      have hx := hs b (.head _) hb
      obtain ⟨p, e⟩ := hX.ex _ _ hx
      obtain ⟨g1, g2, g3, g4, g5⟩ := addSel_ok (sel := sel) bs (H.putA b.id b.ob) _ (hH.putA e) (hX.putA hx) (fun c hc hsc => ⟨hs c (.tail _ hc) hsc, (hp1 c hc).symm⟩) hp2
      refine ⟨g1, g2.sub fun i o h => ⟨⟨h.1, (h.2 b (.head _) hb).symm⟩, fun c hc => h.2 c (.tail _ hc)⟩, g3, g4, fun c hc hf => g5 c hc fun j r hj hr => ?_⟩
      rw [AH.get_putA] at hj
      by_cases ej : b.id = j
      · subst ej
        rw [e.at_] at hr; cases hr
        have := e.old
        omega
      · rw [if_neg ej] at hj; exact hf j r hj hr
    · rename_i hb
      obtain ⟨g1, g2, g3, g4, g5⟩ := addSel_ok (sel := sel) bs H X hH hX (fun c hc => hs c (.tail _ hc)) hp2
      exact ⟨g1, g2.sub fun i o h => ⟨h.1, fun c hc => h.2 c (.tail _ hc)⟩, g3, g4, g5⟩

/-- Blocks stand by an effect. -/
theorem Exs.over {φ φ' : Phi} {A H' : AH} {w w' : World} {B : Nat} {X : Nat → AObj → Prop} (hA : HR φ A w) (h : Exs φ A w B X) (he : Ext φ A w φ' H' w') : Exs φ' { H' with gl := A.gl } w' B X := by
  have hid : ∀ id ob, X id ob → φ' id = φ id := fun id ob hx => let ⟨p, e⟩ := h.ex id ob hx; he.ids id e.lt
  refine ⟨fun id ob hx => ?_, fun id ob id' ob' p p' hx hx' hp hp' => h.inj id ob id' ob' p p' hx hx' (by rw [← hid _ _ hx]; exact hp) (by rw [← hid _ _ hx']; exact hp')⟩
  obtain ⟨p, e⟩ := h.ex id ob hx
  obtain ⟨k1, k2⟩ := he.keep p.b e.size e.fgn
  exact ⟨p, by rw [hid _ _ hx]; exact e.at_, e.base, Nat.lt_of_lt_of_le e.lt he.n, e.ob.mono (he.le hA) k2, e.old, Nat.lt_of_lt_of_le e.size he.size, k1, e.gl⟩
theorem HR.over {φ φ' : Phi} {A H' : AH} {w w' : World} (hA : HR φ A w) (hH : HR φ' H' w') (he : Ext φ A w φ' H' w') : HR φ' { H' with gl := A.gl } w' :=
  ⟨hH.ob, hH.inj, hH.new, fun g c hc =>
    let ⟨f1, f2, cs, e, fr, f3, f4⟩ := hA.gl g c hc
    let ⟨k1, k2⟩ := he.keep g f2 f1
    ⟨k1, Nat.lt_of_lt_of_le f2 he.size, cs, e, fr, by rw [k2]; exact f3, fun i x hx => let ⟨v, a, b⟩ := f4 i x hx; ⟨v, a, b.mono (he.le hA)⟩⟩, hH.z⟩
theorem Ext.gl {φ φ' : Phi} {A H' : AH} {w w' : World} (he : Ext φ A w φ' H' w') (G : Tr (List AV)) : Ext φ A w φ' { H' with gl := G } w' :=
  ⟨he.ids, he.n, he.size, he.keep, he.os, he.tape, he.output⟩

/-- A block is made and stands by. -/
theorem Exs.grew {φ : Phi} {H : AH} {w w' : World} {B : Nat} {X : Nat → AObj → Prop} (hH : HR φ H w) (h : Exs φ H w B X) (hB : B ≤ w.heap.size) (hg : Grew w w') {id S : Nat} (hi : φ id = none) (hlt : id < H.n) {ob : AObj}
    (ho : OR (φ.upd id ⟨w.heap.size, 0, S⟩) ⟨w.heap.size, 0, S⟩ w' ob) :
    HR (φ.upd id ⟨w.heap.size, 0, S⟩) H w' ∧ Exs (φ.upd id ⟨w.heap.size, 0, S⟩) H w' B (fun i o => X i o ∨ (i = id ∧ o = ob)) ∧ ∀ b, b < w.heap.size → Fgn φ H b → Fgn (φ.upd id ⟨w.heap.size, 0, S⟩) H b ∧ w'.heap[b]? = w.heap[b]? := by
  have hno : H.get id = none := by
    cases hx : H.get id with
    | none => rfl
    | some o => obtain ⟨p, hp, _⟩ := hH.ob id o hx; rw [hi] at hp; cases hp
  obtain ⟨r1, r2⟩ := hH.add hg (p := ⟨w.heap.size, 0, S⟩) rfl hi ho (H1 := H.putA id ob) (fun j => AH.get_putA H id j ob) (Nat.le_refl _) hlt rfl (fun j hj => by
    rw [AH.whole_putA] at hj
    split at hj
    · rename_i e; exact .inr ⟨e.symm, rfl⟩
    · exact .inl hj) (fun _ => rfl)
  have hle := Phi.le_upd hi ⟨w.heap.size, 0, S⟩
  have hf : ∀ b, b < w.heap.size → Fgn φ H b → Fgn (φ.upd id ⟨w.heap.size, 0, S⟩) H b := by
    intro b hb hf i p hal hp
    by_cases e : i = id
    · subst e; rw [hno] at hal; cases hal
    · rw [Phi.upd_ne e] at hp; exact hf i p hal hp
  refine ⟨r1.sub (fun i o hx => ?_) (Nat.le_refl _) (fun g c hc => hc) (fun i hx => ?_), ⟨fun i o hx => ?_, fun i o i' o' p p' hx hx' hp hp' hb => ?_⟩, fun b hb hfb => ⟨hf b hb hfb, hg.keep b hb⟩⟩
  · rw [AH.get_putA, if_neg (fun e => by subst e; rw [hno] at hx; cases hx)]; exact hx
  · rw [AH.whole_putA]; split
    · rfl
    · exact hx
  · rcases hx with hx | ⟨rfl, rfl⟩
    · obtain ⟨p, e⟩ := h.ex i o hx
      exact ⟨p, hle _ _ e.at_, e.base, e.lt, e.ob.mono hle (hg.keep _ e.size), e.old, by rw [hg.size]; exact Nat.lt_succ_of_lt e.size, hf _ e.size e.fgn, e.gl⟩
    · refine ⟨⟨w.heap.size, 0, S⟩, Phi.upd_same _ _ _, rfl, hlt, ho, hB, by rw [hg.size]; exact Nat.lt_succ_self _, fun j q hj hq => ?_, fun g c hc => ?_⟩
      · by_cases e : j = i
        · subst e; rw [hno] at hj; cases hj
        · rw [Phi.upd_ne e] at hq
          exact Nat.ne_of_lt (hH.lt j q hq hj)
      · exact Nat.ne_of_lt (hH.gl g c hc).2.1
  · have hl : ∀ j oj q, X j oj → φ.upd id ⟨w.heap.size, 0, S⟩ j = some q → j ≠ id ∧ φ j = some q ∧ q.b < w.heap.size := by
      intro j oj q hxj hq
      obtain ⟨q', e⟩ := h.ex j oj hxj
      have := hle _ _ e.at_
      rw [this] at hq; cases hq
      exact ⟨fun e' => (by have h1 := e.at_; rw [e', hi] at h1; cases h1), e.at_, e.size⟩
    rcases hx with hx | ⟨rfl, rfl⟩
    · obtain ⟨a1, a2, a3⟩ := hl i o p hx hp
      rcases hx' with hx' | ⟨rfl, rfl⟩
      · obtain ⟨b1, b2, b3⟩ := hl i' o' p' hx' hp'
        exact h.inj i o i' o' p p' hx hx' a2 b2 hb
      · rw [Phi.upd_same] at hp'; cases hp'; simp only at hb; omega
    · rcases hx' with hx' | ⟨rfl, rfl⟩
      · obtain ⟨b1, b2, b3⟩ := hl i' o' p' hx' hp'
        rw [Phi.upd_same] at hp; cases hp; simp only at hb; omega
      · rfl
end Go.Ev

/-
  The walk over a region in the order of the text: what each operation leaves.
-/
namespace Go.Ev

theorem optBeq_eq {a b : Option (Nat × Nat)} (h : optBeq a b = true) : a = b := by
  cases a <;> cases b <;> simp [optBeq] at h
  · rfl
  · rename_i x y
    obtain ⟨x1, x2⟩ := x; obtain ⟨y1, y2⟩ := y
    simp [optBeq] at h
    rw [h.1, h.2]
theorem listBeq_eq {α : Type} {f : α → α → Bool} : ∀ {l m : List α}, (∀ x y, f x y = true → x = y) → listBeq f l m = true → l = m
  | [], [], _, _ => rfl
  | [], _ :: _, _, h => by simp [listBeq] at h
  | _ :: _, [], _, h => by simp [listBeq] at h
  | x :: xs, y :: ys, hf, h => by
    simp only [listBeq, Tr.bif_eq] at h
    split at h
    · rename_i hxy; rw [hf x y hxy, listBeq_eq hf h]
    · cases h
theorem beq_eq : ∀ (n : Nat) (x y : AV), AV.beq n x y = true → x = y
  | 0, x, y, h => by simp [AV.beq] at h
  | n + 1, x, y, h => by
    have ih := beq_eq n
    have ihl : ∀ {l m : List AV}, listBeq (AV.beq n) l m = true → l = m := fun h => listBeq_eq ih h
    cases x with
    | map a => cases y with
      | map b => cases a <;> cases b <;> simp [AV.beq] at h <;> simp [h]
      | _ => cases a <;> simp [AV.beq] at h
    | func f a b => cases y with
      | func g c d => simp [AV.beq] at h; rw [h.1.1, ihl h.1.2, ihl h.2]
      | _ => simp [AV.beq] at h
    | agg a => cases y with
      | agg b => simp [AV.beq] at h; rw [ihl h]
      | _ => simp [AV.beq] at h
    | tuple a => cases y with
      | tuple b => simp [AV.beq] at h; rw [ihl h]
      | _ => simp [AV.beq] at h
    | iface t v => cases y with
      | iface u w => simp [AV.beq] at h; rw [h.1, ih _ _ h.2]
      | _ => simp [AV.beq] at h
    | ptr a => cases y with
      | ptr b => simp [AV.beq] at h; rw [optBeq_eq h]
      | _ => simp [AV.beq] at h
    | slice a l c e s => cases y with
      | slice b l' c' e' s' => simp [AV.beq] at h; rw [optBeq_eq h.1.1.1.1, h.1.1.1.2, h.1.1.2, h.1.2, h.2]
      | _ => simp [AV.beq] at h
    | _ => cases y <;> simp [AV.beq] at h <;> simp [h]

section
variable (C : Ctx) (ops : List Oper) (nt base : Nat) (p : Step) (i : Nat) (s s1 : RegSt)
inductive One : Prop
  | skip (hw : wantedA ops s.tm p.o = some false) (hp : putA nt s.tm p.o.dst undefA = some s1.tm) (hk : p.kind ≠ .ef) (hv : s1.vs = s.vs) (hb : s1.pend = s.pend) (ha : s1.again = s.again) : One
  | skipE (H : AH) (r : List AH) (hw : wantedA ops s.tm p.o = some false) (hp : putA nt s.tm p.o.dst undefA = some s1.tm) (hk : p.kind = .ef) (hs : s.vs = H :: r) (hv : s1.vs = addBlks p.mask r.length s.pend H :: s.vs)
      (hb : s1.pend = dropBlks r.length s.pend) (ha : s1.again = s.again) : One
  | pure (H : AH) (v : AV) (hw : wantedA ops s.tm p.o = some true) (hk : p.kind = .pr) (hH : version s.vs p.lo = some H) (hv : apure C s.tm (addBlks p.mask p.lo s.pend H) p.o = some v) (hp : putA nt s.tm p.o.dst v = some s1.tm) (hvs : s1.vs = s.vs)
      (hb : s1.pend = s.pend) (ha : ∀ a ∈ s.again, a ∈ s1.again) (hn : p.lo = p.hi ∨ { o := p.o, tm := s.tm, blks := s.pend, mask := p.mask, lo := p.lo, hi := p.hi, v := v } ∈ s1.again) : One
  | alloc (ob : AObj) (f : Nat → AV) (hw : wantedA ops s.tm p.o = some true) (hk : p.kind = .al) (hv : aalloc C s.tm p.o = some (ob, f)) (hp : putA nt s.tm p.o.dst (f (base + i)) = some s1.tm) (hvs : s1.vs = s.vs)
      (hb : s1.pend = { i := i, id := base + i, ob := ob, hi := p.hi } :: s.pend) (ha : s1.again = s.again) : One
  | eff (cb : Cb) (hcb : CbOk C cb) (H : AH) (r : List AH) (v : AV) (H' : AH) (hw : wantedA ops s.tm p.o = some true) (hk : p.kind = .ef) (hs : s.vs = H :: r) (hv : doEff C cb s.tm (addBlks p.mask r.length s.pend H) p.o = some (v, H')) (hp : putA nt s.tm p.o.dst v = some s1.tm)
      (hvs : s1.vs = { H' with gl := H.gl } :: s.vs) (hb : s1.pend = dropBlks r.length s.pend) (ha : s1.again = s.again) : One
end

theorem regOne_one {C : Ctx} {cb : Cb} (hcb : CbOk C cb) {ops : List Oper} {nt base : Nat} {p : Step} {i : Nat} {s s1 : RegSt} (h : regOne C cb ops nt base p i s = some s1) : One C ops nt base p i s s1 := by
  unfold regOne at h
  split at h
  · cases h
  · rename_i hw
    split at h
    · cases h
    · rename_i tm hp
      split at h
      · rename_i hk
        split at h
        · cases h
        · rename_i H r hs
          simp only [Option.some.injEq] at h
          subst h
          exact .skipE H r hw hp hk hs rfl rfl rfl
      · rename_i hk
        simp only [Option.some.injEq] at h
        subst h
        exact .skip hw hp hk rfl rfl rfl
  · rename_i hw
    split at h
    · rename_i hk
      split at h
      · cases h
      · rename_i H hH
        split at h
        · cases h
        · rename_i v hv
          split at h
          · rename_i tm hp
            simp only [Option.some.injEq] at h
            subst h
            refine .pure H v hw hk hH hv hp rfl rfl (fun a ha => ?_) ?_
            · simp only [Tr.bif_eq]; split
              · exact ha
              · exact .tail _ ha
            · simp only [Tr.bif_eq]; split
              · rename_i hb; exact .inl (Nat.eq_of_beq_eq_true hb)
              · exact .inr (.head _)
          · cases h
    · rename_i hk
      split at h
      · cases h
      · rename_i ob f hv
        split at h
        · rename_i tm hp
          simp only [Option.some.injEq] at h
          subst h
          exact .alloc ob f hw hk hv hp rfl rfl rfl
        · cases h
    · rename_i hk
      split at h
      · cases h
      · rename_i H r hs
        split at h
        · cases h
        · rename_i v H' hv
          split at h
          · rename_i tm hp
            simp only [Option.some.injEq] at h
            subst h
            exact .eff cb hcb H r v H' hw hk hs hv hp rfl rfl rfl
          · cases h

theorem regD_states {C : Ctx} {cb : Cb} (hcb : CbOk C cb) {ops : List Oper} {nt base : Nat} : ∀ {ps : List Step} {i : Nat} {s s' : RegSt}, regD C cb ops nt base ps i s = some s' →
    ∃ S : Nat → RegSt, S i = s ∧ S (i + ps.length) = s' ∧ ∀ k p, ps[k]? = some p → One C ops nt base p (i + k) (S (i + k)) (S (i + k + 1))
  | [], i, s, s', h => by
    simp only [regD, Option.some.injEq] at h
    subst h
    exact ⟨fun _ => s, rfl, rfl, fun k p hp => by simp at hp⟩
  | p :: ps, i, s, s', h => by
    simp only [regD] at h
    split at h
    · cases h
    · rename_i s1 h1
      obtain ⟨S, a, b, c⟩ := regD_states hcb h
      have f0 : (fun j => if j = i then s else S j) i = s := by simp
      have f1 : ∀ j, i + 1 ≤ j → (fun j => if j = i then s else S j) j = S j := fun j hj => if_neg (by omega)
      refine ⟨fun j => if j = i then s else S j, f0, ?_, fun k q hq => ?_⟩
      · rw [f1 _ (by simp)]
        rw [show i + (p :: ps).length = i + 1 + ps.length from by simp; omega]
        exact b
      · cases k with
        | zero =>
          simp at hq; subst hq
          rw [f1 (i + 0 + 1) (by omega), Nat.add_zero, f0, a]
          exact regOne_one hcb h1
        | succ k =>
          rw [f1 _ (by omega), f1 _ (by omega)]
          have := c k q (by simpa using hq)
          rw [show i + (k + 1) = i + 1 + k from by omega]
          exact this
    
theorem putA_get {nt : Nat} {tm tm' : Tr AV} {dst : Option Tmp} {v : AV} (h : putA nt tm dst v = some tm') : ∀ d, tm'.get d = if dst = some d then some v else tm.get d := by
  intro d
  unfold putA at h
  split at h
  · cases h; simp
  · rename_i e
    simp only [Tr.bif_eq] at h
    split at h
    · cases h
      rw [Tr.get_set]
      simp
    · cases h
theorem putA_lt {nt : Nat} {tm tm' : Tr AV} {d : Tmp} {v : AV} (h : putA nt tm (some d) v = some tm') : d < nt := by
  simp only [putA, Tr.bif_eq] at h
  split at h
  · rename_i hb; exact Nat.le_of_ble_eq_true hb
  · cases h
theorem One.put {C : Ctx} {ops : List Oper} {nt base : Nat} {p : Step} {i : Nat} {s s1 : RegSt} (h : One C ops nt base p i s s1) : ∃ v, putA nt s.tm p.o.dst v = some s1.tm := by
  cases h with
  | skip _ hp => exact ⟨_, hp⟩
  | skipE _ _ _ hp => exact ⟨_, hp⟩
  | pure _ _ _ _ _ _ hp => exact ⟨_, hp⟩
  | alloc _ _ _ _ _ hp => exact ⟨_, hp⟩
  | eff _ _ _ _ _ _ _ _ _ _ hp => exact ⟨_, hp⟩
theorem One.vs {C : Ctx} {ops : List Oper} {nt base : Nat} {p : Step} {i : Nat} {s s1 : RegSt} (h : One C ops nt base p i s s1) : (p.kind ≠ .ef ∧ s1.vs = s.vs) ∨ (p.kind = .ef ∧ ∃ H, s1.vs = H :: s.vs) := by
  cases h with
  | skip _ _ hk hv => exact .inl ⟨hk, hv⟩
  | skipE H r _ _ hk _ hv => exact .inr ⟨hk, _, hv⟩
  | pure _ _ _ hk _ _ _ hv => exact .inl ⟨by simp [hk], hv⟩
  | alloc _ _ _ hk _ _ hv => exact .inl ⟨by simp [hk], hv⟩
  | eff _ _ _ _ _ _ _ hk _ _ _ hv => exact .inr ⟨hk, _, hv⟩
theorem One.again {C : Ctx} {ops : List Oper} {nt base : Nat} {p : Step} {i : Nat} {s s1 : RegSt} (h : One C ops nt base p i s s1) : ∀ a ∈ s.again, a ∈ s1.again := by
  cases h with
  | skip _ _ _ _ _ ha => rw [ha]; exact fun _ h => h
  | skipE _ _ _ _ _ _ _ _ ha => rw [ha]; exact fun _ h => h
  | pure _ _ _ _ _ _ _ _ _ ha => exact ha
  | alloc _ _ _ _ _ _ _ _ ha => rw [ha]; exact fun _ h => h
  | eff _ _ _ _ _ _ _ _ _ _ _ _ _ ha => rw [ha]; exact fun _ h => h

theorem version_cons {H : AH} {vs : List AH} {k : Nat} (h : k < vs.length) : version (H :: vs) k = version vs k := by
  simp only [version, List.length_cons]
  rw [show vs.length + 1 - 1 - k = (vs.length - 1 - k) + 1 from by omega]
  rfl
theorem version_head {H : AH} {r : List AH} : version (H :: r) r.length = some H := by
  simp [version]

theorem drop_mem {v : Nat} : ∀ {bs : List Blk} {b : Blk}, b ∈ dropBlks v bs → b ∈ bs
  | [], b, h => by cases h
  | c :: bs, b, h => by
    simp only [dropBlks, Tr.bif_eq] at h
    split at h
    · exact .tail _ (drop_mem h)
    · rcases List.mem_cons.1 h with rfl | h
      · exact .head _
      · exact .tail _ (drop_mem h)
theorem drop_pair {v : Nat} {R : Blk → Blk → Prop} : ∀ {bs : List Blk}, bs.Pairwise R → (dropBlks v bs).Pairwise R
  | [], h => .nil
  | c :: bs, h => by
    obtain ⟨h1, h2⟩ := List.pairwise_cons.1 h
    simp only [dropBlks, Tr.bif_eq]
    split
    · exact drop_pair h2
    · exact List.pairwise_cons.2 ⟨fun b hb => h1 b (drop_mem hb), drop_pair h2⟩

def restrict (tm : Tr AV) : List Tmp → Tr AV
  | [] => .leaf
  | d :: ds => (restrict tm ds).set (tm.get d) d
theorem restrict_get (tm : Tr AV) : ∀ (l : List Tmp) (d : Tmp), (restrict tm l).get d = if d ∈ l then tm.get d else none
  | [], d => by simp [restrict, Tr.get_leaf]
  | e :: l, d => by
    simp only [restrict, Tr.get_set, restrict_get tm l]
    by_cases h : e = d
    · subst h; simp
    · have h' : ¬ d = e := fun x => h x.symm
      simp [h, h']
end Go.Ev

/-
  Regions in whatever order.
-/
namespace Go.Ev

theorem cnt_insert {p q : Nat → Bool} {i : Nat} (hq : q i = true) (hp : p i = false) (h : ∀ j, j ≠ i → p j = q j) : ∀ {n : Nat}, i < n → cnt q n = cnt p n + 1
  | n + 1, hi => by
    simp only [cnt]
    by_cases e : n = i
    · subst e
      rw [if_pos hq, if_neg (by simp [hp]), cnt_congr (p := q) (q := p) (n := n) fun j hj => (h j (by omega)).symm, Nat.add_zero]
    · rw [cnt_insert hq hp h (by omega), h n e]
      omega

theorem apart_spec {ops : List Oper} {x y : Oper} (h : apart ops x y = true) : (∀ d, x.dst = some d → d ∉ looks ops y ∧ y.dst ≠ some d) ∧ ∀ d, y.dst = some d → d ∉ looks ops x := by
  unfold apart at h
  rw [Bool.and_eq_true] at h
  refine ⟨fun d hd => ?_, fun d hd => ?_⟩
  · have := h.1
    rw [hd] at this
    simpa using this
  · have := h.2
    rw [hd] at this
    simpa using this

structure Walk (C : Ctx) (ops : List Oper) (nt base : Nat) (ps : List Step) (M : Nat → Nat → Bool) (S : Nat → RegSt) : Prop where
  plan : PlanOk C ops ps M
  vs0 : (S 0).vs.length = 1
  pend0 : (S 0).pend = []
  one : ∀ k p, ps[k]? = some p → One C ops nt base p k (S k) (S (k + 1))
  again : ∀ a ∈ (S ops.length).again, stable C (S ops.length).vs a (a.hi - a.lo) = true

def dstAt (ops : List Oper) (k : Nat) : Option Tmp := (ops[k]?).bind (·.dst)
/-- the slots when the operations of L have been carried out -/
def XS (ops : List Oper) (S : Nat → RegSt) (L : Nat → Bool) : Nat → Tmp → Option AV
  | 0, d => (S 0).tm.get d
  | k + 1, d => if L k = true ∧ dstAt ops k = some d then (S (k + 1)).tm.get d else XS ops S L k d

section
variable {C : Ctx} {ops : List Oper} {nt base : Nat} {ps : List Step} {M : Nat → Nat → Bool} {S : Nat → RegSt}

theorem XS_skip {L : Nat → Bool} {d : Tmp} {i : Nat} : ∀ {k : Nat}, i ≤ k → (∀ j, i ≤ j → j < k → L j = true → dstAt ops j ≠ some d) → XS ops S L k d = XS ops S L i d
  | 0, h, _ => by have : i = 0 := by omega
                  subst this; rfl
  | k + 1, h, hj => by
    by_cases e : i = k + 1
    · subst e; rfl
    · simp only [XS]
      rw [if_neg fun hx => hj k (by omega) (by omega) hx.1 hx.2]
      exact XS_skip (by omega) fun j h1 h2 => hj j h1 (by omega)
theorem XS_congr {L L' : Nat → Bool} {d : Tmp} : ∀ {k : Nat}, (∀ j, j < k → dstAt ops j = some d → L j = L' j) → XS ops S L k d = XS ops S L' k d
  | 0, _ => rfl
  | k + 1, h => by
    simp only [XS]
    rw [XS_congr (L := L) (L' := L') fun j hj => h j (by omega)]
    by_cases e : dstAt ops k = some d
    · rw [h k (by omega) e]
    · rw [if_neg fun hx => e hx.2, if_neg fun hx => e hx.2]

variable (W : Walk C ops nt base ps M S)
 include W
theorem Walk.step {i : Nat} {o : Oper} (ho : ops[i]? = some o) : ∃ p, ps[i]? = some p ∧ p.o = o ∧ p.kind = kindOf C o.op ∧ (∀ j, Nat.testBit p.mask j = M i j) ∧
    p.lo = cnt (fun e => efAt C ops e && M i e) ops.length ∧ p.hi = cnt (fun e => efAt C ops e && !M e i) ops.length ∧ One C ops nt base p i (S i) (S (i + 1)) := by
  obtain ⟨p, h1, h2, h3, h4, h5, h6⟩ := W.plan.at_ i o ho
  exact ⟨p, h1, h2, h3, h4, h5, h6, W.one i p h1⟩
theorem Walk.kind_ef {i : Nat} {o : Oper} (ho : ops[i]? = some o) {p : Step} (hk : p.kind = kindOf C o.op) : efAt C ops i = decide (p.kind = .ef) := by
  have _ := W
  simp only [efAt, ho, hk]
theorem Walk.vlen : ∀ {i : Nat}, i ≤ ops.length → (S i).vs.length = cnt (efAt C ops) i + 1
  | 0, _ => W.vs0
  | i + 1, hi => by
    have ho : ops[i]? = some ops[i] := List.getElem?_eq_getElem (by omega)
    obtain ⟨p, h1, h2, h3, h4, h5, h6, h7⟩ := W.step ho
    have ih := Walk.vlen (i := i) (by omega)
    have he := W.kind_ef ho h3
    simp only [cnt]
    rcases h7.vs with ⟨g1, g2⟩ | ⟨g1, H, g2⟩
    · rw [g2, ih, he, if_neg (by simpa using g1)]
    · rw [g2, he, if_pos (by simpa using g1), List.length_cons, ih]
theorem Walk.vers {i k : Nat} (hk : k < (S i).vs.length) : ∀ {d : Nat}, i + d ≤ ops.length → version (S (i + d)).vs k = version (S i).vs k
  | 0, _ => rfl
  | d + 1, hd => by
    have ih := Walk.vers hk (d := d) (by omega)
    have ho : ops[i + d]? = some ops[i + d] := List.getElem?_eq_getElem (by omega)
    obtain ⟨p, h1, h2, h3, h4, h5, h6, h7⟩ := W.step ho
    rw [← ih]
    show version (S (i + d + 1)).vs k = _
    rcases h7.vs with ⟨g1, g2⟩ | ⟨g1, H, g2⟩
    · rw [g2]
    · rw [g2]
      refine version_cons (Nat.lt_of_lt_of_le hk ?_)
      rw [W.vlen (by omega), W.vlen (by omega)]
      have : cnt (efAt C ops) i ≤ cnt (efAt C ops) (i + d) := by
        rw [← cnt_lt (p := efAt C ops) (i := i) (n := i + d) (by omega)]
        exact cnt_mono fun j _ hj => by simp at hj; exact hj.1
      omega
 omit W in
theorem version_some {vs : List AH} {k : Nat} (h : k < vs.length) : ∃ H, version vs k = some H := by
  unfold version
  exact ⟨_, List.getElem?_eq_getElem (by omega)⟩
end

def VV (ops : List Oper) (S : Nat → RegSt) (k : Nat) : AH := (version (S ops.length).vs k).getD AH.empty
def hiOf (C : Ctx) (ops : List Oper) (M : Nat → Nat → Bool) (j : Nat) : Nat := cnt (fun e => efAt C ops e && !M e j) ops.length
/-- operation j makes this block -/
def Dm (C : Ctx) (ops : List Oper) (ps : List Step) (S : Nat → RegSt) (j : Nat) (ob : AObj) : Prop :=
  ∃ p f, ps[j]? = some p ∧ p.kind = .al ∧ wantedA ops (S j).tm p.o = some true ∧ aalloc C (S j).tm p.o = some (ob, f)
def vL (C : Ctx) (ops : List Oper) (L : Nat → Bool) : Nat := cnt (fun e => efAt C ops e && L e) ops.length
/-- the blocks that stand by -/
def XL (C : Ctx) (ops : List Oper) (base : Nat) (ps : List Step) (M : Nat → Nat → Bool) (S : Nat → RegSt) (L : Nat → Bool) (id : Nat) (ob : AObj) : Prop :=
  ∃ j, id = base + j ∧ L j = true ∧ Dm C ops ps S j ob ∧ vL C ops L ≤ hiOf C ops M j

section
variable {C : Ctx} {ops : List Oper} {nt base : Nat} {ps : List Step} {M : Nat → Nat → Bool} {S : Nat → RegSt} (W : Walk C ops nt base ps M S)
 include W
theorem Walk.V_of {i k : Nat} (hi : i ≤ ops.length) (hk : k < (S i).vs.length) : version (S i).vs k = some (VV ops S k) := by
  obtain ⟨H, h⟩ := version_some hk
  have := W.vers hk (d := ops.length - i) (by omega)
  rw [show i + (ops.length - i) = ops.length from by omega] at this
  rw [VV, this, h]
  rfl
theorem Walk.V_head {i : Nat} (hi : i ≤ ops.length) {H : AH} {r : List AH} (h : (S i).vs = H :: r) : H = VV ops S r.length ∧ r.length = cnt (efAt C ops) i := by
  have hl := W.vlen hi
  rw [h] at hl
  have := W.V_of hi (k := r.length) (by rw [h]; simp)
  rw [h, version_head] at this
  exact ⟨Option.some.inj this, by simpa using hl⟩

theorem Walk.pend : ∀ {i : Nat}, i ≤ ops.length → (∀ b ∈ (S i).pend, b.i < i ∧ b.id = base + b.i ∧ Dm C ops ps S b.i b.ob ∧ b.hi = hiOf C ops M b.i) ∧ (S i).pend.Pairwise (fun a b => a.id ≠ b.id)
  | 0, _ => by rw [W.pend0]; exact ⟨fun _ hb => absurd hb List.not_mem_nil, List.Pairwise.nil⟩
  | i + 1, hi => by
    have ho : ops[i]? = some ops[i] := List.getElem?_eq_getElem (by omega)
    obtain ⟨p, h1, h2, h3, h4, h5, h6, h7⟩ := W.step ho
    obtain ⟨ih1, ih2⟩ := Walk.pend (i := i) (by omega)
    have same : ∀ l, (∀ b ∈ l, b ∈ (S i).pend) → l.Pairwise (fun a b : Blk => a.id ≠ b.id) → (S (i + 1)).pend = l →
        (∀ b ∈ (S (i + 1)).pend, b.i < i + 1 ∧ b.id = base + b.i ∧ Dm C ops ps S b.i b.ob ∧ b.hi = hiOf C ops M b.i) ∧ (S (i + 1)).pend.Pairwise (fun a b => a.id ≠ b.id) := by
      intro l hl hp e
      rw [e]
      exact ⟨fun b hb => let ⟨a, r⟩ := ih1 b (hl b hb); ⟨by omega, r⟩, hp⟩
    cases h7 with
    | skip _ _ _ _ hb => exact same _ (fun _ h => h) ih2 hb
    | skipE _ _ _ _ _ _ _ hb => exact same _ (fun _ h => drop_mem h) (drop_pair ih2) hb
    | pure _ _ _ _ _ _ _ _ hb => exact same _ (fun _ h => h) ih2 hb
    | eff _ _ _ _ _ _ _ _ _ _ _ _ hb => exact same _ (fun _ h => drop_mem h) (drop_pair ih2) hb
    | alloc ob f hw hk hv _ _ hb =>
      rw [hb]
      refine ⟨fun b hb => ?_, List.pairwise_cons.2 ⟨fun b hb => ?_, ih2⟩⟩
      · rcases List.mem_cons.1 hb with rfl | hb
        · exact ⟨Nat.lt_succ_self _, rfl, ⟨p, f, h1, hk, hw, hv⟩, h6⟩
        · obtain ⟨a, r⟩ := ih1 b hb
          exact ⟨by omega, r⟩
      · obtain ⟨a, r, _⟩ := ih1 b hb
        simp only [r]
        omega

theorem Walk.tm_next {i : Nat} {o : Oper} (ho : ops[i]? = some o) (d : Tmp) (h : o.dst ≠ some d) : (S (i + 1)).tm.get d = (S i).tm.get d := by
  obtain ⟨p, h1, h2, h3, h4, h5, h6, h7⟩ := W.step ho
  obtain ⟨v, hv⟩ := h7.put
  rw [putA_get hv, if_neg (by rw [h2]; exact h)]
theorem Walk.XS_all {L : Nat → Bool} {d : Tmp} : ∀ {k : Nat}, k ≤ ops.length → (∀ j, j < k → dstAt ops j = some d → L j = true) → XS ops S L k d = (S k).tm.get d
  | 0, _, _ => rfl
  | k + 1, hk, h => by
    have ho : ops[k]? = some ops[k] := List.getElem?_eq_getElem (by omega)
    simp only [XS]
    by_cases e : dstAt ops k = some d
    · rw [if_pos ⟨h k (by omega) e, e⟩]
    · rw [if_neg fun hx => e hx.2, Walk.XS_all (by omega) fun j hj => h j (by omega)]
      exact (W.tm_next ho d (by simpa [dstAt, ho] using e)).symm

theorem Walk.reads {L : Nat → Bool} (hcl : ∀ a b, L a = true → M a b = true → L b = true) {i : Nat} {o : Oper} (ho : ops[i]? = some o) (hL : L i = false) (hm : ∀ j, M i j = true → L j = true) {d : Tmp} (hd : d ∈ looks ops o) :
    XS ops S L ops.length d = (S i).tm.get d := by
  have hi : i < ops.length := by
    rcases Nat.lt_or_ge i ops.length with h | h
    · exact h
    · rw [List.getElem?_eq_none h] at ho; cases ho
  rw [XS_skip (i := i) (Nat.le_of_lt hi) fun j h1 h2 h3 h4 => ?_]
  · refine W.XS_all (Nat.le_of_lt hi) fun j h1 h2 => ?_
    have hoj : ops[j]? = some ops[j] := List.getElem?_eq_getElem (by omega)
    rcases W.plan.apart j i _ _ h1 hoj ho with h | h
    · exact hm j h
    · exact absurd hd ((apart_spec h).1 d (by simpa [dstAt, hoj] using h2)).1
  · have hoj : ops[j]? = some ops[j] := List.getElem?_eq_getElem (by omega)
    have hne : i ≠ j := fun e => by subst e; rw [hL] at h3; cases h3
    rcases W.plan.apart i j _ _ (by omega) ho hoj with h | h
    · rw [hcl j i h3 h] at hL; cases hL
    · exact absurd hd ((apart_spec h).2 d (by simpa [dstAt, hoj] using h4))

theorem Walk.writes {L : Nat → Bool} (hcl : ∀ a b, L a = true → M a b = true → L b = true) {i : Nat} {o : Oper} (ho : ops[i]? = some o) (hL : L i = false) (d : Tmp) :
    XS ops S (fun j => L j || decide (j = i)) ops.length d = if o.dst = some d then (S (i + 1)).tm.get d else XS ops S L ops.length d := by
  have hi : i < ops.length := by
    rcases Nat.lt_or_ge i ops.length with h | h
    · exact h
    · rw [List.getElem?_eq_none h] at ho; cases ho
  split
  · rename_i hd
    rw [XS_skip (i := i + 1) hi fun j h1 h2 h3 h4 => ?_]
    · simp only [XS]
      rw [if_pos ⟨by simp, by simpa [dstAt, ho] using hd⟩]
    · have hoj : ops[j]? = some ops[j] := List.getElem?_eq_getElem (by omega)
      have h3 : L j = true := by
        simp at h3
        rcases h3 with h3 | h3
        · exact h3
        · omega
      rcases W.plan.apart i j _ _ (by omega) ho hoj with h | h
      · rw [hcl j i h3 h] at hL; cases hL
      · exact ((apart_spec h).1 d hd).2 (by simpa [dstAt, hoj] using h4)
  · rename_i hd
    refine XS_congr fun j _ h2 => ?_
    have : j ≠ i := fun e => by subst e; exact hd (by simpa [dstAt, ho] using h2)
    simp [this]

/-- What may have come before an operation that is ready. -/
theorem Walk.before {L : Nat → Bool} (hcl : ∀ a b, L a = true → M a b = true → L b = true) {i : Nat} {o : Oper} (ho : ops[i]? = some o) (hr : ∀ e ∈ o.after.toList, Region.binds .any e = true → L e.on = true) :
    ∀ j, M i j = true → L j = true := by
  intro j hj
  obtain ⟨o', ho', e, he, hb, h⟩ := W.plan.from_ i j hj
  rw [ho] at ho'; cases ho'
  rcases h with rfl | h
  · exact hr e he hb
  · exact hcl _ _ (hr e he hb) h
theorem Walk.v_ef {L : Nat → Bool} (hcl : ∀ a b, L a = true → M a b = true → L b = true) {i : Nat} (hi : i < ops.length) (hL : L i = false) (hm : ∀ j, M i j = true → L j = true) (he : efAt C ops i = true) : vL C ops L = cnt (efAt C ops) i := by
  rw [← cnt_lt (p := efAt C ops) (i := i) (Nat.le_of_lt hi)]
  refine cnt_congr fun e _ => ?_
  cases hE : efAt C ops e
  · rfl
  · simp only [Bool.true_and]
    rcases Nat.lt_trichotomy e i with h | h | h
    · simp only [h, decide_true]
      exact hm e (W.plan.chain e i h hE he)
    · subst h; simp [hL]
    · have hn : ¬ e < i := by omega
      simp only [hn, decide_false]
      cases hLe : L e
      · rfl
      · rw [hcl e i hLe (W.plan.chain i e h he hE)] at hL; cases hL
theorem Walk.hi_le {i j : Nat} (hi : i < ops.length) (he : efAt C ops i = true) (hj : M i j = true) : hiOf C ops M j ≤ cnt (efAt C ops) i := by
  rw [← cnt_lt (p := efAt C ops) (i := i) (Nat.le_of_lt hi)]
  refine cnt_mono fun e _ h => ?_
  simp at h ⊢
  refine ⟨h.1, ?_⟩
  rcases Nat.lt_trichotomy e i with k | k | k
  · exact k
  · subst k; rw [hj] at h; simp at h
  · rw [W.plan.trans e i j (W.plan.chain i e k he h.1) hj] at h; simp at h
theorem Walk.v_next {L : Nat → Bool} {i : Nat} (hi : i < ops.length) (hL : L i = false) : vL C ops (fun j => L j || decide (j = i)) = vL C ops L + (if efAt C ops i = true then 1 else 0) := by
  have _ := W
  unfold vL
  split
  · rename_i he
    exact cnt_insert (i := i) (by simp [he]) (by simp [hL]) (fun j hj => by simp [hj]) hi
  · rename_i he
    rw [Nat.add_zero]
    refine cnt_congr fun e _ => ?_
    by_cases h : e = i
    · subst h; simp [he]
    · simp [h]
theorem Walk.v_le {L : Nat → Bool} (hcl : ∀ a b, L a = true → M a b = true → L b = true) {i : Nat} (hL : L i = false) : vL C ops L ≤ hiOf C ops M i := by
  have _ := W
  refine cnt_mono fun e _ h => ?_
  simp at h ⊢
  refine ⟨h.1, ?_⟩
  cases hm : M e i
  · rfl
  · rw [hcl e i h.2 hm] at hL; cases hL
theorem Walk.v_lt (L : Nat → Bool) : vL C ops L < (S ops.length).vs.length := by
  rw [W.vlen (Nat.le_refl _)]
  refine Nat.lt_succ_of_le (cnt_mono fun e _ h => ?_)
  simp at h; exact h.1
end
end Go.Ev

/-
  One operation of a region, whatever has been carried out.
-/
namespace Go.Ev

structure Inv (C : Ctx) (ops : List Oper) (nt base : Nat) (ps : List Step) (M : Nat → Nat → Bool) (S : Nat → RegSt) (φ0 : Phi) (H0 : AH) (w0 : World) (L : Nat → Bool) (φ : Phi) (w : World) (ts : Array Value) : Prop where
  closed : ∀ a b, L a = true → M a b = true → L b = true
  size : ts.size = nt
  slots : ∀ d x, XS ops S L ops.length d = some x → ∃ v, ts[d]? = some v ∧ VR φ x v
  hr : HR φ (VV ops S (vL C ops L)) w
  exs : Exs φ (VV ops S (vL C ops L)) w w0.heap.size (XL C ops base ps M S L)
  free : ∀ j, j < ops.length → L j = false → φ (base + j) = none
  ext : Ext φ0 H0 w0 φ (VV ops S (vL C ops L)) w
  nn : base + ops.length ≤ (VV ops S (vL C ops L)).n

theorem looks_mem {ops : List Oper} {o : Oper} {t : Tmp} (h : Operand.tmp t ∈ o.op.operands) : t ∈ looks ops o := by
  unfold looks
  exact List.mem_append_left _ (List.mem_filterMap.2 ⟨.tmp t, by simpa using h, rfl⟩)
theorem eval_restrict {ops : List Oper} {tm : Tr AV} {o : Oper} : ∀ x ∈ o.op.operands, eval (restrict tm (looks ops o)) x = eval tm x := by
  intro x hx
  cases x with
  | tmp t => simp only [eval, restrict_get, if_pos (looks_mem hx)]
  | _ => rfl
theorem wanted_restrict {ops : List Oper} {tm : Tr AV} {o : Oper} : wantedA ops (restrict tm (looks ops o)) o = wantedA ops tm o := by
  unfold wantedA
  split
  · rfl
  · rename_i j want hg
    split
    · rename_i oj hoj
      split
      · rename_i d hd
        have hm : d ∈ looks ops o := by
          unfold looks
          refine List.mem_append_right _ ?_
          rw [hg]
          simp only [hoj, hd]
          simp
        rw [restrict_get, if_pos hm]
      · rfl
    · rfl

theorem put_slots {φ φ' : Phi} (hle : φ.le φ') {nt : Nat} {tm tm' : Tr AV} {dst : Option Tmp} {x : AV} {v : Value} (hp : putA nt tm dst x = some tm') (hv : VR φ' x v) {ts : Array Value} (hs : ts.size = nt) {E E' : Tmp → Option AV}
    (hE : ∀ d y, E d = some y → ∃ u, ts[d]? = some u ∧ VR φ y u) (hE' : ∀ d, E' d = if dst = some d then tm'.get d else E d) :
    (put ts dst v).size = nt ∧ ∀ d y, E' d = some y → ∃ u, (put ts dst v)[d]? = some u ∧ VR φ' y u := by
  refine ⟨by unfold put; split <;> simp [hs], fun d y hy => ?_⟩
  rw [hE'] at hy
  split at hy
  · rename_i e
    subst e
    rw [putA_get hp, if_pos rfl] at hy
    cases hy
    have := putA_lt hp
    refine ⟨v, ?_, hv⟩
    simp [put, hs, this]
  · rename_i e
    obtain ⟨u, h1, h2⟩ := hE d y hy
    refine ⟨u, ?_, h2.mono hle⟩
    unfold put
    split
    · rename_i d'
      rw [Array.getElem?_setIfInBounds_ne (fun h => e (by rw [h]))]
      exact h1
    · exact h1

theorem Does.value {P : Program} {s : Sem Next} {w : World} {v : Value} {w' : World} (h : s.run P w = .ok (.value v) w') : Does P s w v w' := .inl h

theorem region_step {C : Ctx} (hC : C.Ok) {opsA : Array Oper} {nt base : Nat} {ps : List Step} {M : Nat → Nat → Bool} {S : Nat → RegSt} (W : Walk C opsA.toList nt base ps M S)
    {φ0 : Phi} {H0 : AH} {w0 : World} (hbase : H0.n ≤ base) {L : Nat → Bool} {φ : Phi} {w : World} {ts : Array Value} (I : Inv C opsA.toList nt base ps M S φ0 H0 w0 L φ w ts) {i : Nat} {o : Oper} (ho : opsA[i]? = some o) (hL : L i = false)
    (hr : ∀ e ∈ o.after.toList, Region.binds .any e = true → L e.on = true) :
    ∃ φ' w' ts', Inv C opsA.toList nt base ps M S φ0 H0 w0 (fun j => L j || decide (j = i)) φ' w' ts' ∧ ∀ fn rest kk ds ro cs,
      Steps C.P (lone (fr0 fn ts (.inRegion opsA (i :: rest) :: kk) ds ro) cs w) (lone (fr0 fn ts' (.inRegion opsA rest :: kk) ds ro) cs w') := by
  have hoL : opsA.toList[i]? = some o := by simpa using ho
  have hi : i < opsA.toList.length := by
    rcases Nat.lt_or_ge i opsA.toList.length with h | h
    · exact h
    · rw [List.getElem?_eq_none h] at hoL; cases hoL
  obtain ⟨p, hp1, hp2, hp3, hp4, hp5, hp6, hone⟩ := W.step hoL
  have hmask := W.before I.closed hoL hr
  have hef := W.kind_ef hoL hp3
  -- the slots that the operation looks at
  have hTR : TR φ nt (restrict (S i).tm (looks opsA.toList o)) ts := by
    refine ⟨I.size, fun d x hx => ?_⟩
    rw [restrict_get] at hx
    split at hx
    · rename_i hd
      exact I.slots d x (by rw [W.reads I.closed hoL hL hmask hd]; exact hx)
    · cases hx
  -- the heap that it works on
  have hsel : ∀ (v : Nat), v = vL C opsA.toList L → let A := addBlks p.mask v (S i).pend (VV opsA.toList S v)
      HR φ A w ∧ Exs φ A w w0.heap.size (fun id o => XL C opsA.toList base ps M S L id o ∧ ∀ b ∈ (S i).pend, (Nat.testBit p.mask b.i && Nat.ble v b.hi) = true → b.id ≠ id) ∧
      A.n = (VV opsA.toList S v).n ∧ A.gl = (VV opsA.toList S v).gl ∧ ∀ c, c < w0.heap.size → Fgn φ (VV opsA.toList S v) c → Fgn φ A c := by
    intro v hv
    subst hv
    simp only
    rw [addBlks_sel]
    obtain ⟨q1, q2⟩ := W.pend (Nat.le_of_lt hi)
    refine addSel_ok _ _ _ I.hr I.exs (fun b hb hs => ?_) q2
    obtain ⟨b1, b2, b3, b4⟩ := q1 b hb
    rw [Bool.and_eq_true] at hs
    exact ⟨b.i, b2, hmask _ (by rw [← hp4]; exact hs.1), b3, by rw [← b4]; exact Nat.le_of_ble_eq_true hs.2⟩
  have hcl' : ∀ a b, (L a || decide (a = i)) = true → M a b = true → (L b || decide (b = i)) = true := by
    intro a b ha hab
    simp only [Bool.or_eq_true, decide_eq_true_eq] at ha ⊢
    rcases ha with ha | rfl
    · exact .inl (I.closed a b ha hab)
    · exact .inl (hmask b hab)
  have hfree : ∀ j, j < opsA.toList.length → (L j || decide (j = i)) = false → j ≠ i ∧ L j = false := by
    intro j _ h
    simp at h
    exact ⟨h.2, h.1⟩
  have hvn := W.v_next hi hL
  have hwant : ∀ b, wantedA opsA.toList (S i).tm p.o = some b → Region.wanted o (yielded opsA ts) = b := by
    intro b hb
    rw [hp2, ← wanted_restrict] at hb
    exact wantedA_ok hTR hb
  -- the same version, no new block
  have same : efAt C opsA.toList i = false → (∀ ob, ¬ Dm C opsA.toList ps S i ob) → HR φ (VV opsA.toList S (vL C opsA.toList fun j => L j || decide (j = i))) w ∧
      Exs φ (VV opsA.toList S (vL C opsA.toList fun j => L j || decide (j = i))) w w0.heap.size (XL C opsA.toList base ps M S fun j => L j || decide (j = i)) := by
    intro he hD
    rw [he] at hvn
    simp only [Bool.false_eq_true, if_false, Nat.add_zero] at hvn
    rw [hvn]
    refine ⟨I.hr, I.exs.sub fun id ob ⟨j, e1, e2, e3, e4⟩ => ⟨j, e1, ?_, e3, by rw [← hvn]; exact e4⟩⟩
    simp at e2
    rcases e2 with e2 | rfl
    · exact e2
    · exact absurd e3 (hD ob)
  have hDm : ∀ ob, Dm C opsA.toList ps S i ob → p.kind = .al ∧ wantedA opsA.toList (S i).tm p.o = some true := by
    rintro ob ⟨p', f, g1, g2, g3, _⟩
    rw [hp1] at g1; cases g1
    exact ⟨g2, g3⟩
  cases hone with
  | skip hw hput hk hv hb ha =>
    have he : efAt C opsA.toList i = false := by rw [hef]; simpa using hk
    obtain ⟨s1, s2⟩ := same he (fun ob hd => by rw [hw] at hDm; simpa using hDm ob hd)
    rw [hp2] at hput
    obtain ⟨t1, t2⟩ := put_slots (Phi.le_refl φ) hput (undef_VR φ) I.size I.slots (W.writes I.closed hoL hL)
    have hvn' := hvn
    rw [he] at hvn'
    simp only [Bool.false_eq_true, if_false, Nat.add_zero] at hvn'
    exact ⟨φ, w, put ts o.dst undef, ⟨hcl', t1, t2, s1, s2, fun j hj h => I.free j hj (hfree j hj h).2, by rw [hvn']; exact I.ext, by rw [hvn']; exact I.nn⟩,
      fun fn rest kk ds ro cs => .one (st_opSkip ho (hwant _ hw))⟩
  | skipE H r hw hput hk hs hv hb ha =>
    have he : efAt C opsA.toList i = true := by rw [hef]; simpa using hk
    have hvi := W.v_ef I.closed hi hL hmask he
    obtain ⟨hH, hrl⟩ := W.V_head (Nat.le_of_lt hi) hs
    obtain ⟨hH', hrl'⟩ := W.V_head (i := i + 1) hi hv
    rw [hs, List.length_cons] at hH' hrl'
    rw [he] at hvn
    simp only [if_true] at hvn
    have hrv : r.length = vL C opsA.toList L := by rw [hrl, hvi]
    rw [hrv] at hH hH' 
    obtain ⟨a1, a2, a3, a4, a5⟩ := hsel _ rfl
    rw [hH] at hH'
    rw [hH'] at a1 a2 a3 a4 a5
    rw [hp2] at hput
    obtain ⟨t1, t2⟩ := put_slots (Phi.le_refl φ) hput (undef_VR φ) I.size I.slots (W.writes I.closed hoL hL)
    refine ⟨φ, w, put ts o.dst undef, ⟨hcl', t1, t2, by rw [hvn]; exact a1, ?_, fun j hj h => I.free j hj (hfree j hj h).2, ?_, ?_⟩, fun fn rest kk ds ro cs => .one (st_opSkip ho (hwant _ hw))⟩
    · rw [hvn]
      refine a2.sub fun id ob ⟨j, e1, e2, e3, e4⟩ => ?_
      simp only [Bool.or_eq_true, decide_eq_true_eq] at e2
      rcases e2 with e2 | rfl
      · rw [hvn] at e4
        refine ⟨⟨j, e1, e2, e3, by omega⟩, fun b hb' hs' e => ?_⟩
        obtain ⟨b1, b2, b3, b4⟩ := (W.pend (Nat.le_of_lt hi)).1 b hb'
        rw [Bool.and_eq_true, hp4] at hs'
        have hbj : b.i = j := by omega
        rw [hbj] at hs'
        have := W.hi_le hi he hs'.1
        omega
      · have := hDm ob e3; rw [hw] at this; simp at this
    · rw [hvn]
      exact ⟨I.ext.ids, by rw [a3]; exact I.ext.n, I.ext.size, fun b hb hf => ⟨a5 b hb (I.ext.keep b hb hf).1, (I.ext.keep b hb hf).2⟩, I.ext.os, I.ext.tape, I.ext.output⟩
    · rw [hvn, a3]; exact I.nn
  | pure H v hw hk hH hv hput hvs hb ha hn =>
    have he : efAt C opsA.toList i = false := by rw [hef]; simp [hk]
    obtain ⟨s1, s2⟩ := same he (fun ob hd => by have := (hDm ob hd).1; rw [hk] at this; cases this)
    have hvn' := hvn
    rw [he] at hvn'
    simp only [Bool.false_eq_true, if_false, Nat.add_zero] at hvn'
    -- the answer at the version at hand
    have hlo : p.lo ≤ vL C opsA.toList L := by
      rw [hp5]
      refine cnt_mono fun e _ h => ?_
      simp at h ⊢
      exact ⟨h.1, hmask e h.2⟩
    have hhi : vL C opsA.toList L ≤ p.hi := by rw [hp6]; exact W.v_le I.closed hL
    have hans : apure C (S i).tm (addBlks p.mask (vL C opsA.toList L) (S i).pend (VV opsA.toList S (vL C opsA.toList L))) p.o = some v := by
      by_cases e : vL C opsA.toList L = p.lo
      · have hlt : p.lo < (S i).vs.length := by
          rcases Nat.lt_or_ge p.lo (S i).vs.length with h | h
          · exact h
          · have hpos : 0 < (S i).vs.length := by rw [W.vlen (Nat.le_of_lt hi)]; omega
            have h3 : p.lo ≤ cnt (efAt C opsA.toList) i := by
              rw [hp5, ← cnt_lt (p := efAt C opsA.toList) (i := i) (Nat.le_of_lt hi)]
              refine cnt_mono fun e _ h => ?_
              simp at h ⊢
              exact ⟨h.1, W.plan.lt i e h.2⟩
            rw [W.vlen (Nat.le_of_lt hi)] at h
            omega
        have := W.V_of (Nat.le_of_lt hi) hlt
        rw [hH] at this
        rw [e, ← Option.some.inj this]
        exact hv
      · rcases hn with hn | hn
        · omega
        · -- looked at once more
          have hmem : ∀ d, i + 1 + d ≤ opsA.toList.length → { o := p.o, tm := (S i).tm, blks := (S i).pend, mask := p.mask, lo := p.lo, hi := p.hi, v := v } ∈ (S (i + 1 + d)).again := by
            intro d
            induction d with
            | zero => exact fun _ => hn
            | succ d ih =>
              intro hd
              have hod : opsA.toList[i + 1 + d]? = some opsA.toList[i + 1 + d] := List.getElem?_eq_getElem (by omega)
              obtain ⟨p', _, _, _, _, _, _, g7⟩ := W.step hod
              exact g7.again _ (ih (by omega))
          have hst := W.again _ (by have := hmem (opsA.toList.length - (i + 1)) (by omega); rwa [show i + 1 + (opsA.toList.length - (i + 1)) = opsA.toList.length from by omega] at this)
          have key : ∀ n, stable C (S opsA.toList.length).vs { o := p.o, tm := (S i).tm, blks := (S i).pend, mask := p.mask, lo := p.lo, hi := p.hi, v := v } n = true → ∀ u, p.lo < u → u ≤ p.lo + n → ∃ Hu, version (S opsA.toList.length).vs u = some Hu ∧
              apure C (S i).tm (addBlks p.mask u (S i).pend Hu) p.o = some v := by
            intro n
            induction n with
            | zero => intro _ u h1 h2; omega
            | succ n ih =>
              intro h u h1 h2
              simp only [stable, Bool.and_eq_true] at h
              by_cases hu : u = p.lo + (n + 1)
              · subst hu
                have h3 := h.1
                split at h3
                · rename_i Hu hHu
                  split at h3
                  · rename_i v' hv'
                    refine ⟨Hu, hHu, ?_⟩
                    rw [hv', beq_eq _ _ _ h3]
                  · cases h3
                · cases h3
              · exact ih h.2 u h1 (by omega)
          obtain ⟨Hu, k1, k2⟩ := key _ hst (vL C opsA.toList L) (by omega) (by simp only; omega)
          have : VV opsA.toList S (vL C opsA.toList L) = Hu := by unfold VV; rw [k1]; rfl
          rw [this]; exact k2
    obtain ⟨a1, _⟩ := hsel _ rfl
    have hans' : apure C (restrict (S i).tm (looks opsA.toList o)) (addBlks p.mask (vL C opsA.toList L) (S i).pend (VV opsA.toList S (vL C opsA.toList L))) o = some v := by
      rw [apure_congr (tm' := (S i).tm) eval_restrict, ← hp2]; exact hans
    obtain ⟨v', r1, r2⟩ := apure_ok hC.toOk0 a1 hTR hans'
    have hnd : ∀ c, o.op ≠ .defer c := by
      refine not_defer (C := C) (cb := fun _ _ => none) (tm := restrict (S i).tm (looks opsA.toList o)) (H := addBlks p.mask (vL C opsA.toList L) (S i).pend (VV opsA.toList S (vL C opsA.toList L))) (r := (v, addBlks p.mask (vL C opsA.toList L) (S i).pend (VV opsA.toList S (vL C opsA.toList L)))) ?_
      unfold doOp
      rw [← hp3, hk]
      simp only [hans']
    rw [hp2] at hput
    obtain ⟨t1, t2⟩ := put_slots (Phi.le_refl φ) hput r2 I.size I.slots (W.writes I.closed hoL hL)
    exact ⟨φ, w, put ts o.dst v', ⟨hcl', t1, t2, s1, s2, fun j hj h => I.free j hj (hfree j hj h).2, by rw [hvn']; exact I.ext, by rw [hvn']; exact I.nn⟩,
      fun fn rest kk ds ro cs => st_op ho (hwant _ hw) hnd (.value r1)⟩
  | alloc ob f hw hk hv hput hvs hb ha =>
    have he : efAt C opsA.toList i = false := by rw [hef]; simp [hk]
    have hvn' := hvn
    rw [he] at hvn'
    simp only [Bool.false_eq_true, if_false, Nat.add_zero] at hvn'
    have hv' : aalloc C (restrict (S i).tm (looks opsA.toList o)) o = some (ob, f) := by
      rw [aalloc_congr (tm' := (S i).tm) eval_restrict, ← hp2]; exact hv
    obtain ⟨u, w', sz, r1, r2, r3⟩ := aalloc_ok (w := w) hC.toOk0 hTR hv'
    have hfr := I.free i hi hL
    obtain ⟨r4, r5⟩ := r3 (base + i) hfr
    have hBw : w0.heap.size ≤ w.heap.size := I.ext.size
    obtain ⟨g1, g2, g3⟩ := Exs.grew I.hr I.exs hBw r2 hfr (by have := I.nn; omega) r4
    have hnd : ∀ c, o.op ≠ .defer c := by
      refine not_defer (C := C) (cb := fun _ _ => none) (tm := restrict (S i).tm (looks opsA.toList o)) (H := AH.empty) (r := (f AH.empty.n, AH.empty.newA ob)) ?_
      unfold doOp
      rw [← hp3, hk]
      simp only [hv']
    rw [hp2] at hput
    obtain ⟨t1, t2⟩ := put_slots (Phi.le_upd hfr _) hput r5 I.size I.slots (W.writes I.closed hoL hL)
    refine ⟨_, w', put ts o.dst u, ⟨hcl', t1, t2, by rw [hvn']; exact g1, ?_, fun j hj h => ?_, ?_, by rw [hvn']; exact I.nn⟩, fun fn rest kk ds ro cs => st_op ho (hwant _ hw) hnd (.value r1)⟩
    · rw [hvn']
      refine g2.sub fun id ob' ⟨j, e1, e2, e3, e4⟩ => ?_
      simp only [Bool.or_eq_true, decide_eq_true_eq] at e2
      rcases e2 with e2 | rfl
      · exact .inl ⟨j, e1, e2, e3, by rw [← hvn']; exact e4⟩
      · obtain ⟨p', f', k1, k2, k3, k4⟩ := e3
        rw [hp1] at k1; cases k1
        rw [hv] at k4
        cases k4
        exact .inr ⟨e1, rfl⟩
    · obtain ⟨h1, h2⟩ := hfree j hj h
      rw [Phi.upd_ne (by omega)]
      exact I.free j hj h2
    · rw [hvn']
      refine ⟨fun k hk => ?_, I.ext.n, by rw [r2.size]; omega, fun b hb hf => ?_, r2.os.trans I.ext.os, r2.tape.trans I.ext.tape, r2.output.trans I.ext.output⟩
      · rw [Phi.upd_ne (by omega)]; exact I.ext.ids k hk
      · obtain ⟨k1, k2⟩ := I.ext.keep b hb hf
        obtain ⟨m1, m2⟩ := g3 b (by omega) k1
        exact ⟨m1, m2.trans k2⟩
  | eff cb hcb H r v H' hw hk hs hv hput hvs hb ha =>
    have he : efAt C opsA.toList i = true := by rw [hef]; simpa using hk
    have hvi := W.v_ef I.closed hi hL hmask he
    obtain ⟨hH, hrl⟩ := W.V_head (Nat.le_of_lt hi) hs
    obtain ⟨hH', hrl'⟩ := W.V_head (i := i + 1) hi hvs
    rw [hs, List.length_cons] at hH' hrl'
    rw [he] at hvn
    simp only [if_true] at hvn
    have hrv : r.length = vL C opsA.toList L := by rw [hrl, hvi]
    rw [hrv] at hH hH'
    obtain ⟨a1, a2, a3, a4, a5⟩ := hsel _ rfl
    rw [hrv, hH] at hv
    rw [hH] at hH'
    have hv' : doEff C cb (restrict (S i).tm (looks opsA.toList o)) (addBlks p.mask (vL C opsA.toList L) (S i).pend (VV opsA.toList S (vL C opsA.toList L))) o = some (v, H') := by
      rw [doEff_congr (tm' := (S i).tm) eval_restrict, ← hp2]; exact hv
    have hnd : ∀ c, o.op ≠ .defer c := by
      refine not_defer (C := C) (cb := cb) (tm := restrict (S i).tm (looks opsA.toList o)) (H := addBlks p.mask (vL C opsA.toList L) (S i).pend (VV opsA.toList S (vL C opsA.toList L))) (r := (v, H')) ?_
      unfold doOp
      rw [← hp3, hk]
      exact hv'
    obtain ⟨v1, w', φ', r1, r2, r3, r4⟩ := doEff_ok hC hcb hv' a1 hTR
    have hover := HR.over a1 r2 r3
    have hexs := Exs.over a1 a2 r3
    have hext := r3.gl (addBlks p.mask (vL C opsA.toList L) (S i).pend (VV opsA.toList S (vL C opsA.toList L))).gl
    rw [a4, hH'] at hover hexs hext
    rw [hp2] at hput
    obtain ⟨t1, t2⟩ := put_slots (r3.le a1) hput r1 I.size I.slots (W.writes I.closed hoL hL)
    refine ⟨φ', w', put ts o.dst v1, ⟨hcl', t1, t2, by rw [hvn]; exact hover, ?_, fun j hj h => ?_, ?_, ?_⟩, fun fn rest kk ds ro cs => st_op ho (hwant _ hw) hnd r4⟩
    · rw [hvn]
      refine hexs.sub fun id ob ⟨j, e1, e2, e3, e4⟩ => ?_
      simp only [Bool.or_eq_true, decide_eq_true_eq] at e2
      rcases e2 with e2 | rfl
      · rw [hvn] at e4
        refine ⟨⟨j, e1, e2, e3, by omega⟩, fun b hb' hs' e => ?_⟩
        obtain ⟨b1, b2, b3, b4⟩ := (W.pend (Nat.le_of_lt hi)).1 b hb'
        rw [Bool.and_eq_true, hp4] at hs'
        have hbj : b.i = j := by omega
        rw [hbj] at hs'
        have := W.hi_le hi he hs'.1
        omega
      · have := (hDm ob e3).1; rw [hk] at this; cases this
    · obtain ⟨h1, h2⟩ := hfree j hj h
      rw [hext.ids _ (by rw [a3]; have := I.nn; omega)]
      exact I.free j hj h2
    · rw [hvn]
      refine ⟨fun k hk => ?_, ?_, Nat.le_trans I.ext.size hext.size, fun b hb hf => ?_, hext.os.trans I.ext.os, hext.tape.trans I.ext.tape, hext.output.trans I.ext.output⟩
      · rw [hext.ids k (by rw [a3]; have := I.ext.n; omega)]; exact I.ext.ids k hk
      · have h1 := I.ext.n
        have h2 := hext.n
        rw [a3] at h2
        omega
      · obtain ⟨k1, k2⟩ := I.ext.keep b hb hf
        have hbw : b < w.heap.size := Nat.lt_of_lt_of_le hb I.ext.size
        obtain ⟨m1, m2⟩ := hext.keep b hbw (a5 b hb k1)
        exact ⟨m1, m2.trans k2⟩
    · rw [hvn]
      have h1 := I.nn
      have h2 := hext.n
      rw [a3] at h2
      omega
end Go.Ev

/-
  Whatever order a region is carried out in.
-/
namespace Go.Ev

theorem cnt_zero {p : Nat → Bool} : ∀ {n : Nat}, cnt p n = 0 → ∀ j, j < n → p j = false
  | n + 1, h, j, hj => by
    simp only [cnt] at h
    by_cases hp : p n = true
    · rw [if_pos hp] at h; omega
    · rw [if_neg hp] at h
      by_cases e : j = n
      · subst e; simpa using hp
      · exact cnt_zero (n := n) (by omega) j (by omega)

theorem cnt_none {p : Nat → Bool} (h : ∀ j, p j = false) : ∀ n, cnt p n = 0
  | 0 => rfl
  | n + 1 => by rw [cnt, cnt_none h n, if_neg (by simp [h])]
theorem cnt_full {p : Nat → Bool} (h : ∀ j, p j = true) : ∀ n, cnt p n = n
  | 0 => rfl
  | n + 1 => by rw [cnt, cnt_full h n, if_pos (h n)]

section
variable {C : Ctx} (hC : C.Ok) {opsA : Array Oper} {nt base : Nat} {ps : List Step} {M : Nat → Nat → Bool} {S : Nat → RegSt} (W : Walk C opsA.toList nt base ps M S)
  {φ0 : Phi} {H0 : AH} {w0 : World} (hbase : H0.n ≤ base)
 include hC W hbase

 omit hC hbase in
theorem all_listed {listed : Array Bool} (hsz : listed.size = opsA.size) (h : Region.ready .any opsA listed = []) : ∀ j, j < opsA.size → listed.getD j false = true := by
  intro j
  induction j using Nat.strongRecOn with
  | ind j ih =>
    intro hj
    cases hl : listed.getD j false with
    | true => rfl
    | false =>
      exfalso
      have hm : j ∈ Region.ready .any opsA listed := by
        unfold Region.ready
        have ho : opsA[j]? = some opsA[j] := Array.getElem?_eq_getElem hj
        refine List.mem_filter.2 ⟨List.mem_range.2 hj, ?_⟩
        rw [ho]
        have h1 : listed.getD j true = false := by
          have hj' : j < listed.size := by omega
          rw [Array.getD_eq_getD_getElem?, Array.getElem?_eq_getElem hj'] at hl ⊢
          simpa using hl
        rw [h1]
        simp only [Bool.not_false, Bool.true_and, Option.map_some, Option.getD_some]
        rw [Array.all_eq_true_iff_forall_mem]
        intro e he
        cases hb : Region.binds .any e with
        | false => rfl
        | true =>
          have hlt := (W.plan.edge j opsA[j] (by rw [Array.getElem?_toList]; exact ho) e (by simpa using he) hb).1
          simp [ih e.on hlt (by omega)]
      rw [h] at hm
      cases hm

theorem go_ok : ∀ (fuel t : Nat) (listed : Array Bool) (φ : Phi) (w : World) (ts : Array Value), listed.size = opsA.size → Inv C opsA.toList nt base ps M S φ0 H0 w0 (fun j => listed.getD j false) φ w ts →
    cnt (fun j => !listed.getD j false) opsA.size = fuel → ∃ φ' w' ts' L', Inv C opsA.toList nt base ps M S φ0 H0 w0 L' φ' w' ts' ∧ (∀ j, j < opsA.size → L' j = true) ∧
      ∀ fn kk ds ro cs, Steps C.P (lone (fr0 fn ts (.inRegion opsA (Region.linearise.go .any opsA fuel t listed []) :: kk) ds ro) cs w) (lone (fr0 fn ts' (.inRegion opsA [] :: kk) ds ro) cs w')
  | 0, t, listed, φ, w, ts, hsz, I, hc => ⟨φ, w, ts, _, I, fun j hj => by simpa using cnt_zero hc j hj, fun fn kk ds ro cs => .refl _ _⟩
  | fuel + 1, t, listed, φ, w, ts, hsz, I, hc => by
    have hgo : Region.linearise.go .any opsA (fuel + 1) t listed [] = match (Region.ready .any opsA listed)[t % (Region.ready .any opsA listed).length]? with
        | some i => i :: Region.linearise.go .any opsA fuel (t / (Region.ready .any opsA listed).length) (listed.setIfInBounds i true) []
        | none => [] := by
      simp only [Region.linearise.go]
      change (match (Region.ready .any opsA listed)[t % (Region.ready .any opsA listed).length]? with
        | some i => Region.linearise.go .any opsA fuel (t / (Region.ready .any opsA listed).length) (listed.setIfInBounds i true) [i]
        | none => [].reverse) = _
      split
      · rw [linearise_go_acc]; rfl
      · rfl
    rw [hgo]
    cases hi : (Region.ready .any opsA listed)[t % (Region.ready .any opsA listed).length]? with
    | none =>
      have hnil : Region.ready .any opsA listed = [] := by
        cases hr : Region.ready .any opsA listed with
        | nil => rfl
        | cons x xs =>
          rw [hr] at hi
          have hlt : t % (x :: xs).length < (x :: xs).length := Nat.mod_lt _ (by simp)
          rw [List.getElem?_eq_getElem hlt] at hi
          cases hi
      exact ⟨φ, w, ts, _, I, all_listed W hsz hnil, fun fn kk ds ro cs => .refl _ _⟩
    | some i =>
      have hmem := List.mem_of_getElem? hi
      unfold Region.ready at hmem
      obtain ⟨h1, h2⟩ := List.mem_filter.1 hmem
      have hlt := List.mem_range.1 h1
      have ho : opsA[i]? = some opsA[i] := Array.getElem?_eq_getElem hlt
      rw [ho] at h2
      simp only [Option.map_some, Option.getD_some, Bool.and_eq_true] at h2
      have hLi : listed.getD i false = false := by
        have hj' : i < listed.size := by omega
        have h3 := h2.1
        rw [Array.getD_eq_getD_getElem?, Array.getElem?_eq_getElem hj'] at h3 ⊢
        simpa using h3
      have hedge : ∀ e ∈ opsA[i].after.toList, Region.binds .any e = true → listed.getD e.on false = true := by
        intro e he hb
        have h4 := (Array.all_eq_true_iff_forall_mem.1 h2.2) e (by simpa using he)
        rw [hb] at h4
        simpa using h4
      obtain ⟨φ1, w1, ts1, I1, hst⟩ := region_step hC W hbase I ho hLi hedge
      have hfun : (fun j => listed.getD j false || decide (j = i)) = fun j => (listed.setIfInBounds i true).getD j false := by
        funext j
        rw [Array.getD_eq_getD_getElem?, Array.getD_eq_getD_getElem?, Array.getElem?_setIfInBounds]
        by_cases e : j = i
        · subst e
          rw [if_pos rfl, if_pos (by omega)]
          simp
        · rw [if_neg (fun x => e x.symm)]
          simp [e]
      rw [hfun] at I1
      have hcnt : cnt (fun j => !(listed.setIfInBounds i true).getD j false) opsA.size = fuel := by
        have h5 := cnt_insert (p := fun j => !(listed.setIfInBounds i true).getD j false) (q := fun j => !listed.getD j false) (i := i) (by simp [hLi]) (by have := congrFun hfun i; simp only [decide_true, Bool.or_true] at this; rw [← this]; rfl)
          (fun j hj => by have := congrFun hfun j; simp only [hj, decide_false, Bool.or_false] at this; rw [this]) hlt
        omega
      obtain ⟨φ', w', ts', L', g1, g2, g3⟩ := go_ok fuel (t / (Region.ready .any opsA listed).length) (listed.setIfInBounds i true) φ1 w1 ts1 (by simp [hsz]) I1 hcnt
      exact ⟨φ', w', ts', L', g1, g2, fun fn kk ds ro cs => (hst fn _ kk ds ro cs).trans (g3 fn kk ds ro cs)⟩
end

theorem drawn_ok {C : Ctx} (hC : C.Ok) {ops : Array Oper} {nt : Nat} {tm : Tr AV} {H : AH} {ps : List Step} (hps : plan C ops.toList = some ps) {S : Nat → RegSt}
    (s1 : S 0 = { tm, vs := [{ H with n := H.n + ops.toList.length }], pend := [], again := [] }) {s : RegSt} (s2 : S ops.toList.length = s) (s3 : ∀ k p, ps[k]? = some p → One C ops.toList nt H.n p k (S k) (S (k + 1)))
    {Hm : AH} {r : List AH} (hvs : s.vs = Hm :: r) (hag : (s.again.all fun a => stable C s.vs a (a.hi - a.lo)) = true)
    (φ : Phi) (w : World) (ts : Array Value) (hH : HR φ H w) (ht : TR φ nt tm ts) (fn : FuncId) (kk : List Item) (ds : List Deferred) (ro : Option Nat) (id : Nat) :
    ∃ ts' w' φ', TR φ' nt s.tm ts' ∧ HR φ' (addAll r.length s.pend Hm) w' ∧ Ext φ H w φ' (addAll r.length s.pend Hm) w' ∧ ∀ cs, Steps C.P (lone (fr0 fn ts (.code (.region id ops true) :: kk) ds ro) cs w) (lone (fr0 fn ts' kk ds ro) cs w') := by
  obtain ⟨M, hM⟩ := plan_ok hps
  have W : Walk C ops.toList nt H.n ps M S := by
    refine ⟨hM, by rw [s1]; rfl, by rw [s1], s3, fun a ha => ?_⟩
    rw [s2] at ha ⊢
    exact List.all_eq_true.1 hag a ha
  -- the beginning
  have hv0 : VV ops.toList S 0 = { H with n := H.n + ops.toList.length } := by
    have := W.V_of (i := 0) (k := 0) (Nat.zero_le _) (by rw [s1]; simp)
    rw [s1] at this
    exact (Option.some.inj this).symm
  have h0 : ∀ j, (Array.replicate ops.size false).getD j false = false := by
    intro j
    rw [Array.getD_eq_getD_getElem?, Array.getElem?_replicate]
    split <;> rfl
  have hvL0 : vL C ops.toList (fun j => (Array.replicate ops.size false).getD j false) = 0 := by
    exact cnt_none (fun j => by have := h0 j; simp only [this, Bool.and_false]) _
  have hw1 : HR φ H { w with drawn := w.drawn + 1 } := hH.of_heap rfl
  have I : Inv C ops.toList nt H.n ps M S φ H { w with drawn := w.drawn + 1 } (fun j => (Array.replicate ops.size false).getD j false) φ { w with drawn := w.drawn + 1 } ts := by
    refine ⟨fun a b ha => (by have := h0 a; simp only [this] at ha; cases ha), ht.1, fun d x hx => ?_, ?_, ⟨fun id ob ⟨j, _, hj, _⟩ => (by have := h0 j; simp only [this] at hj; cases hj), fun id ob _ _ _ _ ⟨j, _, hj, _⟩ => (by have := h0 j; simp only [this] at hj; cases hj)⟩, fun j _ _ => hH.new _ (by omega), ?_, ?_⟩
    · rw [XS_skip (i := 0) (Nat.zero_le _) fun j _ _ hj => by have := h0 j; simp only [this] at hj; cases hj] at hx
      have hx : (S 0).tm.get d = some x := hx
      rw [s1] at hx
      exact ht.2 d x hx
    · rw [hvL0, hv0]
      exact hw1.sub (fun _ _ h => h) (by simp) (fun _ _ h => h) (fun _ h => h)
    · rw [hvL0, hv0]
      exact ⟨fun _ _ => rfl, by simp, Nat.le_refl _, fun b hb hf => ⟨hf, rfl⟩, rfl, rfl, rfl⟩
    · rw [hvL0, hv0]; exact Nat.le_refl _
  have hcnt : cnt (fun j => !(Array.replicate ops.size false).getD j false) ops.size = ops.size := by
    exact cnt_full (fun j => by have := h0 j; simp only [this]; rfl) _
  obtain ⟨φ', w', ts', L', g1, g2, g3⟩ := go_ok hC W (Nat.le_refl _) ops.size (w.tape w.drawn (.order fn id)) (Array.replicate ops.size false) φ _ ts (by simp) I hcnt
  -- the end
  have g2' : ∀ j, j < ops.toList.length → L' j = true := fun j hj => g2 j (by simpa using hj)
  have hlen := W.vlen (Nat.le_refl ops.toList.length)
  have hvend : vL C ops.toList L' = r.length := by
    have h1 : vL C ops.toList L' = cnt (efAt C ops.toList) ops.toList.length := cnt_congr fun e he => by simp [g2' e he]
    rw [h1]
    rw [s2, hvs, List.length_cons] at hlen
    omega
  obtain ⟨hHm, _⟩ := W.V_head (Nat.le_refl _) (by rw [s2]; exact hvs)
  obtain ⟨q1, q2⟩ := W.pend (Nat.le_refl _)
  rw [s2] at q1 q2
  have hr := g1.hr
  have hx := g1.exs
  have he := g1.ext
  rw [hvend, ← hHm] at hr hx he
  obtain ⟨e1, _, e3, _, e5⟩ := addSel_ok (sel := fun b => Nat.ble r.length b.hi) s.pend Hm _ hr hx (fun b hb hs => by
    obtain ⟨b1, b2, b3, b4⟩ := q1 b hb
    exact ⟨b.i, b2, g2' _ b1, b3, by rw [hvend, ← b4]; exact Nat.le_of_ble_eq_true hs⟩) q2
  rw [← addAll_sel] at e1 e3 e5
  refine ⟨ts', w', φ', ⟨g1.size, fun d x hx => ?_⟩, e1, ?_, fun cs => ?_⟩
  · refine g1.slots d x ?_
    rw [W.XS_all (Nat.le_refl _) fun j hj _ => g2' j hj, s2]
    exact hx
  · exact ⟨he.ids, by rw [e3]; exact he.n, he.size, fun b hb hf => by obtain ⟨k1, k2⟩ := he.keep b hb hf; exact ⟨e5 b hb k1, k2⟩, he.os, he.tape, he.output⟩
  · refine .head st_draw ?_
    have hsch : Region.schedule (C.P.follows .mixedOrders) ops (w.tape w.drawn (.order fn id)) = Region.linearise.go .any ops ops.size (w.tape w.drawn (.order fn id)) (Array.replicate ops.size false) [] := by
      rw [hC.mixed]
      simp only [Region.schedule, Bool.true_or, if_true, Region.linearise]
    rw [hsch]
    exact (g3 fn kk ds ro cs).trans (.one st_regionEnd)

theorem draw_ok {C : Ctx} (hC : C.Ok) {cb : Cb} (hcb : CbOk C cb) : DrawOk C cb := by
  intro ops nt tm H tm' H' h φ w ts hH ht fn kk ds ro id
  unfold regDraw at h
  split at h
  · cases h
  · rename_i ps hps
    obtain ⟨M, hM⟩ := plan_ok hps
    split at h
    · cases h
    · rename_i s hs
      split at h
      · cases h
      · rename_i Hm r hvs
        simp only [Tr.bif_eq] at h
        split at h
        · rename_i hag
          simp only [Option.some.injEq, Prod.mk.injEq] at h
          obtain ⟨rfl, rfl⟩ := h
          obtain ⟨S, s1, s2, s3⟩ := regD_states hcb hs
          rw [Nat.zero_add, hM.len] at s2
          exact drawn_ok hC hps s1 s2 (fun k p hp => by have := s3 k p hp; rwa [Nat.zero_add] at this) hvs hag φ w ts hH ht fn kk ds ro id
        · cases h

theorem run_sound {C : Ctx} (hC : C.Ok) (n : Nat) : CbOk C (run C n) := run_ok hC (fun _ h => draw_ok hC h) n
end Go.Ev

/-
  The top: a call that is evaluated; library functions that the model holds as entries.
-/
namespace Go.Ev

def Ov (P : Program) (f : FuncId) (g : List AV → AH → Option (AV × AH)) : Prop :=
  ∀ (args : List AV) (H : AH) (v : AV) (H' : AH), g args H = some (v, H') → ∀ (φ : Phi) (w : World), HR φ H w → ∀ as : Array Value, LR φ args as.toList →
    ∃ v' w' φ', VR φ' v v' ∧ HR φ' H' w' ∧ Ext φ H w φ' H' w' ∧ Does P (callFunc f as) w v' w'

def ctx (P : Program) (ov : FuncId → Option (List AV → AH → Option (AV × AH))) : Ctx := { P := P, tt := Tr.ofList P.types.toList 0 .leaf, ft := Tr.ofList P.funcs.toList 0 .leaf, ov := ov }
theorem ctx_ok {P : Program} {ov : FuncId → Option (List AV → AH → Option (AV × AH))} (hov : ∀ f g, ov f = some g → Ov P f g) (hm : P.follows .mixedOrders = true)
    (hn : P.funcs.toList.all (fun fn => !(fn.name == "runtime.NumGoroutine")) = true) : (ctx P ov).Ok where
  tt := fun t i h => by
    have h1 : P.types[t]? = some i := by simpa using Tr.ofList_some h
    have hlt : t < P.types.size := by
      rcases Nat.lt_or_ge t P.types.size with h | h
      · exact h
      · rw [Array.getElem?_eq_none h] at h1; cases h1
    show P.toTables.info? t = some i
    rw [Tables.info?, if_pos hlt, h1]
  ft := fun f fn h => by
    have h1 : P.funcs[f]? = some fn := by simpa using Tr.ofList_some h
    exact h1
  nm := fun f fn h => by
    have h1 : fn ∈ P.funcs.toList := by
      have h2 : P.funcs[f]? = some fn := h
      have : P.funcs.toList[f]? = some fn := by simpa using h2
      exact List.mem_of_getElem? this
    have := List.all_eq_true.1 hn fn h1
    simpa using this
  mixed := hm
  ov := fun f g h => hov f g h

theorem arr1 {φ : Phi} {x : AV} {as : Array Value} (h : LR φ [x] as.toList) : ∃ v, as = #[v] ∧ VR φ x v := by
  obtain ⟨l⟩ := as
  simp only at h
  cases h; rename_i v vs hv ht
  cases ht
  exact ⟨v, rfl, hv⟩
theorem arr2 {φ : Phi} {x y : AV} {as : Array Value} (h : LR φ [x, y] as.toList) : ∃ v u, as = #[v, u] ∧ VR φ x v ∧ VR φ y u := by
  obtain ⟨l⟩ := as
  simp only at h
  cases h; rename_i v vs hv ht
  cases ht; rename_i u us hu ht
  cases ht
  exact ⟨v, u, rfl, hv, hu⟩

/-- the first place of a byte -/
def idxA (c : Nat) : List UInt8 → Nat → Option Nat
  | [], _ => none
  | b :: bs, i => bif Nat.beq b.toNat c then some i else idxA c bs (i + 1)
theorem idxA_eq {c : Nat} (hc : c < 256) : ∀ (s : List UInt8) (i : Nat), (match idxA c s i with | some k => (.ofNat k : Int) | none => -1) = if Lib.indexByte s (Int.ofNat c).toNat.toUInt8 = -1 then -1 else Lib.indexByte s (Int.ofNat c).toNat.toUInt8 + i
  | [], i => by simp [idxA, Lib.indexByte]
  | b :: s, i => by
    have ih := idxA_eq hc s (i + 1)
    have hge := Lib.indexByte_ge s (Int.ofNat c).toNat.toUInt8
    have hb : (b == (Int.ofNat c).toNat.toUInt8) = Nat.beq b.toNat c := by
      have e : (Int.ofNat c).toNat.toUInt8.toNat = c := by
        show c % 256 = c
        exact Nat.mod_eq_of_lt hc
      rw [Bool.eq_iff_iff, beq_iff_eq, Nat.beq_eq]
      constructor
      · intro h; rw [h, e]
      · intro h; exact UInt8.toNat_inj.1 (by rw [e]; exact h)
    simp only [idxA, Lib.indexByte, Tr.bif_eq, hb]
    generalize Lib.indexByte s (Int.ofNat c).toNat.toUInt8 = J at ih hge ⊢
    by_cases h2 : Nat.beq b.toNat c = true
    · rw [if_pos h2, if_pos h2]
      simp
    · rw [if_neg h2, if_neg h2, ih]
      simp only [beq_iff_eq]
      split
      · simp
      · rw [if_neg (by omega)]
        push_cast
        omega
def indexA : List AV → AH → Option (AV × AH)
  | [.str s, .int .u8 (.ofNat c)], H => bif Nat.blt c 256 then some (.int .i64 (match idxA c s 0 with | some k => .ofNat k | none => -1), H) else none
  | _, _ => none
theorem index_ov {P : Program} {f : FuncId} {fn : Func} (hf : P.funcs[f]? = some fn) (hname : (fn.name == "runtime.NumGoroutine") = false)
    (hb : fn.body.isNone = true) (hn : Extern.findNext fn = none) (he : Extern.find fn = some Extern.BytealgIndexByte.indexByte) : Ov P f indexA := by
  intro args H v H' h φ w hH as ha
  unfold indexA at h
  split at h
  · rename_i s c
    simp only [Tr.bif_eq] at h
    split at h
    · rename_i hc
      have hc := Nat.le_of_ble_eq_true hc
      simp only [Option.some.injEq, Prod.mk.injEq] at h
      obtain ⟨rfl, rfl⟩ := h
      obtain ⟨v, u, rfl, hv, hu⟩ := arr2 ha
      cases hv; cases hu; rename_i b
      refine ⟨_, w, φ, .int .i64 _, hH, Ext.refl _ _ _, .inl ?_⟩
      rw [run_callFunc_indexByte hf hname hb hn he, Lib.run_indexByteString]
      have := idxA_eq (c := c) hc b.data.toList 0
      simp only [Result.andThen_ok]
      rw [this]
      split
      · rename_i e; rw [e]
      · simp
    · cases h
  · cases h

def countA' : List AV → AH → Option (AV × AH)
  | [.str s, .int .u8 c], H => some (.int .i64 (.ofNat (Lib.countByte s c.toNat.toUInt8)), H)
  | _, _ => none
theorem count_ov {P : Program} {f : FuncId} {fn : Func} (hf : P.funcs[f]? = some fn) (hname : (fn.name == "runtime.NumGoroutine") = false)
    (hb : fn.body.isNone = true) (hn : Extern.findNext fn = none) (he : Extern.find fn = some Extern.BytealgCount.count) : Ov P f countA' := by
  intro args H v H' h φ w hH as ha
  unfold countA' at h
  split at h
  · rename_i s c
    simp only [Option.some.injEq, Prod.mk.injEq] at h
    obtain ⟨rfl, rfl⟩ := h
    obtain ⟨v, u, rfl, hv, hu⟩ := arr2 ha
    cases hv; cases hu; rename_i b
    refine ⟨_, w, φ, .int .i64 _, hH, Ext.refl _ _ _, .inl ?_⟩
    rw [run_callFunc_extern hf hname hb hn he, Lib.run_countString]
    rfl
  · cases h

def sameA : List AV → AH → Option (AV × AH)
  | [x], H => some (x, H)
  | _, _ => none
theorem same_ov {P : Program} {f : FuncId} {fn : Func} (hf : P.funcs[f]? = some fn) (hname : (fn.name == "runtime.NumGoroutine") = false)
    (hb : fn.body.isNone = true) (hn : Extern.findNext fn = none) (he : Extern.find fn = some Extern.AbiNoEscape.same) : Ov P f sameA := by
  intro args H v H' h φ w hH as ha
  unfold sameA at h
  split at h
  · simp only [Option.some.injEq, Prod.mk.injEq] at h
    obtain ⟨rfl, rfl⟩ := h
    obtain ⟨v, rfl, hv⟩ := arr1 ha
    refine ⟨v, w, φ, hv, hH, Ext.refl _ _ _, .inl ?_⟩
    rw [run_callFunc_extern hf hname hb hn he]
    rfl
  · cases h

/-- an empty heap over a world, some of whose variables are known -/
def base (gl : Tr (List AV)) : AH := { t := .leaf, n := 0, gl := gl, z := .leaf }
def Phi.none : Phi := fun _ => Option.none
theorem base_ok {gl : Tr (List AV)} {w : World} (h : ∀ g c, gl.get g = some c → ∃ cs e fr, w.heap[g]? = some (.cells cs e fr) ∧ LR Phi.none c (cs.toList.take c.length)) : HR Phi.none (base gl) w where
  ob := fun i o hi => by simp [AH.get, base, Tr.get_leaf] at hi
  inj := fun i j p q hi => by simp [AH.get, base, Tr.get_leaf] at hi
  new := fun i _ => rfl
  gl := fun g c hg => by
    obtain ⟨cs, e, fr, h1, h2⟩ := h g c hg
    refine ⟨fun i p hi => by simp [AH.get, base, Tr.get_leaf] at hi, ?_, cs, e, fr, h1, fun i x hx => ?_⟩
    · rcases Nat.lt_or_ge g w.heap.size with h | h
      · exact h
      · rw [Array.getElem?_eq_none h] at h1; cases h1
    · obtain ⟨v, g1, g2⟩ := h2.get hx
      refine ⟨v, ?_, g2⟩
      have hlt : i < c.length := by
        rcases Nat.lt_or_ge i c.length with h | h
        · exact h
        · rw [List.getElem?_eq_none h] at hx; cases hx
      rw [List.getElem?_take_of_lt hlt] at g1
      simpa using g1
  z := fun i hi => by simp [AH.whole, base, Tr.get_leaf] at hi

/-- a table among the package's variables -/
theorem base_tab {P : Program} {w : World} {name : String} {k : IntKind} {zs : List Int} {g : Nat} (h : Lib.TabIs P w name k zs) (hg : P.globalNamed name = some g) (hz : 0 < zs.length) :
    HR Phi.none (base (Tr.set (some (zs.map fun z => AV.int k z)) .leaf g)) w := by
  refine base_ok fun g' c hc => ?_
  rw [Tr.get_set] at hc
  split at hc
  · rename_i e
    subst e
    cases hc
    have h0 := h.cell hg 0 hz
    unfold World.cell? at h0
    split at h0
    · rename_i cs e fr hh
      refine ⟨cs, e, fr, hh, LR.of_get ?_ fun i x hx => ?_⟩
      · have hlen : zs.length ≤ cs.size := by
          rcases Nat.lt_or_ge cs.size zs.length with hlt | hge
          · have := h.cell hg cs.size hlt
            unfold World.cell? at this
            simp only at hh
            rw [hh] at this
            simp at this
          · exact hge
        simp; omega
      · simp only [List.getElem?_map, Option.map_eq_some_iff] at hx
        obtain ⟨z, hz1, rfl⟩ := hx
        have hi : i < zs.length := by
          rcases Nat.lt_or_ge i zs.length with h | h
          · exact h
          · rw [List.getElem?_eq_none h] at hz1; cases hz1
        have := h.cell hg i hi
        unfold World.cell? at this
        simp only at hh
        rw [hh] at this
        simp only [Option.isSome_none, Bool.false_eq_true, if_false] at this
        refine ⟨.int k (zs.getD i 0), ?_, ?_⟩
        · rw [List.getElem?_take_of_lt (by simpa using hi)]
          simpa using this
        · have : zs.getD i 0 = z := by simp [List.getD, hz1]
          rw [this]
          exact .int k z
    · cases h0
  · simp [Tr.get_leaf] at hc

open Go.RowKit in
theorem calls_of {C : Ctx} (hC : C.Ok) {n : Nat} {f : FuncId} {args : List AV} {gl : Tr (List AV)} {v : AV} {H' : AH} (hov : C.ov f = none) (h : callA C n f args (base gl) = some (v, H')) {w : World} (hH : HR Phi.none (base gl) w)
    {as : Array Value} (ha : LR Phi.none args as.toList) : Calls C.P f as w fun e w' => ∃ v' φ', e = .returned v' ∧ VR φ' v v' ∧ Below w.heap.size w w' := by
  unfold callA callF at h
  rw [hov] at h
  split at h
  · rename_i x hx; cases hx
  · split at h
    · rename_i fn hfn
      split at h
      · rename_i c hc
        have hf := hC.ft f fn hfn
        have hl : args.length = as.size := by have := ha.length; simpa using this
        obtain ⟨v', w', φ', h1, h2, h3, h4⟩ := run_sound hC n _ _ _ _ h Phi.none w hH (as ++ Array.replicate (fn.ntmps - as.size) undef) [] none (TR.ofArgs ha fn.ntmps) .nil trivial
        intro cs
        obtain ⟨frl, g1, g2, g3⟩ := h4 cs
        have he : Frame.enter C.P f as .normal = fr0 f (as ++ Array.replicate (fn.ntmps - as.size) undef) [.code c] [] none := by
          simp [Frame.enter, fr0, hf, hc]
        refine ⟨.returned v', w', frl, ⟨v', φ', rfl, h1, ⟨h3.os, h3.tape, h3.output, h3.size, fun k hk => (h3.keep k hk fun i p hi => by simp [AH.get, base, Tr.get_leaf] at hi).2⟩⟩, ?_, g2, g3⟩
        rw [he]
        exact g1
      · cases h
    · cases h
end Go.Ev
