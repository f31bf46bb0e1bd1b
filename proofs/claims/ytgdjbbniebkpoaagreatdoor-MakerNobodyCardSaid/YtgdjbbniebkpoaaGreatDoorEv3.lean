/-
  An evaluator of the model's programs over an abstract heap, and its soundness: part Ev3.
-/
import Derived.Test.YtgdjbbniebkpoaaGreatDoorEv2
/-
  append and copy.
-/
namespace Go.Ev

theorem HR.lt {φ : Phi} {H : AH} {w : World} (h : HR φ H w) : ∀ j q, φ j = some q → (H.get j).isSome = true → q.b < w.heap.size := by
  intro j q hq hj
  obtain ⟨o, ho⟩ := Option.isSome_iff_exists.1 hj
  obtain ⟨q', hq', hor⟩ := h.ob j o ho
  rw [hq] at hq'; cases hq'
  rcases Nat.lt_or_ge q.b w.heap.size with h' | h'
  · exact h'
  · have hnone : w.heap[q.b]? = none := Array.getElem?_eq_none h'
    cases o with
    | cells => obtain ⟨_, _, h1, _⟩ := hor; rw [hnone] at h1; cases h1
    | map => obtain ⟨_, h1, _⟩ := hor; rw [hnone] at h1; cases h1
    | strIter => obtain ⟨_, h1, _⟩ := hor; rw [hnone] at h1; cases h1
    | mapIter => obtain ⟨_, h1, _⟩ := hor; rw [hnone] at h1; cases h1
    | loop => obtain ⟨_, _, h1, _⟩ := hor; rw [hnone] at h1; cases h1
    | deferred b => cases b <;> (have h1 : w.heap[q.b]? = _ := hor; rw [hnone] at h1; cases h1)
/-- A new block gets the number i, which has stood for nothing. -/
theorem HR.add {φ : Phi} {H H1 : AH} {w w' : World} (h : HR φ H w) (hg : Grew w w') {p : Place} (hp : p.b = w.heap.size) {i : Nat} (hi : φ i = none) {ob : AObj} (ho : OR (φ.upd i p) p w' ob)
    (hget : ∀ j, H1.get j = if i = j then some ob else H.get j) (hn : H.n ≤ H1.n) (hin : i < H1.n) (hgl : H1.gl = H.gl) (hz : ∀ j, H1.whole j = true → H.whole j = true ∨ (j = i ∧ p.base = 0)) (hwi : H.whole i = true → p.base = 0) :
    HR (φ.upd i p) H1 w' ∧ ∀ b, b < w.heap.size → Fgn φ H b → Fgn (φ.upd i p) H1 b ∧ w'.heap[b]? = w.heap[b]? := by
  have hle := Phi.le_upd hi p
  have hlt := h.lt
  have hfg : ∀ b, b < w.heap.size → Fgn φ H b → Fgn (φ.upd i p) H1 b := by
    intro b hb hf j q hj hq
    by_cases ei : i = j
    · subst ei; rw [Phi.upd_same] at hq; cases hq; omega
    · rw [Phi.upd_ne (fun e => ei e.symm)] at hq
      rw [hget, if_neg ei] at hj
      exact hf j q hj hq
  refine ⟨⟨fun j o hj => ?_, fun j k q r hj hk hq hr hb => ?_, fun j hj => ?_, fun g c hc => ?_, fun j hj => ?_⟩, fun b hb hf => ⟨hfg b hb hf, hg.keep b hb⟩⟩
  · rw [hget] at hj
    split at hj
    · rename_i e; cases hj; subst e; exact ⟨p, Phi.upd_same _ _ _, ho⟩
    · rename_i e
      obtain ⟨q, hq, hor⟩ := h.ob j o hj
      exact ⟨q, hle _ _ hq, hor.mono hle (hg.keep _ (hlt j q hq (by rw [hj]; rfl)))⟩
  · rw [hget] at hj hk
    by_cases ej : i = j
    · by_cases ek : i = k
      · omega
      · subst ej
        rw [Phi.upd_same] at hq; cases hq
        rw [Phi.upd_ne (fun e => ek e.symm)] at hr
        rw [if_neg ek] at hk
        have := hlt k r hr hk
        omega
    · rw [Phi.upd_ne (fun e => ej e.symm)] at hq
      rw [if_neg ej] at hj
      by_cases ek : i = k
      · subst ek
        rw [Phi.upd_same] at hr; cases hr
        have := hlt j q hq hj
        omega
      · rw [Phi.upd_ne (fun e => ek e.symm)] at hr
        rw [if_neg ek] at hk
        exact h.inj j k q r hj hk hq hr hb
  · rw [Phi.upd_ne (by omega)]
    exact h.new j (by omega)
  · rw [hgl] at hc
    obtain ⟨f1, f2, cs, e, fr, f3, f4⟩ := h.gl g c hc
    exact ⟨hfg g f2 f1, by rw [hg.size]; omega, cs, e, fr, by rw [hg.keep g f2]; exact f3, fun k x hx => let ⟨v, a, b⟩ := f4 k x hx; ⟨v, a, b.mono hle⟩⟩
  · rcases hz j hj with hj | ⟨rfl, h0⟩
    · obtain ⟨z1, z2⟩ := h.z j hj
      refine ⟨by omega, fun q hq => ?_⟩
      by_cases ej : j = i
      · subst ej
        rw [Phi.upd_same] at hq; cases hq
        exact hwi hj
      · rw [Phi.upd_ne ej] at hq; exact z2 q hq
    · exact ⟨hin, fun q hq => by rw [Phi.upd_same] at hq; cases hq; exact h0⟩
theorem HR.grow {φ : Phi} {H : AH} {w w' : World} (h : HR φ H w) (hg : Grew w w') {p : Place} (hp : p.b = w.heap.size) {ob : AObj} (ho : OR (φ.upd H.n p) p w' ob) :
    HR (φ.upd H.n p) (H.new ob) w' ∧ Ext φ H w (φ.upd H.n p) (H.new ob) w' := by
  have hn := h.new H.n (Nat.le_refl _)
  obtain ⟨h1, h2⟩ := h.add hg hp hn ho (H1 := H.new ob) (fun j => AH.get_new H j ob) (by simp [AH.new]) (by simp [AH.new]) rfl (fun j hj => .inl hj) (fun hw => absurd (h.z _ hw).1 (Nat.lt_irrefl _))
  exact ⟨h1, ⟨fun i hi => Phi.upd_ne (by omega) _, by simp [AH.new], by rw [hg.size]; omega, h2, hg.os, hg.tape, hg.output⟩⟩
theorem HR.growA {φ : Phi} {H : AH} {w w' : World} (h : HR φ H w) (hg : Grew w w') {p : Place} (hp : p.b = w.heap.size) (h0 : p.base = 0) {ob : AObj} (ho : OR (φ.upd H.n p) p w' ob) :
    HR (φ.upd H.n p) (H.newA ob) w' ∧ Ext φ H w (φ.upd H.n p) (H.newA ob) w' := by
  have hn := h.new H.n (Nat.le_refl _)
  obtain ⟨h1, h2⟩ := h.add hg hp hn ho (H1 := H.newA ob) (fun j => by simp [AH.get, AH.newA, Tr.get_set]) (by simp [AH.newA]) (by simp [AH.newA]) rfl (fun j hj => by
    simp only [AH.whole, AH.newA, Tr.get_set] at hj ⊢
    by_cases e : H.n = j
    · exact .inr ⟨e.symm, h0⟩
    · rw [if_neg e] at hj; exact .inl hj) (fun _ => h0)
  exact ⟨h1, ⟨fun i hi => Phi.upd_ne (by omega) _, by simp [AH.newA], by rw [hg.size]; omega, h2, hg.os, hg.tape, hg.output⟩⟩
theorem HR.kill {φ : Phi} {H : AH} {w : World} (h : HR φ H w) (id : Nat) : HR φ (H.kill id) w ∧ Ext φ H w φ (H.kill id) w := by
  have hal : ∀ j, ((H.kill id).get j).isSome = true → (H.get j).isSome = true := by
    intro j hj
    rw [AH.get_kill] at hj
    split at hj
    · cases hj
    · exact hj
  refine ⟨⟨fun i o hi => ?_, fun i j q r hi hj => h.inj i j q r (hal i hi) (hal j hj), h.new,
    fun g c hc => let ⟨f1, f2⟩ := h.gl g c hc; ⟨fun i q hi hq => f1 i q (hal i hi) hq, f2⟩, h.z⟩, ⟨fun _ _ => rfl, Nat.le_refl _, Nat.le_refl _, fun b _ hf => ⟨fun i q hi hq => hf i q (hal i hi) hq, rfl⟩, rfl, rfl, rfl⟩⟩
  rw [AH.get_kill] at hi
  split at hi
  · cases hi
  · exact h.ob i o hi
/-- A block that goes on under a new number. -/
theorem HR.move {φ : Phi} {H : AH} {w w' : World} (h : HR φ H w) {id : Nat} (hs : (H.get id).isSome = true) {p q : Place} (hp : φ id = some p) {o : Obj} (hw : Wrote p.b o w w') (hq : q.b = p.b) {ob : AObj}
    (ho : OR (φ.upd H.n q) q w' ob) : HR (φ.upd H.n q) ((H.kill id).new ob) w' ∧ Ext φ H w (φ.upd H.n q) ((H.kill id).new ob) w' := by
  have hn := h.new H.n (Nat.le_refl _)
  have hle := Phi.le_upd hn q
  have hnid : H.n ≠ id := fun e => by subst e; rw [hn] at hp; cases hp
  have hget : ∀ j, ((H.kill id).new ob).get j = if H.n = j then some ob else if id = j then none else H.get j := by
    intro j; rw [AH.get_new, AH.get_kill]; rfl
  have hfg : ∀ b, Fgn φ H b → Fgn (φ.upd H.n q) ((H.kill id).new ob) b := by
    intro b hf i r hi hr
    rw [hget] at hi
    by_cases ei : H.n = i
    · subst ei; rw [Phi.upd_same] at hr; cases hr
      rw [hq]; exact hf id p hs hp
    · rw [if_neg ei] at hi
      rw [Phi.upd_ne (fun e => ei e.symm)] at hr
      split at hi
      · cases hi
      · exact hf i r hi hr
  refine ⟨⟨fun i o' hi => ?_, fun i j r s hi hj hr hs' hb => ?_, fun i hi => ?_, fun g c hc => ?_, fun i hi => ?_⟩, ⟨fun i hi => Phi.upd_ne (by omega) _, by simp [AH.new, AH.kill], by rw [hw.size]; exact Nat.le_refl _, fun b hb hf => ⟨hfg b hf, hw.keep b fun e => hf id p hs hp e.symm⟩, hw.os, hw.tape, hw.output⟩⟩
  · rw [hget] at hi
    split at hi
    · rename_i e; cases hi; subst e; exact ⟨q, Phi.upd_same _ _ _, ho⟩
    · split at hi
      · cases hi
      · rename_i e1 e2
        obtain ⟨r, hr, hor⟩ := h.ob i o' hi
        refine ⟨r, hle _ _ hr, hor.mono hle (hw.keep r.b fun e => e2 ?_)⟩
        exact h.inj id i p r hs (by rw [hi]; rfl) hp hr e.symm
  · rw [hget] at hi hj
    by_cases ei : H.n = i
    · by_cases ej : H.n = j
      · omega
      · subst ei
        rw [Phi.upd_same] at hr; cases hr
        rw [if_neg ej] at hj
        rw [Phi.upd_ne (fun e => ej e.symm)] at hs'
        by_cases ek : id = j
        · rw [if_pos ek] at hj; cases hj
        · rw [if_neg ek] at hj
          exact absurd (h.inj id j p s hs hj hp hs' (by omega)) ek
    · rw [if_neg ei] at hi
      rw [Phi.upd_ne (fun e => ei e.symm)] at hr
      by_cases eki : id = i
      · rw [if_pos eki] at hi; cases hi
      · rw [if_neg eki] at hi
        by_cases ej : H.n = j
        · subst ej
          rw [Phi.upd_same] at hs'; cases hs'
          exact absurd (h.inj id i p r hs hi hp hr (by omega)) eki
        · rw [if_neg ej] at hj
          rw [Phi.upd_ne (fun e => ej e.symm)] at hs'
          by_cases ekj : id = j
          · rw [if_pos ekj] at hj; cases hj
          · rw [if_neg ekj] at hj
            exact h.inj i j r s hi hj hr hs' hb
  · simp only [AH.new, AH.kill] at hi
    rw [Phi.upd_ne (by omega)]
    exact h.new i (by omega)
  · obtain ⟨f1, f2, cs, e, fr, f3, f4⟩ := h.gl g c hc
    exact ⟨hfg g f1, by rw [hw.size]; exact f2, cs, e, fr, by rw [hw.keep g fun e => f1 id p hs hp e.symm]; exact f3, fun k x hx => let ⟨v, a, b⟩ := f4 k x hx; ⟨v, a, b.mono hle⟩⟩
  · obtain ⟨z1, z2⟩ := h.z i hi
    exact ⟨by simp only [AH.new, AH.kill]; omega, fun r hr => z2 r (by rwa [Phi.upd_ne (by omega)] at hr)⟩

theorem growBy_le (need : Nat) : ∀ (r c : Nat), c ≤ need + (need + 768) / 4 → Builtin.growBy need r c ≤ need + (need + 768) / 4
  | 0, c, h => by simpa [Builtin.growBy] using h
  | r + 1, c, h => by
    simp only [Builtin.growBy]
    split
    · exact h
    · exact growBy_le need r _ (by omega)
theorem nextcap_le (need old : Nat) (h : old < need) : Builtin.nextslicecap need old ≤ 2 * need + 200 := by
  unfold Builtin.nextslicecap
  split
  · omega
  · split
    · omega
    · have := growBy_le need 4 old (by omega)
      omega

section
variable {C : Ctx} (hC : C.Ok0) {φ : Phi} {H : AH} {w : World} (hH : HR φ H w)
 include hH
theorem firstA_ok {P : Program} {es n : Nat} {x : AV} {v : Value} {l : List AV} (hv : VR φ x v) (h : firstA H es n x = some l) {N : Nat} (hN : lenA x = some N) (hn : n ≤ N) :
    ∃ vs : List Value, (Builtin.firstCells es n v).run P w = .ok vs.toArray w ∧ LR φ l vs := by
  cases hv <;> try (simp [lenA] at hN; done)
  case str b =>
    simp only [firstA, Option.some.injEq] at h; subst h
    refine ⟨((b.extract 0 n).data.map fun b => Value.int .u8 b.toNat).toList, by unfold Builtin.firstCells; simp only [Sem.run_pure, Array.toArray_toList], ?_⟩
    rw [Array.toList_map]
    have e : (b.extract 0 n).data.toList = b.data.toList.take n := by
      rw [ByteArray.data_extract, Array.toList_extract]; simp [List.extract_eq_take_drop]
    rw [e]
    generalize b.data.toList.take n = q
    induction q with
    | nil => exact .nil
    | cons c q ih => exact .cons (.int _ _) ih
  case sliceNil =>
    simp [firstA] at h; subst h
    exact ⟨[], by simp [Builtin.firstCells], .nil⟩
  case slice id off len cap ex es' a cap' hl hc hx ha =>
    simp [lenA] at hN; subst hN
    simp only [firstA] at h
    split at h
    · rename_i c ce fz hg
      by_cases h0 : n = 0
      · subst h0
        obtain ⟨h1, h2, _⟩ := sub_some h
        simp at h2
        have : l = [] := h2
        subst this
        exact ⟨[], by simp [Builtin.firstCells, loadCells, loadCellsFrom], .nil⟩
      · obtain ⟨p, hp, rfl, _⟩ := ha (by omega)
        obtain ⟨vs, g1, g2, g3⟩ := read_cells hH hg hp h
        exact ⟨vs, by unfold Builtin.firstCells; exact g3 P w rfl, g2⟩
    · cases h
theorem lenA_ok {P : Program} {x : AV} {v : Value} (hv : VR φ x v) {N : Nat} (hN : lenA x = some N) : (Builtin.lenOf v).run P w = .ok N w := by
  have _ := hH
  cases hv <;> try (simp [lenA] at hN; done)
  all_goals (simp [lenA] at hN; subst hN; simp [Builtin.lenOf])

end

/-- what is appended is a 'make' -/
def Zeros (P : Program) (at_ : Array TypeId) : Prop := ∃ tx k, at_[1]? = some tx ∧ P.underlying tx = some (.int k)
theorem run_append_fits_z {P : Program} {w : World} {at_ : Array TypeId} {args : Array Value} {ty t e : TypeId} {i : TypeInfo} {base : Option Addr} {sLen sCap n : Nat} {kk : IntKind} {zv : Value}
    (ht : at_[0]? = some t) (h0 : args[0]? = some (.slice base sLen sCap)) (h1 : args[1]? = some (.int kk (.ofNat n))) (hz : Zeros P at_) (hu : P.underlying t = some (.slice e)) (hi : P.info? e = some i) (hzv : i.zero = some zv)
    (hn : n ≤ 100000000) (hby : i.bytes ≤ 100000) (hpos : 0 < n * i.size) (hfit : sLen + n ≤ sCap) :
    (Builtin.append_ at_ ty args).run P w = match base with
      | none => .ok (.slice none (sLen + n) sCap) w
      | some a => ((storeCells (a.add (sLen * i.size)) (Builtin.zeroCells zv.cells n).toList).run P w).andThen fun _ w' => .ok (.slice (some a) (sLen + n) sCap) w' := by
  obtain ⟨tx, k, hz, hD⟩ := hz
  have hwl : IntKind.i64.wrap (Int.ofNat n) = Int.ofNat n := wrap_in .i64 _ (by simp) (by simp [kmax]; omega)
  have hl0 : ¬ (Int.ofNat n < 0) := by simp
  have hl1 : ¬ (Int.ofNat n * (i.bytes : Int) > 2 ^ 48) := by
    have e1 : Int.ofNat n * (i.bytes : Int) = ((n * i.bytes : Nat) : Int) := by simp
    have e2 : (2 : Int) ^ 48 = 281474976710656 := by decide
    rw [e1, e2]
    have : n * i.bytes ≤ 100000000 * 100000 := Nat.mul_le_mul hn hby
    omega
  have hne : ¬ (n * i.size = 0) := by omega
  have ht0 : (Int.ofNat n).toNat = n := rfl
  unfold Builtin.append_
  simp only [ht, h0, h1, hz, Sem.run_bind, run_underlying hu, run_underlying hD, Result.andThen_ok, sizeOf, typeInfo, run_program, hi, Sem.run_pure, if_true, asInt, asIntOf, hwl, hl0, hl1, if_false, ht0, hfit, Bool.not_true, Bool.false_eq_true, hne, zeroValue, hzv]
  cases base <;> simp
theorem run_append_grows_z {P : Program} {w : World} {at_ : Array TypeId} {args : Array Value} {ty t e : TypeId} {i : TypeInfo} {base : Option Addr} {sLen sCap n : Nat} {kk : IntKind} {zv : Value} {old : Array Value} {cap : Nat}
    (ht : at_[0]? = some t) (h0 : args[0]? = some (.slice base sLen sCap)) (h1 : args[1]? = some (.int kk (.ofNat n))) (hz : Zeros P at_) (hu : P.underlying t = some (.slice e)) (hi : P.info? e = some i) (hzv : i.zero = some zv)
    (hn : n ≤ 100000000) (hpos : 0 < n * i.size) (hfit : ¬ sLen + n ≤ sCap) (h63 : sLen + n ≤ 100000000) (hby : i.bytes ≤ 100000)
    (hcap : (Question.appendCap (sLen + n) sCap e).cut (w.tape w.drawn (.appendCap (sLen + n) sCap e)) = cap)
    (hold : (Builtin.firstCells i.size sLen (.slice base sLen sCap)).run P { w with drawn := w.drawn + 1 } = .ok old { w with drawn := w.drawn + 1 }) (_hb0 : i.bytes ≠ 0) :
    (Builtin.append_ at_ ty args).run P w = .ok (.slice (some ⟨w.heap.size, 0, none⟩) (sLen + n) cap)
      { w with heap := w.heap.push (.cells (old ++ Builtin.zeroCells zv.cells n ++ Builtin.zeroCells zv.cells (cap - (sLen + n))) e), drawn := w.drawn + 1 } := by
  obtain ⟨tx, k, hz, hD⟩ := hz
  have hm : IntKind.i64.max = 9223372036854775807 := by decide
  have hn1 : ¬ (((sLen + n : Nat) : Int) > IntKind.i64.max ∧ (True ∨ i.bytes = 0)) := by rw [hm]; omega
  have hnc := nextcap_le (sLen + n) sCap (by omega)
  have hn2 : ¬ (Builtin.nextslicecap (sLen + n) sCap * i.bytes > 2 ^ 48) := by
    have : Builtin.nextslicecap (sLen + n) sCap * i.bytes ≤ (2 * 100000000 + 200) * 100000 := Nat.mul_le_mul (by omega) hby
    omega
  have hwl : IntKind.i64.wrap (Int.ofNat n) = Int.ofNat n := wrap_in .i64 _ (by simp) (by simp [kmax]; omega)
  have hl0 : ¬ (Int.ofNat n < 0) := by simp
  have hl1 : ¬ (Int.ofNat n * (i.bytes : Int) > 2 ^ 48) := by
    have e1 : Int.ofNat n * (i.bytes : Int) = ((n * i.bytes : Nat) : Int) := by simp
    have e2 : (2 : Int) ^ 48 = 281474976710656 := by decide
    rw [e1, e2]
    have : n * i.bytes ≤ 100000000 * 100000 := Nat.mul_le_mul hn hby
    omega
  have hne : ¬ (n * i.size = 0) := by omega
  have ht0 : (Int.ofNat n).toNat = n := rfl
  unfold Builtin.append_
  simp only [ht, h0, h1, hz, Sem.run_bind, run_underlying hu, run_underlying hD, Result.andThen_ok, sizeOf, typeInfo, run_program, hi, Sem.run_pure, if_true, asInt, asIntOf, hwl, hl0, hl1, if_false, ht0, hfit, Bool.not_true, Bool.false_eq_true, hn1, hn2, hne,
    run_choose, Question.forced, hcap, run_askRoom, hold, zeroValue, hzv, newRow, run_newObj]

/-- what is appended is no 'make' -/
def NoZeros (P : Program) (at_ : Array TypeId) : Prop := at_[1]? = none ∨ ∃ tx D, at_[1]? = some tx ∧ P.underlying tx = some D ∧ ∀ k, D ≠ .int k
theorem run_append_fits {P : Program} {w : World} {at_ : Array TypeId} {args : Array Value} {ty t e : TypeId} {i : TypeInfo} {base : Option Addr} {sLen sCap n : Nat} {x' : Value} {new : Array Value}
    (ht : at_[0]? = some t) (h0 : args[0]? = some (.slice base sLen sCap)) (h1 : args[1]? = some x') (hz : NoZeros P at_) (hu : P.underlying t = some (.slice e)) (hi : P.info? e = some i)
    (hlen : (Builtin.lenOf x').run P w = .ok n w) (hfit : sLen + n ≤ sCap) (hnew : (Builtin.firstCells i.size n x').run P w = .ok new w) :
    (Builtin.append_ at_ ty args).run P w = match base with
      | none => .ok (.slice none (sLen + n) sCap) w
      | some a => ((storeCells (a.add (sLen * i.size)) new.toList).run P w).andThen fun _ w' => .ok (.slice (some a) (sLen + n) sCap) w' := by
  unfold Builtin.append_
  rcases hz with hz | ⟨tx, D, hz, hD, hnot⟩
  · simp only [ht, h0, h1, hz, Sem.run_bind, run_underlying hu, Result.andThen_ok, sizeOf, typeInfo, run_program, hi, Sem.run_pure, Bool.false_eq_true, if_false, hlen, hfit, if_true, Bool.not_false, hnew]
    cases base <;> simp
  · have hm : (match D with | .int _ => true | _ => false) = false := by cases D <;> first | rfl | (exact absurd rfl (hnot _))
    simp only [ht, h0, h1, hz, Sem.run_bind, run_underlying hu, run_underlying hD, Result.andThen_ok, sizeOf, typeInfo, run_program, hi, Sem.run_pure, hm, Bool.false_eq_true, if_false, hlen, hfit, if_true, Bool.not_false, hnew]
    cases base <;> simp
theorem run_append_grows {P : Program} {w : World} {at_ : Array TypeId} {args : Array Value} {ty t e : TypeId} {i : TypeInfo} {base : Option Addr} {sLen sCap n : Nat} {x' zv : Value} {old new : Array Value} {cap : Nat}
    (ht : at_[0]? = some t) (h0 : args[0]? = some (.slice base sLen sCap)) (h1 : args[1]? = some x') (hz : NoZeros P at_) (hu : P.underlying t = some (.slice e)) (hi : P.info? e = some i) (hzv : i.zero = some zv)
    (hlen : (Builtin.lenOf x').run P w = .ok n w) (hfit : ¬ sLen + n ≤ sCap) (h63 : sLen + n ≤ 100000000) (hby : i.bytes ≤ 100000)
    (hcap : (Question.appendCap (sLen + n) sCap e).cut (w.tape w.drawn (.appendCap (sLen + n) sCap e)) = cap)
    (hold : (Builtin.firstCells i.size sLen (.slice base sLen sCap)).run P { w with drawn := w.drawn + 1 } = .ok old { w with drawn := w.drawn + 1 })
    (hnew : (Builtin.firstCells i.size n x').run P { w with drawn := w.drawn + 1 } = .ok new { w with drawn := w.drawn + 1 }) :
    (Builtin.append_ at_ ty args).run P w = .ok (.slice (some ⟨w.heap.size, 0, none⟩) (sLen + n) cap)
      { w with heap := w.heap.push (.cells (old ++ new ++ Builtin.zeroCells zv.cells (cap - (sLen + n))) e), drawn := w.drawn + 1 } := by
  have hm : IntKind.i64.max = 9223372036854775807 := by decide
  have hn1 : ¬ (((sLen + n : Nat) : Int) > IntKind.i64.max ∧ (False ∨ i.bytes = 0)) := by rw [hm]; omega
  have hnc := nextcap_le (sLen + n) sCap (by omega)
  have hn2 : ¬ (Builtin.nextslicecap (sLen + n) sCap * i.bytes > 2 ^ 48) := by
    have : Builtin.nextslicecap (sLen + n) sCap * i.bytes ≤ (2 * 100000000 + 200) * 100000 := Nat.mul_le_mul (by omega) hby
    omega
  have hlen' : (Builtin.lenOf x').run P { w with drawn := w.drawn + 1 } = .ok n { w with drawn := w.drawn + 1 } := by
    cases x' <;> simp [Builtin.lenOf] at hlen ⊢ <;> exact hlen
  unfold Builtin.append_
  rcases hz with hz | ⟨tx, D, hz, hD, hnot⟩
  · simp only [ht, h0, h1, hz, Sem.run_bind, run_underlying hu, Result.andThen_ok, sizeOf, typeInfo, run_program, hi, Sem.run_pure, Bool.false_eq_true, if_false, hlen, hfit, Bool.not_false, if_true, hn1, hn2,
      run_choose, Question.forced, hcap, run_askRoom, hold, hnew, zeroValue, hzv, newRow, run_newObj]
  · have hm : (match D with | .int _ => true | _ => false) = false := by cases D <;> first | rfl | (exact absurd rfl (hnot _))
    simp only [ht, h0, h1, hz, Sem.run_bind, run_underlying hu, run_underlying hD, Result.andThen_ok, sizeOf, typeInfo, run_program, hi, Sem.run_pure, hm, Bool.false_eq_true, if_false, hlen, hfit, Bool.not_false, if_true, hn1, hn2,
      run_choose, Question.forced, hcap, run_askRoom, hold, hnew, zeroValue, hzv, newRow, run_newObj]
end Go.Ev

/-
  append, copy, strings over bytes; all operations with effects.
-/
namespace Go.Ev

theorem Ext.drew {φ : Phi} {H : AH} {w : World} : Ext φ H w φ H { w with drawn := w.drawn + 1 } := Ext.of_heap rfl rfl rfl rfl

theorem cells_join {φ : Phi} {cs : Array Value} {xs ys : List AV} {vs : List Value} {base : Nat} (hx : ∀ (i : Nat) (x : AV), xs[i]? = some x → x.one = true ∧ ∃ v, cs[base + i]? = some v ∧ VR φ x v)
    (hy : LR φ ys vs) (hone : ys.all AV.one = true) {cs' : Array Value} (hc : cs'.toList = cs.toList.take (base + xs.length) ++ (vs ++ cs.toList.drop (base + xs.length + vs.length))) (hb : base + xs.length + vs.length ≤ cs.size) :
    ∀ (i : Nat) (x : AV), (xs ++ ys)[i]? = some x → x.one = true ∧ ∃ v, cs'[base + i]? = some v ∧ VR φ x v := by
  intro i x hi
  have hcl : cs.toList.length = cs.size := by simp
  rw [← Array.getElem?_toList, hc]
  by_cases h : i < xs.length
  · rw [List.getElem?_append_left h] at hi
    obtain ⟨h1, v, h2, h3⟩ := hx i x hi
    refine ⟨h1, v, ?_, h3⟩
    rw [List.getElem?_append_left (by simp; omega), List.getElem?_take_of_lt (by omega)]
    simpa using h2
  · rw [List.getElem?_append_right (by omega)] at hi
    obtain ⟨v, h2, h3⟩ := hy.get hi
    refine ⟨?_, v, ?_, h3⟩
    · rw [List.all_eq_true] at hone; exact hone x (List.mem_of_getElem? hi)
    · have hlt : i - xs.length < vs.length := by
        rcases Nat.lt_or_ge (i - xs.length) vs.length with h | h
        · exact h
        · rw [List.getElem?_eq_none h] at h2; cases h2
      rw [List.getElem?_append_right (by simp; omega)]
      simp only [List.length_take]
      rw [Nat.min_eq_left (by omega), show base + i - (base + xs.length) = i - xs.length from by omega, List.getElem?_append_left hlt]
      exact h2

section
variable {C : Ctx} (hC : C.Ok0) {φ : Phi} {H : AH} {w : World} (hH : HR φ H w)
 include hC hH
theorem appendA_ok {at_ : Array TypeId} {args : Array Value} {ty : TypeId} {t : TypeId} {s x r : AV} {s' x' : Value} {H' : AH} {zs : Bool}
    (ht : at_[0]? = some t) (h0 : args[0]? = some s') (h1 : args[1]? = some x') (hz : zs = false → NoZeros C.P at_) (hz1 : zs = true → Zeros C.P at_)
    (hs : VR φ s s') (hx : VR φ x x') (h : appendA C H t s x zs = some (r, H')) :
    ∃ v w' φ', (Builtin.append_ at_ ty args).run C.P w = .ok v w' ∧ VR φ' r v ∧ HR φ' H' w' ∧ Ext φ H w φ' H' w' := by
  unfold appendA at h
  split at h
  · rename_i e a len cap ex es n hu hN
    split at h
    · rename_i i z hi hzv
      simp only [Tr.bif_eq] at h
      split at h
      · cases h
      · rename_i hc0
        simp only [Bool.not_eq_true', Bool.not_eq_false, Bool.and_eq_true, Bool.or_eq_true] at hc0
        obtain ⟨⟨⟨hb1, hb2⟩, hb3⟩, hb4⟩ := hc0
        have hb1 := Nat.eq_of_beq_eq_true hb1
        have hb2 := Nat.le_of_ble_eq_true hb2
        have hb3 := Nat.le_of_ble_eq_true hb3
        have hi' := hC.tt e i hi
        have hU := und_ok hC hu
        split at h
        · -- nothing is appended
          rename_i hn0
          have hn0 : n = 0 := by have := Nat.le_of_ble_eq_true hn0; omega
          subst hn0
          simp only [Option.some.injEq, Prod.mk.injEq] at h
          obtain ⟨rfl, rfl⟩ := h
          have hzf : zs = false := by
            rcases hb4 with h | ⟨⟨⟨h, _⟩, _⟩, _⟩
            · exact h
            · cases h
          subst hzf
          have hnz := hz rfl
          have hN : lenA x = some 0 := by simpa [countA] using hN
          have hlen : (Builtin.lenOf x').run C.P w = .ok 0 w := lenA_ok hH hx hN
          have hnew : ∃ new : Array Value, (Builtin.firstCells i.size 0 x').run C.P w = .ok new w ∧ new.toList = [] := by
            cases hx <;> try (simp [lenA] at hN; done)
            · exact ⟨_, by unfold Builtin.firstCells; exact Sem.run_pure _ _ _, by simp⟩
            · exact ⟨#[], by simp [Builtin.firstCells], rfl⟩
            · exact ⟨#[], by simp [Builtin.firstCells, loadCells, loadCellsFrom], rfl⟩
          obtain ⟨new, g1, g2⟩ := hnew
          refine ⟨s', w, φ, ?_, hs, hH, Ext.refl _ _ _⟩
          cases hs with
          | sliceNil ex es =>
            rw [run_append_fits ht h0 h1 hnz hU hi' hlen (by omega) g1]
          | slice id off len cap ex es ad cap' hl hc hxx ha =>
            rw [run_append_fits ht h0 h1 hnz hU hi' hlen (by omega) g1, g2]
            simp [storeCells]
        · rename_i hnn
          have hnpos : 0 < n := by
            rcases Nat.eq_zero_or_pos n with h | h
            · subst h; exact absurd (by simp) hnn
            · exact h
          split at h
          · cases h
          · rename_i new hnewA
            split at h
            · cases h
            · rename_i hone
              simp only [Bool.not_eq_true', Bool.not_eq_false, Bool.and_eq_true] at hone
              obtain ⟨hone, hnl⟩ := hone
              have hnl := Nat.eq_of_beq_eq_true hnl
              obtain ⟨zv, hz1', hz2, it, hit, hzz⟩ := run_zero hC (φ := φ) hzv w
              rw [hi'] at hit; cases hit
              have hzl0 := hz2.cells.length
              have hzsz : zv.cells.size = i.size := by simp at hzl0; omega
              -- what is appended, in both worlds, and what append does with it
              obtain ⟨nvs, nvs1, f2, f2', hfits, hgrows⟩ : ∃ nvs nvs1 : List Value, LR φ new nvs ∧ LR φ new nvs1 ∧
                  (∀ base sLen sCap, s' = .slice base sLen sCap → sLen + n ≤ sCap → (Builtin.append_ at_ ty args).run C.P w = match base with
                    | none => .ok (.slice none (sLen + n) sCap) w
                    | some a => ((storeCells (a.add (sLen * i.size)) nvs).run C.P w).andThen fun _ w' => .ok (.slice (some a) (sLen + n) sCap) w') ∧
                  (∀ base sLen sCap cap old, s' = .slice base sLen sCap → sLen = len → ¬ sLen + n ≤ sCap → (Question.appendCap (sLen + n) sCap e).cut (w.tape w.drawn (.appendCap (sLen + n) sCap e)) = cap →
                    (Builtin.firstCells i.size sLen (.slice base sLen sCap)).run C.P { w with drawn := w.drawn + 1 } = .ok old { w with drawn := w.drawn + 1 } →
                    (Builtin.append_ at_ ty args).run C.P w = .ok (.slice (some ⟨w.heap.size, 0, none⟩) (sLen + n) cap)
                      { w with heap := w.heap.push (.cells (old ++ nvs1.toArray ++ Builtin.zeroCells zv.cells (cap - (sLen + n))) e), drawn := w.drawn + 1 }) := by
                cases zs with
                | false =>
                  have hnz := hz rfl
                  have hN' : lenA x = some n := by simpa [countA] using hN
                  have hnewA' : firstA H i.size n x = some new := by simpa [newA] using hnewA
                  have hlen : (Builtin.lenOf x').run C.P w = .ok n w := lenA_ok hH hx hN'
                  obtain ⟨nvs, f1, f2⟩ := firstA_ok (P := C.P) hH hx hnewA' hN' (Nat.le_refl _)
                  have hH1 : HR φ H { w with drawn := w.drawn + 1 } := hH.of_heap rfl
                  obtain ⟨nvs1, f1', f2'⟩ := firstA_ok (P := C.P) hH1 hx hnewA' hN' (Nat.le_refl _)
                  refine ⟨nvs, nvs1, f2, f2', fun base sLen sCap hse hfit => ?_, fun base sLen sCap cap old hse hsl hfit hcap hold => ?_⟩
                  · subst hse; rw [run_append_fits ht h0 h1 hnz hU hi' hlen hfit f1] <;> cases base <;> rfl
                  · subst hse; exact run_append_grows ht h0 h1 hnz hU hi' hzz hlen hfit (by omega) hb2 hcap hold f1'
                | true =>
                  have hzz' := hz1 rfl
                  have hxx : ∃ kk, x = .int kk (.ofNat n) ∧ n ≤ 100000000 := by
                    unfold countA at hN
                    simp only [cond_true] at hN
                    split at hN
                    · simp only [Tr.bif_eq] at hN
                      split at hN <;> simp at hN
                      rename_i hb; subst hN
                      exact ⟨_, rfl, Nat.le_of_ble_eq_true hb⟩
                    · cases hN
                  obtain ⟨kk, rfl, hn8⟩ := hxx
                  cases hx
                  have hnewA' : repl n z.cells = new := by simpa [newA] using hnewA
                  have hpos : 0 < n ∧ 0 < i.size ∧ 0 < i.bytes := by
                    rcases hb4 with h | ⟨⟨⟨h, h'⟩, h''⟩, _⟩
                    · cases h
                    · exact ⟨Nat.le_of_ble_eq_true h, Nat.le_of_ble_eq_true h', Nat.le_of_ble_eq_true h''⟩
                  have hmp : 0 < n * i.size := Nat.mul_pos hpos.1 hpos.2.1
                  have hL : LR φ new (Builtin.zeroCells zv.cells n).toList := by
                    rw [← hnewA']
                    unfold Builtin.zeroCells
                    exact repl_LR hz2.cells n _ (by rw [hb1, hzsz])
                  refine ⟨(Builtin.zeroCells zv.cells n).toList, (Builtin.zeroCells zv.cells n).toList, hL, hL, fun base sLen sCap hse hfit => ?_, fun base sLen sCap cap old hse hsl hfit hcap hold => ?_⟩
                  · subst hse; rw [run_append_fits_z ht h0 h1 hzz' hU hi' hzz hn8 hb2 hmp hfit] <;> cases base <;> rfl
                  · subst hse
                    rw [run_append_grows_z ht h0 h1 hzz' hU hi' hzz hn8 hmp hfit (by omega) hb2 hcap hold (by omega)]
              have nl := f2.length
              have nl' := f2'.length
              cases hs with
              | sliceNil ex es =>
                simp only [Option.some.injEq, Prod.mk.injEq] at h
                obtain ⟨rfl, rfl⟩ := h
                generalize hcap : (Question.appendCap (0 + n) 0 e).cut (w.tape w.drawn (.appendCap (0 + n) 0 e)) = cap
                have hcap' : n ≤ cap := by rw [← hcap]; simp [Question.cut]
                have hrun := hgrows none 0 0 cap #[] rfl rfl (by omega) hcap (by simp [Builtin.firstCells])
                let cs : Array Value := #[] ++ nvs1.toArray ++ Builtin.zeroCells zv.cells (cap - (0 + n))
                have hzl := hz2.cells.length
                have hcs : cs.size = cap * i.size := by
                  simp only [cs, Array.size_append, Builtin.zeroCells, Array.size_map, Array.size_range, List.size_toArray, List.length_nil, Nat.zero_add]
                  have : zv.cells.size = i.size := by simp at hzl; omega
                  rw [this, Nat.sub_mul, ← nl', hnl]
                  have := Nat.mul_le_mul_right i.size hcap'
                  omega
                have hg : Grew w { w with heap := w.heap.push (.cells cs e), drawn := w.drawn + 1 } := grew_push w _ _
                have hor : OR (φ.upd H.n ⟨w.heap.size, 0, cap * i.size⟩) ⟨w.heap.size, 0, cap * i.size⟩ { w with heap := w.heap.push (.cells cs e), drawn := w.drawn + 1 } (.cells new e false) := by
                  refine ⟨cs, (0, 0), by simp, hcs, ?_, ?_, fun _ i _ _ => noFz i⟩
                  · simp; rw [hnl]; exact Nat.mul_le_mul_right _ hcap'
                  · intro j y hj
                    obtain ⟨v, hv1, hv2⟩ := f2'.get hj
                    refine ⟨?_, v, ?_, hv2.mono (Phi.le_upd (hH.new _ (Nat.le_refl _)) _)⟩
                    · rw [List.all_eq_true] at hone; exact hone y (List.mem_of_getElem? hj)
                    · simp only [cs, Nat.zero_add]
                      have hlt : j < nvs1.length := by
                        rcases Nat.lt_or_ge j nvs1.length with h | h
                        · exact h
                        · rw [List.getElem?_eq_none h] at hv1; cases hv1
                      rw [Array.getElem?_append_left (by simpa using hlt)]
                      simpa using hv1
                obtain ⟨r1, r2⟩ := hH.grow hg rfl hor
                refine ⟨_, _, _, hrun, ?_, r1, r2⟩
                have := VR.slice (φ := φ.upd H.n ⟨w.heap.size, 0, cap * i.size⟩) H.n 0 (0 + n) (0 + n) false i.size ⟨w.heap.size, 0, none⟩ cap (Nat.le_refl _) (by omega) (by simp) fun _ => ⟨_, Phi.upd_same _ _ _, by simp, .inr (by simp)⟩
                exact this
              | slice id off len cap ex es ad cap' hl hc hxx ha =>
                simp only at h
                split at h
                · cases h
                · rename_i hes
                  simp only [Bool.not_eq_true', Bool.not_eq_false] at hes
                  have hes := Nat.eq_of_beq_eq_true hes
                  subst hes
                  split at h
                  · -- within what is known to be there
                    rename_i hfit
                    have hfit := Nat.le_of_ble_eq_true hfit
                    split at h <;> simp at h
                    rename_i H1 hst
                    obtain ⟨rfl, rfl⟩ := h
                    obtain ⟨p, hp, rfl, hS⟩ := ha (by omega)
                    obtain ⟨w', g1, g2, g3⟩ := storeL_ok (P := C.P) hH f2 hst hp
                    refine ⟨_, w', φ, ?_, .slice id off (len + n) cap ex i.size ⟨p.b, p.base + off, none⟩ cap' hfit hc hxx (fun _ => ⟨p, hp, rfl, hS⟩), g2, g3⟩
                    rw [hfits _ _ _ rfl (by omega)]
                    simp only [Addr.add_none]
                    rw [Nat.add_assoc, g1]
                    rfl
                  · rename_i hnfit
                    have hnfit : ¬ len + n ≤ cap := fun h => hnfit (Nat.ble_eq_true_of_le h)
                    split at h
                    · rename_i c ce fz hg
                      split at h
                      · rename_i old hold
                        -- the cells that were there, where there are any
                        have holdc : ∃ ovs : List Value, LR φ old ovs ∧ ovs.length = len * i.size ∧ ∀ P (w1 : World), w1.heap = w.heap → (Builtin.firstCells i.size len (.slice (some ad) len cap')).run P w1 = .ok ovs.toArray w1 := by
                          by_cases hl0 : len = 0
                          · subst hl0
                            obtain ⟨_, q2, _⟩ := sub_some hold
                            simp at q2
                            have : old = [] := q2
                            subst this
                            exact ⟨[], .nil, by simp, fun P w1 _ => by simp [Builtin.firstCells, loadCells, loadCellsFrom]⟩
                          · obtain ⟨p, hp, rfl, _⟩ := ha (by omega)
                            obtain ⟨ovs, q1, q2, q3⟩ := read_cells hH hg hp hold
                            exact ⟨ovs, q2, q1, fun P w1 hw1 => by unfold Builtin.firstCells; exact q3 P w1 hw1⟩
                        obtain ⟨ovs, o1, o2, o3⟩ := holdc
                        obtain ⟨ho1, ho2, _⟩ := sub_some hold
                        -- growing
                        have grows : ∀ (_ : ¬ len + n ≤ cap'), ∃ v w' S, (Builtin.append_ at_ ty args).run C.P w = .ok v w' ∧ Grew w w' ∧
                            VR (φ.upd H.n ⟨w.heap.size, 0, S⟩) (.slice (some (H.n, 0)) (len + n) (len + n) false i.size) v ∧ OR (φ.upd H.n ⟨w.heap.size, 0, S⟩) ⟨w.heap.size, 0, S⟩ w' (.cells (old ++ new) e false) := by
                          intro hbig
                          generalize hcap : (Question.appendCap (len + n) cap' e).cut (w.tape w.drawn (.appendCap (len + n) cap' e)) = ncap
                          have hcap' : len + n ≤ ncap := by rw [← hcap]; simp [Question.cut]
                          have hrun := hgrows _ _ _ ncap _ rfl rfl hbig hcap (o3 C.P _ rfl)
                          let cs : Array Value := ovs.toArray ++ nvs1.toArray ++ Builtin.zeroCells zv.cells (ncap - (len + n))
                          have hzl := hz2.cells.length
                          have hcs : cs.size = ncap * i.size := by
                            simp only [cs, Array.size_append, Builtin.zeroCells, Array.size_map, Array.size_range, List.size_toArray]
                            have : zv.cells.size = i.size := by simp at hzl; omega
                            rw [this, Nat.sub_mul, ← nl', hnl, o2, ← Nat.add_mul]
                            have := Nat.mul_le_mul_right i.size hcap'
                            omega
                          refine ⟨_, _, ncap * i.size, hrun, grew_push w _ _, .slice _ _ _ _ _ _ _ _ (Nat.le_refl _) hcap' (by simp) fun _ => ⟨_, Phi.upd_same _ _ _, by simp, .inr (by simp)⟩, cs, (0, 0), by show (w.heap.push _)[w.heap.size]? = _; rw [Array.getElem?_push_size], hcs, ?_, ?_, fun _ i _ _ => noFz i⟩
                          · simp only [List.length_append, Nat.zero_add]
                            rw [ho2, hnl, ← Nat.add_mul]; exact Nat.mul_le_mul_right _ hcap'
                          · intro j y hj
                            have hj2 := (o1.append f2').get hj
                            obtain ⟨v, hv1, hv2⟩ := hj2
                            have hcone : (old ++ new).all AV.one = true := by
                              simp only [List.all_append, Bool.and_eq_true]
                              refine ⟨?_, hone⟩
                              rw [List.all_eq_true]
                              intro y hy
                              obtain ⟨q, hq, cs, fr, k1, k2, k3, k4, k5⟩ := hH.ob id _ hg
                              rw [ho1] at hy
                              have hy' := List.mem_of_mem_drop (List.mem_of_mem_take hy)
                              obtain ⟨jj, hjj⟩ := List.mem_iff_getElem?.1 hy'
                              exact (k4 jj y hjj).1
                            refine ⟨?_, v, ?_, hv2.mono (Phi.le_upd (hH.new _ (Nat.le_refl _)) _)⟩
                            · rw [List.all_eq_true] at hcone; exact hcone y (List.mem_of_getElem? hj)
                            · simp only [cs, Nat.zero_add]
                              have hlt : j < (ovs ++ nvs1).length := by
                                rcases Nat.lt_or_ge j (ovs ++ nvs1).length with h | h
                                · exact h
                                · rw [List.getElem?_eq_none h] at hv1; cases hv1
                              rw [Array.getElem?_append_left (by simp at hlt ⊢; omega)]
                              have e1 : ovs.toArray ++ nvs1.toArray = (ovs ++ nvs1).toArray := by simp
                              rw [e1]; simpa using hv1
                        split at h
                        · rename_i hexx
                          simp only [Option.some.injEq, Prod.mk.injEq] at h
                          obtain ⟨rfl, rfl⟩ := h
                          have := hxx hexx
                          obtain ⟨v, w', S, q1, q2, q3, q4⟩ := grows (by omega)
                          obtain ⟨r1, r2⟩ := hH.grow q2 rfl q4
                          exact ⟨v, w', _, q1, q3, r1, r2⟩
                        · split at h
                          · cases h
                          · rename_i hnex hfz
                            simp only [Option.some.injEq, Prod.mk.injEq] at h
                            obtain ⟨rfl, rfl⟩ := h
                            simp only [Bool.or_eq_true, Bool.not_eq_true', not_or, Bool.not_eq_true, Bool.not_eq_false] at hfz
                            obtain ⟨hfz, hce⟩ := hfz
                            have hce := Nat.eq_of_beq_eq_true hce
                            subst hce
                            by_cases hin : len + n ≤ cap'
                            · obtain ⟨p, hp, rfl, hS⟩ := ha (by omega)
                              have hS : p.base + off + cap' * i.size ≤ p.S := by
                                rcases hS with hS | hS
                                · exact absurd hS (by simpa using hnex)
                                · exact hS
                              obtain ⟨q, hq, cs, fr, k1, k2, k3, k4, k5⟩ := hH.ob id _ hg
                              have : q = p := by rw [hp] at hq; cases hq; rfl
                              subst this
                              have hmul : (len + n) * i.size ≤ cap' * i.size := Nat.mul_le_mul_right _ hin
                              rw [Nat.add_mul] at hmul
                              have hnv : nvs.length = n * i.size := by omega
                              obtain ⟨w', cs', g1, g2, g3⟩ := storeCells_wrote (P := C.P) nvs w q.b (q.base + off + len * i.size) 0 cs ce fr k1 (f2.ones hone) (by omega) (fun j hj1 hj2 => k5 hfz j (by omega) (by omega))
                              have hsz : cs'.size = cs.size := by
                                have := congrArg List.length g3
                                simp at this; omega
                              have hox : ∀ (j : Nat) (y : AV), old[j]? = some y → y.one = true ∧ ∃ v, cs[q.base + off + j]? = some v ∧ VR φ y v := by
                                intro j y hj
                                have hjl : j < len * i.size := by
                                  rcases Nat.lt_or_ge j (len * i.size) with h | h
                                  · exact h
                                  · rw [List.getElem?_eq_none (by omega)] at hj; cases hj
                                have : c[off + j]? = some y := by
                                  rw [ho1, List.getElem?_take_of_lt hjl, List.getElem?_drop] at hj; exact hj
                                obtain ⟨k6, v, k7, k8⟩ := k4 _ y this
                                exact ⟨k6, v, by rw [Nat.add_assoc]; exact k7, k8⟩
                              have hjoin := cells_join hox f2 hone (cs' := cs') (by rw [g3, ho2]; simp) (by omega)
                              have hor : OR (φ.upd H.n ⟨q.b, q.base + off, q.S⟩) ⟨q.b, q.base + off, q.S⟩ w' (.cells (old ++ new) ce false) := by
                                refine ⟨cs', fr, g2.at_, by show cs'.size = q.S; omega, ?_, fun j y hj => ?_, fun _ j hj1 hj2 => k5 hfz j (by simp at hj1; omega) hj2⟩
                                · show q.base + off + _ ≤ q.S; simp only [List.length_append]; omega
                                · obtain ⟨k6, v, k7, k8⟩ := hjoin j y hj
                                  exact ⟨k6, v, k7, k8.mono (Phi.le_upd (hH.new _ (Nat.le_refl _)) _)⟩
                              obtain ⟨r1, r2⟩ := hH.move (q := ⟨q.b, q.base + off, q.S⟩) (by rw [hg]; rfl) hp g2 rfl hor
                              refine ⟨_, w', _, ?_, .slice H.n 0 (len + n) (len + n) false i.size ⟨q.b, q.base + off, none⟩ cap' (Nat.le_refl _) hin (by simp) (fun _ => ⟨_, Phi.upd_same _ _ _, by simp, .inr (by show q.base + off + 0 + cap' * i.size ≤ q.S; omega)⟩), r1, r2⟩
                              rw [hfits _ _ _ rfl hin]
                              simp only [Addr.add_none]
                              rw [g1]; rfl
                            · obtain ⟨v, w', S, q1, q2, q3, q4⟩ := grows hin
                              obtain ⟨k1, k2⟩ := hH.kill id
                              have hn' : (H.kill id).n = H.n := rfl
                              obtain ⟨r1, r2⟩ := k1.grow (ob := .cells (old ++ new) ce false) q2 rfl (by rw [hn']; exact q4)
                              exact ⟨v, w', _, q1, q3, r1, k2.trans r2⟩
                      · cases h
                    · cases h
    · cases h
  · cases h
end
end Go.Ev

/-
  Builtins and iterators with effects; all operations with effects.
-/
namespace Go.Ev

theorem ERs.filter {φ : Phi} {f : AV × AV × Nat → Bool} {g : MapEntry → Bool} (hfg : ∀ e m, ER φ e m → f e = g m) {es : List (AV × AV × Nat)} {ms : List MapEntry} (h : ERs φ es ms) : ERs φ (es.filter f) (ms.filter g) := by
  induction h with
  | nil => exact .nil
  | @cons e m es ms hh _ ih =>
    rw [List.filter_cons, List.filter_cons, hfg e m hh]
    split
    · exact .cons hh ih
    · exact ih
theorem ERs.all {φ : Phi} {f : AV × AV × Nat → Bool} {g : MapEntry → Bool} (hfg : ∀ e m, ER φ e m → f e = g m) {es : List (AV × AV × Nat)} {ms : List MapEntry} (h : ERs φ es ms) : es.all f = ms.all g := by
  induction h with
  | nil => rfl
  | @cons e m es ms hh _ ih => rw [List.all_cons, List.all_cons, hfg e m hh, ih]

section
variable {C : Ctx} (hC : C.Ok0) {φ : Phi} {H : AH} {w : World} (hH : HR φ H w) {nt : Nat} {tm : Tr AV} {ts : Array Value} (k : TR φ nt tm ts)
 include hH

/-- an effect whose value is known -/
theorem EffR.of {s : Sem Value} {v : AV} {H' : AH} (h : ∃ v' w' φ', s.run C.P w = .ok v' w' ∧ VR φ' v v' ∧ HR φ' H' w' ∧ Ext φ H w φ' H' w') : EffR C φ H w (do pure (.value (← s))) (.val v H') := by
  have _ := hH
  obtain ⟨v', w', φ', h1, h2, h3, h4⟩ := h
  exact ⟨v', w', φ', .inl (by simp [h1]), h2, h3, h4⟩

 include hC in
theorem nextA_ok {r : Nat} {p : Place} (hp : φ r = some p) {E : Eff} (h : nextA H r = some E) (ty : TypeId) :
    ∃ v H', E = .val v H' ∧ ∃ v' w', (Instr.next (.pointer (some ⟨p.b, p.base + 0, none⟩)) false ty).run C.P w = .ok v' w' ∧ VR φ v v' ∧ HR φ H' w' ∧ Ext φ H w φ H' w' := by
  unfold nextA at h
  split at h
  · rename_i m since seen last hg
    split at h
    · rename_i es clock hm
      obtain ⟨pm, ms, g1, g2, g3, g4, g5⟩ := iter_of hC hH hg hp hm
      simp only [Tr.bif_eq] at h
      split at h
      · cases h
      · rename_i hbad
        have hsup : (!seen.toArray.isEmpty && !ms.isEmpty && ms.all (fun e => decide (e.born ≥ last))) = false := by
          have e1 : ms.all (fun e => decide (e.born ≥ last)) = es.all (fun e => Nat.ble last e.2.2) := by
            rw [← Array.all_toList]
            refine (g5.all fun e m hh => ?_).symm
            rw [hh.2.2]
            by_cases h : last ≤ e.2.2
            · rw [Nat.ble_eq_true_of_le h]; simp [h]
            · have : Nat.ble last e.2.2 = false := by cases h' : Nat.ble last e.2.2 with | false => rfl | true => exact absurd (Nat.le_of_ble_eq_true h') h
              rw [this]; simp [h]
          have e2 : ms.isEmpty = es.isEmpty := by
            have hl : es.length = ms.size := by have := g5.length; simpa using this
            cases es with
            | nil =>
              have h0 : ms.size = 0 := by simpa using hl.symm
              have h1 : ms = #[] := Array.eq_empty_of_size_eq_zero h0
              rw [h1]; rfl
            | cons a b =>
              have h0 : ms.size ≠ 0 := by simp at hl; omega
              cases h : ms.isEmpty with
              | false => rfl
              | true => exact absurd (by simpa using h) (fun e : ms = #[] => h0 (by rw [e]; rfl))
          rw [e1, e2]
          simpa using hbad
        have hleft : ERs φ (es.filter fun e => !seen.contains e.2.2) (ms.filter fun e => !seen.toArray.contains e.born).toList := by
          rw [Array.toList_filter]
          refine g5.filter fun e m hh => ?_
          rw [hh.2.2]; simp
        have run_head : ∀ (left : Array MapEntry), left = (ms.filter fun e => !seen.toArray.contains e.born) →
            (Instr.next (.pointer (some ⟨p.b, p.base + 0, none⟩)) false ty).run C.P w =
              (do
                let old := left.filter (·.born < since)
                let new := left.filter (·.born ≥ since)
                let candidates := (if old.isEmpty then #[none] else #[]) ++ (old ++ new).map some
                match candidates[← choose (.mapNext candidates.size)]? with
                | some (some e) =>
                  setObj p.b (.mapIter (some pm.b) since (seen.toArray.push e.born) clock)
                  pure (.tuple #[.bool true, e.key, e.val])
                | some none => pure (.tuple #[.bool false])
                | none => stuck "Next: no such candidate" : Sem Value).run C.P w := by
          intro left hl
          subst hl
          simp only [g2, Nat.zero_add, Instr.next, Sem.run_bind, getObj, Sem.run, g3, Result.andThen_ok, g4, hsup, Bool.false_eq_true, if_false]
          rfl
        split at h
        · rename_i hnil
          simp only [Option.some.injEq] at h
          subst h
          rw [hnil] at hleft
          have hl0 : (ms.filter fun e => !seen.toArray.contains e.born) = #[] := by
            generalize (ms.filter fun e => !seen.toArray.contains e.born) = left at hleft
            generalize hlt : left.toList = lt at hleft
            cases hleft
            exact Array.toList_eq_nil_iff.1 hlt
          refine ⟨_, _, rfl, .tuple #[.bool false], w, ?_, .tuple _ _ (.cons (.bool _) .nil), hH, Ext.refl _ _ _⟩
          rw [run_head #[] hl0.symm]
          simp [Question.forced]
        · rename_i kk vv bb hone
          split at h <;> simp at h
          rename_i hb
          have hb := Nat.le_of_ble_eq_true hb
          subst h
          rw [hone] at hleft
          obtain ⟨e, he, hE⟩ : ∃ e, (ms.filter fun e => !seen.toArray.contains e.born) = #[e] ∧ ER φ (kk, vv, bb) e := by
            generalize (ms.filter fun e => !seen.toArray.contains e.born) = left at hleft
            generalize hlt : left.toList = lt at hleft
            cases hleft; rename_i m ms' hh ht
            cases ht
            exact ⟨m, by rw [← Array.toArray_toList (xs := left), hlt], hh⟩
          have hborn : e.born = bb := hE.2.2
          have hlt : e.born < since := by omega
          obtain ⟨w', s1, s2⟩ := setObj_wrote (C := C) (o' := .mapIter (some pm.b) since (seen.toArray.push e.born) clock) g3 (by simp)
          have hw := hH.wrote (id := r) (p := p) (by rw [hg]; rfl) hp s2 (ob := .mapIter m since (seen ++ [bb]) clock) ⟨pm, by rw [s2.at_, hborn]; simp, g1, g2⟩
          refine ⟨_, _, rfl, .tuple #[.bool true, e.key, e.val], w', ?_, .tuple _ _ (.cons (.bool _) (.cons hE.1 (.cons hE.2.1 .nil))), hw.1, hw.2⟩
          rw [run_head #[e] he.symm]
          have hge : ¬ since ≤ e.born := by omega
          have s1' := s1
          simp only [List.push_toArray] at s1'
          simp [hlt, hge, Question.forced, s1']
        · cases h
    · cases h
  · cases h

theorem rangeA_ok {t : TypeId} {x : AV} {v : Value} (hv : VR φ x v) (hC : C.Ok0) {E : Eff} (h : rangeA C H t x = some E) :
    ∃ y H', E = .val y H' ∧ ∃ v' w' φ', (Instr.range t v).run C.P w = .ok v' w' ∧ VR φ' y v' ∧ HR φ' H' w' ∧ Ext φ H w φ' H' w' := by
  unfold rangeA at h
  split at h
  · rename_i kt et m hu
    split at h
    · rename_i es clock hm
      simp only [Option.some.injEq] at h
      subst h
      cases hv; rename_i pm hpm
      obtain ⟨q, hq, ms, h1, h2⟩ := hH.ob _ _ hm
      have : q = pm := by rw [hpm] at hq; cases hq; rfl
      subst this
      have hg : Grew w { w with heap := w.heap.push (.mapIter (some q.b) clock #[] clock), drawn := w.drawn } := grew_push w _ _
      have hn := hH.new H.n (Nat.le_refl _)
      obtain ⟨r1, r2⟩ := hH.grow (p := ⟨w.heap.size, 0, 0⟩) hg rfl (ob := .mapIter m clock [] clock) ⟨q, by simp, (Phi.le_upd hn _) _ _ hpm, rfl⟩
      refine ⟨_, _, rfl, .pointer (some ⟨w.heap.size, 0, none⟩), _, _, ?_, ?_, r1, r2⟩
      · simp only [Instr.range, Sem.run_bind, run_und hC hu, Result.andThen_ok, getObj, Sem.run, h1, Sem.run_pure, run_newObj]
      · have := VR.ptr (φ := φ.upd H.n ⟨w.heap.size, 0, 0⟩) H.n 0 ⟨w.heap.size, 0, 0⟩ (Phi.upd_same _ _ _)
        simpa using this
    · cases h
  · cases h

 omit hH in
theorem loadBytes_run {P : Program} {w : World} (b : Nat) : ∀ (ns : List Nat) (o : Nat) (acc : ByteArray), (∀ (j : Nat) m, ns[j]? = some m → w.cell? ⟨b, o + j, none⟩ = some (.int .u8 (.ofNat m))) →
    (loadBytes ⟨b, o, none⟩ acc ns.length).run P w = .ok ⟨acc.data ++ (ns.map UInt8.ofNat).toArray⟩ w
  | [], o, acc, _ => by simp [loadBytes]
  | n :: ns, o, acc, h => by
    have h0 := h 0 n (by simp)
    simp only [Nat.add_zero] at h0
    simp only [List.length_cons, loadBytes, Sem.run_bind, run_load, h0, Result.andThen_ok, Addr.add_none]
    have := loadBytes_run (P := P) (w := w) b ns (o + 1) (acc.push (Int.ofNat n).toNat.toUInt8) fun j m hm => by
      have := h (j + 1) m (by simpa using hm)
      rw [Nat.add_assoc, Nat.add_comm 1 j]; exact this
    rw [this]
    congr 2
    simp [ByteArray.push]

theorem stringA_ok {pt ty : TypeId} {a : Option (Nat × Nat)} {n : Nat} {p : Value} {ats : Array TypeId} {kk : IntKind} (hC : C.Ok0) (hv : VR φ (.ptr a) p) (ht : ats[0]? = some pt) {E : Eff} (h : stringA C H pt a n = some E) :
    ∃ y H', E = .val y H' ∧ ∃ v' w' φ', (Builtin.unsafeString_ ats ty #[p, .int kk (.ofNat n)]).run C.P w = .ok v' w' ∧ VR φ' y v' ∧ HR φ' H' w' ∧ Ext φ H w φ' H' w' := by
  unfold stringA at h
  simp only [Tr.bif_eq] at h
  have hn0 : ¬ ((Int.ofNat n) < 0) := by simp
  have hm : IntKind.i64.max = 9223372036854775807 := by decide
  split at h
  · rename_i h0
    have h0 := Nat.eq_of_beq_eq_true h0
    subst h0
    simp only [Option.some.injEq] at h
    subst h
    refine ⟨_, _, rfl, .string .empty, w, φ, ?_, .str ByteArray.empty, hH, Ext.refl _ _ _⟩
    have hle : ¬ ((Int.ofNat 0) > IntKind.i64.max) := by rw [hm]; decide
    cases hv with
    | ptrNil => (unfold Builtin.unsafeString_; change Sem.run C.P (asInt (.int kk (.ofNat _)) >>= _) w = _); simp only [Sem.run_bind, asInt, asIntOf, Sem.run_pure, Result.andThen_ok, ht, if_neg hn0, if_neg hle]; rfl
    | ptr id off q hq => (unfold Builtin.unsafeString_; change Sem.run C.P (asInt (.int kk (.ofNat _)) >>= _) w = _); simp only [Sem.run_bind, asInt, asIntOf, Sem.run_pure, Result.andThen_ok, ht, if_neg hn0, if_neg hle]; rfl
  · rename_i h0
    have h0 : n ≠ 0 := fun e => h0 (by rw [e]; rfl)
    split at h
    · cases h
    · rename_i hbig
      simp only [Bool.not_eq_true', Bool.not_eq_false] at hbig
      have hbig := Nat.le_of_ble_eq_true hbig
      split at h <;> try (cases h; done)
      rename_i id off e hu
      split at h
      · rename_i c e' fz he hg
        split at h
        · rename_i he' hs1
          split at h
          · rename_i l hsub
            split at h <;> simp at h
            rename_i bs hbs
            subst h
            cases hv; rename_i p hp
            obtain ⟨q, hq, cs, fr, h1, h2, h3, h4, h5⟩ := hH.ob _ _ hg
            have : q = p := by rw [hp] at hq; cases hq; rfl
            subst this
            obtain ⟨vs, g1, g2, g3⟩ := read_cells hH hg hp hsub
            obtain ⟨ns, g4, g5⟩ := bytes_of hbs g2
            obtain ⟨_, hsl, hslen⟩ := sub_some hsub
            have hns : ns.length = n := by rw [← g1, g4]; simp
            have hlen : off + n ≤ c.length := by omega
            have hsz : n ≤ 1 ∨ True := .inr trivial
            have hcell : ∀ (j : Nat) m, ns[j]? = some m → w.cell? ⟨q.b, q.base + off + j, none⟩ = some (.int .u8 (.ofNat m)) := by
              intro j m hj
              have hjn : j < n := by
                rcases Nat.lt_or_ge j ns.length with h | h
                · omega
                · rw [List.getElem?_eq_none h] at hj; cases hj
              have hlj : l[j]? = some (l[j]'(by omega)) := List.getElem?_eq_getElem (by omega)
              have hcj : c[off + j]? = l[j]? := by
                have := (sub_some hsub).1
                conv => rhs; rw [this]
                rw [List.getElem?_take_of_lt hjn, List.getElem?_drop]
              rw [hlj] at hcj
              obtain ⟨_, v, hv1, hv2⟩ := h4 _ _ hcj
              obtain ⟨v2, hv3, hv4⟩ := g2.get hlj
              rw [g4] at hv3
              simp only [List.getElem?_map, hj, Option.map_some, Option.some.injEq] at hv3
              subst hv3
              rw [cell_of h1, Nat.add_assoc, hv1]
              generalize l[j]'(by omega) = y at hv2 hv4
              cases hv4
              cases hv2
              rfl
            let w' : World := w.freeze ⟨q.b, q.base + off, none⟩ n
            obtain ⟨fr', hfr'⟩ : ∃ fr', Wrote q.b (.cells cs e' fr') w w' := by
              have hfz : w' = { w with heap := w.heap.modify q.b fun
                  | .cells c elem (lo, hi) => .cells c elem (if lo == hi then (q.base + off, q.base + off + n) else (min lo (q.base + off), max hi (q.base + off + n)))
                  | o => o } := by
                show w.freeze _ n = _
                unfold World.freeze
                rw [if_neg h0]
                rfl
              obtain ⟨lo, hi⟩ := fr
              refine ⟨(if lo == hi then (q.base + off, q.base + off + n) else (min lo (q.base + off), max hi (q.base + off + n))), ?_⟩
              rw [hfz]
              refine ⟨by simp, ?_, fun b hb => ?_, rfl, rfl, rfl, rfl⟩
              · simp only []
                rw [Array.getElem?_modify, if_pos rfl, h1]; rfl
              · simp only []
                rw [Array.getElem?_modify, if_neg (fun e => hb e.symm)]
            have hw := hH.wrote (id := id) (p := q) (by rw [hg]; rfl) hp hfr' (ob := .cells c e' true) ⟨cs, fr', hfr'.at_, h2, h3, h4, by simp⟩
            refine ⟨_, _, rfl, .string ⟨(ns.map UInt8.ofNat).toArray⟩, w', φ, ?_, by have := VR.str (φ := φ) ⟨(ns.map UInt8.ofNat).toArray⟩; simpa [g5] using this, hw.1, hw.2⟩
            unfold sizeT at hs1
            split at hs1 <;> simp at hs1
            rename_i i hi
            have hi' := hC.tt e' i hi
            have hco : C.P.cellsOf e' = 1 := by simp [Program.cellsOf, hi', hs1]
            have hle : ¬ ((Int.ofNat n) > IntKind.i64.max) := by rw [hm]; simp; omega
            have hn0' : ¬ ((Int.ofNat n) = 0) := by simp; omega
            have hlies : liesAt C.P C.P.depth e' (cs.size / C.P.cellsOf e') (q.base + off) e n = true := by
              obtain ⟨d, hd0⟩ : ∃ d, C.P.depth = d + 1 := ⟨2 * (C.P.types.size + Made.depth) + 1, rfl⟩
              rw [hd0]
              unfold liesAt
              rw [Bool.or_eq_true]
              refine .inl ?_
              rw [hd0]
              unfold rowAt
              simp only [hco]
              have hsame : sameLayout C.P (d + 1) e' e = true := by
                unfold sameLayout
                rw [Bool.or_eq_true]
                refine .inr ?_
                rw [und_ok hC he', und_ok hC he]
                rfl
              have h1' : (q.base + off) % 1 = 0 := Nat.mod_one _
              have h2' : (q.base + off) / 1 = q.base + off := Nat.div_one _
              have h3' : cs.size / 1 = cs.size := Nat.div_one _
              have hle' : q.base + off + n ≤ cs.size := by omega
              simp [hsame, h1', h2', h3', hle']
            have hbytes := loadBytes_run (P := C.P) (w := w) q.b ns (q.base + off) .empty hcell
            rw [hns] at hbytes
            have hnn : (Int.ofNat n).toNat = n := rfl
            (unfold Builtin.unsafeString_; change Sem.run C.P (asInt (.int kk (.ofNat _)) >>= _) w = _); simp only [Sem.run_bind, asInt, asIntOf, Sem.run_pure, Result.andThen_ok, ht, if_neg hn0, if_neg hle, if_neg hn0', elemOf, run_und hC hu, variablesAt, run_program, run_shape, World.shape?, h1, hnn, hlies, hbytes, run_freeze, Sem.run_ite, if_true]
            simp [w']
          · cases h
        · cases h
      · cases h
end
end Go.Ev

/-
  All operations with effects.
-/
namespace Go.Ev
section
variable {C : Ctx} (hC : C.Ok0) {φ : Phi} {H : AH} {w : World} (hH : HR φ H w) {nt : Nat} {tm : Tr AV} {ts : Array Value} (k : TR φ nt tm ts)
 include hC hH

theorem copyA_ok {ats : Array TypeId} {as : Array Value} {ty t : TypeId} {d x : AV} {d' x' : Value} (ht : ats[0]? = some t) (h0 : as[0]? = some d') (h1 : as[1]? = some x') (hd : VR φ d d') (hx : VR φ x x') {E : Eff} (h : copyA C H t d x = some E) :
    ∃ y H', E = .val y H' ∧ ∃ v' w' φ', (Builtin.copy_ ats ty as).run C.P w = .ok v' w' ∧ VR φ' y v' ∧ HR φ' H' w' ∧ Ext φ H w φ' H' w' := by
  unfold copyA at h
  split at h
  · rename_i e a len cap ex es n hu hN
    split at h
    · rename_i size hsz
      split at h
      · rename_i new hnew
        have hlen : (Builtin.lenOf x').run C.P w = .ok n w := lenA_ok hH hx hN
        obtain ⟨nvs, f1, f2⟩ := firstA_ok (P := C.P) hH hx hnew hN (Nat.min_le_left _ _)
        cases hd with
        | sliceNil ex es =>
          simp only [Option.some.injEq] at h
          subst h
          refine ⟨_, _, rfl, goInt (Nat.min n 0), w, φ, ?_, .int _ _, hH, Ext.refl _ _ _⟩
          unfold Builtin.copy_
          simp only [ht, h0, h1, Sem.run_bind, run_und hC hu, Result.andThen_ok, hlen, run_size hC hsz, f1, Sem.run_pure]
        | slice id off len cap ex es ad cap' hl hc hxx ha =>
          simp only [Tr.bif_eq, Bool.and_eq_true] at h
          split at h
          · rename_i hb
            have hb1 := Nat.eq_of_beq_eq_true hb.1
            have hb2 := Nat.le_of_ble_eq_true hb.2
            split at h <;> simp at h
            rename_i H' hst
            subst h
            have hml : Nat.min n len ≤ len := Nat.min_le_right _ _
            obtain ⟨p, hp, rfl, hS⟩ := ha (by omega)
            obtain ⟨w', g1, g2, g3⟩ := storeL_ok (P := C.P) hH f2 hst hp
            refine ⟨_, _, rfl, goInt (Nat.min n len), w', φ, ?_, .int _ _, g2, g3⟩
            unfold Builtin.copy_
            simp only [ht, h0, h1, Sem.run_bind, run_und hC hu, Result.andThen_ok, hlen, run_size hC hsz, f1, Sem.run_pure, g1]
          · split at h <;> simp at h
            rename_i hb0
            have hb0 := Nat.eq_of_beq_eq_true hb0
            subst h
            have hn0 : nvs = [] := by
              have := f2.length
              have hnl : new = [] := by
                rw [hb0] at hnew
                cases hx <;> simp [firstA, lenA] at hnew hN
                · exact hnew
                · exact hnew
                · split at hnew
                  · obtain ⟨_, q, _⟩ := sub_some hnew
                    simpa using q
                  · cases hnew
              rw [hnl] at this
              exact List.length_eq_zero_iff.1 this.symm
            subst hn0
            refine ⟨_, _, rfl, goInt (Nat.min n len), w, φ, ?_, by rw [hb0]; exact .int _ _, hH, Ext.refl _ _ _⟩
            unfold Builtin.copy_
            simp only [ht, h0, h1, Sem.run_bind, run_und hC hu, Result.andThen_ok, hlen, run_size hC hsz, f1, Sem.run_pure, storeCells]
      · cases h
    · cases h
  · cases h

theorem clearA_ok {ats : Array TypeId} {as : Array Value} {ty t : TypeId} {d : AV} {d' : Value} (ht : ats[0]? = some t) (h0 : as[0]? = some d') (hd : VR φ d d') {E : Eff} (h : clearA C H t d = some E) :
    ∃ y H', E = .val y H' ∧ ∃ v' w' φ', (Builtin.clear_ ats ty as).run C.P w = .ok v' w' ∧ VR φ' y v' ∧ HR φ' H' w' ∧ Ext φ H w φ' H' w' := by
  unfold clearA at h
  split at h
  · rename_i D hu
    simp only [Option.some.injEq] at h; subst h
    cases hd
    refine ⟨_, _, rfl, undef, w, φ, ?_, undef_VR φ, hH, Ext.refl _ _ _⟩
    unfold Builtin.clear_
    simp only [ht, h0, Sem.run_bind, run_und hC hu, Result.andThen_ok, Sem.run_pure]; rfl
  · rename_i D len cap ex es hu
    simp only [Option.some.injEq] at h; subst h
    cases hd
    refine ⟨_, _, rfl, undef, w, φ, ?_, undef_VR φ, hH, Ext.refl _ _ _⟩
    unfold Builtin.clear_
    simp only [ht, h0, Sem.run_bind, run_und hC hu, Result.andThen_ok, Sem.run_pure]; rfl
  · rename_i D r hu
    split at h <;> simp at h
    rename_i es clock hg
    subst h
    cases hd; rename_i p hp
    obtain ⟨ms, e1, e2, e3⟩ := map_of hC hH hg hp
    obtain ⟨w', g1, g2⟩ := e3 [] #[] clock .nil
    refine ⟨_, _, rfl, undef, w', φ, ?_, undef_VR φ, g2⟩
    unfold Builtin.clear_
    simp only [ht, h0, Sem.run_bind, run_und hC hu, Result.andThen_ok, Sem.run_pure, e2, g1]; rfl
  · rename_i e id off n cap ex es hu
    simp only [Tr.bif_eq] at h
    split at h
    · rename_i hn
      have hn := Nat.eq_of_beq_eq_true hn
      subst hn
      simp only [Option.some.injEq] at h; subst h
      cases hd
      refine ⟨_, _, rfl, undef, w, φ, ?_, undef_VR φ, hH, Ext.refl _ _ _⟩
      unfold Builtin.clear_
      simp only [ht, h0, Sem.run_bind, run_und hC hu, Result.andThen_ok, Sem.run_pure]; rfl
    · rename_i hn
      have hn : n ≠ 0 := fun e => hn (by rw [e]; rfl)
      split at h
      · rename_i size z hsz hz
        simp only [Bool.and_eq_true] at h
        split at h
        · rename_i hb
          have hb1 := Nat.eq_of_beq_eq_true hb.1
          have hb2 := Nat.eq_of_beq_eq_true hb.2
          split at h <;> simp at h
          rename_i H' hst
          subst h
          cases hd; rename_i ad cap' hl hc hxx ha
          obtain ⟨p, hp, rfl, _⟩ := ha (by omega)
          obtain ⟨zv, hz1, hz2, _⟩ := run_zero hC (φ := φ) hz w
          have hzl := hz2.cells.length
          have hL : LR φ (repl n z.cells) (Builtin.zeroCells zv.cells n).toList := by
            unfold Builtin.zeroCells
            exact repl_LR hz2.cells n _ (by simp at hzl; rw [hzl])
          obtain ⟨w', g1, g2, g3⟩ := storeL_ok (P := C.P) hH hL hst hp
          refine ⟨_, _, rfl, undef, w', φ, ?_, undef_VR φ, g2, g3⟩
          unfold Builtin.clear_
          obtain ⟨m, rfl⟩ : ∃ m, n = m + 1 := ⟨n - 1, by omega⟩
          simp only [ht, h0, Sem.run_bind, run_und hC hu, Result.andThen_ok, Sem.run_pure, hz1, g1]; rfl
        · cases h
      · cases h
  · cases h

 include k
theorem eff_builtin {o : Oper} {b : Builtin} {args : Array Operand} {ats : Array TypeId} (ho : o.op = .call { callee := .builtin b, args := args, argTypes := ats }) {E : Eff} (h : aeff C tm H o = some E) :
    EffR C φ H w (execOp (evC ts) o) E := by
  unfold aeff at h; rw [ho] at h; simp only at h
  have hexec : execOp (evC ts) o = builtin b ats o.type (args.map fun | .const _ => true | _ => false) (args.map (evC ts)) := by
    unfold execOp; rw [ho]; rfl
  rw [hexec]
  split at h
  · cases h
  · rename_i vs hm
    have hl := args_ok k hm
    rw [← Array.toList_map] at hl
    generalize args.map (evC ts) = as at hl ⊢
    have geta : ∀ (i : Nat) (x : AV), vs[i]? = some x → ∃ v, as[i]? = some v ∧ VR φ x v := by
      intro i x hx
      obtain ⟨v, h1, h2⟩ := hl.get hx
      exact ⟨v, by simpa using h1, h2⟩
    have hat : ∀ (i : Nat) (t : TypeId), ats.toList[i]? = some t → ats[i]? = some t := by intro i t h; simpa using h
    split at h
    · -- append
      split at h
      · rename_i s x t tl hts
        obtain ⟨s', hs1, hs2⟩ := geta 0 s rfl
        obtain ⟨x', hx1, hx2⟩ := geta 1 x rfl
        have ht := hat 0 t (by rw [hts]; rfl)
        split at h
        · rename_i zs hzs
          split at h <;> simp at h
          rename_i v H' hap
          subst h
          have hz : (zs = false → NoZeros C.P ats) ∧ (zs = true → Zeros C.P ats) := by
            cases tl with
            | nil =>
              simp only [Option.some.injEq] at hzs
              subst hzs
              refine ⟨fun _ => .inl ?_, fun h => by cases h⟩
              have : ats.toList[1]? = none := by rw [hts]; rfl
              simpa using this
            | cons tx tl =>
              have htx := hat 1 tx (by rw [hts]; rfl)
              simp only at hzs
              unfold isIntT at hzs
              split at hzs <;> simp at hzs
              · rename_i kk hk; subst hzs
                exact ⟨(fun h => by cases h), (fun _ => ⟨tx, kk, htx, und_ok hC hk⟩)⟩
              · rename_i D hnot hD; subst hzs
                exact ⟨(fun _ => .inr ⟨tx, D, htx, und_ok hC hD, fun kk e => hnot kk e⟩), (fun h => by cases h)⟩
          obtain ⟨v', w', φ', g1, g2⟩ := appendA_ok (ty := o.type) hC hH ht hs1 hx1 hz.1 hz.2 hs2 hx2 hap
          exact EffR.of hH (s := Builtin.append_ ats o.type as) ⟨v', w', φ', g1, g2⟩
        · cases h
      · cases h
    · -- copy
      split at h
      · rename_i d x t tl hts
        obtain ⟨d', hd1, hd2⟩ := geta 0 d rfl
        obtain ⟨x', hx1, hx2⟩ := geta 1 x rfl
        have ht := hat 0 t (by rw [hts]; rfl)
        obtain ⟨y, H', rfl, g⟩ := copyA_ok (ty := o.type) hC hH ht hd1 hx1 hd2 hx2 h
        exact EffR.of hH (s := Builtin.copy_ ats o.type as) g
      · cases h
    · -- clear
      split at h
      · rename_i d t tl hts
        obtain ⟨d', hd1, hd2⟩ := geta 0 d rfl
        have ht := hat 0 t (by rw [hts]; rfl)
        obtain ⟨y, H', rfl, g⟩ := clearA_ok (ty := o.type) hC hH ht hd1 hd2 h
        exact EffR.of hH (s := Builtin.clear_ ats o.type as) g
      · cases h
    · -- unsafe.SliceData
      split at h
      · rename_i id off len cap ex es
        simp only [Tr.bif_eq] at h
        split at h <;> simp at h
        rename_i hc1
        have hc1 := Nat.le_of_ble_eq_true hc1
        subst h
        generalize hal : as.toList = al at hl
        cases hl; rename_i v vs' hv ht
        cases ht
        have has : as = #[v] := by rw [← Array.toArray_toList (xs := as), hal]
        subst has
        cases hv; rename_i ad cap' hl hc hxx ha
        obtain ⟨p, hp, rfl, _⟩ := ha (by omega)
        refine EffR.of hH (s := Builtin.unsafeSliceData_ ats o.type _) ⟨.pointer (some ⟨p.b, p.base + off, none⟩), w, φ, ?_, .ptr _ _ _ hp, hH, Ext.refl _ _ _⟩
        have : cap' ≠ 0 := by omega
        show ((if cap' ≠ 0 then pure (.pointer (some ⟨p.b, p.base + off, none⟩)) else _ : Sem Value)).run C.P w = _
        rw [if_pos this]; rfl
      · simp only [Option.some.injEq] at h
        subst h
        generalize hal : as.toList = al at hl
        cases hl; rename_i v vs' hv ht
        cases ht
        have has : as = #[v] := by rw [← Array.toArray_toList (xs := as), hal]
        subst has
        cases hv
        exact EffR.of hH (s := Builtin.unsafeSliceData_ ats o.type _) ⟨.pointer none, w, φ, rfl, .ptrNil, hH, Ext.refl _ _ _⟩
      · cases h
    · -- unsafe.String
      split at h
      · rename_i a kk n pt tl hts
        have ht := hat 0 pt (by rw [hts]; rfl)
        generalize hal : as.toList = al at hl
        cases hl; rename_i v vs' hv ht'
        cases ht'; rename_i v2 vs2 hv2 ht2
        cases ht2
        have has : as = #[v, v2] := by rw [← Array.toArray_toList (xs := as), hal]
        subst has
        cases hv2
        obtain ⟨y, H', rfl, g⟩ := stringA_ok (ty := o.type) (kk := kk) hH hC hv ht h
        exact EffR.of hH (s := Builtin.unsafeString_ ats o.type _) g
      · cases h
    · cases h

theorem aeff_ok {o : Oper} {E : Eff} (h : aeff C tm H o = some E) : EffR C φ H w (execOp (evC ts) o) E := by
  cases ho : o.op with
  | store t a x => exact eff_store hC hH k ho h
  | mapUpdate t m kk x => exact eff_update hC hH k (.inl ho) h
  | insert t m kk x => exact eff_update hC hH k (.inr ho) h
  | mapEntry t m kk => exact eff_mapEntry hC hH k ho h
  | entryStore t m s x => exact eff_entryStore hC hH k ho h
  | range t x =>
    unfold aeff at h; rw [ho] at h; simp only at h
    split at h
    · rename_i v he
      obtain ⟨y, H', rfl, g⟩ := rangeA_ok hH (eval_ok k he) hC h
      have : execOp (evC ts) o = (do pure (.value (← Instr.range t (evC ts x)))) := by unfold execOp; rw [ho]
      rw [this]
      exact EffR.of hH g
    · cases h
  | next it isS =>
    cases isS with
    | true => unfold aeff at h; rw [ho] at h; simp at h
    | false =>
      unfold aeff at h; rw [ho] at h; simp only at h
      split at h
      · rename_i r he
        have hv := eval_ok k he
        have : execOp (evC ts) o = (do pure (.value (← Instr.next (evC ts it) false o.type))) := by unfold execOp; rw [ho]
        rw [this]
        generalize evC ts it = v at hv ⊢
        cases hv; rename_i p hp
        obtain ⟨y, H', rfl, v', w', g1, g2, g3, g4⟩ := nextA_ok hC hH hp h o.type
        exact EffR.of hH ⟨v', w', φ, g1, g2, g3, g4⟩
      · cases h
  | call c =>
    obtain ⟨callee, args, ats⟩ := c
    cases callee with
    | value f => exact eff_call hC hH k ho h
    | builtin b => exact eff_builtin hC hH k ho h
    | invoke r m => unfold aeff at h; rw [ho] at h; simp at h
  | _ => unfold aeff at h; rw [ho] at h; simp at h
end
end Go.Ev

/-
  Steps of the machine.
-/
namespace Go.Ev

def fr0 (fn : FuncId) (ts : Array Value) (todo : List Item) (ds : List Deferred) (ro : Option Nat) : Frame :=
  { fn := fn, tmps := ts, todo := todo, defers := ds, mode := .run, kind := .normal, roundOf := ro }
theorem fr0_eval (fn : FuncId) (ts : Array Value) (todo : List Item) (ds : List Deferred) (ro : Option Nat) : (fr0 fn ts todo ds ro).eval = evC ts := by
  funext x; cases x <;> rfl

section
variable {P : Program} {fn : FuncId} {ts : Array Value} {k : List Item} {ds : List Deferred} {ro : Option Nat} {cs : List Frame} {w : World}
theorem st_skip : step P (lone (fr0 fn ts (.code .skip :: k) ds ro) cs w) = .next (lone (fr0 fn ts k ds ro) cs w) := step_lone_go (by simp [stepG, stepG.exec, fr0])
theorem st_label {l : Nat} : step P (lone (fr0 fn ts (.code (.label l) :: k) ds ro) cs w) = .next (lone (fr0 fn ts k ds ro) cs w) := step_lone_go (by simp [stepG, stepG.exec, fr0])
theorem st_inBlock {l : Nat} : step P (lone (fr0 fn ts (.inBlock l :: k) ds ro) cs w) = .next (lone (fr0 fn ts k ds ro) cs w) := step_lone_go (by simp [stepG, stepG.exec, fr0])
theorem st_inScope {c : Code} : step P (lone (fr0 fn ts (.inScope c :: k) ds ro) cs w) = .next (lone (fr0 fn ts k ds ro) cs w) := step_lone_go (by simp [stepG, stepG.exec, fr0])
theorem st_seq {a b : Code} : step P (lone (fr0 fn ts (.code (.seq a b) :: k) ds ro) cs w) = .next (lone (fr0 fn ts (.code a :: .code b :: k) ds ro) cs w) := step_lone_go (by simp [stepG, stepG.exec, fr0])
theorem st_block {l : Nat} {c : Code} : step P (lone (fr0 fn ts (.code (.block l c) :: k) ds ro) cs w) = .next (lone (fr0 fn ts (.code c :: .inBlock l :: k) ds ro) cs w) := step_lone_go (by simp [stepG, stepG.exec, fr0])
theorem st_loop {c : Code} : step P (lone (fr0 fn ts (.code (.loop c) :: k) ds ro) cs w) = .next (lone (fr0 fn ts (.code c :: .inLoop c :: k) ds ro) cs w) := step_lone_go (by simp [stepG, stepG.exec, fr0])
theorem st_inLoop {c : Code} : step P (lone (fr0 fn ts (.inLoop c :: k) ds ro) cs w) = .next (lone (fr0 fn ts (.code c :: .inLoop c :: k) ds ro) cs w) := step_lone_go (by simp [stepG, stepG.exec, fr0])
theorem st_scope {c : Code} : step P (lone (fr0 fn ts (.code (.scope c) :: k) ds ro) cs w) = .next (lone (fr0 fn ts (.code c :: .inScope c :: k) ds ro) cs w) := step_lone_go (by simp [stepG, stepG.exec, fr0])
theorem st_cond {c : Operand} {a b : Code} {t : Bool} (h : evC ts c = .bool t) : step P (lone (fr0 fn ts (.code (.cond c a b) :: k) ds ro) cs w) = .next (lone (fr0 fn ts (.code (bif t then a else b) :: k) ds ro) cs w) :=
  step_lone_go (by
    have he := fr0_eval fn ts (.code (.cond c a b) :: k) ds ro
    have : (fr0 fn ts (.code (.cond c a b) :: k) ds ro).eval c = .bool t := by rw [he, h]
    simp only [fr0] at this
    cases t <;> simp [stepG, stepG.exec, fr0, this])
theorem st_exit {l : Nat} {k' : List Item} (h : exitTo l k = some k') : step P (lone (fr0 fn ts (.code (.exit l) :: k) ds ro) cs w) = .next (lone (fr0 fn ts k' ds ro) cs w) :=
  step_lone_go (by simp [stepG, stepG.exec, fr0, h])
theorem st_goto {l : Nat} {k' : List Item} (h : gotoIn l k = some k') : step P (lone (fr0 fn ts (.code (.goto l) :: k) ds ro) cs w) = .next (lone (fr0 fn ts k' ds ro) cs w) :=
  step_lone_go (by simp [stepG, stepG.exec, fr0, h])
theorem st_region {id : Nat} {ops : Array Oper} : step P (lone (fr0 fn ts (.code (.region id ops false) :: k) ds ro) cs w) = .next (lone (fr0 fn ts (.inRegion ops (List.range ops.size) :: k) ds ro) cs w) :=
  step_lone_go (by simp [stepG, stepG.exec, fr0])
theorem st_draw {id : Nat} {ops : Array Oper} : step P (lone (fr0 fn ts (.code (.region id ops true) :: k) ds ro) cs w) =
    .next (lone (fr0 fn ts (.inRegion ops (Region.schedule (P.follows .mixedOrders) ops (w.tape w.drawn (.order fn id))) :: k) ds ro) cs { w with drawn := w.drawn + 1 }) :=
  step_lone_go (by simp [stepG, stepG.exec, fr0, choose, Sem.run, Question.forced, Question.cut])
theorem st_regionEnd {ops : Array Oper} : step P (lone (fr0 fn ts (.inRegion ops [] :: k) ds ro) cs w) = .next (lone (fr0 fn ts k ds ro) cs w) :=
  step_lone_go (by simp [stepG, stepG.exec, fr0])

def put (ts : Array Value) (dst : Option Tmp) (v : Value) : Array Value :=
  match dst with
  | some d => ts.setIfInBounds d v
  | none => ts
theorem finish_region {ops : Array Oper} {i : Nat} {rest : List Nat} (v : Value) :
    (fr0 fn ts (.inRegion ops (i :: rest) :: k) ds ro).finish v = fr0 fn (put ts ((ops[i]?).bind (·.dst)) v) (.inRegion ops rest :: k) ds ro := by
  cases h : (ops[i]?).bind (·.dst) <;> simp [Frame.finish, fr0, put, h]
theorem st_opSkip {ops : Array Oper} {i : Nat} {rest : List Nat} {o : Oper} (ho : ops[i]? = some o) (h : Region.wanted o (yielded ops ts) = false) :
    step P (lone (fr0 fn ts (.inRegion ops (i :: rest) :: k) ds ro) cs w) = .next (lone (fr0 fn (put ts o.dst undef) (.inRegion ops rest :: k) ds ro) cs w) := by
  have := finish_region (fn := fn) (ts := ts) (k := k) (ds := ds) (ro := ro) (ops := ops) (i := i) (rest := rest) undef
  rw [ho] at this
  simp only [Option.bind_some] at this
  rw [← this]
  exact step_lone_go (by simp [stepG, stepG.exec, fr0, ho, h])

/-- carrying out s, from w, comes to the value v and the world w' -/
def Does (P : Program) (s : Sem Next) (w : World) (v : Value) (w' : World) : Prop :=
  s.run P w = .ok (.value v) w' ∨ (s.run P w = .ok .skip w' ∧ v = undef) ∨
  (∃ f as w1, s.run P w = .ok (.enter f as) w1 ∧ ∀ (c : Frame) (cs : List Frame), Steps P (lone (Frame.enter P f as .normal) (c :: cs) w1) (lone (c.finish v) cs w')) ∨
  (∃ l f tm asg body w1, s.run P w = .ok (.round l f tm asg body) w1 ∧ ∀ (c : Frame) (cs : List Frame), Steps P (lone (Frame.round l f tm asg body .normal) (c :: cs) w1) (lone (c.finish v) cs w'))

theorem apply_does {fr : Frame} (hk : ∀ d r sv k', fr.todo ≠ .call d true r sv :: k') {s : Sem Next} {v : Value} {w' : World} (h : Does P s w v w')
    (hstep : stepG P true { frame := fr, callers := cs, status := .running, dying := none } w = stepG.apply P true fr cs none s w) : Steps P (lone fr cs w) (lone (fr.finish v) cs w') := by
  rcases h with h | ⟨h, rfl⟩ | ⟨f, as, w1, h, hs⟩ | ⟨l, f, tm, asg, body, w1, h, hs⟩
  · exact .one (step_lone_go (by rw [hstep]; simp [stepG.apply, h]))
  · exact .one (step_lone_go (by rw [hstep]; simp [stepG.apply, h]))
  · refine .head (step_lone_go (w' := w1) (fr' := Frame.enter P f as .normal) (cs' := fr :: cs) ?_) (hs fr cs)
    rw [hstep]; simp only [stepG.apply, Sem.runT_eq, h, if_true, GStep.bare_after]; rfl
  · refine .head (step_lone_go (w' := w1) (fr' := Frame.round l f tm asg body .normal) (cs' := fr :: cs) ?_) (hs fr cs)
    rw [hstep]; simp only [stepG.apply, Sem.runT_eq, h, if_true, GStep.bare_after]; rfl

theorem st_op {ops : Array Oper} {i : Nat} {rest : List Nat} {o : Oper} (ho : ops[i]? = some o) (hw : Region.wanted o (yielded ops ts) = true) (hd : ∀ c, o.op ≠ .defer c) {v : Value} {w' : World}
    (h : Does P (execOp (evC ts) o) w v w') :
    Steps P (lone (fr0 fn ts (.inRegion ops (i :: rest) :: k) ds ro) cs w) (lone (fr0 fn (put ts o.dst v) (.inRegion ops rest :: k) ds ro) cs w') := by
  have hf := finish_region (fn := fn) (ts := ts) (k := k) (ds := ds) (ro := ro) (ops := ops) (i := i) (rest := rest) v
  rw [ho] at hf
  simp only [Option.bind_some] at hf
  rw [← hf]
  refine apply_does (fun _ _ _ _ => by simp [fr0]) h ?_
  have he := fr0_eval fn ts (.inRegion ops (i :: rest) :: k) ds ro
  simp only [fr0] at he
  cases ro with
  | none => simp [stepG, stepG.exec, stepG.oper, Frame.oper?, fr0, ho, hw, he]
  | some l =>
    simp only [stepG, stepG.exec, stepG.oper, Frame.oper?, fr0, ho, hw, he, Option.map_some, Option.getD_some, if_true]
    split
    · rename_i hc; exact absurd hc (hd _)
    · rfl
end
end Go.Ev

/-
  Calls, rounds, regions in the order of the text, leaving.
-/
namespace Go.Ev

inductive ColsR (φ : Phi) : List Nat → List Deferred → Prop
  | nil : ColsR φ [] []
  | cons {c : Nat} {p : Place} {cols : List Nat} {ds : List Deferred} (h : φ c = some p) (t : ColsR φ cols ds) : ColsR φ (c :: cols) ({ target := .collected p.b, args := #[] } :: ds)
theorem ColsR.mono {φ ψ : Phi} (h : φ.le ψ) {cols : List Nat} {ds : List Deferred} (k : ColsR φ cols ds) : ColsR ψ cols ds := by
  induction k with
  | nil => exact .nil
  | cons hp _ ih => exact .cons (h _ _ hp) ih
def RoR (φ : Phi) : Option Nat → Option Nat → Prop
  | none, none => True
  | some l, some b => ∃ p, φ l = some p ∧ b = p.b
  | _, _ => False
theorem RoR.mono {φ ψ : Phi} (h : φ.le ψ) {a b : Option Nat} (k : RoR φ a b) : RoR ψ a b := by
  cases a <;> cases b <;> first | exact k | (obtain ⟨p, h1, h2⟩ := k; exact ⟨p, h _ _ h1, h2⟩)

def FrOk (P : Program) (fn : FuncId) (ts : Array Value) (todo : List Item) (ds : List Deferred) (ro : Option Nat) (w : World) (v : Value) (w' : World) : Prop :=
  match ro with
  | none => ∀ cs, ∃ frl, Steps P (lone (fr0 fn ts todo ds none) cs w) (lone frl cs w') ∧ frl.fn = fn ∧ frl.leaving P w' (.returned v)
  | some l => ∀ c cs, Steps P (lone (fr0 fn ts todo ds (some l)) (c :: cs) w) (lone (c.finish v) cs w')
theorem FrOk.of_steps {P : Program} {fn : FuncId} {ts ts1 : Array Value} {todo todo1 : List Item} {ds ds1 : List Deferred} {ro : Option Nat} {w w1 w' : World} {v : Value}
    (h : ∀ cs, Steps P (lone (fr0 fn ts todo ds ro) cs w) (lone (fr0 fn ts1 todo1 ds1 ro) cs w1)) (k : FrOk P fn ts1 todo1 ds1 ro w1 v w') : FrOk P fn ts todo ds ro w v w' := by
  cases ro with
  | none => exact fun cs => let ⟨frl, h1, h2⟩ := k cs; ⟨frl, (h cs).trans h1, h2⟩
  | some l => exact fun c cs => (h (c :: cs)).trans (k c cs)

def CbOk (C : Ctx) (cb : Cb) : Prop := ∀ (fr : Fr) (H : AH) (v : AV) (H' : AH), cb fr H = some (v, H') → ∀ (φ : Phi) (w : World), HR φ H w → ∀ ts ds ro, TR φ fr.nt fr.tm ts → ColsR φ fr.cols ds → RoR φ fr.ro ro →
  ∃ v' w' φ', VR φ' v v' ∧ HR φ' H' w' ∧ Ext φ H w φ' H' w' ∧ FrOk C.P fr.fn ts fr.todo ds ro w v' w'

structure Ctx.Ok (C : Ctx) : Prop extends C.Ok0 where
  ov : ∀ f g, C.ov f = some g → ∀ (args : List AV) (H : AH) (v : AV) (H' : AH), g args H = some (v, H') → ∀ (φ : Phi) (w : World), HR φ H w → ∀ as : Array Value, LR φ args as.toList →
    ∃ v' w' φ', VR φ' v v' ∧ HR φ' H' w' ∧ Ext φ H w φ' H' w' ∧ Does C.P (callFunc f as) w v' w'

theorem leaving_finish {P : Program} {fr : Frame} {w : World} {v : Value} (h : fr.leaving P w (.returned v)) (c : Frame) (cs : List Frame) : Steps P (lone fr (c :: cs) w) (lone (c.finish v) cs w) := .one (step_leave_returned h)

theorem TR.ofArgs {φ : Phi} {args : List AV} {as : Array Value} (h : LR φ args as.toList) (n : Nat) : TR φ (Nat.max n args.length) (Tr.ofList args 0 .leaf) (as ++ Array.replicate (n - as.size) undef) := by
  have hl : args.length = as.size := by have := h.length; simpa using this
  refine ⟨?_, fun t v hv => ?_⟩
  · simp only [Array.size_append, Array.size_replicate, hl]
    show as.size + (n - as.size) = max n as.size
    omega
  · have h1 := Tr.ofList_some hv
    obtain ⟨v', h2, h3⟩ := h.get h1
    refine ⟨v', ?_, h3⟩
    have hlt : t < as.size := by
      rcases Nat.lt_or_ge t as.size with h | h
      · exact h
      · rw [List.getElem?_eq_none (by omega)] at h1; cases h1
    rw [Array.getElem?_append_left hlt]
    simpa using h2

section
variable {C : Ctx} (hC : C.Ok) {cb : Cb} (hcb : CbOk C cb)
 include hC hcb
theorem callF_ok {f : FuncId} {args : List AV} {H : AH} {v : AV} {H' : AH} (h : callF C cb f args H = some (v, H')) {φ : Phi} {w : World} (hH : HR φ H w) {as : Array Value} (ha : LR φ args as.toList) :
    ∃ v' w' φ', VR φ' v v' ∧ HR φ' H' w' ∧ Ext φ H w φ' H' w' ∧ Does C.P (callFunc f as) w v' w' := by
  unfold callF at h
  split at h
  · rename_i g hg
    exact hC.ov f g hg args H v H' h φ w hH as ha
  · split at h
    · rename_i fn hfn
      split at h
      · rename_i c hc
        have hf := hC.ft f fn hfn
        have hl : args.length = as.size := by have := ha.length; simpa using this
        obtain ⟨v', w', φ', h1, h2, h3, h4⟩ := hcb _ _ _ _ h φ w hH (as ++ Array.replicate (fn.ntmps - as.size) undef) [] none (TR.ofArgs ha fn.ntmps) .nil trivial
        refine ⟨v', w', φ', h1, h2, h3, .inr (.inr (.inl ⟨f, as, w, ?_, fun c' cs => ?_⟩))⟩
        · have hnm : fn.name ≠ "runtime.NumGoroutine" := by
            have := hC.nm f fn hf
            simpa using this
          simp [callFunc, hf, hnm, hc]
        · have he : Frame.enter C.P f as .normal = fr0 f (as ++ Array.replicate (fn.ntmps - as.size) undef) [.code c] [] none := by
            simp [Frame.enter, fr0, hf, hc]
          rw [he]
          obtain ⟨frl, g1, g2, g3⟩ := h4 (c' :: cs)
          exact g1.trans (leaving_finish g3 c' cs)
      · cases h
    · cases h

 omit hC hcb in
theorem putAll_ok {φ : Phi} {nt : Nat} : ∀ {ps : List Tmp} {args : List AV} {vs : List Value} {tm tm' : Tr AV} {ts : Array Value}, putAll ps args nt tm = some tm' → LR φ args vs → TR φ nt tm ts →
    ps.length = vs.length ∧ TR φ nt tm' ((ps.zip vs).foldl (fun ts (x : Tmp × Value) => ts.setIfInBounds x.1 x.2) ts)
  | [], [], vs, tm, tm', ts, h, hl, k => by cases hl; simp [putAll] at h; subst h; exact ⟨rfl, k⟩
  | [], a :: as, vs, tm, tm', ts, h, hl, k => by simp [putAll] at h
  | p :: ps, [], vs, tm, tm', ts, h, hl, k => by simp [putAll] at h
  | p :: ps, a :: as, vs, tm, tm', ts, h, hl, k => by
    cases hl; rename_i v vs hv ht
    simp only [putAll, Tr.bif_eq] at h
    split at h
    · rename_i hb
      have hb := Nat.le_of_ble_eq_true hb
      obtain ⟨h1, h2⟩ := putAll_ok h ht (k.set hv hb)
      exact ⟨by simp [h1], by simpa using h2⟩
    · cases h

theorem doEff_ok {o : Oper} {tm : Tr AV} {H : AH} {v : AV} {H' : AH} (h : doEff C cb tm H o = some (v, H')) {φ : Phi} {w : World} (hH : HR φ H w) {nt : Nat} {ts : Array Value} (k : TR φ nt tm ts) :
    ∃ v' w' φ', VR φ' v v' ∧ HR φ' H' w' ∧ Ext φ H w φ' H' w' ∧ Does C.P (execOp (evC ts) o) w v' w' := by
  unfold doEff at h
  split at h
  · rename_i v1 H1 he
    simp only [Option.some.injEq, Prod.mk.injEq] at h
    obtain ⟨rfl, rfl⟩ := h
    obtain ⟨v', w', φ', h1, h2, h3, h4⟩ := aeff_ok hC.toOk0 hH k he
    exact ⟨v', w', φ', h2, h3, h4, h1.elim .inl fun h => .inr (.inl h)⟩
  · rename_i f args he
    obtain ⟨as, h1, h2⟩ := aeff_ok hC.toOk0 hH k he
    obtain ⟨v', w', φ', g1, g2, g3, g4⟩ := callF_ok hC hcb h hH h2
    refine ⟨v', w', φ', g1, g2, g3, ?_⟩
    unfold Does at g4 ⊢
    rw [h1]
    exact g4
  · rename_i l args he
    obtain ⟨p, as, hp, h1, h2⟩ := aeff_ok hC.toOk0 hH k he
    unfold roundF at h
    split at h
    · rename_i st pend fn nt' tmps params asg body d hg
      split at h
      · rename_i tm' hpa
        obtain ⟨q, hq, ts0, pd, e1, e2, e3⟩ := hH.ob _ _ hg
        have : q = p := by rw [hp] at hq; cases hq; rfl
        subst this
        obtain ⟨f1, f2⟩ := putAll_ok hpa h2 e2
        obtain ⟨v', w', φ', g1, g2, g3, g4⟩ := hcb _ _ _ _ h φ w hH _ [] (some q.b) f2 .nil ⟨q, hp, rfl⟩
        refine ⟨v', w', φ', g1, g2, g3, .inr (.inr (.inr ⟨q.b, fn, (params.toList.zip as.toList).foldl (fun ts (x : Tmp × Value) => ts.setIfInBounds x.1 x.2) ts0, asg, body, w, ?_, fun c cs => g4 c cs⟩))⟩
        rw [h1]
        have hsz : ¬ (as.size ≠ params.size) := by simp at f1 ⊢; omega
        simp only [Instr.yield, Instr.getLoop, Sem.run_bind, getObj, Sem.run, e1, Result.andThen_ok, Sem.run_pure, Sem.run_ite, if_neg hsz]
        rw [← Array.foldl_toList, Array.toList_zip]
      · cases h
    · cases h
  · cases h

 omit hC hcb in
theorem not_defer {tm : Tr AV} {H : AH} {o : Oper} {r : AV × AH} (h : doOp C cb tm H o = some r) : ∀ c, o.op ≠ .defer c := by
  intro c hc
  unfold doOp at h
  have hk : kindOf C o.op = .pr := by rw [hc]; rfl
  rw [hk] at h
  have : apure C tm H o = none := by unfold apure; rw [hc]
  rw [this] at h
  cases h

theorem doOp_ok {o : Oper} {tm : Tr AV} {H : AH} {v : AV} {H' : AH} (h : doOp C cb tm H o = some (v, H')) {φ : Phi} {w : World} (hH : HR φ H w) {nt : Nat} {ts : Array Value} (k : TR φ nt tm ts) :
    ∃ v' w' φ', VR φ' v v' ∧ HR φ' H' w' ∧ Ext φ H w φ' H' w' ∧ Does C.P (execOp (evC ts) o) w v' w' := by
  unfold doOp at h
  split at h
  · split at h <;> simp at h
    rename_i x hx
    obtain ⟨rfl, rfl⟩ := h
    obtain ⟨v', h1, h2⟩ := apure_ok hC.toOk0 hH k hx
    exact ⟨v', w, φ, h2, hH, Ext.refl _ _ _, .inl h1⟩
  · split at h <;> simp at h
    rename_i ob f hx
    obtain ⟨rfl, rfl⟩ := h
    obtain ⟨v', w', S, h1, h2, h3⟩ := aalloc_ok (w := w) hC.toOk0 k hx
    obtain ⟨h4, h5⟩ := h3 H.n (hH.new _ (Nat.le_refl _))
    obtain ⟨r1, r2⟩ := hH.growA (p := ⟨w.heap.size, 0, S⟩) h2 rfl rfl h4
    exact ⟨v', w', _, h5, r1, r2, .inl h1⟩
  · exact doEff_ok hC hcb h hH k

 omit hC hcb in
theorem putA_ok {φ : Phi} {nt : Nat} {tm tm' : Tr AV} {ts : Array Value} {dst : Option Tmp} {v : AV} {v' : Value} (h : putA nt tm dst v = some tm') (hv : VR φ v v') (k : TR φ nt tm ts) : TR φ nt tm' (put ts dst v') := by
  unfold putA at h
  split at h
  · cases h; exact k
  · simp only [Tr.bif_eq] at h
    split at h <;> simp at h
    rename_i d hb
    subst h
    exact k.set hv (Nat.le_of_ble_eq_true hb)
 omit hC hcb in
theorem wantedA_ok {φ : Phi} {nt : Nat} {tm : Tr AV} {ts : Array Value} (k : TR φ nt tm ts) {ops : Array Oper} {o : Oper} {b : Bool} (h : wantedA ops.toList tm o = some b) : Region.wanted o (yielded ops ts) = b := by
  unfold wantedA at h
  unfold Region.wanted
  split at h
  · rename_i hg; rw [hg]; cases h; rfl
  · rename_i j want hg
    rw [hg]
    simp only
    split at h
    · rename_i oj hoj
      have hoj' : ops[j]? = some oj := by simpa using hoj
      split at h
      · rename_i d hd
        unfold yielded
        rw [hoj']
        simp only [Option.bind_some, hd]
        split at h
        · rename_i bb hb
          obtain ⟨v', h1, h2⟩ := k.get _ _ hb
          cases h2
          rw [h1]
          cases h; rfl
        · rename_i vs hb
          obtain ⟨v', h1, h2⟩ := k.get _ _ hb
          cases h2
          rw [h1]
          cases h; rfl
        · cases h
      · cases h
    · cases h

theorem regS_ok {ops : Array Oper} {nt : Nat} {fn : FuncId} {kk : List Item} {ds : List Deferred} {ro : Option Nat} : ∀ (rest : List Oper) (i : Nat) (tm : Tr AV) (H : AH) (φ : Phi) (w : World) (ts : Array Value) (tm' : Tr AV) (H' : AH), ops.toList.drop i = rest →
    regS C cb ops.toList nt rest tm H = some (tm', H') → HR φ H w → TR φ nt tm ts →
    ∃ ts' w' φ', TR φ' nt tm' ts' ∧ HR φ' H' w' ∧ Ext φ H w φ' H' w' ∧ ∀ cs, Steps C.P (lone (fr0 fn ts (.inRegion ops (List.range' i rest.length) :: kk) ds ro) cs w) (lone (fr0 fn ts' kk ds ro) cs w')
  | [], i, tm, H, φ, w, ts, tm', H', hd, h, hH, k => by
    simp only [regS, Option.some.injEq, Prod.mk.injEq] at h
    obtain ⟨rfl, rfl⟩ := h
    exact ⟨ts, w, φ, k, hH, Ext.refl _ _ _, fun cs => .one st_regionEnd⟩
  | o :: rest, i, tm, H, φ, w, ts, tm', H', hd, h, hH, k => by
    have ho : ops[i]? = some o := by
      have : (ops.toList.drop i)[0]? = some o := by rw [hd]; rfl
      rw [List.getElem?_drop] at this
      simpa using this
    have hd' : ops.toList.drop (i + 1) = rest := by
      rw [← List.drop_drop, hd]; rfl
    simp only [regS] at h
    split at h
    · cases h
    · rename_i hw
      split at h
      · rename_i tm1 hp
        have hw' := wantedA_ok k hw
        obtain ⟨ts', w', φ', g1, g2, g3, g4⟩ := regS_ok rest (i + 1) tm1 H φ w (put ts o.dst undef) tm' H' hd' h hH (putA_ok hp (undef_VR φ) k)
        exact ⟨ts', w', φ', g1, g2, g3, fun cs => .head (st_opSkip ho hw') (g4 cs)⟩
      · cases h
    · rename_i hw
      have hw' := wantedA_ok k hw
      split at h
      · cases h
      · rename_i v1 H1 hop
        split at h
        · rename_i tm1 hp
          obtain ⟨v', w1, φ1, e1, e2, e3, e4⟩ := doOp_ok hC hcb hop hH k
          have hle := e3.le hH
          obtain ⟨ts', w', φ', g1, g2, g3, g4⟩ := regS_ok rest (i + 1) tm1 H1 φ1 w1 (put ts o.dst v') tm' H' hd' h e2 (putA_ok hp e1 (k.mono hle))
          exact ⟨ts', w', φ', g1, g2, e3.trans g3, fun cs => (st_op ho hw' (not_defer hop) e4).trans (g4 cs)⟩
        · cases h
end
end Go.Ev

/-
  Leaving: deferred marks, results, the end of a round.
-/
namespace Go.Ev

def frL (fn : FuncId) (ts : Array Value) (todo : List Item) (ds : List Deferred) : Frame := { fr0 fn ts todo ds none with mode := .returning }

section
variable {C : Ctx} (hC : C.Ok0)
 include hC
theorem results_list {φ : Phi} {H : AH} {w : World} (hH : HR φ H w) {nt : Nat} {tm : Tr AV} {ts : Array Value} (k : TR φ nt tm ts) (f : ResultVar → Sem Value)
    (f1 : ∀ t, f (.tmp t) = pure (ts.getD t undef)) (f2 : ∀ a t, f (.cell a t) = (asAddr (ts.getD a undef) >>= fun x => loadVar t x)) : ∀ (rs : List ResultVar) (vs : List AV), resultsA C H tm rs = some vs →
    ∃ us : List Value, (rs.mapM f).run C.P w = .ok us w ∧ LR φ vs us
  | [], vs, h => by
    simp only [resultsA, Option.some.injEq] at h
    subst h
    exact ⟨[], by simp [List.mapM_nil], .nil⟩
  | .tmp t :: rs, vs, h => by
    simp only [resultsA] at h
    split at h
    · rename_i v vs1 hv hr
      cases h
      obtain ⟨us, h1, h2⟩ := results_list hH k f f1 f2 rs vs1 hr
      obtain ⟨u, g1, g2⟩ := k.get _ _ hv
      refine ⟨u :: us, ?_, .cons g2 h2⟩
      have : ts.getD t undef = u := by rw [Array.getD_eq_getD_getElem?, g1]; rfl
      simp only [List.mapM_cons, Sem.run_bind, f1, Sem.run_pure, Result.andThen_ok, h1, this]
    · cases h
  | .cell a t :: rs, vs, h => by
    simp only [resultsA] at h
    split at h
    · rename_i id off hp
      split at h
      · rename_i v vs1 hv hr
        cases h
        obtain ⟨us, h1, h2⟩ := results_list hH k f f1 f2 rs vs1 hr
        obtain ⟨u, g1, g2⟩ := k.get _ _ hp
        cases g2; rename_i p hpp
        obtain ⟨x, e1, e2⟩ := loadV_ok hC hH hv hpp
        refine ⟨x :: us, ?_, .cons e2 h2⟩
        have : ts.getD a undef = .pointer (some ⟨p.b, p.base + off, none⟩) := by rw [Array.getD_eq_getD_getElem?, g1]; rfl
        have ha : asAddr (ts.getD a undef) = pure ⟨p.b, p.base + off, none⟩ := by rw [this]; rfl
        simp only [List.mapM_cons, Sem.run_bind, f2, ha, Sem.run_pure, Result.andThen_ok, e1, h1]
      · cases h
    · cases h

theorem results_ok {φ : Phi} {H : AH} {w : World} (hH : HR φ H w) {nt : Nat} {tm : Tr AV} {ts : Array Value} (k : TR φ nt tm ts) {fn : Func} {vs : List AV} (h : resultsA C H tm fn.results.toList = some vs) :
    ∃ u, (results fn ts).run C.P w = .ok u w ∧ VR φ (oneOf vs) u := by
  obtain ⟨us, h1, h2⟩ := results_list hC hH k (fun | .tmp t => pure (ts.getD t undef) | .cell a t => do loadVar t (← asAddr (ts.getD a undef))) (fun _ => rfl) (fun _ _ => rfl) _ _ h
  have hm : ∀ f : ResultVar → Sem Value, fn.results.mapM f = (do let l ← fn.results.toList.mapM f; pure l.toArray) := by
    intro f
    rw [Array.mapM_eq_mapM_toList, map_eq_pure_bind]
  unfold results
  rw [hm, bind_assoc, Sem.run_bind]
  refine ⟨if h : us.toArray.size = 1 then us.toArray[0] else .tuple us.toArray, ?_, ?_⟩
  · refine (congrArg (fun r => Result.andThen r _) h1).trans ?_
    simp only [Result.andThen_ok, pure_bind, Sem.run_pure]
  cases h2 with
  | nil => exact .tuple _ _ .nil
  | cons a b =>
    cases b with
    | nil => exact a
    | cons c d =>
      simp only [oneOf]
      rw [dif_neg (by simp)]
      exact .tuple _ _ (.cons a (.cons c d))
end

theorem st_collected {P : Program} {fn : FuncId} {ts : Array Value} {todo : List Item} {b : Nat} {ds : List Deferred} {cs : List Frame} {w w' : World} (h : (Instr.takeDeferred b).run P w = .ok [] w') :
    step P (lone (frL fn ts todo ({ target := .collected b, args := #[] } :: ds)) cs w) = .next (lone (frL fn ts todo ds) cs w') :=
  step_lone_go (by simp [stepG, unwind, frL, fr0, Sem.runT_eq, h, GStep.bare_after])

theorem unwind_ok {P : Program} {φ : Phi} {fn : FuncId} {ts : Array Value} {todo : List Item} : ∀ (cols : List Nat) (ds : List Deferred) (H H' : AH) (w : World), unwindA cols H = some H' → HR φ H w → ColsR φ cols ds →
    ∃ w', HR φ H' w' ∧ Ext φ H w φ H' w' ∧ ∀ cs, Steps P (lone (frL fn ts todo ds) cs w) (lone (frL fn ts todo []) cs w')
  | [], ds, H, H', w, h, hH, hc => by
    cases hc
    simp only [unwindA, Option.some.injEq] at h
    subst h
    exact ⟨w, hH, Ext.refl _ _ _, fun cs => .refl _ _⟩
  | c :: cols, ds, H, H', w, h, hH, hc => by
    cases hc; rename_i p ds hp ht
    simp only [unwindA] at h
    split at h
    · rename_i hg
      obtain ⟨q, hq, ho⟩ := hH.ob _ _ hg
      have : q = p := by rw [hp] at hq; cases hq; rfl
      subst this
      have ho : w.heap[q.b]? = some (.deferred (some [])) := ho
      obtain ⟨w1, g1, g2⟩ := setObj_wrote (C := { P := P, tt := .leaf, ft := .leaf, ov := fun _ => none }) (o' := .deferred none) ho (by simp)
      obtain ⟨r1, r2⟩ := hH.wrote (id := c) (p := q) (by rw [hg]; rfl) hp g2 (ob := .deferred false) g2.at_
      obtain ⟨w', s1, s2, s3⟩ := unwind_ok cols ds _ H' w1 h r1 ht
      refine ⟨w', s1, r2.trans s2, fun cs => .head (st_collected ?_) (s3 cs)⟩
      simp only [Instr.takeDeferred, Sem.run_bind, getObj, Sem.run, ho, Result.andThen_ok] at g1 ⊢
      simp only [g1, Result.andThen_ok, Sem.run_pure]
    · cases h

section
variable {P : Program} {fn : FuncId} {ts : Array Value} {k : List Item} {ds : List Deferred} {cs : List Frame} {w : World}
/-- the two ways in which a frame leaves -/
structure Leaving (P : Program) (fn : FuncId) (ts : Array Value) (todo : List Item) (jump : Option Code) : Prop where
  none : (jump = none ∨ jump = some .ret) → ∀ ds cs w, step P (lone (fr0 fn ts todo ds none) cs w) = .next (lone (frL fn ts todo ds) cs w)
  some : ∀ l ds c cs w v w', (Instr.endRound l jump).run P w = .ok v w' → step P (lone (fr0 fn ts todo ds (some l)) (c :: cs) w) = .next (lone (c.finish v) cs w')
theorem leaving_end : Leaving P fn ts [] none where
  none := fun _ ds cs w => step_lone_go (by simp [stepG, stepG.exec, fr0, frL])
  some := fun l ds c cs w v w' h => step_lone_go (by simp [stepG, stepG.exec, fr0, Sem.runT_eq, h, GStep.bare_after, doReturn])
theorem leaving_ret : Leaving P fn ts (.code .ret :: k) (some .ret) where
  none := fun _ ds cs w => step_lone_go (by simp [stepG, stepG.exec, fr0, frL])
  some := fun l ds c cs w v w' h => step_lone_go (by simp [stepG, stepG.exec, fr0, Sem.runT_eq, h, GStep.bare_after, doReturn])
theorem leaving_exit {i : Nat} (hx : exitTo i k = none) : Leaving P fn ts (.code (.exit i) :: k) (some (.exit i)) where
  none := fun h => by rcases h with h | h <;> simp at h
  some := fun l ds c cs w v w' h => step_lone_go (by simp [stepG, stepG.exec, fr0, Sem.runT_eq, h, GStep.bare_after, doReturn, hx])
theorem leaving_goto {i : Nat} (hx : gotoIn i k = none) : Leaving P fn ts (.code (.goto i) :: k) (some (.goto i)) where
  none := fun h => by rcases h with h | h <;> simp at h
  some := fun l ds c cs w v w' h => step_lone_go (by simp [stepG, stepG.exec, fr0, Sem.runT_eq, h, GStep.bare_after, doReturn, hx])
end

theorem leave_plain {C : Ctx} (hC : C.Ok0) {fr : Fr} {jump : Option Code} {H : AH} {r : Res} (h : (match unwindA fr.cols H with
      | some H => match C.ft.get fr.fn with
        | some fn => match resultsA C H fr.tm fn.results.toList with | some vs => some (Res.out (oneOf vs) H) | none => none
        | none => none
      | none => none) = some r) {φ : Phi} {w : World} (hH : HR φ H w) {ts : Array Value} {ds : List Deferred}
    (ht : TR φ fr.nt fr.tm ts) (hd : ColsR φ fr.cols ds) {todo : List Item} (hj : jump = none ∨ jump = some .ret) (hs : Leaving C.P fr.fn ts todo jump) :
    ∃ v H', r = .out v H' ∧ ∃ v' w' φ', VR φ' v v' ∧ HR φ' H' w' ∧ Ext φ H w φ' H' w' ∧ FrOk C.P fr.fn ts todo ds none w v' w' := by
  split at h
  · rename_i H1 hu
    split at h
    · rename_i fn hf
      split at h
      · rename_i vs hres
        simp only [Option.some.injEq] at h
        obtain ⟨w', s1, s2, s3⟩ := unwind_ok (P := C.P) (fn := fr.fn) (ts := ts) (todo := todo) _ _ _ _ _ hu hH hd
        obtain ⟨u, g1, g2⟩ := results_ok hC s1 ht hres
        exact ⟨_, _, h.symm, u, w', φ, g2, s1, s2, fun cs => ⟨frL fr.fn ts todo [], .head (hs.none hj ds cs w) (s3 cs), rfl, rfl, rfl, rfl, fn, hC.ft _ _ hf, g1⟩⟩
      · cases h
    · cases h
  · cases h

theorem leave_ok {C : Ctx} (hC : C.Ok0) {fr : Fr} {jump : Option Code} {H : AH} {r : Res} (h : leaveA C fr jump H = some r) {φ : Phi} {w : World} (hH : HR φ H w) {ts : Array Value} {ds : List Deferred} {ro : Option Nat}
    (ht : TR φ fr.nt fr.tm ts) (hd : ColsR φ fr.cols ds) (hr : RoR φ fr.ro ro) {todo : List Item} (hs : Leaving C.P fr.fn ts todo jump) :
    ∃ v H', r = .out v H' ∧ ∃ v' w' φ', VR φ' v v' ∧ HR φ' H' w' ∧ Ext φ H w φ' H' w' ∧ FrOk C.P fr.fn ts todo ds ro w v' w' := by
  unfold leaveA at h
  split at h
  · rename_i hro
    rw [hro] at hr
    cases ro with
    | some b => exact hr.elim
    | none =>
    split at h
    · exact leave_plain hC h hH ht hd (.inl rfl) hs
    · exact leave_plain hC h hH ht hd (.inr rfl) hs
    · cases h
  · rename_i l hro
    rw [hro] at hr
    cases ro with
    | none => exact hr.elim
    | some b =>
    obtain ⟨p, hp, rfl⟩ := hr
    split at h
    · rename_i st pend fn nt tmps params asg body d hcols hg
      simp only [Option.some.injEq] at h
      obtain ⟨q, hq, ts0, pd, e1, e2, e3⟩ := hH.ob _ _ hg
      have : q = p := by rw [hp] at hq; cases hq; rfl
      subst this
      obtain ⟨w', g1, g2⟩ := setObj_wrote (C := C) (o' := .loop { state := if jump.isNone then .ready else .done, pending := jump, fn := fn, tmps := ts0, params := params, assign := asg, body := body, defers := pd.b }) e1 (by simp)
      obtain ⟨r1, r2⟩ := hH.wrote (id := l) (p := q) (by rw [hg]; rfl) hp g2 (ob := .loop (if jump.isNone then .ready else .done) jump fn nt tmps params asg body d) ⟨ts0, pd, g2.at_, e2, e3⟩
      refine ⟨_, _, h.symm, .bool jump.isNone, w', φ, .bool _, r1, r2, fun c cs => .one (hs.some q.b ds c cs w _ w' ?_)⟩
      simp only [Instr.endRound, Instr.getLoop, Sem.run_bind, getObj, Sem.run, e1, Result.andThen_ok, Sem.run_pure] at g1 ⊢
      simp only [g1, Result.andThen_ok, Sem.run_pure]
    · cases h
end Go.Ev
