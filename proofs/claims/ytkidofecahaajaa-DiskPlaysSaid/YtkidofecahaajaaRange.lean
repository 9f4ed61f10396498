/- A range over a function: the iterator's contract, the loop, and how a function leaves behind it. No program in sight. -/
import Derived.Test.YtkidofecahaajaaFence
namespace Go.Proofs.Ytkidofecahaajaa
open Go Go.RowKit
set_option linter.unusedVariables false

/-- What an iterator promises: T: the blocks of its own that it turns; N: those that it leans on; Ok: what it knows of what it hands on. -/
structure Iter {α : Type} (P : Program) (gf : FuncId) (lb : List Value) (encs : α → List Value) (Ok : List α → α → World → Prop) (T N : Nat → Prop) (Pre : World → Prop) (S Sp : List α → Prop) : Prop where
  ok : ∀ pre x A B, Ok pre x A → Keeps A B (fun k => ¬ N k) → Ok pre x B
  run : ∀ (l : Nat) (J Jx : List α → World → Prop) (W : World), Pre W → (∀ s A B, J s A → Keeps A B T → J s B) → (∀ s A B, Jx s A → Keeps A B T → Jx s B) →
    (∀ pre x W1, J pre W1 → Ok pre x W1 → YieldW P l (encs x).toArray W1 fun en W' => (en = .returned (.bool true) ∧ J (pre ++ [x]) W' ∧ Keeps W1 W' (fun k => ¬ N k)) ∨ (en = .returned (.bool false) ∧ Jx (pre ++ [x]) W')) →
    J [] W → Calls P gf ((.func (.yield l) #[] #[] :: lb).toArray) W fun en W' => ∃ v, en = .returned v ∧ ((∃ xs, S xs ∧ J xs W') ∨ (∃ pre, Sp pre ∧ Jx pre W'))

def markD (D : Nat) : Deferred := { target := .collected D, args := #[] }
/-- How a function leaves: with nothing deferred, or with one loop's mark. -/
def leaveE (P : Program) (fn : Func) (R : Ending → World → Prop) : List Deferred → Exit → (Nat → Value) → World → Prop
  | [], x, e, w => (x = .normal ∨ x = .ret) ∧ ∃ v, (∀ tmps : Array Value, (∀ i, tmps.getD i undef = e i) → (results fn tmps).run P w = .ok v w) ∧ R (.returned v) w
  | [d], x, e, w => (x = .normal ∨ x = .ret) ∧ ∃ D, d = markD D ∧ w.heap[D]? = some (.deferred (some [])) ∧ ∃ v, (∀ tmps : Array Value, (∀ i, tmps.getD i undef = e i) → (results fn tmps).run P (w.putObj D (.deferred none)) = .ok v (w.putObj D (.deferred none))) ∧ R (.returned v) (w.putObj D (.deferred none))
  | _, _, _, _ => False
/-- The rest of a function: a list of code. -/
def PostL (m : Nat) (P : Program) (fn : Func) (R : Ending → World → Prop) : List Code → Exit → Act → World → Prop
  | [] => bodyPostM (fen none) m P fn R
  | c :: cs => Exit.then (c.wpIn (fen none) m P (PostL m P fn R cs)) (PostL m P fn R cs)
def LW (P : Program) (fn : Func) (R : Ending → World → Prop) (ds : List Deferred) (cs : List Code) (e : Nat → Value) (w : World) : Prop := ∀ m a, StD fn.ntmps ds a e → PostL m P fn R cs .normal a w
section
variable {P : Program} {fn : Func} {R : Ending → World → Prop} {ds : List Deferred} {e : Nat → Value} {w : World}
theorem leaves_of {m : Nat} {x : Exit} {a : Act} (hs : StD fn.ntmps ds a e) (h : leaveE P fn R ds x e w) : bodyPostM (fen none) m P fn R x a w := by
  match ds, h, hs with
  | [], h, hs =>
    obtain ⟨hx, v, hv, hR⟩ := h
    have : LeavesInM (fen none) m P fn a.tmps R a.defers .returning w := by
      rw [hs.def_]
      exact ⟨v, hv _ hs.at_, hR⟩
    rcases hx with rfl | rfl <;> exact this
  | [d], h, hs =>
    obtain ⟨hx, D, rfl, hD, v, hv, hR⟩ := h
    have : LeavesInM (fen none) m P fn a.tmps R a.defers .returning w := by
      rw [hs.def_]
      exact ⟨by simp, .inl ⟨D, _, rfl, run_takeDeferred hD, ⟨v, hv _ hs.at_, hR⟩⟩⟩
    rcases hx with rfl | rfl <;> exact this
  | d :: d2 :: r, h, _ => exact h.elim
theorem PostL_other {m : Nat} {x : Exit} (hx : x ≠ .normal) : ∀ (cs : List Code) {a : Act}, PostL m P fn R cs x a w = bodyPostM (fen none) m P fn R x a w
  | [], a => rfl
  | c :: cs, a => by
    rw [← PostL_other hx cs]
    cases x <;> first | rfl | exact absurd rfl hx
theorem PostL_nil {m : Nat} {x : Exit} {a : Act} : PostL m P fn R [] x a w = bodyPostM (fen none) m P fn R x a w := rfl
theorem LW_end (h : leaveE P fn R ds .normal e w) : LW P fn R ds [] e w := fun m a hs => leaves_of hs h
theorem LW_seq {x y : Code} {cs : List Code} (h : LW P fn R ds (x :: y :: cs) e w) : LW P fn R ds (.seq x y :: cs) e w := fun m a hs => wpIn_seq (h m a hs)
theorem LW_codeF {x : Code} {cs : List Code} (h : FW none ds P fn.ntmps x (thenE (fun e w => LW P fn R ds cs e w) (leaveE P fn R ds)) e w) : LW P fn R ds (x :: cs) e w := by
  intro m a hs
  refine wpIn_mono (h.out m a hs) fun x a w ⟨e, hs, hx⟩ => ?_
  unfold thenE at hx
  cases x with
  | normal => exact hx m a hs
  | ret => rw [PostL_other (by intro h; cases h)]; exact leaves_of hs hx
  | exit id => match ds, hx with
    | [], hx => rcases hx.1 with h | h <;> cases h
    | [d], hx => rcases hx.1 with h | h <;> cases h
    | d :: d2 :: r, hx => exact hx.elim
  | goto t => match ds, hx with
    | [], hx => rcases hx.1 with h | h <;> cases h
    | [d], hx => rcases hx.1 with h | h <;> cases h
    | d :: d2 :: r, hx => exact hx.elim
  | panic ch => match ds, hx with
    | [], hx => rcases hx.1 with h | h <;> cases h
    | [d], hx => rcases hx.1 with h | h <;> cases h
    | d :: d2 :: r, hx => exact hx.elim
  | outgrown => match ds, hx with
    | [], hx => rcases hx.1 with h | h <;> cases h
    | [d], hx => rcases hx.1 with h | h <;> cases h
    | d :: d2 :: r, hx => exact hx.elim
theorem LW_codeC {x : Code} {cs : List Code} (h : CW P fn.ntmps x (thenE (fun e w => LW P fn R [] cs e w) (leaveE P fn R [])) e w) : LW P fn R [] (x :: cs) e w := LW_codeF (FW_of_CW h)
theorem calls_of_LW {f : FuncId} {c : Code} {args : List Value} (hf : P.funcs[f]? = some fn) (hb : fn.body = some c) (hn : args.length ≤ fn.ntmps) (h : LW P fn R [] [c] (env0 args 0) w) : Calls P f args.toArray w R := by
  refine callsIn_wide.1 (callsIn_of_wp_marks (F := Fence.wide) (n := 0) hf hb trivial (wpIn_mono (h 0 _ ⟨by simp; omega, rfl, fun i => ?_⟩) fun x a w hx => ?_) rfl)
  · rw [env0_at, if_neg (by omega), Array.getD_eq_getD_getElem?, Array.getElem?_append]
    simp only [List.size_toArray, List.getElem?_toArray, Nat.sub_zero, List.getD_eq_getElem?_getD]
    split
    · rfl
    · rename_i hi
      rw [Array.getElem?_replicate, List.getElem?_eq_none (by omega)]
      split <;> simp
  · cases x <;> exact hx
theorem LW_regC {id : Nat} {l : Array Oper} {b : Bool} {cs : List Code} (h : CW P fn.ntmps (.region id l b) (thenE (fun e w => LW P fn R [] cs e w) (leaveE P fn R [])) e w) : LW P fn R [] (.region id l b :: cs) e w := LW_codeC h
theorem LW_condC {c : Operand} {x x' : Code} {cs : List Code} (h : CW P fn.ntmps (.cond c x x') (thenE (fun e w => LW P fn R [] cs e w) (leaveE P fn R [])) e w) : LW P fn R [] (.cond c x x' :: cs) e w := LW_codeC h
theorem LW_regF {id : Nat} {l : Array Oper} {b : Bool} {cs : List Code} (h : FW none ds P fn.ntmps (.region id l b) (thenE (fun e w => LW P fn R ds cs e w) (leaveE P fn R ds)) e w) : LW P fn R ds (.region id l b :: cs) e w := LW_codeF h
theorem LW_condF {c : Operand} {x x' : Code} {cs : List Code} (h : FW none ds P fn.ntmps (.cond c x x') (thenE (fun e w => LW P fn R ds cs e w) (leaveE P fn R ds)) e w) : LW P fn R ds (.cond c x x' :: cs) e w := LW_codeF h
theorem LW_ret {cs : List Code} (h : leaveE P fn R ds .ret e w) : LW P fn R ds (.ret :: cs) e w := LW_codeF (FW_ret (by unfold thenE; exact h))
theorem LW_skip {cs : List Code} (h : LW P fn R ds cs e w) : LW P fn R ds (.skip :: cs) e w := LW_codeF (FW_skip (by unfold thenE; exact h))

theorem leave_ret1 {t : Tmp} (hr : fn.results = #[.tmp t]) (v : Value) (hv : e t = v) (hR : R (.returned v) w) : leaveE P fn R [] .ret e w :=
  ⟨.inr rfl, v, fun tmps ht => by rw [results_tmp hr, ht, hv], hR⟩
theorem leaveM_ret1 {t : Tmp} {D : Nat} (hr : fn.results = #[.tmp t]) (v : Value) (hv : e t = v) (hD : w.heap[D]? = some (.deferred (some []))) (hR : R (.returned v) (w.putObj D (.deferred none))) : leaveE P fn R [markD D] .ret e w :=
  ⟨.inr rfl, D, rfl, hD, v, fun tmps ht => by rw [results_tmp hr, ht, hv], hR⟩
theorem leave_of {x : Exit} (h : bodyE P fn R x e w) : leaveE P fn R [] x e w := by
  unfold bodyE at h
  cases x with
  | normal => exact ⟨.inl rfl, h⟩
  | ret => exact ⟨.inr rfl, h⟩
  | _ => exact h.elim
theorem leaveM_of {D : Nat} (hD : w.heap[D]? = some (.deferred (some []))) (h : bodyE P fn R .ret e (w.putObj D (.deferred none))) : leaveE P fn R [markD D] .ret e w := by
  unfold bodyE at h
  obtain ⟨v, hv, hR⟩ := h
  exact ⟨.inr rfl, D, rfl, hD, v, hv, hR⟩
theorem Keeps.put (W : World) (l : Nat) (o : Obj) : Keeps W (W.putObj l o) (· = l) := Keeps.of_only (grownBy_putObj' W l o) rfl

/-- The loop's parameters, bound. -/
def binds (e : Nat → Value) : List Tmp → List Value → Nat → Value
  | p :: ps, v :: vs => binds (upd e p v) ps vs
  | _, _ => e
theorem StD.binds {n : Nat} : ∀ (ps : List Tmp) (vs : List Value) (t : Array Value) (e : Nat → Value), (∀ p ∈ ps, p < n) → StD n [] { tmps := t, defers := [] } e → StD n [] { tmps := (ps.zip vs).foldl (fun t (p, v) => t.setIfInBounds p v) t, defers := [] } (binds e ps vs)
  | [], vs, t, e, _, h => by simpa [Proofs.Ytkidofecahaajaa.binds] using h
  | p :: ps, [], t, e, _, h => by simpa [Proofs.Ytkidofecahaajaa.binds] using h
  | p :: ps, v :: vs, t, e, hp, h => by
    have h1 : StD n [] { tmps := t.setIfInBounds p v, defers := [] } (upd e p v) := h.put (d := some p) (fun k hk => by cases hk; exact hp p List.mem_cons_self) v
    simpa [Proofs.Ytkidofecahaajaa.binds] using StD.binds ps vs (t.setIfInBounds p v) (upd e p v) (fun q hq => hp q (List.mem_cons_of_mem _ hq)) h1
/-- How a round may end. -/
def roundQ {α : Type} (D : Nat) (N : Nat → Prop) (I : List α → World → Prop) (Ix : Code → List α → World → Prop) (xs : List α) (W : World) : Exit → (Nat → Value) → World → Prop
  | .normal, _, W' => Keeps W W' (fun k => ¬ N k ∧ k ≠ D ∧ k ≠ D + 1) ∧ I xs W'
  | .ret, _, W' => Keeps W W' (fun k => k ≠ D ∧ k ≠ D + 1) ∧ Ix .ret xs W'
  | .exit id, _, W' => Keeps W W' (fun k => k ≠ D ∧ k ≠ D + 1) ∧ Ix (.exit id) xs W'
  | _, _, _ => False
theorem LW_range {α : Type} {id : Nat} {g : Operand} {ps : List Tmp} {assign body : Code} {rest : List Code} {gf : FuncId} {fnI : Func} {cI : Code} {lb : List Value} {encs : α → List Value} {Ok : List α → α → World → Prop} {T N : Nat → Prop} {Pre : World → Prop} {S Sp : List α → Prop}
    (hit : Iter P gf lb encs Ok T N Pre S Sp) (hf : P.funcs[gf]? = some fnI) (hn : (fnI.name == "runtime.NumGoroutine") = false) (hb : fnI.body = some cI) (hg : ev e g = .func (.func gf) #[] lb.toArray)
    (hps : ∀ x, (encs x).length = ps.length) (hpn : ∀ p ∈ ps, p < fn.ntmps) (hT : ∀ k, T k → k < w.heap.size) (hN : ∀ k, N k → k < w.heap.size) (hPre : ∀ W, Ext w W → Pre W)
    (I : List α → World → Prop) (Ix : Code → List α → World → Prop) (hI : ∀ s A B, I s A → Keeps A B (fun k => T k ∨ k = w.heap.size ∨ k = w.heap.size + 1) → I s B) (hIx : ∀ c s A B, Ix c s A → Keeps A B (fun k => T k ∨ k = w.heap.size ∨ k = w.heap.size + 1) → Ix c s B)
    (h0 : I [] w) (e₁ : α → Nat → Value)
    (hassign : ∀ x l W, FW (some l) [] P fn.ntmps assign (fun x' e' w' => x' = .normal ∧ e' = e₁ x ∧ w' = W) (binds e ps (encs x)) W)
    (hbody : ∀ l pre x W, I pre W → Ok pre x W → FW (some l) [] P fn.ntmps body (roundQ w.heap.size N I Ix (pre ++ [x]) W) (e₁ x) W)
    (hdone : ∀ xs W, S xs → I xs W → W.heap[w.heap.size]? = some (.deferred (some [])) → LW P fn R [markD w.heap.size] rest e W)
    (hstop : ∀ c pre W, Sp pre → Ix c pre W → W.heap[w.heap.size]? = some (.deferred (some [])) → c = .exit id ∧ LW P fn R [markD w.heap.size] rest e W) :
    LW P fn R [] (.block id (.rangeFunc g ps.toArray assign body) :: rest) e w := by
  intro m a hs
  refine wpIn_block (wpIn_rangeFunc ?_)
  intro fnn hfn
  rw [fen_round]
  obtain ⟨D, hD⟩ : ∃ D, w.heap.size = D := ⟨_, rfl⟩
  rw [hD] at hT hN hI hIx hbody hdone hstop
  obtain ⟨rec, hrec⟩ : ∃ rec : LoopState → Option Code → Loop, rec = fun st pe => { state := st, pending := pe, fn := fnn, tmps := a.tmps, params := ps.toArray, assign, body, defers := D } := ⟨_, rfl⟩
  obtain ⟨W1, hW1⟩ : ∃ W1, (w.alloc (.deferred (some []))).alloc (.loop (rec .ready none)) = W1 := ⟨_, rfl⟩
  have hx1 : Ext w W1 := by rw [← hW1]; exact (Ext.alloc' w _).trans' (Ext.alloc' _ _)
  have hK1 : W1.heap[D]? = some (.deferred (some [])) := by
    rw [← hW1, (Ext.alloc' (w.alloc (.deferred (some []))) (.loop (rec .ready none))).block D (by simp; omega)]
    have := heap_alloc_new w (.deferred (some []))
    rwa [hD] at this
  have hL1 : W1.heap[D + 1]? = some (.loop (rec .ready none)) := by
    rw [← hW1]
    have := heap_alloc_new (w.alloc (.deferred (some []))) (.loop (rec .ready none))
    rw [World.size_alloc, hD] at this
    exact this
  have heg : ∀ args w, (callFunc gf args).run P w = .ok (.enter gf args) w := enters_of hf hn hb
  refine ⟨D + 1, [markD D], W1, { target := .fn (.func gf) lb.toArray, args := #[.func (.yield (D + 1)) #[] #[]] }, W1, gf, #[.func (.yield (D + 1)) #[] #[]] ++ lb.toArray, W1, ?_, ?_, fun f _ => fen_fn none f, ?_, fun h => (by rw [fen_depth] at h; cases h), ?_⟩
  · have := run_enterLoop_outer (P := P) (w := w) fnn a.tmps ps.toArray assign body
    rw [hD] at this
    rw [← hW1, hrec]
    exact this
  · rw [hs.ev]
    simp only [resolve, hg]
    simp [go_sem]
    rfl
  · simp [invoke, go_sem, heg]
  refine calls_fen none _ ?_
  have hJk : ∀ {A B : World} {k : Nat} {o : Obj}, Keeps A B T → D ≤ k → A.heap[k]? = some o → B.heap[k]? = some o := fun hk hle ho => by
    rw [hk.block _ (Array.getElem?_eq_some_iff.1 ho).1 (fun ht => by have := hT _ ht; omega)]; exact ho
  have hcall := hit.run (D + 1) (fun pre W => I pre W ∧ W.heap[D + 1]? = some (.loop (rec .ready none)) ∧ W.heap[D]? = some (.deferred (some [])))
    (fun pre W => ∃ c, Ix c pre W ∧ W.heap[D + 1]? = some (.loop (rec .done (some c))) ∧ W.heap[D]? = some (.deferred (some []))) W1 (hPre W1 hx1)
    (fun s A B ⟨h1, h2, h3⟩ hk => ⟨hI s A B h1 (hk.mono fun k _ h => .inl h), hJk hk (by omega) h2, hJk hk (Nat.le_refl _) h3⟩)
    (fun s A B ⟨c, h1, h2, h3⟩ hk => ⟨c, hIx c s A B h1 (hk.mono fun k _ h => .inl h), hJk hk (by omega) h2, hJk hk (Nat.le_refl _) h3⟩) ?_ ⟨hI [] w W1 h0 (Keeps.of_ext hx1 _), hL1, hK1⟩
  · rw [show (.func (.yield (D + 1)) #[] #[] :: lb).toArray = #[.func (.yield (D + 1)) #[] #[]] ++ lb.toArray by simp] at hcall
    refine hcall.mono ?_
    rintro en W2 ⟨v, rfl, ⟨xs, hS, hi, hl, hk⟩ | ⟨pre, hSp, c, hi, hl, hk⟩⟩
    · have hr := run_endLoop (P := P) hl (by rw [hrec]; simp)
      refine ⟨none, _, by rw [hrec] at hr; exact hr, ?_⟩
      refine hdone xs _ hS (hI xs W2 _ hi ((Keeps.put W2 (D + 1) _).mono fun k _ h => .inr (.inr h))) ?_ m _ ⟨hs.size, by show [markD D] ++ a.defers = _; rw [hs.def_]; rfl, hs.at_⟩
      rw [World.putObj_heap_other (by omega)]; exact hk
    · have hr := run_endLoop (P := P) hl (by rw [hrec]; simp)
      refine ⟨some c, _, by rw [hrec] at hr; exact hr, ?_⟩
      obtain ⟨rfl, hw⟩ := hstop c pre (W2.putObj (D + 1) (.loop { rec .done (some c) with state := .exhausted })) hSp (hIx c pre W2 _ hi ((Keeps.put W2 (D + 1) _).mono fun k _ h => .inr (.inr h))) (by rw [World.putObj_heap_other (by omega)]; exact hk)
      rw [hrec] at hw
      refine wpIn_exit ?_
      simp only [Exit.inBlock, if_true]
      refine hw m _ ⟨?_, ?_, ?_⟩
      · exact hs.size
      · show [markD D] ++ a.defers = _; rw [hs.def_]; rfl
      · exact hs.at_
  · rintro pre x W ⟨hi, hl, hk⟩ hok
    have hlt := (Array.getElem?_eq_some_iff.1 hl).1
    have hy := run_yield (P := P) (args := (encs x).toArray) hl (by rw [hrec]; simpa using hps x)
    rw [hrec] at hy
    refine ⟨fnn, _, assign, body, hy, fun m2 => roundIn_of_wpIn trivial ?_⟩
    have hst : StD fn.ntmps [] { tmps := (ps.toArray.zip (encs x).toArray).foldl (fun t (p, v) => t.setIfInBounds p v) a.tmps, defers := [] } (Proofs.Ytkidofecahaajaa.binds e ps (encs x)) := by
      have := StD.binds ps (encs x) a.tmps e hpn ⟨hs.size, rfl, hs.at_⟩
      simpa using this
    refine wpIn_mono ((hassign x (D + 1) W).out m2 _ hst) ?_
    rintro x1 a1 w1 ⟨e1, hs1, rfl, rfl, rfl⟩
    refine ⟨_, run_beginRound hl (by rw [hrec]), ?_⟩
    have hk2 : Keeps w1 (w1.putObj (D + 1) (.loop { rec .ready none with state := .busy })) (· = D + 1) := Keeps.put _ _ _
    have hl2 : (w1.putObj (D + 1) (.loop { rec .ready none with state := .busy })).heap[D + 1]? = some (.loop { rec .ready none with state := .busy }) := World.putObj_heap_same hlt
    have hd2 : (w1.putObj (D + 1) (.loop { rec .ready none with state := .busy })).heap[D]? = some (.deferred (some [])) := by rw [World.putObj_heap_other (by omega)]; exact hk
    have hi2 := hI pre w1 _ hi (hk2.mono fun k _ h => .inr (.inr h))
    have hok2 := hit.ok pre x w1 _ hok (hk2.mono fun k _ h hn => by have := hN k hn; omega)
    generalize w1.putObj (D + 1) (.loop { rec .ready none with state := .busy }) = W2 at *
    refine wpIn_mono ((hbody (D + 1) pre x W2 hi2 hok2).out m2 a1 hs1) ?_
    have fin : ∀ (jump : Option Code) (W3 : World), Keeps W2 W3 (fun k => k ≠ D ∧ k ≠ D + 1) →
        (Instr.endRound (D + 1) jump).run P W3 = .ok (.bool jump.isNone) (W3.putObj (D + 1) (.loop (rec (if jump.isNone then .ready else .done) jump))) ∧
        (W3.putObj (D + 1) (.loop (rec (if jump.isNone then .ready else .done) jump))).heap[D + 1]? = some (.loop (rec (if jump.isNone then .ready else .done) jump)) ∧
        (W3.putObj (D + 1) (.loop (rec (if jump.isNone then .ready else .done) jump))).heap[D]? = some (.deferred (some [])) := fun jump W3 hk3 => by
      have hl3 : W3.heap[D + 1]? = some (.loop { rec .ready none with state := .busy }) := by rw [hk3.block _ (Array.getElem?_eq_some_iff.1 hl2).1 (fun h => h.2 rfl)]; exact hl2
      have hd3 : W3.heap[D]? = some (.deferred (some [])) := by rw [hk3.block _ (Array.getElem?_eq_some_iff.1 hd2).1 (fun h => h.1 rfl)]; exact hd2
      have := run_endRound (P := P) jump hl3
      rw [hrec] at this ⊢
      exact ⟨this, World.putObj_heap_same (Array.getElem?_eq_some_iff.1 hl3).1, by rw [World.putObj_heap_other (by omega)]; exact hd3⟩
    rintro x3 a3 W3 ⟨e3, hs3, hq⟩
    cases x3 with
    | normal =>
      obtain ⟨hk3, hi3⟩ := hq
      obtain ⟨hr, hl4, hd4⟩ := fin none W3 (hk3.mono fun k _ h => h.2)
      have hk4 : Keeps W3 _ (· = D + 1) := Keeps.put W3 (D + 1) (.loop (rec .ready none))
      refine ⟨_, _, hr, .inl ⟨rfl, ⟨hI _ W3 _ hi3 (hk4.mono fun k _ h => .inr (.inr h)), hl4, hd4⟩, ?_⟩⟩
      exact (hk2.mono fun k _ h hn => by have := hN k hn; omega).trans' ((hk3.mono fun k _ h => h.1).trans' (hk4.mono fun k _ h hn => by have := hN k hn; omega))
    | ret =>
      obtain ⟨hk3, hi3⟩ := hq
      obtain ⟨hr, hl4, hd4⟩ := fin (some .ret) W3 hk3
      exact ⟨_, _, hr, .inr ⟨rfl, .ret, hIx _ _ W3 _ hi3 ((Keeps.put W3 (D + 1) _).mono fun k _ h => .inr (.inr h)), hl4, hd4⟩⟩
    | exit id2 =>
      obtain ⟨hk3, hi3⟩ := hq
      obtain ⟨hr, hl4, hd4⟩ := fin (some (.exit id2)) W3 hk3
      exact ⟨_, _, hr, .inr ⟨rfl, .exit id2, hIx _ _ W3 _ hi3 ((Keeps.put W3 (D + 1) _).mono fun k _ h => .inr (.inr h)), hl4, hd4⟩⟩
    | goto t => exact hq.elim
    | panic ch => exact hq.elim
    | outgrown => exact hq.elim
end
attribute [irreducible] LW leaveE
end Go.Proofs.Ytkidofecahaajaa
