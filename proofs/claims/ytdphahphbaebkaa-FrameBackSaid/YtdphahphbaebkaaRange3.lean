/- A range over a function whose iterator makes what it hands on, and leans on blocks of its own: which blocks a round may change is told by a set that goes along. No program in sight. -/
import Derived.Test.YtdphahphbaebkaaRange
namespace Go.Proofs.Ytdphahphbaebkaa
open Go Go.RowKit
set_option linter.unusedVariables false
/-- What an iterator promises: U: the blocks that it leans on from the beginning; Ok: what it knows of what it hands on; G: the blocks that it gives away with it. -/
structure Iter3 {α : Type} (P : Program) (gf : FuncId) (lb : List Value) (encs : α → List Value) (Ok : (Nat → Prop) → List α → α → World → Prop) (G : α → Nat → Prop) (U : Nat → Prop) (Pre : World → Prop) (Sx Sp : List α → Prop) : Prop where
  ok : ∀ S pre x A B D st, Ok S pre x A → A.heap[D]? = some (.loop st) → Keeps A B (· = D) → Ok S pre x B
  okS : ∀ S S' pre x A, (∀ k, S k → S' k) → Ok S' pre x A → Ok S pre x A
  okG : ∀ S pre x A k, Ok S pre x A → G x k → k < A.heap.size ∧ ∃ cs T fz, A.heap[k]? = some (.cells cs T fz)
  run : ∀ (l : Nat) (J Jx : (Nat → Prop) → List α → World → Prop) (S0 : Nat → Prop) (W : World), Pre W → (∀ k, U k → ¬ S0 k) → (∀ S s A, J S s A → ∀ k, S k → k < A.heap.size) →
    (∀ S s A B, J S s A → Ext A B → J S s B) → (∀ S s A B, Jx S s A → Ext A B → Jx S s B) →
    (∀ S pre x W1, J S pre W1 → Ok S pre x W1 → YieldW P l (encs x).toArray W1 fun en W' => Keeps W1 W' (fun k => S k ∨ G x k) ∧ ∃ S', (∀ k, S' k → S k ∨ W1.heap.size ≤ k ∨ G x k) ∧ ((en = .returned (.bool true) ∧ J S' (pre ++ [x]) W') ∨ (en = .returned (.bool false) ∧ Jx S' (pre ++ [x]) W'))) →
    J S0 [] W → Calls P gf ((.func (.yield l) #[] #[] :: lb).toArray) W fun en W' => ∃ v, en = .returned v ∧ ∃ S, (∃ xs, Sx xs ∧ J S xs W') ∨ (∃ pre, Sp pre ∧ Jx S pre W')
/-- How a round may end. -/
def roundQ3 {α : Type} (S Gx : Nat → Prop) (I : (Nat → Prop) → List α → World → Prop) (Ix : Code → (Nat → Prop) → List α → World → Prop) (xs : List α) (W : World) : Exit → (Nat → Value) → World → Prop
  | .normal, _, W' => Keeps W W' (fun k => S k ∨ Gx k) ∧ ∃ S', (∀ k, S' k → S k ∨ W.heap.size ≤ k ∨ Gx k) ∧ I S' xs W'
  | .ret, _, W' => Keeps W W' (fun k => S k ∨ Gx k) ∧ ∃ S', (∀ k, S' k → S k ∨ W.heap.size ≤ k ∨ Gx k) ∧ Ix .ret S' xs W'
  | .exit id, _, W' => Keeps W W' (fun k => S k ∨ Gx k) ∧ ∃ S', (∀ k, S' k → S k ∨ W.heap.size ≤ k ∨ Gx k) ∧ Ix (.exit id) S' xs W'
  | _, _, _ => False
theorem FW_hide {rd : Option Nat} {ds : List Deferred} {P : Program} {n : Nat} {c : Code} {next : (Nat → Value) → World → Prop} {Q : Exit → (Nat → Value) → World → Prop} {e : Nat → Value} {w : World} (h : ∀ K, K = next → FW rd ds P n c (thenE K Q) e w) : FW rd ds P n c (thenE next Q) e w := h _ rfl
theorem Rd.noloop {A : World} {Ad : Option Addr} {cs : List Value} {D : Nat} {st : Loop} (h : Rd A Ad cs) (hn : cs ≠ []) (hl : A.heap[D]? = some (.loop st)) : ∀ ad, Ad = some ad → ad.block ≠ D := by
  intro ad ha hD
  obtain ⟨ad', ha', hc⟩ := h.at_ (j := 0) (List.length_pos_iff.2 hn)
  rw [ha] at ha'
  cases ha'
  have hb : (ad.add 0).block = D := by rw [addr_add_block]; exact hD
  unfold World.cell? at hc
  rw [hb, hl] at hc
  cases hc
section
variable {P : Program} {fn : Func} {R : Ending → World → Prop} {e : Nat → Value} {w : World}
theorem LW_range3 {α : Type} {id : Nat} {g : Operand} {ps : List Tmp} {assign body : Code} {rest : List Code} {gf : FuncId} {fnI : Func} {cI : Code} {lb : List Value} {encs : α → List Value} {Ok : (Nat → Prop) → List α → α → World → Prop} {G : α → Nat → Prop} {U : Nat → Prop} {Pre : World → Prop} {Sx Sp : List α → Prop}
    (hit : Iter3 P gf lb encs Ok G U Pre Sx Sp) (hf : P.funcs[gf]? = some fnI) (hn : (fnI.name == "runtime.NumGoroutine") = false) (hb : fnI.body = some cI) (hg : ev e g = .func (.func gf) #[] lb.toArray)
    (hps : ∀ x, (encs x).length = ps.length) (hpn : ∀ p ∈ ps, p < fn.ntmps) (S0 : Nat → Prop) (hU : ∀ k, U k → k < w.heap.size ∧ ¬ S0 k) (hS0 : ∀ k, S0 k → k < w.heap.size) (hPre : ∀ W, Ext w W → Pre W)
    (I : (Nat → Prop) → List α → World → Prop) (Ix : Code → (Nat → Prop) → List α → World → Prop) (hIb : ∀ S s A, I S s A → ∀ k, S k → k < A.heap.size)
    (hI : ∀ S s A B, I S s A → (∀ k, S k → k ≠ w.heap.size ∧ k ≠ w.heap.size + 1) → Keeps A B (fun k => k = w.heap.size ∨ k = w.heap.size + 1) → I S s B) (hIx : ∀ c S s A B, Ix c S s A → (∀ k, S k → k ≠ w.heap.size ∧ k ≠ w.heap.size + 1) → Keeps A B (fun k => k = w.heap.size ∨ k = w.heap.size + 1) → Ix c S s B)
    (h0 : I S0 [] w) (e₁ : α → Nat → Value)
    (hassign : ∀ x l W, FW (some l) [] P fn.ntmps assign (fun x' e' w' => x' = .normal ∧ e' = e₁ x ∧ w' = W) (binds e ps (encs x)) W)
    (hbody : ∀ l S pre x W, w.heap.size + 2 ≤ W.heap.size → I S pre W → (∀ k, S k → k ≠ w.heap.size ∧ k ≠ w.heap.size + 1) → Ok S pre x W → (∀ k, G x k → k ≠ w.heap.size ∧ k ≠ w.heap.size + 1 ∧ k < W.heap.size) → FW (some l) [] P fn.ntmps body (roundQ3 S (G x) I Ix (pre ++ [x]) W) (e₁ x) W)
    (hdone : ∀ S xs W, Sx xs → I S xs W → (∀ k, S k → k ≠ w.heap.size ∧ k ≠ w.heap.size + 1) → W.heap[w.heap.size]? = some (.deferred (some [])) → LW P fn R [markD w.heap.size] rest e W)
    (hstop : ∀ c S pre W, Sp pre → Ix c S pre W → (∀ k, S k → k ≠ w.heap.size ∧ k ≠ w.heap.size + 1) → W.heap[w.heap.size]? = some (.deferred (some [])) → c = .exit id ∧ LW P fn R [markD w.heap.size] rest e W) :
    LW P fn R [] (.block id (.rangeFunc g ps.toArray assign body) :: rest) e w := by
  unfold LW
  intro m a hs
  refine wpIn_block (wpIn_rangeFunc ?_)
  intro fnn hfn
  rw [fen_round]
  obtain ⟨D, hD⟩ : ∃ D, w.heap.size = D := ⟨_, rfl⟩
  rw [hD] at hU hS0 hI hIx hbody hdone hstop
  obtain ⟨rec, hrec⟩ : ∃ rec : LoopState → Option Code → Loop, rec = fun st pe => { state := st, pending := pe, fn := fnn, tmps := a.tmps, params := ps.toArray, assign, body, defers := D } := ⟨_, rfl⟩
  obtain ⟨W1, hW1⟩ : ∃ W1, (w.alloc (.deferred (some []))).alloc (.loop (rec .ready none)) = W1 := ⟨_, rfl⟩
  have hx1 : Ext w W1 := by rw [← hW1]; exact (Ext.alloc' w _).trans' (Ext.alloc' _ _)
  have hK1 : W1.heap[D]? = some (.deferred (some [])) := by
    rw [← hW1, (Ext.alloc' (w.alloc (.deferred (some []))) (.loop (rec .ready none))).block D (by simp; omega)]
    have := heap_alloc_new w (.deferred (some []))
    rwa [hD] at this
  have hL1 : W1.heap[D + 1]? = some (.loop (rec .ready none)) := by
    rw [← hW1]
    have := heap_alloc_new (w.alloc (.deferred (some []))) (.loop (rec .ready none))
    rw [World.size_alloc, hD] at this
    exact this
  have heg : ∀ args w, (callFunc gf args).run P w = .ok (.enter gf args) w := enters_of hf hn hb
  refine ⟨D + 1, [markD D], W1, { target := .fn (.func gf) lb.toArray, args := #[.func (.yield (D + 1)) #[] #[]] }, W1, gf, #[.func (.yield (D + 1)) #[] #[]] ++ lb.toArray, W1, ?_, ?_, fun f _ => fen_fn none f, ?_, fun h => (by rw [fen_depth] at h; cases h), ?_⟩
  · have := run_enterLoop_outer (P := P) (w := w) fnn a.tmps ps.toArray assign body
    rw [hD] at this
    rw [← hW1, hrec]
    exact this
  · rw [hs.ev]
    simp only [resolve, hg]
    simp [go_sem]
    rfl
  · simp [invoke, go_sem, heg]
  refine calls_fen none _ ?_
  have hout : ∀ {A B : World} {k : Nat}, Ext A B → Keeps A B (fun k => k = D ∨ k = D + 1) := fun h => Keeps.of_ext h _
  have hcall := hit.run (D + 1)
    (fun S' pre W => ∃ S, (S' = fun k => S k ∨ k = D + 1) ∧ (∀ k, S k → k ≠ D ∧ k ≠ D + 1) ∧ I S pre W ∧ W.heap[D + 1]? = some (.loop (rec .ready none)) ∧ W.heap[D]? = some (.deferred (some [])))
    (fun S' pre W => ∃ S c, (S' = fun k => S k ∨ k = D + 1) ∧ (∀ k, S k → k ≠ D ∧ k ≠ D + 1) ∧ Ix c S pre W ∧ W.heap[D + 1]? = some (.loop (rec .done (some c))) ∧ W.heap[D]? = some (.deferred (some [])))
    (fun k => S0 k ∨ k = D + 1) W1 (hPre W1 hx1) (fun k hk hh => by
      rcases hh with hh | hh
      · exact (hU k hk).2 hh
      · have := (hU k hk).1; omega)
    (fun S' s A ⟨S, hS', _, h1, h2, h3⟩ k hk => by
      subst hS'
      rcases hk with hk | hk
      · exact hIb S s A h1 k hk
      · subst hk; exact (Array.getElem?_eq_some_iff.1 h2).1)
    (fun S' s A B ⟨S, hS', hn, h1, h2, h3⟩ hk => ⟨S, hS', hn, hI S s A B h1 hn (Keeps.of_ext hk _), (hk.block _ (Array.getElem?_eq_some_iff.1 h2).1).trans h2, (hk.block _ (Array.getElem?_eq_some_iff.1 h3).1).trans h3⟩)
    (fun S' s A B ⟨S, c, hS', hn, h1, h2, h3⟩ hk => ⟨S, c, hS', hn, hIx c S s A B h1 hn (Keeps.of_ext hk _), (hk.block _ (Array.getElem?_eq_some_iff.1 h2).1).trans h2, (hk.block _ (Array.getElem?_eq_some_iff.1 h3).1).trans h3⟩)
    ?_ ⟨S0, rfl, fun k hk => by have := hS0 k hk; omega, hI S0 [] w W1 h0 (fun k hk => by have := hS0 k hk; omega) (Keeps.of_ext hx1 _), hL1, hK1⟩
  · rw [show (.func (.yield (D + 1)) #[] #[] :: lb).toArray = #[.func (.yield (D + 1)) #[] #[]] ++ lb.toArray by simp] at hcall
    refine hcall.mono ?_
    rintro en W2 ⟨v, rfl, S', ⟨xs, hSx, S, hS', hn, hi, hl, hk⟩ | ⟨pre, hSp, S, c, hS', hn, hi, hl, hk⟩⟩
    · have hr := run_endLoop (P := P) hl (by rw [hrec]; simp)
      refine ⟨none, _, by rw [hrec] at hr; exact hr, ?_⟩
      have := hdone S xs (W2.putObj (D + 1) (.loop { rec .ready none with state := .exhausted })) hSx (hI S xs W2 _ hi hn ((Keeps.put W2 (D + 1) _).mono fun k _ h => .inr h)) hn ?_
      · unfold LW at this
        rw [hrec] at this
        exact this m _ ⟨hs.size, by show [markD D] ++ a.defers = _; rw [hs.def_]; rfl, hs.at_⟩
      rw [World.putObj_heap_other (by omega)]; exact hk
    · have hr := run_endLoop (P := P) hl (by rw [hrec]; simp)
      refine ⟨some c, _, by rw [hrec] at hr; exact hr, ?_⟩
      obtain ⟨rfl, hw⟩ := hstop c S pre (W2.putObj (D + 1) (.loop { rec .done (some c) with state := .exhausted })) hSp (hIx c S pre W2 _ hi hn ((Keeps.put W2 (D + 1) _).mono fun k _ h => .inr h)) hn (by rw [World.putObj_heap_other (by omega)]; exact hk)
      rw [hrec] at hw
      refine wpIn_exit ?_
      simp only [Exit.inBlock, if_true]
      unfold LW at hw
      refine hw m _ ⟨?_, ?_, ?_⟩
      · exact hs.size
      · show [markD D] ++ a.defers = _; rw [hs.def_]; rfl
      · exact hs.at_
  · rintro S' pre x W ⟨S, hS', hn, hi, hl, hk⟩ hok
    have hlt := (Array.getElem?_eq_some_iff.1 hl).1
    have hy := run_yield (P := P) (args := (encs x).toArray) hl (by rw [hrec]; simpa using hps x)
    rw [hrec] at hy
    refine ⟨fnn, _, assign, body, hy, fun m2 => roundIn_of_wpIn trivial ?_⟩
    have hst : StD fn.ntmps [] { tmps := (ps.toArray.zip (encs x).toArray).foldl (fun t (p, v) => t.setIfInBounds p v) a.tmps, defers := [] } (Proofs.Ytdphahphbaebkaa.binds e ps (encs x)) := by
      have := StD.binds ps (encs x) a.tmps e hpn ⟨hs.size, rfl, hs.at_⟩
      simpa using this
    refine wpIn_mono ((hassign x (D + 1) W).out m2 _ hst) ?_
    rintro x1 a1 w1 ⟨e1, hs1, rfl, rfl, rfl⟩
    refine ⟨_, run_beginRound hl (by rw [hrec]), ?_⟩
    have hk2 : Keeps w1 (w1.putObj (D + 1) (.loop { rec .ready none with state := .busy })) (· = D + 1) := Keeps.put _ _ _
    have hl2 : (w1.putObj (D + 1) (.loop { rec .ready none with state := .busy })).heap[D + 1]? = some (.loop { rec .ready none with state := .busy }) := World.putObj_heap_same hlt
    have hd2 : (w1.putObj (D + 1) (.loop { rec .ready none with state := .busy })).heap[D]? = some (.deferred (some [])) := by rw [World.putObj_heap_other (by omega)]; exact hk
    have hi2 := hI S pre w1 _ hi hn (hk2.mono fun k _ h => .inr h)
    have hGn : ∀ k, G x k → k ≠ D ∧ k ≠ D + 1 ∧ k < w1.heap.size := fun k hg => by
      obtain ⟨h1, cs, T, fz, h2⟩ := hit.okG S' pre x w1 k hok hg
      refine ⟨fun h => ?_, fun h => ?_, h1⟩
      · rw [h, hk] at h2; cases h2
      · rw [h, hl] at h2; cases h2
    have hok2 := hit.okS S S' pre x _ (fun k hk => by subst hS'; exact .inl hk) (hit.ok S' pre x w1 _ (D + 1) _ hok hl hk2)
    have hsz2 := hk2.size
    generalize w1.putObj (D + 1) (.loop { rec .ready none with state := .busy }) = W2 at *
    refine wpIn_mono ((hbody (D + 1) S pre x W2 (by omega) hi2 hn hok2 (fun k hg => ⟨(hGn k hg).1, (hGn k hg).2.1, Nat.lt_of_lt_of_le (hGn k hg).2.2 hsz2⟩)).out m2 a1 hs1) ?_
    have fin : ∀ (jump : Option Code) (W3 : World), Keeps W2 W3 (fun k => S k ∨ G x k) →
        (Instr.endRound (D + 1) jump).run P W3 = .ok (.bool jump.isNone) (W3.putObj (D + 1) (.loop (rec (if jump.isNone then .ready else .done) jump))) ∧
        (W3.putObj (D + 1) (.loop (rec (if jump.isNone then .ready else .done) jump))).heap[D + 1]? = some (.loop (rec (if jump.isNone then .ready else .done) jump)) ∧
        (W3.putObj (D + 1) (.loop (rec (if jump.isNone then .ready else .done) jump))).heap[D]? = some (.deferred (some [])) := fun jump W3 hk3 => by
      have hl3 : W3.heap[D + 1]? = some (.loop { rec .ready none with state := .busy }) := by rw [hk3.block _ (Array.getElem?_eq_some_iff.1 hl2).1 (fun h => by rcases h with h | h; exact (hn _ h).2 rfl; exact (hGn _ h).2.1 rfl)]; exact hl2
      have hd3 : W3.heap[D]? = some (.deferred (some [])) := by rw [hk3.block _ (Array.getElem?_eq_some_iff.1 hd2).1 (fun h => by rcases h with h | h; exact (hn _ h).1 rfl; exact (hGn _ h).1 rfl)]; exact hd2
      have := run_endRound (P := P) jump hl3
      rw [hrec] at this ⊢
      exact ⟨this, World.putObj_heap_same (Array.getElem?_eq_some_iff.1 hl3).1, by rw [World.putObj_heap_other (by omega)]; exact hd3⟩
    have hSn : ∀ S3 : Nat → Prop, (∀ k, S3 k → S k ∨ W2.heap.size ≤ k ∨ G x k) → ∀ k, S3 k → k ≠ D ∧ k ≠ D + 1 := fun S3 h3 k hk => by
      rcases h3 k hk with h | h | h
      · exact hn k h
      · have := (Array.getElem?_eq_some_iff.1 hl2).1; omega
      · exact ⟨(hGn k h).1, (hGn k h).2.1⟩
    have hSg : ∀ S3 : Nat → Prop, (∀ k, S3 k → S k ∨ W2.heap.size ≤ k ∨ G x k) → ∀ k, (fun k => S3 k ∨ k = D + 1) k → S' k ∨ w1.heap.size ≤ k ∨ G x k := fun S3 h3 k hk => by
      subst hS'
      rcases hk with hk | hk
      · rcases h3 k hk with h | h | h
        · exact .inl (.inl h)
        · exact .inr (.inl (by omega))
        · exact .inr (.inr h)
      · exact .inl (.inr hk)
    have hKK : ∀ (jump : Option Code) (W3 : World), Keeps W2 W3 (fun k => S k ∨ G x k) → Keeps w1 (W3.putObj (D + 1) (.loop (rec (if jump.isNone then .ready else .done) jump))) (fun k => S' k ∨ G x k) := fun jump W3 hk3 => by
      subst hS'
      exact (hk2.mono fun k _ h => .inl (.inr h)).trans' ((hk3.mono fun k _ h => h.imp .inl fun h => h).trans' ((Keeps.put W3 (D + 1) _).mono fun k _ h => .inl (.inr h)))
    rintro x3 a3 W3 ⟨e3, hs3, hq⟩
    cases x3 with
    | normal =>
      obtain ⟨hk3, S3, hS3, hi3⟩ := hq
      obtain ⟨hr, hl4, hd4⟩ := fin none W3 hk3
      exact ⟨_, _, hr, hKK none W3 hk3, _, hSg S3 hS3, .inl ⟨rfl, S3, rfl, hSn S3 hS3, hI S3 _ W3 _ hi3 (hSn S3 hS3) ((Keeps.put W3 (D + 1) _).mono fun k _ h => .inr h), hl4, hd4⟩⟩
    | ret =>
      obtain ⟨hk3, S3, hS3, hi3⟩ := hq
      obtain ⟨hr, hl4, hd4⟩ := fin (some .ret) W3 hk3
      exact ⟨_, _, hr, hKK (some .ret) W3 hk3, _, hSg S3 hS3, .inr ⟨rfl, S3, .ret, rfl, hSn S3 hS3, hIx _ S3 _ W3 _ hi3 (hSn S3 hS3) ((Keeps.put W3 (D + 1) _).mono fun k _ h => .inr h), hl4, hd4⟩⟩
    | exit id2 =>
      obtain ⟨hk3, S3, hS3, hi3⟩ := hq
      obtain ⟨hr, hl4, hd4⟩ := fin (some (.exit id2)) W3 hk3
      exact ⟨_, _, hr, hKK (some (.exit id2)) W3 hk3, _, hSg S3 hS3, .inr ⟨rfl, S3, .exit id2, rfl, hSn S3 hS3, hIx _ S3 _ W3 _ hi3 (hSn S3 hS3) ((Keeps.put W3 (D + 1) _).mono fun k _ h => .inr h), hl4, hd4⟩⟩
    | goto t => exact hq.elim
    | panic ch => exact hq.elim
    | outgrown => exact hq.elim
end
end Go.Proofs.Ytdphahphbaebkaa
