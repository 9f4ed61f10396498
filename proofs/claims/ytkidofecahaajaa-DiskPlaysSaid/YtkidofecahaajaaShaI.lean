/- The blocks of some bytes, as an iterator. -/
import Derived.Test.YtkidofecahaajaaSha2
namespace Go.Proofs.Ytkidofecahaajaa
open Go Go.RowKit
set_option linter.unusedVariables false
set_option maxRecDepth 4000
theorem go_ShaI {A B : Prop} (h : Held B → A := by
  intro hEnd
  repeat (first | refine OW_geqT rfl rfl (by omega) ?_ | refine OW_geqF rfl rfl (by omega) ?_ | (refine OW_isLoad ?_; refine OW_loadBk one_bytes rfl (by assumption) _ rfl ?_) | refine OW_moveV (.int _ _) rfl ?_ | refine OW_moveV (.slice _ _ _) rfl ?_ | refine OW_moveV (.bool _) rfl ?_ | refine OW_moveV (.pointer _) rfl ?_ | refine OW_moveV (.string _) rfl ?_ | refine OW_moveV (.agg _) rfl ?_ | refine OW_moveV (.tuple _) rfl ?_ | refine OW_nil ?_ | refine thenE_normal ?_ | refine CW_seq ?_ | refine CW_region (by kernel_rfl) ?_ | refine OW_assignV (.int _ _) rfl ?_ | refine OW_assignV (.slice _ _ _) rfl ?_ | refine OW_assignV (.bool _) rfl ?_ | refine OW_assignV (.pointer _) rfl ?_ | refine OW_assignV (.string _) rfl ?_ | refine OW_assignV (.agg _) rfl ?_ | refine OW_assignV (.tuple _) rfl ?_ | refine OW_addI rfl rfl (by omega) ?_ | refine OW_subI rfl rfl (by omega) ?_ | refine OW_mulI rfl rfl (by omega) ?_ | refine OW_lss rfl rfl ?_ | refine OW_extract rfl rfl ?_ | refine OW_gtr rfl rfl ?_ | refine OW_leq rfl rfl ?_ | refine OW_geq rfl rfl ?_ | refine OW_eql rfl rfl ?_ | refine OW_neq rfl rfl ?_ | refine OW_not rfl ?_ | refine OW_pickT rfl _ rfl ?_ | refine OW_pickF rfl (.bool _) rfl ?_ | refine OW_pickB rfl rfl rfl ?_ | refine OW_move ?_ | refine OW_assign ?_ | refine OW_pass rfl ?_ | refine OW_take rfl ?_ | refine OW_lenS (by first | with_reducible exact und_bytes | with_reducible exact und_bytess) rfl ?_ | refine OW_convInt (by first | with_reducible exact und_u8 | with_reducible exact und_u64 | with_reducible exact und_int | with_reducible exact und_u32) (by first | with_reducible exact und_u8 | with_reducible exact und_u64 | with_reducible exact und_int | with_reducible exact und_u32) rfl ?_ | refine OW_add rfl rfl ?_ | refine OW_sub rfl rfl ?_ | refine OW_mul rfl rfl ?_ | refine OW_min2 rfl rfl ?_ | refine OW_max2 rfl rfl ?_ | refine OW_neg rfl ?_ | refine CW_block ?_ | refine CW_condT rfl ?_ | refine CW_condF rfl ?_ | refine CW_exit ?_ | refine CW_ret ?_ | refine CW_skip ?_ | refine LW_seq ?_ | refine LW_regC ?_ | refine LW_condC ?_ | refine LW_regF ?_ | refine LW_condF ?_ | refine FW_seq ?_ | refine FW_region (by kernel_rfl) ?_ | refine FW_block ?_ | refine FW_condT rfl ?_ | refine FW_condF rfl ?_ | refine FW_exit ?_ | refine FW_ret ?_ | refine FW_skip ?_ | refine LW_ret ?_ | refine LW_skip ?_ | refine thenE_exit ?_ | refine thenE_ret ?_ | refine inBlockE_normal ?_ | refine inBlockE_same ?_ | refine inBlockE_ret ?_ | refine inBlockE_ne (by rfl) ?_ | refine OW_eqlB (by with_reducible exact und_bool) rfl rfl ?_ | refine OW_neqB (by with_reducible exact und_bool) rfl rfl ?_ | refine OW_idxS (by with_reducible exact und_bytes) one_u8 rfl rfl _ rfl (by omega) ?_ | refine OW_idxS (by with_reducible exact und_bytess) one_bytes rfl rfl _ rfl (by omega) ?_ | refine OW_load1 (by first | with_reducible exact one_u8 | with_reducible exact one_bytes) rfl _ (by assumption) ?_)
  exact hEnd.out) (k : B) : A := h ⟨k⟩
section
variable {P : Program} {ops : Array Oper} {Q : Exit → (Nat → Value) → World → Prop} {rest : List Oper} {e : Nat → Value} {w : World} {d : Tmp} {ty : TypeId} {pos : String} {aft : Array Edge}
theorem OWF_pre : ∀ (pre : List Oper) {e : Nat → Value} {w : World}, OW P ops (fun _ e' w' => OWF P ops Q rest e' w') pre e w → OWF P ops Q (pre ++ rest) e w
  | [], e, w, h => by unfold OW at h; exact h
  | o :: pre, e, w, h => by
    refine OWF_one ?_
    unfold OW at h ⊢
    split
    · rename_i hw
      rw [if_pos hw] at h
      exact opW_mono h fun v w' hv => by unfold OW; exact OWF_pre pre hv
    · rename_i hw
      rw [if_neg hw] at h
      unfold OW
      exact OWF_pre pre h
theorem OWF_take (k : Nat) {l : List Oper} (h : OW P ops (fun _ e' w' => OWF P ops Q (l.drop k) e' w') (l.take k) e w) : OWF P ops Q l e w := by
  have := OWF_pre (l.take k) h
  rwa [List.take_append_drop] at this
theorem OW_geqT {x y : Operand} {t t' : TypeId} {k : IntKind} {a b : Int} (hx : ev e x = .int k a) (hy : ev e y = .int k b) (hh : b ≤ a) (h : OW P ops Q rest (upd e d (.bool true)) w) : OW P ops Q (⟨some d, .binOp .geq t x y t', ty, pos, aft, none⟩ :: rest) e w :=
  OW_geq hx hy (by rw [decide_eq_true hh]; exact h)
theorem OW_geqF {x y : Operand} {t t' : TypeId} {k : IntKind} {a b : Int} (hx : ev e x = .int k a) (hy : ev e y = .int k b) (hh : a < b) (h : OW P ops Q rest (upd e d (.bool false)) w) : OW P ops Q (⟨some d, .binOp .geq t x y t', ty, pos, aft, none⟩ :: rest) e w :=
  OW_geq hx hy (by rw [decide_eq_false (by omega)]; exact h)
end
theorem cutA_block {A : Option Addr} {m l : Nat} {ad : Addr} (h : cutA A m l = some ad) : ∃ a0, A = some a0 ∧ ad.block = a0.block := by
  unfold cutA at h
  split at h
  · exact ⟨ad, h, rfl⟩
  · cases A with
    | none => cases h
    | some a => exact ⟨a, rfl, by cases h; exact addr_add_block a l⟩
section
variable {P : Program} {ops : Array Oper} {Q : Exit → (Nat → Value) → World → Prop} {rest : List Oper} {e : Nat → Value} {w : World} {d : Tmp} {ty : TypeId} {pos : String} {aft : Array Edge}
/-- A cut of bytes: it stands in the same block. -/
theorem OW_sliceBb {x : Operand} {t el : TypeId} {A : Option Addr} {n c : Nat} {l : List UInt8} {lo hi : Option Operand} {lv hv : Int} (ht : P.underlying t = some (.slice el)) (hel : OneT P el) (hbs : Bs w A l) (hn : n = l.length) (hc : n ≤ c) (hx : ev e x = .slice A n c)
    (hlo : bnd e lo 0 lv) (hhi : bnd e hi n hv) (lN hN : Nat) (hl : lv = (lN : Int)) (hh : hv = (hN : Int)) (hb : lN ≤ hN ∧ hN ≤ n)
    (h : ∀ A', Bs w A' ((l.drop lN).take (hN - lN)) → (∀ ad, A' = some ad → ∃ a0, A = some a0 ∧ ad.block = a0.block) → OW P ops Q rest (upd e d (.slice A' (hN - lN) (c - lN))) w) : OW P ops Q (⟨some d, .slice t x lo hi none, ty, pos, aft, none⟩ :: rest) e w := by
  subst hl; subst hh
  have := h (cutA A c lN) (hbs.cut c lN (hN - lN) (by omega)) (fun ad ha => cutA_block ha)
  exact OW_slice (mx := none) (mv := c) ht hel hx hlo hhi rfl (fun h => by cases h) (by omega) (by simpa using this)
end
def okB (L : List UInt8) (dA : Option Addr) (pre : List BV) (x : BV) (w : World) : Prop :=
  Bs w x.1 x.2.2 ∧ x.2.2 = chunk L pre.length ∧ pre.length < L.length / 64 ∧ 64 ≤ x.2.1 ∧ ∀ ad, x.1 = some ad → ∃ a0, dA = some a0 ∧ ad.block = a0.block
def nB (L : List UInt8) (gB : Nat) (dA : Option Addr) (k : Nat) : Prop := k = gB ∨ (L ≠ [] ∧ ∃ ad, dA = some ad ∧ ad.block = k)
def preB (L : List UInt8) (gB : Nat) (dA : Option Addr) (c : Nat) (W : World) : Prop := Blk W gB 22 #[.slice dA L.length c] ∧ Bs W dA L ∧ L.length ≤ c ∧ ∀ ad, dA = some ad → ad.block ≠ gB
def lenAt (w : World) (g : Nat) : Nat := match w.cell? ⟨g, 0, none⟩ with | some (.slice _ n _) => n | _ => 0
theorem lenAt_of {w : World} {g n c : Nat} {A : Option Addr} {T : TypeId} (h : Blk w g T #[.slice A n c]) : lenAt w g = n := by
  unfold lenAt
  rw [h.cell]
  rfl
set_option maxHeartbeats 4000000 in
theorem blocks_iter (L : List UInt8) (gB : Nat) (dA : Option Addr) (c : Nat) :
    Iter Try.prog 98 [.pointer (some ⟨gB, 0, none⟩)] (fun x : BV => [sv x]) (okB L dA) (· = gB) (nB L gB dA) (preB L gB dA c) (fun xs => xs.length = L.length / 64) (fun _ => True) where
  ok := by
    rintro pre x A B ⟨h1, h2, h3, h4, h5⟩ hk
    refine ⟨h1.keeps hk fun ad ha hn => hn ?_, h2, h3, h4, h5⟩
    obtain ⟨a0, h6, h7⟩ := h5 ad ha
    refine .inr ⟨fun h0 => ?_, a0, h6, h7.symm⟩
    rw [h0] at h3
    simp at h3
  run := by
    intro l J Jx W hP hJ hJx hy hJ0
    obtain ⟨hB0, hb0, hc0, hd⟩ := hP
    refine calls_of_LW Try.func98 rfl (by simp [Try.ntmps98]) ?_
    refine LW_codeF (FW_block ?_)
    refine FW_loop (fun e w => ∃ (xs : List BV) (A : Option Addr) (n c2 : Nat) (T : List UInt8), e 0 = .func (.yield l) #[] #[] ∧ e 1 = .pointer (some ⟨gB, 0, none⟩) ∧ Blk w gB 22 #[.slice A n c2] ∧ n = L.length - 64 * xs.length ∧ 64 * xs.length ≤ L.length ∧ n ≤ c2 ∧ T = L.drop (64 * xs.length) ∧ Bs w A T ∧ (∀ ad, A = some ad → ∃ a0, dA = some a0 ∧ ad.block = a0.block) ∧ J xs w) (fun e w => lenAt w gB) ?_ ?_
    · exact ⟨[], dA, L.length, c, L, rfl, rfl, hB0, by simp, by simp, hc0, by simp, hb0, fun ad h => ⟨ad, h, rfl⟩, hJ0⟩
    rintro e w ⟨xs, A, n, c2, T, e0, e1, hB, hn, hle, hc, hT, hb, hA, hj⟩
    rw [upd_self e0, upd_self e1]
    have hm := lenAt_of hB
    have hTl : T.length = n := by rw [hT, List.length_drop]; omega
    refine FW_seq (FW_seq ?_)
    rcases Nat.lt_or_ge n 64 with hlt | hge
    · refine FW_region (by kernel_rfl) ?_
      refine go_ShaI (k := ?_)
      exact LW_end (leave_of (bodyE_end (bodyE_ret0 rfl ⟨_, rfl, .inl ⟨xs, by omega, hj⟩⟩)))
    · refine FW_regionF (by kernel_rfl) ?_
      refine OWF_take 7 ?_
      simp only [List.take_succ_cons, List.take_zero, List.drop_succ_cons, List.drop_zero]
      refine go_ShaI (k := ?_)
      refine OW_sliceBb und_bytes one_u8 hb hTl.symm hc rfl rfl ⟨_, rfl⟩ 0 64 rfl rfl (by omega) ?_
      intro A2 hb2 hA2
      have hch : (T.drop 0).take (64 - 0) = chunk L xs.length := by rw [hT]; rfl
      have hlc : (chunk L xs.length).length = 64 := chunk_length (by omega)
      rw [hch] at hb2
      refine OW_nil ?_
      have hok : okB L dA xs (A2, c2 - 0, chunk L xs.length) w := ⟨hb2, rfl, by omega, by show 64 ≤ c2 - 0; omega, fun ad ha => by
        obtain ⟨a0, h1, h2⟩ := hA2 ad ha
        obtain ⟨a1, h3, h4⟩ := hA a0 h1
        exact ⟨a1, h3, h2.trans h4⟩⟩
      have hsv : Value.slice A2 (64 - 0) (c2 - 0) = sv (A2, c2 - 0, chunk L xs.length) := by unfold sv; rw [hlc]
      rw [hsv]
      refine OWF_yield rfl rfl rfl ((hy xs _ w hj hok).mono ?_)
      rintro en w1 (⟨rfl, hj1, hk1⟩ | ⟨rfl, hj1⟩)
      · refine ⟨_, rfl, ?_⟩
        refine OWF_take 1 ?_
        simp only [List.take_succ_cons, List.take_zero, List.drop_succ_cons, List.drop_zero]
        refine go_ShaI (k := ?_)
        refine OWF_nil ?_
        refine go_ShaI (k := ?_)
        have hBd : ∀ ad, A = some ad → ad.block ≠ gB := fun ad ha => by
          obtain ⟨a0, h1, h2⟩ := hA ad ha
          rw [h2]; exact hd a0 h1
        have hne : L ≠ [] := fun h => by rw [h] at hn; simp at hn; omega
        have hN : ∀ k, nB L gB dA k → ¬ ¬ nB L gB dA k := fun k h hn => hn h
        have hB1 := hB.keeps hk1 (hN gB (.inl rfl))
        have hb1 := hb.keeps hk1 (fun ad ha => hN _ (.inr ⟨hne, by obtain ⟨a0, h1, h2⟩ := hA ad ha; exact ⟨a0, h1, h2.symm⟩⟩))
        refine OW_isLoad ?_
        refine OW_loadBk one_bytes rfl hB1 (.slice A n c2) rfl ?_
        refine OW_sliceBb und_bytes one_u8 hb1 hTl.symm hc rfl ⟨_, rfl⟩ rfl 64 n rfl rfl (by omega) ?_
        intro A3 hb3 hA3
        refine go_ShaI (k := ?_)
        refine OW_storeB one_bytes rfl (.slice A3 (n - 64) (c2 - 64)) rfl rfl hB1 (Nat.one_pos) ?_
        intro w2 hB2 hgr
        have hk2 : Keeps w1 w2 (· = gB) := Keeps.of_only hgr rfl
        refine go_ShaI (k := ?_)
        refine ⟨⟨xs ++ [(A2, c2 - 0, chunk L xs.length)], A3, n - 64, c2 - 64, T.drop 64, rfl, rfl, hB2, by simp; omega, by simp; omega, by omega, by rw [hT, List.drop_drop]; congr 1; simp; omega, ?_, ?_, hJ _ _ _ hj1 hk2⟩, ?_⟩
        · rw [List.take_of_length_le (by simp; omega)] at hb3
          refine hb3.keeps hk2 (fun ad ha => ?_)
          obtain ⟨a0, h1, h2⟩ := hA3 ad ha
          rw [h2]; exact hBd a0 h1
        · intro ad ha
          obtain ⟨a0, h1, h2⟩ := hA3 ad ha
          obtain ⟨a1, h3, h4⟩ := hA a0 h1
          exact ⟨a1, h3, h2.trans h4⟩
        · rw [lenAt_of hB2, hm]; omega
      · refine ⟨_, rfl, ?_⟩
        refine OWF_take 1 ?_
        simp only [List.take_succ_cons, List.take_zero, List.drop_succ_cons, List.drop_zero]
        refine go_ShaI (k := ?_)
        refine OWF_nil ?_
        refine go_ShaI (k := ?_)
        exact LW_end (leave_of (bodyE_end (bodyE_ret0 rfl ⟨_, rfl, .inr ⟨_, trivial, hj1⟩⟩)))
end Go.Proofs.Ytkidofecahaajaa
